import Derived.Test.YteombjhaanohiaaComp
import Derived.Test.YteombjhaanohiaaNames
set_option linter.all false
/-! Codes, printed by program. -/
namespace Go.AR
def H_plaw05_VecLattice : Hints := [(1, { ops := [(0, { mr := [3] }), (1, { mr := [4] }), (3, { mr := [4] }), (4, { mr := [3] }), (8, { mr := [3] }), (9, { mr := [4] }), (11, { mr := [4] }), (12, { mr := [3] }), (17, { mr := [3] }), (18, { mr := [4] }), (20, { mr := [5] }), (22, { mr := [3] }), (23, { mr := [4] }), (24, { mr := [5] }), (30, { mr := [3] }), (31, { mr := [4] }), (33, { mr := [5] }), (35, { mr := [3] }), (36, { mr := [4] }), (37, { mr := [5] })], kt := [7, 8, 9, 10, 11, 12, 13, 14, 15, 16, 17, 18, 19, 20, 21, 22, 23, 24, 25, 26, 27, 28, 29, 30, 31, 32, 33, 34, 35, 36, 37, 38, 39, 40, 41, 42, 43, 44, 45, 46, 47], kb := [] }),
  (3, { ops := [(0, { mr := [3] }), (1, { mr := [3] }), (2, { mr := [4] }), (5, { mr := [3] }), (8, { mr := [3] }), (9, { mr := [3] }), (10, { mr := [4] }), (13, { mr := [3] }), (17, { mr := [3] }), (18, { mr := [3] }), (20, { mr := [3] }), (24, { mr := [3] }), (25, { mr := [4] }), (27, { mr := [3] }), (28, { mr := [4] }), (30, { mr := [4] })], kt := [49, 50, 51, 52, 53, 54, 55, 56, 57, 58, 59, 60, 61, 62, 63, 64, 65, 66, 67, 68, 69, 70, 71, 72, 73, 74, 75, 76, 77, 78, 79, 80, 81, 82, 83, 84, 85], kb := [] })]
def c_plaw05_VecLattice (F : Nat → FuncId) : AFun := { nparams := 3, ntmps := 86, results := [.tmp 6], body :=
  (.seq
    (.reg [⟨(some 3), [], [.t 0], [], [3], .box, none⟩,
       ⟨(some 4), [], [.t 1], [], [4], .box, none⟩,
       ⟨(some 5), [], [.t 2], [], [5], .box, none⟩,
       ⟨(some 6), [], [.c (.bool false)], [], [], .cp, none⟩] [] [])
    (.seq
      (.seq
        (.reg [⟨(some 7), [], [.t 3], [3], [], .load true 16, none⟩,
           ⟨(some 8), [], [.t 4], [4], [], .load true 16, none⟩,
           ⟨(some 9), [], [.c (.fn (F n_vec_Join)), .t 7, .t 8], [], [], .call 0 false, none⟩,
           ⟨(some 10), [], [.t 4], [4], [], .load true 16, none⟩,
           ⟨(some 11), [], [.t 3], [3], [], .load true 16, none⟩,
           ⟨(some 12), [], [.c (.fn (F n_vec_Join)), .t 10, .t 11], [], [], .call 0 false, none⟩,
           ⟨(some 13), [], [.t 9, .t 12], [], [], .eqa (List.replicate 16 (.i)) true, none⟩,
           ⟨(some 14), [], [.t 13], [], [], .cp, none⟩,
           ⟨(some 15), [], [.t 3], [3], [], .load true 16, some (14, false)⟩,
           ⟨(some 16), [], [.t 4], [4], [], .load true 16, some (14, false)⟩,
           ⟨(some 17), [], [.c (.fn (F n_vec_Meet)), .t 15, .t 16], [], [], .call 0 false, some (14, false)⟩,
           ⟨(some 18), [], [.t 4], [4], [], .load true 16, some (14, false)⟩,
           ⟨(some 19), [], [.t 3], [3], [], .load true 16, some (14, false)⟩,
           ⟨(some 20), [], [.c (.fn (F n_vec_Meet)), .t 18, .t 19], [], [], .call 0 false, some (14, false)⟩,
           ⟨(some 21), [], [.t 17, .t 20], [], [], .eqa (List.replicate 16 (.i)) true, some (14, false)⟩,
           ⟨(some 22), [], [.t 14, .c (.bool true), .t 21], [], [], .pick, none⟩,
           ⟨(some 23), [], [.t 22], [], [], .cp, none⟩,
           ⟨(some 24), [], [.t 3], [3], [], .load true 16, some (23, false)⟩,
           ⟨(some 25), [], [.t 4], [4], [], .load true 16, some (23, false)⟩,
           ⟨(some 26), [], [.c (.fn (F n_vec_Join)), .t 24, .t 25], [], [], .call 0 false, some (23, false)⟩,
           ⟨(some 27), [], [.t 5], [5], [], .load true 16, some (23, false)⟩,
           ⟨(some 28), [], [.c (.fn (F n_vec_Join)), .t 26, .t 27], [], [], .call 0 false, some (23, false)⟩,
           ⟨(some 29), [], [.t 3], [3], [], .load true 16, some (23, false)⟩,
           ⟨(some 30), [], [.t 4], [4], [], .load true 16, some (23, false)⟩,
           ⟨(some 31), [], [.t 5], [5], [], .load true 16, some (23, false)⟩,
           ⟨(some 32), [], [.c (.fn (F n_vec_Join)), .t 30, .t 31], [], [], .call 0 false, some (23, false)⟩,
           ⟨(some 33), [], [.c (.fn (F n_vec_Join)), .t 29, .t 32], [], [], .call 0 false, some (23, false)⟩,
           ⟨(some 34), [], [.t 28, .t 33], [], [], .eqa (List.replicate 16 (.i)) true, some (23, false)⟩,
           ⟨(some 35), [], [.t 23, .c (.bool true), .t 34], [], [], .pick, none⟩,
           ⟨(some 36), [], [.t 35], [], [], .cp, none⟩,
           ⟨(some 37), [], [.t 3], [3], [], .load true 16, some (36, false)⟩,
           ⟨(some 38), [], [.t 4], [4], [], .load true 16, some (36, false)⟩,
           ⟨(some 39), [], [.c (.fn (F n_vec_Meet)), .t 37, .t 38], [], [], .call 0 false, some (36, false)⟩,
           ⟨(some 40), [], [.t 5], [5], [], .load true 16, some (36, false)⟩,
           ⟨(some 41), [], [.c (.fn (F n_vec_Meet)), .t 39, .t 40], [], [], .call 0 false, some (36, false)⟩,
           ⟨(some 42), [], [.t 3], [3], [], .load true 16, some (36, false)⟩,
           ⟨(some 43), [], [.t 4], [4], [], .load true 16, some (36, false)⟩,
           ⟨(some 44), [], [.t 5], [5], [], .load true 16, some (36, false)⟩,
           ⟨(some 45), [], [.c (.fn (F n_vec_Meet)), .t 43, .t 44], [], [], .call 0 false, some (36, false)⟩,
           ⟨(some 46), [], [.c (.fn (F n_vec_Meet)), .t 42, .t 45], [], [], .call 0 false, some (36, false)⟩,
           ⟨(some 47), [], [.t 41, .t 46], [], [], .eqa (List.replicate 16 (.i)) true, some (36, false)⟩,
           ⟨(some 48), [], [.t 36, .c (.bool true), .t 47], [], [], .pick, none⟩] [7, 8, 9, 10, 11, 12, 13, 14, 15, 16, 17, 18, 19, 20, 21, 22, 23, 24, 25, 26, 27, 28, 29, 30, 31, 32, 33, 34, 35, 36, 37, 38, 39, 40, 41, 42, 43, 44, 45, 46, 47] [])
        (.cond (.t 48)
          (.seq
            (.reg [⟨(some 6), [], [.c (.bool false)], [], [], .cp, none⟩] [] [])
            .ret)
          .skip))
      (.seq
        (.reg [⟨(some 49), [], [.t 3], [3], [], .load true 16, none⟩,
           ⟨(some 50), [], [.t 3], [3], [], .load true 16, none⟩,
           ⟨(some 51), [], [.t 4], [4], [], .load true 16, none⟩,
           ⟨(some 52), [], [.c (.fn (F n_vec_Meet)), .t 50, .t 51], [], [], .call 0 false, none⟩,
           ⟨(some 53), [], [.c (.fn (F n_vec_Join)), .t 49, .t 52], [], [], .call 0 false, none⟩,
           ⟨(some 54), [], [.t 3], [3], [], .load true 16, none⟩,
           ⟨(some 55), [], [.t 53, .t 54], [], [], .eqa (List.replicate 16 (.i)) false, none⟩,
           ⟨(some 56), [], [.t 55], [], [], .cp, none⟩,
           ⟨(some 57), [], [.t 3], [3], [], .load true 16, some (56, true)⟩,
           ⟨(some 58), [], [.t 3], [3], [], .load true 16, some (56, true)⟩,
           ⟨(some 59), [], [.t 4], [4], [], .load true 16, some (56, true)⟩,
           ⟨(some 60), [], [.c (.fn (F n_vec_Join)), .t 58, .t 59], [], [], .call 0 false, some (56, true)⟩,
           ⟨(some 61), [], [.c (.fn (F n_vec_Meet)), .t 57, .t 60], [], [], .call 0 false, some (56, true)⟩,
           ⟨(some 62), [], [.t 3], [3], [], .load true 16, some (56, true)⟩,
           ⟨(some 63), [], [.t 61, .t 62], [], [], .eqa (List.replicate 16 (.i)) false, some (56, true)⟩,
           ⟨(some 64), [], [.t 56, .t 63, .c (.bool false)], [], [], .pick, none⟩,
           ⟨(some 65), [], [.t 64], [], [], .cp, none⟩,
           ⟨(some 66), [], [.t 3], [3], [], .load true 16, some (65, true)⟩,
           ⟨(some 67), [], [.t 3], [3], [], .load true 16, some (65, true)⟩,
           ⟨(some 68), [], [.c (.fn (F n_vec_Join)), .t 66, .t 67], [], [], .call 0 false, some (65, true)⟩,
           ⟨(some 69), [], [.t 3], [3], [], .load true 16, some (65, true)⟩,
           ⟨(some 70), [], [.t 68, .t 69], [], [], .eqa (List.replicate 16 (.i)) false, some (65, true)⟩,
           ⟨(some 71), [], [.t 65, .t 70, .c (.bool false)], [], [], .pick, none⟩,
           ⟨(some 72), [], [.t 71], [], [], .cp, none⟩,
           ⟨(some 73), [], [.t 3], [3], [], .load true 16, some (72, true)⟩,
           ⟨(some 74), [], [.t 4], [4], [], .load true 16, some (72, true)⟩,
           ⟨(some 75), [], [.c (.fn (F n_vec_Within)), .t 73, .t 74], [], [], .call 0 false, some (72, true)⟩,
           ⟨(some 76), [], [.t 3], [3], [], .load true 16, some (72, true)⟩,
           ⟨(some 77), [], [.t 4], [4], [], .load true 16, some (72, true)⟩,
           ⟨(some 78), [], [.c (.fn (F n_vec_Join)), .t 76, .t 77], [], [], .call 0 false, some (72, true)⟩,
           ⟨(some 79), [], [.t 4], [4], [], .load true 16, some (72, true)⟩,
           ⟨(some 80), [], [.t 78, .t 79], [], [], .eqa (List.replicate 16 (.i)) false, some (72, true)⟩,
           ⟨(some 81), [], [.t 75, .t 80], [], [], .binb false, some (72, true)⟩,
           ⟨(some 82), [], [.t 72, .t 81, .c (.bool false)], [], [], .pick, none⟩,
           ⟨(some 83), [], [.t 82], [], [], .cp, none⟩,
           ⟨(some 84), [], [.c (.fn (F n_plaw05_awake))], [], [], .call 0 false, some (83, true)⟩,
           ⟨(some 85), [], [.t 83, .t 84, .c (.bool false)], [], [], .pick, none⟩,
           ⟨(some 6), [85], [.t 85], [], [], .mv, none⟩] [49, 50, 51, 52, 53, 54, 55, 56, 57, 58, 59, 60, 61, 62, 63, 64, 65, 66, 67, 68, 69, 70, 71, 72, 73, 74, 75, 76, 77, 78, 79, 80, 81, 82, 83, 84, 85] [])
        .ret))) }

def H_plaw05_VecDots : Hints := [(1, { ops := [(0, { mr := [3] }), (1, { mr := [5] }), (3, { mr := [4] }), (4, { mr := [5] })], kt := [9, 10, 11, 12, 13, 14], kb := [] }),
  (2, { ops := [(0, { mr := [3] }), (1, { mr := [4] }), (3, { mr := [5] }), (11, { mr := [3] }), (12, { mr := [4] }), (14, { mr := [5] }), (23, { mr := [3] }), (24, { mr := [4] })], kt := [15, 16, 17, 18, 19, 20, 21, 22, 23, 24, 25, 26, 27, 28, 29, 30, 31, 32, 33, 34, 35, 36, 37, 38, 39, 40, 41, 42, 43, 44, 45, 46, 47, 48, 49, 50, 51, 52], kb := [] })]
def c_plaw05_VecDots (F : Nat → FuncId) : AFun := { nparams := 3, ntmps := 53, results := [.tmp 6], body :=
  (.seq
    (.reg [⟨(some 3), [], [.t 0], [], [3], .box, none⟩,
       ⟨(some 4), [], [.t 1], [], [4], .box, none⟩,
       ⟨(some 5), [], [.t 2], [], [5], .box, none⟩,
       ⟨(some 6), [], [.c (.bool false)], [], [], .cp, none⟩] [] [])
    (.seq
      (.reg [⟨(some 9), [], [.t 3], [3], [], .load true 16, none⟩,
         ⟨(some 10), [], [.t 5], [5], [], .load true 2, none⟩,
         ⟨(some 11), [], [.c (.fn (F n_vec_Has)), .t 9, .t 10], [], [], .call 0 false, none⟩,
         ⟨(some 12), [], [.t 4], [4], [], .load true 16, none⟩,
         ⟨(some 13), [], [.t 5], [5], [], .load true 2, none⟩,
         ⟨(some 14), [], [.c (.fn (F n_vec_Has)), .t 12, .t 13], [], [], .call 0 false, none⟩,
         ⟨(some 7), [11], [.t 11], [], [], .mv, none⟩,
         ⟨(some 8), [14], [.t 14], [], [], .mv, none⟩] [9, 10, 11, 12, 13, 14] [])
      (.seq
        (.reg [⟨(some 15), [], [.t 3], [3], [], .load true 16, none⟩,
           ⟨(some 16), [], [.t 4], [4], [], .load true 16, none⟩,
           ⟨(some 17), [], [.c (.fn (F n_vec_Join)), .t 15, .t 16], [], [], .call 0 false, none⟩,
           ⟨(some 18), [], [.t 5], [5], [], .load true 2, none⟩,
           ⟨(some 19), [], [.c (.fn (F n_vec_Has)), .t 17, .t 18], [], [], .call 0 false, none⟩,
           ⟨(some 20), [], [.t 7], [], [], .cp, none⟩,
           ⟨(some 21), [], [.t 20], [], [], .cp, none⟩,
           ⟨(some 22), [], [.t 8], [], [], .cp, some (21, false)⟩,
           ⟨(some 23), [], [.t 21, .c (.bool true), .t 22], [], [], .pick, none⟩,
           ⟨(some 24), [], [.t 19, .t 23], [], [], .binb false, none⟩,
           ⟨(some 25), [], [.t 24], [], [], .cp, none⟩,
           ⟨(some 26), [], [.t 3], [3], [], .load true 16, some (25, true)⟩,
           ⟨(some 27), [], [.t 4], [4], [], .load true 16, some (25, true)⟩,
           ⟨(some 28), [], [.c (.fn (F n_vec_Meet)), .t 26, .t 27], [], [], .call 0 false, some (25, true)⟩,
           ⟨(some 29), [], [.t 5], [5], [], .load true 2, some (25, true)⟩,
           ⟨(some 30), [], [.c (.fn (F n_vec_Has)), .t 28, .t 29], [], [], .call 0 false, some (25, true)⟩,
           ⟨(some 31), [], [.t 7], [], [], .cp, some (25, true)⟩,
           ⟨(some 32), [], [.t 31], [], [], .cp, some (25, true)⟩,
           ⟨(some 33), [], [.t 8], [], [], .cp, some (32, true)⟩,
           ⟨(some 34), [], [.t 32, .t 33, .c (.bool false)], [], [], .pick, some (25, true)⟩,
           ⟨(some 35), [], [.t 30, .t 34], [], [], .binb false, some (25, true)⟩,
           ⟨(some 36), [], [.t 25, .t 35, .c (.bool false)], [], [], .pick, none⟩,
           ⟨(some 37), [], [.t 36], [], [], .cp, none⟩,
           ⟨(some 38), [], [.t 3], [3], [], .load true 16, some (37, true)⟩,
           ⟨(some 39), [], [.t 4], [4], [], .load true 16, some (37, true)⟩,
           ⟨(some 40), [], [.c (.fn (F n_vec_Within)), .t 38, .t 39], [], [], .call 0 false, some (37, true)⟩,
           ⟨(some 41), [], [.t 40], [], [], .not, some (37, true)⟩,
           ⟨(some 42), [], [.t 41], [], [], .cp, some (37, true)⟩,
           ⟨(some 43), [], [.t 7], [], [], .cp, some (42, false)⟩,
           ⟨(some 44), [], [.t 43], [], [], .not, some (42, false)⟩,
           ⟨(some 45), [], [.t 42, .c (.bool true), .t 44], [], [], .pick, some (37, true)⟩,
           ⟨(some 46), [], [.t 45], [], [], .cp, some (37, true)⟩,
           ⟨(some 47), [], [.t 8], [], [], .cp, some (46, false)⟩,
           ⟨(some 48), [], [.t 46, .c (.bool true), .t 47], [], [], .pick, some (37, true)⟩,
           ⟨(some 49), [], [.t 37, .t 48, .c (.bool false)], [], [], .pick, none⟩,
           ⟨(some 50), [], [.t 49], [], [], .cp, none⟩,
           ⟨(some 51), [], [.c (.fn (F n_plaw05_awake))], [], [], .call 0 false, some (50, true)⟩,
           ⟨(some 52), [], [.t 50, .t 51, .c (.bool false)], [], [], .pick, none⟩,
           ⟨(some 6), [52], [.t 52], [], [], .mv, none⟩] [15, 16, 17, 18, 19, 20, 21, 22, 23, 24, 25, 26, 27, 28, 29, 30, 31, 32, 33, 34, 35, 36, 37, 38, 39, 40, 41, 42, 43, 44, 45, 46, 47, 48, 49, 50, 51, 52] [])
        .ret))) }

def H_plaw05_VecTells : Hints := [(1, { ops := [(0, { mr := [3] }), (2, { mr := [3] }), (6, { mr := [3] }), (7, { mr := [5] }), (9, { mr := [3] }), (10, { mr := [5] }), (15, { mr := [3] }), (16, { mr := [4] }), (18, { mr := [3] }), (19, { mr := [4] }), (24, { mr := [3] }), (25, { mr := [4] }), (27, { mr := [3] }), (28, { mr := [4] }), (33, { mr := [3] }), (34, { mr := [4] }), (36, { mr := [3] }), (37, { mr := [4] }), (42, { mr := [3] }), (44, { mr := [3] }), (49, { mr := [3] }), (53, { mr := [3] }), (55, { mr := [3] })], kt := [7, 8, 9, 10, 11, 12, 13, 14, 15, 16, 17, 18, 19, 20, 21, 22, 23, 24, 25, 26, 27, 28, 29, 30, 31, 32, 33, 34, 35, 36, 37, 38, 39, 40, 41, 42, 43, 44, 45, 46, 47, 48, 49, 50, 51, 52, 53, 54, 55, 56, 57, 58, 59, 60, 61, 62, 63, 64, 65, 66, 67, 68, 69], kb := [] })]
def c_plaw05_VecTells (F : Nat → FuncId) : AFun := { nparams := 3, ntmps := 70, results := [.tmp 6], body :=
  (.seq
    (.reg [⟨(some 3), [], [.t 0], [], [3], .box, none⟩,
       ⟨(some 4), [], [.t 1], [], [4], .box, none⟩,
       ⟨(some 5), [], [.t 2], [], [5], .box, none⟩,
       ⟨(some 6), [], [.c (.bool false)], [], [], .cp, none⟩] [] [])
    (.seq
      (.reg [⟨(some 7), [], [.t 3], [3], [], .load true 16, none⟩,
         ⟨(some 8), [], [.c (.fn (F n_vec_Right)), .t 7], [], [], .call 0 false, none⟩,
         ⟨(some 9), [], [.t 3], [3], [], .load true 16, none⟩,
         ⟨(some 10), [], [.c (.fn (F n_pref05_Right)), .t 9], [], [], .call 0 false, none⟩,
         ⟨(some 11), [], [.t 8, .t 10], [], [], .binb false, none⟩,
         ⟨(some 12), [], [.t 11], [], [], .cp, none⟩,
         ⟨(some 13), [], [.t 3], [3], [], .load true 16, some (12, true)⟩,
         ⟨(some 14), [], [.t 5], [5], [], .load true 2, some (12, true)⟩,
         ⟨(some 15), [], [.c (.fn (F n_vec_Has)), .t 13, .t 14], [], [], .call 0 false, some (12, true)⟩,
         ⟨(some 16), [], [.t 3], [3], [], .load true 16, some (12, true)⟩,
         ⟨(some 17), [], [.t 5], [5], [], .load true 2, some (12, true)⟩,
         ⟨(some 18), [], [.c (.fn (F n_pref05_Has)), .t 16, .t 17], [], [], .call 0 false, some (12, true)⟩,
         ⟨(some 19), [], [.t 15, .t 18], [], [], .binb false, some (12, true)⟩,
         ⟨(some 20), [], [.t 12, .t 19, .c (.bool false)], [], [], .pick, none⟩,
         ⟨(some 21), [], [.t 20], [], [], .cp, none⟩,
         ⟨(some 22), [], [.t 3], [3], [], .load true 16, some (21, true)⟩,
         ⟨(some 23), [], [.t 4], [4], [], .load true 16, some (21, true)⟩,
         ⟨(some 24), [], [.c (.fn (F n_vec_Join)), .t 22, .t 23], [], [], .call 0 false, some (21, true)⟩,
         ⟨(some 25), [], [.t 3], [3], [], .load true 16, some (21, true)⟩,
         ⟨(some 26), [], [.t 4], [4], [], .load true 16, some (21, true)⟩,
         ⟨(some 27), [], [.c (.fn (F n_pref05_Join)), .t 25, .t 26], [], [], .call 0 false, some (21, true)⟩,
         ⟨(some 28), [], [.t 24, .t 27], [], [], .eqa (List.replicate 16 (.i)) false, some (21, true)⟩,
         ⟨(some 29), [], [.t 21, .t 28, .c (.bool false)], [], [], .pick, none⟩,
         ⟨(some 30), [], [.t 29], [], [], .cp, none⟩,
         ⟨(some 31), [], [.t 3], [3], [], .load true 16, some (30, true)⟩,
         ⟨(some 32), [], [.t 4], [4], [], .load true 16, some (30, true)⟩,
         ⟨(some 33), [], [.c (.fn (F n_vec_Meet)), .t 31, .t 32], [], [], .call 0 false, some (30, true)⟩,
         ⟨(some 34), [], [.t 3], [3], [], .load true 16, some (30, true)⟩,
         ⟨(some 35), [], [.t 4], [4], [], .load true 16, some (30, true)⟩,
         ⟨(some 36), [], [.c (.fn (F n_pref05_Meet)), .t 34, .t 35], [], [], .call 0 false, some (30, true)⟩,
         ⟨(some 37), [], [.t 33, .t 36], [], [], .eqa (List.replicate 16 (.i)) false, some (30, true)⟩,
         ⟨(some 38), [], [.t 30, .t 37, .c (.bool false)], [], [], .pick, none⟩,
         ⟨(some 39), [], [.t 38], [], [], .cp, none⟩,
         ⟨(some 40), [], [.t 3], [3], [], .load true 16, some (39, true)⟩,
         ⟨(some 41), [], [.t 4], [4], [], .load true 16, some (39, true)⟩,
         ⟨(some 42), [], [.c (.fn (F n_vec_Within)), .t 40, .t 41], [], [], .call 0 false, some (39, true)⟩,
         ⟨(some 43), [], [.t 3], [3], [], .load true 16, some (39, true)⟩,
         ⟨(some 44), [], [.t 4], [4], [], .load true 16, some (39, true)⟩,
         ⟨(some 45), [], [.c (.fn (F n_pref05_Within)), .t 43, .t 44], [], [], .call 0 false, some (39, true)⟩,
         ⟨(some 46), [], [.t 42, .t 45], [], [], .binb false, some (39, true)⟩,
         ⟨(some 47), [], [.t 39, .t 46, .c (.bool false)], [], [], .pick, none⟩,
         ⟨(some 48), [], [.t 47], [], [], .cp, none⟩,
         ⟨(some 49), [], [.t 3], [3], [], .load true 16, some (48, true)⟩,
         ⟨(some 50), [], [.c (.fn (F n_vec_Code)), .t 49], [], [], .call 0 false, some (48, true)⟩,
         ⟨(some 51), [], [.t 3], [3], [], .load true 16, some (48, true)⟩,
         ⟨(some 52), [], [.c (.fn (F n_pref05_Code)), .t 51], [], [], .call 0 false, some (48, true)⟩,
         ⟨(some 53), [], [.t 50, .t 52], [], [], .bins .eql, some (48, true)⟩,
         ⟨(some 54), [], [.t 48, .t 53, .c (.bool false)], [], [], .pick, none⟩,
         ⟨(some 55), [], [.t 54], [], [], .cp, none⟩,
         ⟨(some 56), [], [.t 3], [3], [], .load true 16, some (55, true)⟩,
         ⟨(some 57), [], [.c (.fn (F n_pref05_Right)), .t 56], [], [], .call 0 false, some (55, true)⟩,
         ⟨(some 58), [], [.t 57], [], [], .not, some (55, true)⟩,
         ⟨(some 59), [], [.t 58], [], [], .cp, some (55, true)⟩,
         ⟨(some 60), [], [.t 3], [3], [], .load true 16, some (59, false)⟩,
         ⟨(some 61), [], [.c (.fn (F n_vec_Count)), .t 60], [], [], .call 0 false, some (59, false)⟩,
         ⟨(some 62), [], [.t 3], [3], [], .load true 16, some (59, false)⟩,
         ⟨(some 63), [], [.c (.fn (F n_pref05_Count)), .t 62], [], [], .call 0 false, some (59, false)⟩,
         ⟨(some 64), [], [.t 61, .t 63], [], [], .bini .eql, some (59, false)⟩,
         ⟨(some 65), [], [.t 59, .c (.bool true), .t 64], [], [], .pick, some (55, true)⟩,
         ⟨(some 66), [], [.t 55, .t 65, .c (.bool false)], [], [], .pick, none⟩,
         ⟨(some 67), [], [.t 66], [], [], .cp, none⟩,
         ⟨(some 68), [], [.c (.fn (F n_plaw05_awake))], [], [], .call 0 false, some (67, true)⟩,
         ⟨(some 69), [], [.t 67, .t 68, .c (.bool false)], [], [], .pick, none⟩,
         ⟨(some 6), [69], [.t 69], [], [], .mv, none⟩] [7, 8, 9, 10, 11, 12, 13, 14, 15, 16, 17, 18, 19, 20, 21, 22, 23, 24, 25, 26, 27, 28, 29, 30, 31, 32, 33, 34, 35, 36, 37, 38, 39, 40, 41, 42, 43, 44, 45, 46, 47, 48, 49, 50, 51, 52, 53, 54, 55, 56, 57, 58, 59, 60, 61, 62, 63, 64, 65, 66, 67, 68, 69] [])
      .ret)) }

def H_vec_Join : Hints := [(1, { ops := [(0, { mr := [2] }), (1, { mr := [3] }), (3, { mw := [4] })], kt := [5, 6, 7], kb := [] })]
def c_vec_Join (F : Nat → FuncId) : AFun := { nparams := 2, ntmps := 8, results := [.cell 4 true 16], body :=
  (.seq
    (.reg [⟨(some 2), [], [.t 0], [], [2], .box, none⟩,
       ⟨(some 3), [], [.t 1], [], [3], .box, none⟩,
       ⟨(some 4), [], [], [], [4], .alloc (List.replicate 16 (.val (.int .i64 0))), none⟩] [] [])
    (.seq
      (.reg [⟨(some 5), [], [.t 2], [2], [], .load true 16, none⟩,
         ⟨(some 6), [], [.t 3], [3], [], .load true 16, none⟩,
         ⟨(some 7), [], [.c (.fn (F n_vec_both)), .t 5, .t 6, .c (.fn (F n_vec_Join_1))], [], [], .call 0 false, none⟩,
         ⟨none, [7], [.t 4, .t 7], [], [4], .store true 16, none⟩] [5, 6, 7] [])
      .ret)) }

def H_vec_Meet : Hints := [(1, { ops := [(0, { mr := [2] }), (1, { mr := [3] }), (3, { mw := [4] })], kt := [5, 6, 7], kb := [] })]
def c_vec_Meet (F : Nat → FuncId) : AFun := { nparams := 2, ntmps := 8, results := [.cell 4 true 16], body :=
  (.seq
    (.reg [⟨(some 2), [], [.t 0], [], [2], .box, none⟩,
       ⟨(some 3), [], [.t 1], [], [3], .box, none⟩,
       ⟨(some 4), [], [], [], [4], .alloc (List.replicate 16 (.val (.int .i64 0))), none⟩] [] [])
    (.seq
      (.reg [⟨(some 5), [], [.t 2], [2], [], .load true 16, none⟩,
         ⟨(some 6), [], [.t 3], [3], [], .load true 16, none⟩,
         ⟨(some 7), [], [.c (.fn (F n_vec_both)), .t 5, .t 6, .c (.fn (F n_vec_Meet_1))], [], [], .call 0 false, none⟩,
         ⟨none, [7], [.t 4, .t 7], [], [4], .store true 16, none⟩] [5, 6, 7] [])
      .ret)) }

def H_vec_Within : Hints := [(1, { ops := [(0, { mr := [2] }), (1, { mr := [3] }), (3, { mr := [2] })], kt := [5, 6, 7, 8, 9], kb := [] })]
def c_vec_Within (F : Nat → FuncId) : AFun := { nparams := 2, ntmps := 10, results := [.tmp 4], body :=
  (.seq
    (.reg [⟨(some 2), [], [.t 0], [], [2], .box, none⟩,
       ⟨(some 3), [], [.t 1], [], [3], .box, none⟩,
       ⟨(some 4), [], [.c (.bool false)], [], [], .cp, none⟩] [] [])
    (.seq
      (.reg [⟨(some 5), [], [.t 2], [2], [], .load true 16, none⟩,
         ⟨(some 6), [], [.t 3], [3], [], .load true 16, none⟩,
         ⟨(some 7), [], [.c (.fn (F n_vec_Meet)), .t 5, .t 6], [], [], .call 0 false, none⟩,
         ⟨(some 8), [], [.t 2], [2], [], .load true 16, none⟩,
         ⟨(some 9), [], [.t 7, .t 8], [], [], .eqa (List.replicate 16 (.i)) false, none⟩,
         ⟨(some 4), [9], [.t 9], [], [], .mv, none⟩] [5, 6, 7, 8, 9] [])
      .ret)) }

def H_plaw05_awake : Hints := [(1, { ops := [], kt := [1, 2, 3, 4, 5, 6, 7, 8, 9, 10, 11, 12, 13, 14, 15, 16], kb := [] })]
def c_plaw05_awake (F : Nat → FuncId) : AFun := { nparams := 0, ntmps := 17, results := [.tmp 0], body :=
  (.seq
    (.reg [⟨(some 0), [], [.c (.bool false)], [], [], .cp, none⟩] [] [])
    (.seq
      (.reg [⟨(some 1), [], [.c (.int .i64 1), .c (.int .i64 0), .c (.int .i64 5)], [], [], .build [.int .i64 0, .int .i64 0, .int .i64 0, .int .i64 0, .int .i64 0, .int .i64 0, .int .i64 0, .int .i64 0, .int .i64 0, .int .i64 0, .int .i64 0, .int .i64 0, .int .i64 0, .int .i64 0, .int .i64 0, .int .i64 0] [(0, 1), (1, 1), (2, 1)], none⟩,
         ⟨(some 2), [], [.c (.int .i64 2), .c (.int .i64 3), .c (.int .i64 4)], [], [], .build [.int .i64 0, .int .i64 0, .int .i64 0, .int .i64 0, .int .i64 0, .int .i64 0, .int .i64 0, .int .i64 0, .int .i64 0, .int .i64 0, .int .i64 0, .int .i64 0, .int .i64 0, .int .i64 0, .int .i64 0, .int .i64 0] [(0, 1), (1, 1), (2, 1)], none⟩,
         ⟨(some 3), [], [.c (.fn (F n_vec_Join)), .t 1, .t 2], [], [], .call 0 false, none⟩,
         ⟨(some 4), [], [.c (.int .i64 2), .c (.int .i64 3), .c (.int .i64 5)], [], [], .build [.int .i64 0, .int .i64 0, .int .i64 0, .int .i64 0, .int .i64 0, .int .i64 0, .int .i64 0, .int .i64 0, .int .i64 0, .int .i64 0, .int .i64 0, .int .i64 0, .int .i64 0, .int .i64 0, .int .i64 0, .int .i64 0] [(0, 1), (1, 1), (2, 1)], none⟩,
         ⟨(some 5), [], [.t 3, .t 4], [], [], .eqa (List.replicate 16 (.i)) false, none⟩,
         ⟨(some 6), [], [.t 5], [], [], .cp, none⟩,
         ⟨(some 7), [], [.c (.int .i64 1)], [], [], .build [.int .i64 0, .int .i64 0, .int .i64 0, .int .i64 0, .int .i64 0, .int .i64 0, .int .i64 0, .int .i64 0, .int .i64 0, .int .i64 0, .int .i64 0, .int .i64 0, .int .i64 0, .int .i64 0, .int .i64 0, .int .i64 0] [(0, 1)], some (6, true)⟩,
         ⟨(some 8), [], [.c (.int .i64 1)], [], [], .build [.int .i64 0, .int .i64 0] [(1, 1)], some (6, true)⟩,
         ⟨(some 9), [], [.c (.fn (F n_vec_Has)), .t 7, .t 8], [], [], .call 0 false, some (6, true)⟩,
         ⟨(some 10), [], [.t 6, .t 9, .c (.bool false)], [], [], .pick, none⟩,
         ⟨(some 11), [], [.t 10], [], [], .cp, none⟩,
         ⟨(some 12), [], [.c (.int .i64 1)], [], [], .build [.int .i64 0, .int .i64 0, .int .i64 0, .int .i64 0, .int .i64 0, .int .i64 0, .int .i64 0, .int .i64 0, .int .i64 0, .int .i64 0, .int .i64 0, .int .i64 0, .int .i64 0, .int .i64 0, .int .i64 0, .int .i64 0] [(0, 1)], some (11, true)⟩,
         ⟨(some 13), [], [.c (.int .i64 2)], [], [], .build [.int .i64 0, .int .i64 0] [(1, 1)], some (11, true)⟩,
         ⟨(some 14), [], [.c (.fn (F n_vec_Has)), .t 12, .t 13], [], [], .call 0 false, some (11, true)⟩,
         ⟨(some 15), [], [.t 14], [], [], .not, some (11, true)⟩,
         ⟨(some 16), [], [.t 11, .t 15, .c (.bool false)], [], [], .pick, none⟩,
         ⟨(some 0), [16], [.t 16], [], [], .mv, none⟩] [1, 2, 3, 4, 5, 6, 7, 8, 9, 10, 11, 12, 13, 14, 15, 16] [])
      .ret)) }

def H_vec_Has : Hints := [(1, { ops := [(0, { mr := [3] }), (4, { mr := [3] }), (6, { mr := [3] }), (8, { mr := [2] })], kt := [5, 6, 7, 8, 9, 10, 11, 12, 13, 14, 15], kb := [] })]
def c_vec_Has (F : Nat → FuncId) : AFun := { nparams := 2, ntmps := 16, results := [.tmp 4], body :=
  (.seq
    (.reg [⟨(some 2), [], [.t 0], [], [2], .box, none⟩,
       ⟨(some 3), [], [.t 1], [], [3], .box, none⟩,
       ⟨(some 4), [], [.c (.bool false)], [], [], .cp, none⟩] [] [])
    (.seq
      (.reg [⟨(some 5), [], [.t 3], [3], [], .load true 2, none⟩,
         ⟨(some 6), [], [.c (.fn (F n_dot_Right)), .t 5], [], [], .call 0 false, none⟩,
         ⟨(some 7), [], [.t 6], [], [], .cp, none⟩,
         ⟨(some 8), [], [.t 3], [], [], .faddr 1, some (7, true)⟩,
         ⟨(some 9), [], [.t 8], [3], [], .load false 1, some (7, true)⟩,
         ⟨(some 10), [], [.t 3], [], [], .faddr 0, some (7, true)⟩,
         ⟨(some 11), [], [.t 10], [3], [], .load false 1, some (7, true)⟩,
         ⟨(some 12), [], [.t 2, .t 11], [], [], .iaddr (some 16) 1, some (7, true)⟩,
         ⟨(some 13), [], [.t 12], [2], [], .load false 1, some (7, true)⟩,
         ⟨(some 14), [], [.t 9, .t 13], [], [], .bini .leq, some (7, true)⟩,
         ⟨(some 15), [], [.t 7, .t 14, .c (.bool false)], [], [], .pick, none⟩,
         ⟨(some 4), [15], [.t 15], [], [], .mv, none⟩] [5, 6, 7, 8, 9, 10, 11, 12, 13, 14, 15] [])
      .ret)) }

def H_vec_Right : Hints := [(1, { ops := [(0, { mr := [1] })], kt := [], kb := [] }),
  (3, { ops := [], kt := [8], kb := [] }),
  (4, { ops := [], kt := [9, 10, 11, 12, 13], kb := [] }),
  (6, { ops := [], kt := [4, 7, 8, 9, 10, 11, 12, 13, 14, 15], kb := [] })]
def c_vec_Right (F : Nat → FuncId) : AFun := { nparams := 1, ntmps := 16, results := [.tmp 2], body :=
  (.seq
    (.reg [⟨(some 1), [], [.t 0], [], [1], .box, none⟩,
       ⟨(some 2), [], [.c (.bool false)], [], [], .cp, none⟩] [] [])
    (.seq
      (.seq
        (.reg [⟨(some 5), [], [.t 1], [1], [], .load true 16, none⟩,
           ⟨(some 6), [], [.c (.int .i64 0)], [], [], .cp, none⟩] [] [])
        (.block 0
          (.loop
            (.seq
              (.reg [⟨(some 7), [], [.t 6, .c (.int .i64 16)], [], [], .bini .lss, none⟩] [] [])
              (.seq
                (.cond (.t 7)
                  .skip
                  (.exit 0))
                (.seq
                  (.block 1
                    (.seq
                      (.reg [⟨(some 8), [], [.t 5, .t 6], [], [], .indexa 16 false 1, none⟩,
                         ⟨(some 4), [8], [.t 8], [], [], .mv, none⟩] [8] [])
                      (.seq
                        (.reg [⟨(some 9), [], [.t 4], [], [], .cp, none⟩,
                           ⟨(some 10), [], [.t 9, .c (.int .i64 0)], [], [], .bini .lss, none⟩,
                           ⟨(some 11), [], [.t 10], [], [], .cp, none⟩,
                           ⟨(some 12), [], [.t 4], [], [], .cp, some (11, false)⟩,
                           ⟨(some 13), [], [.t 12, .c (.int .i64 1048576)], [], [], .bini .gtr, some (11, false)⟩,
                           ⟨(some 14), [], [.t 11, .c (.bool true), .t 13], [], [], .pick, none⟩] [9, 10, 11, 12, 13] [])
                        (.cond (.t 14)
                          (.seq
                            (.reg [⟨(some 2), [], [.c (.bool false)], [], [], .cp, none⟩] [] [])
                            .ret)
                          .skip))))
                  (.reg [⟨(some 15), [], [.t 6, .c (.int .i64 1)], [], [], .bini .add, none⟩,
                     ⟨(some 6), [], [.t 15], [], [], .cp, none⟩] [4, 7, 8, 9, 10, 11, 12, 13, 14, 15] [])))))))
      (.seq
        (.reg [⟨(some 2), [], [.c (.bool true)], [], [], .cp, none⟩] [] [])
        .ret))) }

def H_vec_Code : Hints := [(2, { ops := [(0, { mr := [1] })], kt := [], kb := [] }),
  (4, { ops := [], kt := [9], kb := [] }),
  (5, { ops := [], kt := [10, 11, 12, 13], kb := [] }),
  (6, { ops := [], kt := [5, 8, 9, 10, 11, 12, 13, 14], kb := [] }),
  (7, { ops := [], kt := [15], kb := [] })]
def c_vec_Code (F : Nat → FuncId) : AFun := { nparams := 1, ntmps := 16, results := [.tmp 2], body :=
  (.seq
    (.reg [⟨(some 1), [], [.t 0], [], [1], .box, none⟩,
       ⟨(some 2), [], [.c (.str [])], [], [], .cp, none⟩] [] [])
    (.seq
      (.reg [⟨(some 3), [], [.c (.str [])], [], [], .cp, none⟩] [] [])
      (.seq
        (.seq
          (.reg [⟨(some 6), [], [.t 1], [1], [], .load true 16, none⟩,
             ⟨(some 7), [], [.c (.int .i64 0)], [], [], .cp, none⟩] [] [])
          (.block 0
            (.loop
              (.seq
                (.reg [⟨(some 8), [], [.t 7, .c (.int .i64 16)], [], [], .bini .lss, none⟩] [] [])
                (.seq
                  (.cond (.t 8)
                    .skip
                    (.exit 0))
                  (.seq
                    (.block 1
                      (.seq
                        (.reg [⟨(some 9), [], [.t 6, .t 7], [], [], .indexa 16 false 1, none⟩,
                           ⟨(some 5), [9], [.t 9], [], [], .mv, none⟩] [9] [])
                        (.reg [⟨(some 10), [], [.t 3], [], [], .cp, none⟩,
                           ⟨(some 11), [], [.t 5], [], [], .cp, none⟩,
                           ⟨(some 12), [], [.c (.fn (F n_pack_Int)), .t 11], [], [], .call 0 false, none⟩,
                           ⟨(some 13), [], [.t 10, .t 12], [], [], .bins .add, none⟩,
                           ⟨(some 3), [13], [.t 13], [], [], .mv, none⟩] [10, 11, 12, 13] [])))
                    (.reg [⟨(some 14), [], [.t 7, .c (.int .i64 1)], [], [], .bini .add, none⟩,
                       ⟨(some 7), [], [.t 14], [], [], .cp, none⟩] [5, 8, 9, 10, 11, 12, 13, 14] [])))))))
        (.seq
          (.reg [⟨(some 15), [], [.t 3], [], [], .cp, none⟩,
             ⟨(some 2), [15], [.t 15], [], [], .mv, none⟩] [15] [])
          .ret)))) }

def H_vec_Count : Hints := [(2, { ops := [(0, { mr := [1] })], kt := [], kb := [] }),
  (4, { ops := [], kt := [9], kb := [] }),
  (5, { ops := [], kt := [10, 11, 12, 13], kb := [] }),
  (6, { ops := [], kt := [5, 8, 9, 10, 11, 12, 13, 14], kb := [] }),
  (7, { ops := [], kt := [15], kb := [] })]
def c_vec_Count (F : Nat → FuncId) : AFun := { nparams := 1, ntmps := 16, results := [.tmp 2], body :=
  (.seq
    (.reg [⟨(some 1), [], [.t 0], [], [1], .box, none⟩,
       ⟨(some 2), [], [.c (.int .i64 0)], [], [], .cp, none⟩] [] [])
    (.seq
      (.reg [⟨(some 3), [], [.c (.int .i64 0)], [], [], .cp, none⟩] [] [])
      (.seq
        (.seq
          (.reg [⟨(some 6), [], [.t 1], [1], [], .load true 16, none⟩,
             ⟨(some 7), [], [.c (.int .i64 0)], [], [], .cp, none⟩] [] [])
          (.block 0
            (.loop
              (.seq
                (.reg [⟨(some 8), [], [.t 7, .c (.int .i64 16)], [], [], .bini .lss, none⟩] [] [])
                (.seq
                  (.cond (.t 8)
                    .skip
                    (.exit 0))
                  (.seq
                    (.block 1
                      (.seq
                        (.reg [⟨(some 9), [], [.t 6, .t 7], [], [], .indexa 16 false 1, none⟩,
                           ⟨(some 5), [9], [.t 9], [], [], .mv, none⟩] [9] [])
                        (.reg [⟨(some 10), [], [.t 3], [], [], .cp, none⟩,
                           ⟨(some 11), [], [.t 5], [], [], .cp, none⟩,
                           ⟨(some 12), [], [.c (.int .i64 0), .t 11], [], [], .maxi, none⟩,
                           ⟨(some 13), [], [.t 10, .t 12], [], [], .bini .add, none⟩,
                           ⟨(some 3), [13], [.t 13], [], [], .mv, none⟩] [10, 11, 12, 13] [])))
                    (.reg [⟨(some 14), [], [.t 7, .c (.int .i64 1)], [], [], .bini .add, none⟩,
                       ⟨(some 7), [], [.t 14], [], [], .cp, none⟩] [5, 8, 9, 10, 11, 12, 13, 14] [])))))))
        (.seq
          (.reg [⟨(some 15), [], [.t 3], [], [], .cp, none⟩,
             ⟨(some 2), [15], [.t 15], [], [], .mv, none⟩] [15] [])
          .ret)))) }

def H_vec_both : Hints := [(3, { ops := [], kt := [10], kb := [] }),
  (4, { ops := [(4, { mr := [3] }), (7, { mr := [4] }), (10, { mw := [3] })], kt := [11, 12, 13, 14, 15, 16, 17, 18, 19, 20], kb := [] }),
  (5, { ops := [], kt := [7, 9, 10, 11, 12, 13, 14, 15, 16, 17, 18, 19, 20, 21], kb := [] }),
  (6, { ops := [(0, { mr := [3] }), (1, { mw := [6] })], kt := [22], kb := [] })]
def c_vec_both (F : Nat → FuncId) : AFun := { nparams := 3, ntmps := 23, results := [.cell 6 true 16], body :=
  (.seq
    (.reg [⟨(some 3), [], [.t 0], [], [3], .box, none⟩,
       ⟨(some 4), [], [.t 1], [], [4], .box, none⟩,
       ⟨(some 6), [], [], [], [6], .alloc (List.replicate 16 (.val (.int .i64 0))), none⟩] [] [])
    (.seq
      (.seq
        (.reg [⟨(some 8), [], [.c (.int .i64 0)], [], [], .cp, none⟩] [] [])
        (.block 0
          (.loop
            (.seq
              (.reg [⟨(some 9), [], [.t 8, .c (.int .i64 16)], [], [], .bini .lss, none⟩] [] [])
              (.seq
                (.cond (.t 9)
                  .skip
                  (.exit 0))
                (.seq
                  (.block 1
                    (.seq
                      (.reg [⟨(some 10), [], [.t 8], [], [], .cp, none⟩,
                         ⟨(some 7), [10], [.t 10], [], [], .mv, none⟩] [10] [])
                      (.reg [⟨(some 11), [], [.t 7], [], [], .cp, none⟩,
                         ⟨(some 12), [], [.t 2], [], [], .cp, none⟩,
                         ⟨(some 13), [], [.t 7], [], [], .cp, none⟩,
                         ⟨(some 14), [], [.t 3, .t 13], [], [], .iaddr (some 16) 1, none⟩,
                         ⟨(some 15), [], [.t 14], [3], [], .load false 1, none⟩,
                         ⟨(some 16), [], [.t 7], [], [], .cp, none⟩,
                         ⟨(some 17), [], [.t 4, .t 16], [], [], .iaddr (some 16) 1, none⟩,
                         ⟨(some 18), [], [.t 17], [4], [], .load false 1, none⟩,
                         ⟨(some 19), [], [.t 12, .t 15, .t 18], [], [], .call 0 false, none⟩,
                         ⟨(some 20), [], [.t 3, .t 11], [], [], .iaddr (some 16) 1, none⟩,
                         ⟨none, [19], [.t 20, .t 19], [], [3], .store false 1, none⟩] [11, 12, 13, 14, 15, 16, 17, 18, 19, 20] [])))
                  (.reg [⟨(some 21), [], [.t 8, .c (.int .i64 1)], [], [], .bini .add, none⟩,
                     ⟨(some 8), [], [.t 21], [], [], .cp, none⟩] [7, 9, 10, 11, 12, 13, 14, 15, 16, 17, 18, 19, 20, 21] [])))))))
      (.seq
        (.reg [⟨(some 22), [], [.t 3], [3], [], .load true 16, none⟩,
           ⟨none, [22], [.t 6, .t 22], [], [6], .store true 16, none⟩] [22] [])
        .ret))) }

def H_vec_Join_1 : Hints := [(1, { ops := [], kt := [5, 6, 7], kb := [] })]
def c_vec_Join_1 (F : Nat → FuncId) : AFun := { nparams := 2, ntmps := 8, results := [.tmp 4], body :=
  (.seq
    (.reg [⟨(some 4), [], [.c (.int .i64 0)], [], [], .cp, none⟩] [] [])
    (.seq
      (.reg [⟨(some 5), [], [.t 0], [], [], .cp, none⟩,
         ⟨(some 6), [], [.t 1], [], [], .cp, none⟩,
         ⟨(some 7), [], [.t 5, .t 6], [], [], .maxi, none⟩,
         ⟨(some 4), [7], [.t 7], [], [], .mv, none⟩] [5, 6, 7] [])
      .ret)) }

def H_vec_Meet_1 : Hints := [(1, { ops := [], kt := [5, 6, 7], kb := [] })]
def c_vec_Meet_1 (F : Nat → FuncId) : AFun := { nparams := 2, ntmps := 8, results := [.tmp 4], body :=
  (.seq
    (.reg [⟨(some 4), [], [.c (.int .i64 0)], [], [], .cp, none⟩] [] [])
    (.seq
      (.reg [⟨(some 5), [], [.t 0], [], [], .cp, none⟩,
         ⟨(some 6), [], [.t 1], [], [], .cp, none⟩,
         ⟨(some 7), [], [.t 5, .t 6], [], [], .mini, none⟩,
         ⟨(some 4), [7], [.t 7], [], [], .mv, none⟩] [5, 6, 7] [])
      .ret)) }

def H_dot_Right : Hints := [(1, { ops := [(1, { mr := [1] }), (5, { mr := [1] }), (10, { mr := [1] }), (15, { mr := [1] })], kt := [3, 4, 5, 6, 7, 8, 9, 10, 11, 12, 13, 14, 15, 16, 17, 18, 19, 20], kb := [] })]
def c_dot_Right (F : Nat → FuncId) : AFun := { nparams := 1, ntmps := 21, results := [.tmp 2], body :=
  (.seq
    (.reg [⟨(some 1), [], [.t 0], [], [1], .box, none⟩,
       ⟨(some 2), [], [.c (.bool false)], [], [], .cp, none⟩] [] [])
    (.seq
      (.reg [⟨(some 3), [], [.t 1], [], [], .faddr 0, none⟩,
         ⟨(some 4), [], [.t 3], [1], [], .load false 1, none⟩,
         ⟨(some 5), [], [.t 4, .c (.int .i64 0)], [], [], .bini .geq, none⟩,
         ⟨(some 6), [], [.t 5], [], [], .cp, none⟩,
         ⟨(some 7), [], [.t 1], [], [], .faddr 0, some (6, true)⟩,
         ⟨(some 8), [], [.t 7], [1], [], .load false 1, some (6, true)⟩,
         ⟨(some 9), [], [.t 8, .c (.int .i64 16)], [], [], .bini .lss, some (6, true)⟩,
         ⟨(some 10), [], [.t 6, .t 9, .c (.bool false)], [], [], .pick, none⟩,
         ⟨(some 11), [], [.t 10], [], [], .cp, none⟩,
         ⟨(some 12), [], [.t 1], [], [], .faddr 1, some (11, true)⟩,
         ⟨(some 13), [], [.t 12], [1], [], .load false 1, some (11, true)⟩,
         ⟨(some 14), [], [.t 13, .c (.int .i64 1)], [], [], .bini .geq, some (11, true)⟩,
         ⟨(some 15), [], [.t 11, .t 14, .c (.bool false)], [], [], .pick, none⟩,
         ⟨(some 16), [], [.t 15], [], [], .cp, none⟩,
         ⟨(some 17), [], [.t 1], [], [], .faddr 1, some (16, true)⟩,
         ⟨(some 18), [], [.t 17], [1], [], .load false 1, some (16, true)⟩,
         ⟨(some 19), [], [.t 18, .c (.int .i64 1048576)], [], [], .bini .leq, some (16, true)⟩,
         ⟨(some 20), [], [.t 16, .t 19, .c (.bool false)], [], [], .pick, none⟩,
         ⟨(some 2), [20], [.t 20], [], [], .mv, none⟩] [3, 4, 5, 6, 7, 8, 9, 10, 11, 12, 13, 14, 15, 16, 17, 18, 19, 20] [])
      .ret)) }

end Go.AR

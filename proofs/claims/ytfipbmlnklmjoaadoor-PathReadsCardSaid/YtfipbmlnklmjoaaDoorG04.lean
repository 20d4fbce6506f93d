import Derived.Test.YtfipbmlnklmjoaaDoorG02
import Derived.Test.YtfipbmlnklmjoaaDoorG03
set_option linter.all false
/-! Codes, printed by program. -/
namespace Go.AR
def H_plaw10_PathParses : Hints := [(1, { ops := [], kt := [7, 8], kb := [] }),
  (2, { ops := [], kt := [10], kb := [] }),
  (3, { ops := [], kt := [11, 12, 13, 14, 15], kb := [] }),
  (4, { ops := [], kt := [16, 17, 18, 19, 20], kb := [] }),
  (5, { ops := [], kt := [21, 22, 23, 24, 25, 26, 27, 28, 29, 30, 31], kb := [] })]
def c_plaw10_PathParses (F : Nat → FuncId) : AFun := { nparams := 1, ntmps := 32, results := [.tmp 2], body :=
  (.seq
    (.reg [⟨(some 2), [], [.c (.bool false)], [], [], .cp, none⟩] [] [])
    (.seq
      (.seq
        (.reg [⟨(some 7), [], [.t 0], [], [], .cp, none⟩,
           ⟨(some 8), [], [.t 7], [], [], .len true, none⟩,
           ⟨(some 9), [], [.t 8, .c (.int .i64 500)], [], [], .bini .gtr, none⟩] [7, 8] [])
        (.cond (.t 9)
          (.seq
            (.reg [⟨(some 10), [], [.c (.fn (F n_plaw10_awake))], [], [], .call 0 false, none⟩,
               ⟨(some 2), [10], [.t 10], [], [], .mv, none⟩] [10] [])
            .ret)
          .skip))
      (.seq
        (.reg [⟨(some 12), [], [.t 0], [], [], .cp, none⟩,
           ⟨(some 13), [], [.c (.fn (F n_path_Parse)), .t 12], [], [], .call 0 false, none⟩,
           ⟨(some 11), [], [.t 13], [], [], .cp, none⟩,
           ⟨(some 14), [], [.t 11], [], [], .extract 0, none⟩,
           ⟨(some 15), [], [.t 11], [], [], .extract 1, none⟩,
           ⟨(some 3), [14], [.t 14], [], [], .mv, none⟩,
           ⟨(some 4), [15], [.t 15], [], [], .mv, none⟩] [11, 12, 13, 14, 15] [])
        (.seq
          (.reg [⟨(some 17), [], [.t 0], [], [], .cp, none⟩,
             ⟨(some 18), [], [.c (.fn (F n_pref10_Parse)), .t 17], [], [], .call 0 false, none⟩,
             ⟨(some 16), [], [.t 18], [], [], .cp, none⟩,
             ⟨(some 19), [], [.t 16], [], [], .extract 0, none⟩,
             ⟨(some 20), [], [.t 16], [], [], .extract 1, none⟩,
             ⟨(some 5), [19], [.t 19], [], [], .mv, none⟩,
             ⟨(some 6), [20], [.t 20], [], [], .mv, none⟩] [16, 17, 18, 19, 20] [])
          (.seq
            (.reg [⟨(some 21), [], [.t 3], [], [], .cp, none⟩,
               ⟨(some 22), [], [.t 5], [], [], .cp, none⟩,
               ⟨(some 23), [], [.c (.fn (F n_pref03_Same)), .t 21, .t 22], [], [], .call 0 false, none⟩,
               ⟨(some 24), [], [.t 23], [], [], .cp, none⟩,
               ⟨(some 25), [], [.t 4], [], [], .cp, some (24, true)⟩,
               ⟨(some 26), [], [.t 6], [], [], .cp, some (24, true)⟩,
               ⟨(some 27), [], [.t 25, .t 26], [], [], .bini .eql, some (24, true)⟩,
               ⟨(some 28), [], [.t 24, .t 27, .c (.bool false)], [], [], .pick, none⟩,
               ⟨(some 29), [], [.t 28], [], [], .cp, none⟩,
               ⟨(some 30), [], [.c (.fn (F n_plaw10_awake))], [], [], .call 0 false, some (29, true)⟩,
               ⟨(some 31), [], [.t 29, .t 30, .c (.bool false)], [], [], .pick, none⟩,
               ⟨(some 2), [31], [.t 31], [], [], .mv, none⟩] [21, 22, 23, 24, 25, 26, 27, 28, 29, 30, 31] [])
            .ret))))) }

def H_plaw10_PathRow : Hints := [(1, { ops := [], kt := [10, 11, 12, 13, 14, 15, 16, 17, 18, 19, 20, 21], kb := [] }),
  (2, { ops := [], kt := [23], kb := [] }),
  (3, { ops := [], kt := [24, 25, 26, 27, 28, 29, 30, 31, 32], kb := [] }),
  (4, { ops := [], kt := [33, 34, 35, 36, 37, 38, 39, 40, 41, 42, 43, 44, 45, 46, 47, 48, 49, 50, 51, 52, 53, 54, 55, 56, 57, 58], kb := [] }),
  (6, { ops := [], kt := [60, 61, 62, 63, 64, 65, 66, 67, 68, 69, 70, 71, 72, 73, 74, 75, 76, 77, 78, 79, 80, 81, 82, 83, 84, 85, 86, 87, 88, 89, 90], kb := [] })]
def c_plaw10_PathRow (F : Nat → FuncId) : AFun := { nparams := 3, ntmps := 91, results := [.tmp 6], body :=
  (.seq
    (.reg [⟨(some 6), [], [.c (.bool false)], [], [], .cp, none⟩] [] [])
    (.seq
      (.seq
        (.reg [⟨(some 10), [], [.t 0], [], [], .cp, none⟩,
           ⟨(some 11), [], [.c (.fn (F n_pref10_Short)), .t 10], [], [], .call 0 false, none⟩,
           ⟨(some 12), [], [.t 11], [], [], .not, none⟩,
           ⟨(some 13), [], [.t 12], [], [], .cp, none⟩,
           ⟨(some 14), [], [.t 1], [], [], .cp, some (13, false)⟩,
           ⟨(some 15), [], [.c (.fn (F n_pref10_Short)), .t 14], [], [], .call 0 false, some (13, false)⟩,
           ⟨(some 16), [], [.t 15], [], [], .not, some (13, false)⟩,
           ⟨(some 17), [], [.t 13, .c (.bool true), .t 16], [], [], .pick, none⟩,
           ⟨(some 18), [], [.t 17], [], [], .cp, none⟩,
           ⟨(some 19), [], [.t 2], [], [], .cp, some (18, false)⟩,
           ⟨(some 20), [], [.c (.fn (F n_pref10_Short)), .t 19], [], [], .call 0 false, some (18, false)⟩,
           ⟨(some 21), [], [.t 20], [], [], .not, some (18, false)⟩,
           ⟨(some 22), [], [.t 18, .c (.bool true), .t 21], [], [], .pick, none⟩] [10, 11, 12, 13, 14, 15, 16, 17, 18, 19, 20, 21] [])
        (.cond (.t 22)
          (.seq
            (.reg [⟨(some 23), [], [.c (.fn (F n_plaw10_awake))], [], [], .call 0 false, none⟩,
               ⟨(some 6), [23], [.t 23], [], [], .mv, none⟩] [23] [])
            .ret)
          .skip))
      (.seq
        (.reg [⟨(some 24), [], [.t 0], [], [], .cp, none⟩,
           ⟨(some 25), [], [.t 1], [], [], .cp, none⟩,
           ⟨(some 26), [], [.c (.fn (F n_path_Compare)), .t 24, .t 25], [], [], .call 0 false, none⟩,
           ⟨(some 27), [], [.t 1], [], [], .cp, none⟩,
           ⟨(some 28), [], [.t 2], [], [], .cp, none⟩,
           ⟨(some 29), [], [.c (.fn (F n_path_Compare)), .t 27, .t 28], [], [], .call 0 false, none⟩,
           ⟨(some 30), [], [.t 0], [], [], .cp, none⟩,
           ⟨(some 31), [], [.t 2], [], [], .cp, none⟩,
           ⟨(some 32), [], [.c (.fn (F n_path_Compare)), .t 30, .t 31], [], [], .call 0 false, none⟩,
           ⟨(some 7), [26], [.t 26], [], [], .mv, none⟩,
           ⟨(some 8), [29], [.t 29], [], [], .mv, none⟩,
           ⟨(some 9), [32], [.t 32], [], [], .mv, none⟩] [24, 25, 26, 27, 28, 29, 30, 31, 32] [])
        (.seq
          (.seq
            (.reg [⟨(some 33), [], [.t 1], [], [], .cp, none⟩,
               ⟨(some 34), [], [.t 0], [], [], .cp, none⟩,
               ⟨(some 35), [], [.c (.fn (F n_path_Compare)), .t 33, .t 34], [], [], .call 0 false, none⟩,
               ⟨(some 36), [], [.t 7], [], [], .cp, none⟩,
               ⟨(some 37), [], [.t 36], [], [], .unint .neg, none⟩,
               ⟨(some 38), [], [.t 35, .t 37], [], [], .bini .neq, none⟩,
               ⟨(some 39), [], [.t 38], [], [], .cp, none⟩,
               ⟨(some 40), [], [.t 7], [], [], .cp, some (39, false)⟩,
               ⟨(some 41), [], [.t 40, .c (.int .i64 0)], [], [], .bini .leq, some (39, false)⟩,
               ⟨(some 42), [], [.t 41], [], [], .cp, some (39, false)⟩,
               ⟨(some 43), [], [.t 8], [], [], .cp, some (42, true)⟩,
               ⟨(some 44), [], [.t 43, .c (.int .i64 0)], [], [], .bini .leq, some (42, true)⟩,
               ⟨(some 45), [], [.t 42, .t 44, .c (.bool false)], [], [], .pick, some (39, false)⟩,
               ⟨(some 46), [], [.t 45], [], [], .cp, some (39, false)⟩,
               ⟨(some 47), [], [.t 9], [], [], .cp, some (46, true)⟩,
               ⟨(some 48), [], [.t 47, .c (.int .i64 0)], [], [], .bini .gtr, some (46, true)⟩,
               ⟨(some 49), [], [.t 46, .t 48, .c (.bool false)], [], [], .pick, some (39, false)⟩,
               ⟨(some 50), [], [.t 39, .c (.bool true), .t 49], [], [], .pick, none⟩,
               ⟨(some 51), [], [.t 50], [], [], .cp, none⟩,
               ⟨(some 52), [], [.t 0], [], [], .cp, some (51, false)⟩,
               ⟨(some 53), [], [.t 1], [], [], .cp, some (51, false)⟩,
               ⟨(some 54), [], [.c (.fn (F n_path_Under)), .t 52, .t 53], [], [], .call 0 false, some (51, false)⟩,
               ⟨(some 55), [], [.t 54], [], [], .cp, some (51, false)⟩,
               ⟨(some 56), [], [.t 7], [], [], .cp, some (55, true)⟩,
               ⟨(some 57), [], [.t 56, .c (.int .i64 0)], [], [], .bini .lss, some (55, true)⟩,
               ⟨(some 58), [], [.t 55, .t 57, .c (.bool false)], [], [], .pick, some (51, false)⟩,
               ⟨(some 59), [], [.t 51, .c (.bool true), .t 58], [], [], .pick, none⟩] [33, 34, 35, 36, 37, 38, 39, 40, 41, 42, 43, 44, 45, 46, 47, 48, 49, 50, 51, 52, 53, 54, 55, 56, 57, 58] [])
            (.cond (.t 59)
              (.seq
                (.reg [⟨(some 6), [], [.c (.bool false)], [], [], .cp, none⟩] [] [])
                .ret)
              .skip))
          (.seq
            (.reg [⟨(some 60), [], [.t 2], [], [], .cp, none⟩,
               ⟨(some 61), [], [.t 0], [], [], .cp, none⟩,
               ⟨(some 62), [], [.c (.fn (F n_path_Under)), .t 60, .t 61], [], [], .call 0 false, none⟩,
               ⟨(some 63), [], [.t 62], [], [], .not, none⟩,
               ⟨(some 64), [], [.t 63], [], [], .cp, none⟩,
               ⟨(some 65), [], [.t 2], [], [], .cp, some (64, false)⟩,
               ⟨(some 66), [], [.t 1], [], [], .cp, some (64, false)⟩,
               ⟨(some 67), [], [.c (.fn (F n_path_Under)), .t 65, .t 66], [], [], .call 0 false, some (64, false)⟩,
               ⟨(some 68), [], [.t 67], [], [], .not, some (64, false)⟩,
               ⟨(some 69), [], [.t 64, .c (.bool true), .t 68], [], [], .pick, none⟩,
               ⟨(some 70), [], [.t 69], [], [], .cp, none⟩,
               ⟨(some 71), [], [.t 0], [], [], .cp, some (70, false)⟩,
               ⟨(some 72), [], [.t 1], [], [], .cp, some (70, false)⟩,
               ⟨(some 73), [], [.c (.fn (F n_path_Under)), .t 71, .t 72], [], [], .call 0 false, some (70, false)⟩,
               ⟨(some 74), [], [.t 70, .c (.bool true), .t 73], [], [], .pick, none⟩,
               ⟨(some 75), [], [.t 74], [], [], .cp, none⟩,
               ⟨(some 76), [], [.t 1], [], [], .cp, some (75, false)⟩,
               ⟨(some 77), [], [.t 0], [], [], .cp, some (75, false)⟩,
               ⟨(some 78), [], [.c (.fn (F n_path_Under)), .t 76, .t 77], [], [], .call 0 false, some (75, false)⟩,
               ⟨(some 79), [], [.t 75, .c (.bool true), .t 78], [], [], .pick, none⟩,
               ⟨(some 80), [], [.t 79], [], [], .cp, none⟩,
               ⟨(some 81), [], [.t 7], [], [], .cp, some (80, true)⟩,
               ⟨(some 82), [], [.t 81, .c (.int .i64 0)], [], [], .bini .eql, some (80, true)⟩,
               ⟨(some 83), [], [.t 0], [], [], .cp, some (80, true)⟩,
               ⟨(some 84), [], [.t 1], [], [], .cp, some (80, true)⟩,
               ⟨(some 85), [], [.c (.fn (F n_path_Same)), .t 83, .t 84], [], [], .call 0 false, some (80, true)⟩,
               ⟨(some 86), [], [.t 82, .t 85], [], [], .binb false, some (80, true)⟩,
               ⟨(some 87), [], [.t 80, .t 86, .c (.bool false)], [], [], .pick, none⟩,
               ⟨(some 88), [], [.t 87], [], [], .cp, none⟩,
               ⟨(some 89), [], [.c (.fn (F n_plaw10_awake))], [], [], .call 0 false, some (88, true)⟩,
               ⟨(some 90), [], [.t 88, .t 89, .c (.bool false)], [], [], .pick, none⟩,
               ⟨(some 6), [90], [.t 90], [], [], .mv, none⟩] [60, 61, 62, 63, 64, 65, 66, 67, 68, 69, 70, 71, 72, 73, 74, 75, 76, 77, 78, 79, 80, 81, 82, 83, 84, 85, 86, 87, 88, 89, 90] [])
            .ret))))) }

def H_plaw10_PathTells : Hints := [(1, { ops := [], kt := [5, 6, 7, 8, 9, 10, 11], kb := [] }),
  (2, { ops := [], kt := [13], kb := [] }),
  (3, { ops := [], kt := [14, 15, 16, 17, 18, 19, 20, 21, 22, 23, 24, 25, 26, 27, 28, 29, 30, 31, 32, 33, 34, 35, 36, 37, 38, 39, 40, 41, 42, 43, 44, 45, 46, 47, 48, 49, 50, 51, 52, 53, 54, 55, 56, 57, 58, 59, 60, 61, 62], kb := [] })]
def c_plaw10_PathTells (F : Nat → FuncId) : AFun := { nparams := 2, ntmps := 63, results := [.tmp 4], body :=
  (.seq
    (.reg [⟨(some 4), [], [.c (.bool false)], [], [], .cp, none⟩] [] [])
    (.seq
      (.seq
        (.reg [⟨(some 5), [], [.t 0], [], [], .cp, none⟩,
           ⟨(some 6), [], [.c (.fn (F n_pref10_Short)), .t 5], [], [], .call 0 false, none⟩,
           ⟨(some 7), [], [.t 6], [], [], .not, none⟩,
           ⟨(some 8), [], [.t 7], [], [], .cp, none⟩,
           ⟨(some 9), [], [.t 1], [], [], .cp, some (8, false)⟩,
           ⟨(some 10), [], [.c (.fn (F n_pref10_Short)), .t 9], [], [], .call 0 false, some (8, false)⟩,
           ⟨(some 11), [], [.t 10], [], [], .not, some (8, false)⟩,
           ⟨(some 12), [], [.t 8, .c (.bool true), .t 11], [], [], .pick, none⟩] [5, 6, 7, 8, 9, 10, 11] [])
        (.cond (.t 12)
          (.seq
            (.reg [⟨(some 13), [], [.c (.fn (F n_plaw10_awake))], [], [], .call 0 false, none⟩,
               ⟨(some 4), [13], [.t 13], [], [], .mv, none⟩] [13] [])
            .ret)
          .skip))
      (.seq
        (.reg [⟨(some 14), [], [.t 0], [], [], .cp, none⟩,
           ⟨(some 15), [], [.c (.fn (F n_path_Check)), .t 14], [], [], .call 0 false, none⟩,
           ⟨(some 16), [], [.t 0], [], [], .cp, none⟩,
           ⟨(some 17), [], [.c (.fn (F n_pref10_Check)), .t 16], [], [], .call 0 false, none⟩,
           ⟨(some 18), [], [.t 15, .t 17], [], [], .bini .eql, none⟩,
           ⟨(some 19), [], [.t 18], [], [], .cp, none⟩,
           ⟨(some 20), [], [.t 0], [], [], .cp, some (19, true)⟩,
           ⟨(some 21), [], [.t 1], [], [], .cp, some (19, true)⟩,
           ⟨(some 22), [], [.c (.fn (F n_path_Compare)), .t 20, .t 21], [], [], .call 0 false, some (19, true)⟩,
           ⟨(some 23), [], [.t 0], [], [], .cp, some (19, true)⟩,
           ⟨(some 24), [], [.t 1], [], [], .cp, some (19, true)⟩,
           ⟨(some 25), [], [.c (.fn (F n_pref10_Compare)), .t 23, .t 24], [], [], .call 0 false, some (19, true)⟩,
           ⟨(some 26), [], [.t 22, .t 25], [], [], .bini .eql, some (19, true)⟩,
           ⟨(some 27), [], [.t 19, .t 26, .c (.bool false)], [], [], .pick, none⟩,
           ⟨(some 28), [], [.t 27], [], [], .cp, none⟩,
           ⟨(some 29), [], [.t 0], [], [], .cp, some (28, true)⟩,
           ⟨(some 30), [], [.t 1], [], [], .cp, some (28, true)⟩,
           ⟨(some 31), [], [.c (.fn (F n_path_Same)), .t 29, .t 30], [], [], .call 0 false, some (28, true)⟩,
           ⟨(some 32), [], [.t 0], [], [], .cp, some (28, true)⟩,
           ⟨(some 33), [], [.t 1], [], [], .cp, some (28, true)⟩,
           ⟨(some 34), [], [.c (.fn (F n_pref03_Same)), .t 32, .t 33], [], [], .call 0 false, some (28, true)⟩,
           ⟨(some 35), [], [.t 31, .t 34], [], [], .binb false, some (28, true)⟩,
           ⟨(some 36), [], [.t 28, .t 35, .c (.bool false)], [], [], .pick, none⟩,
           ⟨(some 37), [], [.t 36], [], [], .cp, none⟩,
           ⟨(some 38), [], [.t 0], [], [], .cp, some (37, true)⟩,
           ⟨(some 39), [], [.t 1], [], [], .cp, some (37, true)⟩,
           ⟨(some 40), [], [.c (.fn (F n_path_Under)), .t 38, .t 39], [], [], .call 0 false, some (37, true)⟩,
           ⟨(some 41), [], [.t 0], [], [], .cp, some (37, true)⟩,
           ⟨(some 42), [], [.t 1], [], [], .cp, some (37, true)⟩,
           ⟨(some 43), [], [.c (.fn (F n_pref10_Under)), .t 41, .t 42], [], [], .call 0 false, some (37, true)⟩,
           ⟨(some 44), [], [.t 40, .t 43], [], [], .binb false, some (37, true)⟩,
           ⟨(some 45), [], [.t 37, .t 44, .c (.bool false)], [], [], .pick, none⟩,
           ⟨(some 46), [], [.t 45], [], [], .cp, none⟩,
           ⟨(some 47), [], [.t 0], [], [], .cp, some (46, true)⟩,
           ⟨(some 48), [], [.c (.fn (F n_path_Text)), .t 47], [], [], .call 0 false, some (46, true)⟩,
           ⟨(some 49), [], [.t 0], [], [], .cp, some (46, true)⟩,
           ⟨(some 50), [], [.c (.fn (F n_pref10_Text)), .t 49], [], [], .call 0 false, some (46, true)⟩,
           ⟨(some 51), [], [.t 48, .t 50], [], [], .bins .eql, some (46, true)⟩,
           ⟨(some 52), [], [.t 46, .t 51, .c (.bool false)], [], [], .pick, none⟩,
           ⟨(some 53), [], [.t 52], [], [], .cp, none⟩,
           ⟨(some 54), [], [.t 0], [], [], .cp, some (53, true)⟩,
           ⟨(some 55), [], [.c (.fn (F n_path_Code)), .t 54], [], [], .call 0 false, some (53, true)⟩,
           ⟨(some 56), [], [.t 0], [], [], .cp, some (53, true)⟩,
           ⟨(some 57), [], [.c (.fn (F n_pref10_Code)), .t 56], [], [], .call 0 false, some (53, true)⟩,
           ⟨(some 58), [], [.t 55, .t 57], [], [], .bins .eql, some (53, true)⟩,
           ⟨(some 59), [], [.t 53, .t 58, .c (.bool false)], [], [], .pick, none⟩,
           ⟨(some 60), [], [.t 59], [], [], .cp, none⟩,
           ⟨(some 61), [], [.c (.fn (F n_plaw10_awake))], [], [], .call 0 false, some (60, true)⟩,
           ⟨(some 62), [], [.t 60, .t 61, .c (.bool false)], [], [], .pick, none⟩,
           ⟨(some 4), [62], [.t 62], [], [], .mv, none⟩] [14, 15, 16, 17, 18, 19, 20, 21, 22, 23, 24, 25, 26, 27, 28, 29, 30, 31, 32, 33, 34, 35, 36, 37, 38, 39, 40, 41, 42, 43, 44, 45, 46, 47, 48, 49, 50, 51, 52, 53, 54, 55, 56, 57, 58, 59, 60, 61, 62] [])
        .ret))) }

def H_plaw10_PathReads : Hints := [(1, { ops := [], kt := [5, 6], kb := [] }),
  (2, { ops := [], kt := [8, 9], kb := [] }),
  (3, { ops := [(1, { mw := [11], new := true })], kt := [10, 11], kb := [] }),
  (4, { ops := [], kt := [12, 13, 14], kb := [] }),
  (5, { ops := [(1, { mw := [11], nref := 1 }), (3, { mw := [14], nref := 1 }), (7, { mw := [11], nref := 1 }), (11, { mr := [14] }), (16, { mw := [11], nref := 1 }), (18, { mw := [14], nref := 1 })], kt := [15, 16, 17, 18, 19, 20, 21, 22, 23, 24, 25, 26, 27, 28, 29, 30, 31, 32, 33, 34, 35, 36, 37, 38], kb := [] })]
def c_plaw10_PathReads (F : Nat → FuncId) : AFun := { nparams := 1, ntmps := 39, results := [.tmp 2], body :=
  (.seq
    (.reg [⟨(some 2), [], [.c (.bool false)], [], [], .cp, none⟩] [] [])
    (.seq
      (.seq
        (.reg [⟨(some 5), [], [.t 0], [], [], .cp, none⟩,
           ⟨(some 6), [], [.t 5], [], [], .len true, none⟩,
           ⟨(some 7), [], [.t 6, .c (.int .i64 500)], [], [], .bini .gtr, none⟩] [5, 6] [])
        (.cond (.t 7)
          (.reg [⟨(some 8), [], [.t 0], [], [], .cp, none⟩,
             ⟨(some 9), [], [.t 8, .c (.int .i64 500)], [], [], .slices false true, none⟩,
             ⟨(some 0), [9], [.t 9], [], [], .mv, none⟩] [8, 9] [])
          .skip))
      (.seq
        (.reg [⟨(some 10), [], [.t 0], [], [], .cp, none⟩,
           ⟨(some 11), [], [.c (.fn (F n_pack_Open)), .t 10], [], [11], .call 0 true, none⟩,
           ⟨(some 3), [11], [.t 11], [], [], .mv, none⟩] [10, 11] [])
        (.seq
          (.reg [⟨(some 12), [], [.t 0], [], [], .cp, none⟩,
             ⟨(some 13), [], [.t 12], [], [], .build [.str [], .int .i64 0, .int .i64 0] [(0, 1)], none⟩,
             ⟨(some 14), [], [.t 13], [], [14], .box, none⟩,
             ⟨(some 4), [14], [.t 14], [], [], .mv, none⟩] [12, 13, 14] [])
          (.seq
            (.reg [⟨(some 15), [], [.t 3], [], [], .cp, none⟩,
               ⟨(some 16), [], [.c (.fn (F n_path_Read)), .t 15], [], [11], .call 1 false, none⟩,
               ⟨(some 17), [], [.t 4], [], [], .cp, none⟩,
               ⟨(some 18), [], [.c (.fn (F n_pref10_Read)), .t 17], [], [14], .call 1 false, none⟩,
               ⟨(some 19), [], [.c (.fn (F n_pref03_Same)), .t 16, .t 18], [], [], .call 0 false, none⟩,
               ⟨(some 20), [], [.t 19], [], [], .cp, none⟩,
               ⟨(some 21), [], [.t 3], [], [], .cp, some (20, true)⟩,
               ⟨(some 22), [], [.c (.fn (F n_pack_Reader_Fault)), .t 21], [], [11], .call 1 false, some (20, true)⟩,
               ⟨(some 23), [], [.t 4], [], [], .cp, some (20, true)⟩,
               ⟨(some 24), [], [.t 23], [], [], .nilck, some (20, true)⟩,
               ⟨(some 25), [], [.t 24], [], [], .faddr 2, some (20, true)⟩,
               ⟨(some 26), [], [.t 25], [14], [], .load false 1, some (20, true)⟩,
               ⟨(some 27), [], [.t 22, .t 26], [], [], .bini .eql, some (20, true)⟩,
               ⟨(some 28), [], [.t 20, .t 27, .c (.bool false)], [], [], .pick, none⟩,
               ⟨(some 29), [], [.t 28], [], [], .cp, none⟩,
               ⟨(some 30), [], [.t 3], [], [], .cp, some (29, true)⟩,
               ⟨(some 31), [], [.c (.fn (F n_pack_Reader_Left)), .t 30], [], [11], .call 1 false, some (29, true)⟩,
               ⟨(some 32), [], [.t 4], [], [], .cp, some (29, true)⟩,
               ⟨(some 33), [], [.c (.fn (F n_pref02_Reader_Left)), .t 32], [], [14], .call 1 false, some (29, true)⟩,
               ⟨(some 34), [], [.t 31, .t 33], [], [], .bini .eql, some (29, true)⟩,
               ⟨(some 35), [], [.t 29, .t 34, .c (.bool false)], [], [], .pick, none⟩,
               ⟨(some 36), [], [.t 35], [], [], .cp, none⟩,
               ⟨(some 37), [], [.c (.fn (F n_plaw10_awake))], [], [], .call 0 false, some (36, true)⟩,
               ⟨(some 38), [], [.t 36, .t 37, .c (.bool false)], [], [], .pick, none⟩,
               ⟨(some 2), [38], [.t 38], [], [], .mv, none⟩] [15, 16, 17, 18, 19, 20, 21, 22, 23, 24, 25, 26, 27, 28, 29, 30, 31, 32, 33, 34, 35, 36, 37, 38] [])
            .ret))))) }

def H_plaw10_PathBack : Hints := [(1, { ops := [], kt := [6, 7], kb := [] }),
  (2, { ops := [], kt := [9], kb := [] }),
  (3, { ops := [], kt := [10, 11, 12, 13, 14, 15], kb := [] }),
  (4, { ops := [(2, { mw := [18], new := true })], kt := [16, 17, 18], kb := [] }),
  (5, { ops := [(9, { mw := [18], nref := 1 }), (15, { mw := [18], nref := 1 })], kt := [19, 20, 21, 22, 23, 24, 25, 26, 27, 28, 29, 30, 31, 32, 33, 34, 35, 36, 37, 38, 39], kb := [] })]
def c_plaw10_PathBack (F : Nat → FuncId) : AFun := { nparams := 1, ntmps := 40, results := [.tmp 2], body :=
  (.seq
    (.reg [⟨(some 2), [], [.c (.bool false)], [], [], .cp, none⟩] [] [])
    (.seq
      (.seq
        (.reg [⟨(some 6), [], [.t 0], [], [], .cp, none⟩,
           ⟨(some 7), [], [.c (.fn (F n_pref10_Check)), .t 6], [], [], .call 0 false, none⟩,
           ⟨(some 8), [], [.t 7, .c (.int .i64 0)], [], [], .bini .neq, none⟩] [6, 7] [])
        (.cond (.t 8)
          (.seq
            (.reg [⟨(some 9), [], [.c (.fn (F n_plaw10_awake))], [], [], .call 0 false, none⟩,
               ⟨(some 2), [9], [.t 9], [], [], .mv, none⟩] [9] [])
            .ret)
          .skip))
      (.seq
        (.reg [⟨(some 11), [], [.t 0], [], [], .cp, none⟩,
           ⟨(some 12), [], [.c (.fn (F n_path_Text)), .t 11], [], [], .call 0 false, none⟩,
           ⟨(some 13), [], [.c (.fn (F n_path_Parse)), .t 12], [], [], .call 0 false, none⟩,
           ⟨(some 10), [], [.t 13], [], [], .cp, none⟩,
           ⟨(some 14), [], [.t 10], [], [], .extract 0, none⟩,
           ⟨(some 15), [], [.t 10], [], [], .extract 1, none⟩,
           ⟨(some 3), [14], [.t 14], [], [], .mv, none⟩,
           ⟨(some 4), [15], [.t 15], [], [], .mv, none⟩] [10, 11, 12, 13, 14, 15] [])
        (.seq
          (.reg [⟨(some 16), [], [.t 0], [], [], .cp, none⟩,
             ⟨(some 17), [], [.c (.fn (F n_path_Code)), .t 16], [], [], .call 0 false, none⟩,
             ⟨(some 18), [], [.c (.fn (F n_pack_Open)), .t 17], [], [18], .call 0 true, none⟩,
             ⟨(some 5), [18], [.t 18], [], [], .mv, none⟩] [16, 17, 18] [])
          (.seq
            (.reg [⟨(some 19), [], [.t 4], [], [], .cp, none⟩,
               ⟨(some 20), [], [.t 19, .c (.int .i64 0)], [], [], .bini .eql, none⟩,
               ⟨(some 21), [], [.t 20], [], [], .cp, none⟩,
               ⟨(some 22), [], [.t 0], [], [], .cp, some (21, true)⟩,
               ⟨(some 23), [], [.t 3], [], [], .cp, some (21, true)⟩,
               ⟨(some 24), [], [.c (.fn (F n_pref03_Same)), .t 22, .t 23], [], [], .call 0 false, some (21, true)⟩,
               ⟨(some 25), [], [.t 21, .t 24, .c (.bool false)], [], [], .pick, none⟩,
               ⟨(some 26), [], [.t 25], [], [], .cp, none⟩,
               ⟨(some 27), [], [.t 5], [], [], .cp, some (26, true)⟩,
               ⟨(some 28), [], [.c (.fn (F n_path_Read)), .t 27], [], [18], .call 1 false, some (26, true)⟩,
               ⟨(some 29), [], [.t 0], [], [], .cp, some (26, true)⟩,
               ⟨(some 30), [], [.c (.fn (F n_pref03_Same)), .t 28, .t 29], [], [], .call 0 false, some (26, true)⟩,
               ⟨(some 31), [], [.t 26, .t 30, .c (.bool false)], [], [], .pick, none⟩,
               ⟨(some 32), [], [.t 31], [], [], .cp, none⟩,
               ⟨(some 33), [], [.t 5], [], [], .cp, some (32, true)⟩,
               ⟨(some 34), [], [.c (.fn (F n_pack_Reader_End)), .t 33], [], [18], .call 1 false, some (32, true)⟩,
               ⟨(some 35), [], [.t 34, .c (.int .i64 0)], [], [], .bini .eql, some (32, true)⟩,
               ⟨(some 36), [], [.t 32, .t 35, .c (.bool false)], [], [], .pick, none⟩,
               ⟨(some 37), [], [.t 36], [], [], .cp, none⟩,
               ⟨(some 38), [], [.c (.fn (F n_plaw10_awake))], [], [], .call 0 false, some (37, true)⟩,
               ⟨(some 39), [], [.t 37, .t 38, .c (.bool false)], [], [], .pick, none⟩,
               ⟨(some 2), [39], [.t 39], [], [], .mv, none⟩] [19, 20, 21, 22, 23, 24, 25, 26, 27, 28, 29, 30, 31, 32, 33, 34, 35, 36, 37, 38, 39] [])
            .ret))))) }

def H_plaw10_awake : Hints := [(1, { ops := [], kt := [3, 4, 5, 6], kb := [] }),
  (2, { ops := [], kt := [7, 8, 9, 10, 11, 12, 13, 14, 15, 16, 17, 18, 19, 20, 21, 22, 23, 24, 25, 26, 27, 28, 29], kb := [] })]
def c_plaw10_awake (F : Nat → FuncId) : AFun := { nparams := 0, ntmps := 30, results := [.tmp 0], body :=
  (.seq
    (.reg [⟨(some 0), [], [.c (.bool false)], [], [], .cp, none⟩] [] [])
    (.seq
      (.reg [⟨(some 4), [], [.c (.fn (F n_path_Parse)), .c (.str [97, 92, 47, 98, 47, 99])], [], [], .call 0 false, none⟩,
         ⟨(some 3), [], [.t 4], [], [], .cp, none⟩,
         ⟨(some 5), [], [.t 3], [], [], .extract 0, none⟩,
         ⟨(some 6), [], [.t 3], [], [], .extract 1, none⟩,
         ⟨(some 1), [5], [.t 5], [], [], .mv, none⟩,
         ⟨(some 2), [6], [.t 6], [], [], .mv, none⟩] [3, 4, 5, 6] [])
      (.seq
        (.reg [⟨(some 7), [], [.t 2], [], [], .cp, none⟩,
           ⟨(some 8), [], [.t 7, .c (.int .i64 0)], [], [], .bini .eql, none⟩,
           ⟨(some 9), [], [.t 8], [], [], .cp, none⟩,
           ⟨(some 10), [], [.t 1], [], [], .cp, some (9, true)⟩,
           ⟨(some 11), [], [.c (.str [97, 47, 98]), .c (.str [99])], [], [], .bslice 1 [.str [], .str []] [(0, 1), (1, 1)], some (9, true)⟩,
           ⟨(some 12), [], [.c (.fn (F n_pref03_Same)), .t 10, .t 11], [], [], .call 0 false, some (9, true)⟩,
           ⟨(some 13), [], [.t 9, .t 12, .c (.bool false)], [], [], .pick, none⟩,
           ⟨(some 14), [], [.t 13], [], [], .cp, none⟩,
           ⟨(some 15), [], [.t 1], [], [], .cp, some (14, true)⟩,
           ⟨(some 16), [], [.c (.fn (F n_path_Text)), .t 15], [], [], .call 0 false, some (14, true)⟩,
           ⟨(some 17), [], [.t 16, .c (.str [97, 92, 47, 98, 47, 99])], [], [], .bins .eql, some (14, true)⟩,
           ⟨(some 18), [], [.t 14, .t 17, .c (.bool false)], [], [], .pick, none⟩,
           ⟨(some 19), [], [.t 18], [], [], .cp, none⟩,
           ⟨(some 20), [], [.t 1], [], [], .cp, some (19, true)⟩,
           ⟨(some 21), [], [.c (.fn (F n_path_Check)), .t 20], [], [], .call 0 false, some (19, true)⟩,
           ⟨(some 22), [], [.t 21, .c (.int .i64 0)], [], [], .bini .eql, some (19, true)⟩,
           ⟨(some 23), [], [.t 19, .t 22, .c (.bool false)], [], [], .pick, none⟩,
           ⟨(some 24), [], [.t 23], [], [], .cp, none⟩,
           ⟨(some 25), [], [.t 1], [], [], .cp, some (24, true)⟩,
           ⟨(some 26), [], [.t 1], [], [], .cp, some (24, true)⟩,
           ⟨(some 27), [], [.t 26, .c (.int .i64 1)], [], [], .slice 1 false true false, some (24, true)⟩,
           ⟨(some 28), [], [.c (.fn (F n_path_Under)), .t 25, .t 27], [], [], .call 0 false, some (24, true)⟩,
           ⟨(some 29), [], [.t 24, .t 28, .c (.bool false)], [], [], .pick, none⟩,
           ⟨(some 0), [29], [.t 29], [], [], .mv, none⟩] [7, 8, 9, 10, 11, 12, 13, 14, 15, 16, 17, 18, 19, 20, 21, 22, 23, 24, 25, 26, 27, 28, 29] [])
        .ret))) }

def H_path_Parse : Hints := [(1, { ops := [], kt := [7, 8, 9, 10, 11], kb := [] }),
  (2, { ops := [], kt := [12, 13, 14, 15, 16], kb := [] }),
  (4, { ops := [], kt := [18, 19], kb := [] }),
  (5, { ops := [], kt := [20], kb := [] }),
  (6, { ops := [], kt := [22], kb := [] }),
  (7, { ops := [], kt := [23], kb := [] })]
def c_path_Parse (F : Nat → FuncId) : AFun := { nparams := 1, ntmps := 24, results := [.tmp 2, .tmp 3], body :=
  (.seq
    (.reg [⟨(some 2), [], [], [], [], .nils 1, none⟩,
       ⟨(some 3), [], [.c (.int .i64 0)], [], [], .cp, none⟩] [] [])
    (.seq
      (.reg [⟨(some 8), [], [.t 0], [], [], .cp, none⟩,
         ⟨(some 9), [], [.c (.fn (F n_name_Split)), .t 8], [], [], .call 0 false, none⟩,
         ⟨(some 7), [], [.t 9], [], [], .cp, none⟩,
         ⟨(some 10), [], [.t 7], [], [], .extract 0, none⟩,
         ⟨(some 11), [], [.t 7], [], [], .extract 1, none⟩,
         ⟨(some 4), [10], [.t 10], [], [], .mv, none⟩,
         ⟨(some 5), [11], [.t 11], [], [], .mv, none⟩] [7, 8, 9, 10, 11] [])
      (.seq
        (.seq
          (.reg [⟨(some 12), [], [.t 5], [], [], .cp, none⟩,
             ⟨(some 13), [], [.t 12], [], [], .not, none⟩,
             ⟨(some 14), [], [.t 13], [], [], .cp, none⟩,
             ⟨(some 15), [], [.t 0], [], [], .cp, some (14, false)⟩,
             ⟨(some 16), [], [.t 15, .c (.str [])], [], [], .bins .eql, some (14, false)⟩,
             ⟨(some 17), [], [.t 14, .c (.bool true), .t 16], [], [], .pick, none⟩] [12, 13, 14, 15, 16] [])
          (.cond (.t 17)
            (.seq
              (.reg [⟨(some 2), [], [], [], [], .nils 1, none⟩,
                 ⟨(some 3), [], [.c (.int .i64 8)], [], [], .cp, none⟩] [] [])
              .ret)
            .skip))
        (.seq
          (.seq
            (.reg [⟨(some 18), [], [.t 4], [], [], .cp, none⟩,
               ⟨(some 19), [], [.c (.fn (F n_path_Check)), .t 18], [], [], .call 0 false, none⟩,
               ⟨(some 6), [19], [.t 19], [], [], .mv, none⟩] [18, 19] [])
            (.seq
              (.reg [⟨(some 20), [], [.t 6], [], [], .cp, none⟩,
                 ⟨(some 21), [], [.t 20, .c (.int .i64 0)], [], [], .bini .neq, none⟩] [20] [])
              (.cond (.t 21)
                (.seq
                  (.reg [⟨(some 22), [], [.t 6], [], [], .cp, none⟩,
                     ⟨(some 2), [], [], [], [], .nils 1, none⟩,
                     ⟨(some 3), [22], [.t 22], [], [], .mv, none⟩] [22] [])
                  .ret)
                .skip)))
          (.seq
            (.reg [⟨(some 23), [], [.t 4], [], [], .cp, none⟩,
               ⟨(some 2), [23], [.t 23], [], [], .mv, none⟩,
               ⟨(some 3), [], [.c (.int .i64 0)], [], [], .cp, none⟩] [23] [])
            .ret))))) }

def H_pref10_Parse : Hints := [(1, { ops := [], kt := [7], kb := [] }),
  (3, { ops := [], kt := [9, 10, 11, 12, 13], kb := [] }),
  (4, { ops := [], kt := [14], kb := [] }),
  (6, { ops := [], kt := [16, 17], kb := [] }),
  (7, { ops := [], kt := [18], kb := [] }),
  (8, { ops := [], kt := [20], kb := [] }),
  (9, { ops := [], kt := [21], kb := [] })]
def c_pref10_Parse (F : Nat → FuncId) : AFun := { nparams := 1, ntmps := 22, results := [.tmp 2, .tmp 3], body :=
  (.seq
    (.reg [⟨(some 2), [], [], [], [], .nils 1, none⟩,
       ⟨(some 3), [], [.c (.int .i64 0)], [], [], .cp, none⟩] [] [])
    (.seq
      (.seq
        (.reg [⟨(some 7), [], [.t 0], [], [], .cp, none⟩,
           ⟨(some 8), [], [.t 7, .c (.str [])], [], [], .bins .eql, none⟩] [7] [])
        (.cond (.t 8)
          (.seq
            (.reg [⟨(some 2), [], [], [], [], .nils 1, none⟩,
               ⟨(some 3), [], [.c (.int .i64 8)], [], [], .cp, none⟩] [] [])
            .ret)
          .skip))
      (.seq
        (.reg [⟨(some 10), [], [.t 0], [], [], .cp, none⟩,
           ⟨(some 11), [], [.c (.fn (F n_pref03_Split)), .t 10], [], [], .call 0 false, none⟩,
           ⟨(some 9), [], [.t 11], [], [], .cp, none⟩,
           ⟨(some 12), [], [.t 9], [], [], .extract 0, none⟩,
           ⟨(some 13), [], [.t 9], [], [], .extract 1, none⟩,
           ⟨(some 4), [12], [.t 12], [], [], .mv, none⟩,
           ⟨(some 5), [13], [.t 13], [], [], .mv, none⟩] [9, 10, 11, 12, 13] [])
        (.seq
          (.seq
            (.reg [⟨(some 14), [], [.t 5], [], [], .cp, none⟩,
               ⟨(some 15), [], [.t 14], [], [], .not, none⟩] [14] [])
            (.cond (.t 15)
              (.seq
                (.reg [⟨(some 2), [], [], [], [], .nils 1, none⟩,
                   ⟨(some 3), [], [.c (.int .i64 8)], [], [], .cp, none⟩] [] [])
                .ret)
              .skip))
          (.seq
            (.reg [⟨(some 16), [], [.t 4], [], [], .cp, none⟩,
               ⟨(some 17), [], [.c (.fn (F n_pref10_Check)), .t 16], [], [], .call 0 false, none⟩,
               ⟨(some 6), [17], [.t 17], [], [], .mv, none⟩] [16, 17] [])
            (.seq
              (.seq
                (.reg [⟨(some 18), [], [.t 6], [], [], .cp, none⟩,
                   ⟨(some 19), [], [.t 18, .c (.int .i64 0)], [], [], .bini .neq, none⟩] [18] [])
                (.cond (.t 19)
                  (.seq
                    (.reg [⟨(some 20), [], [.t 6], [], [], .cp, none⟩,
                       ⟨(some 2), [], [], [], [], .nils 1, none⟩,
                       ⟨(some 3), [20], [.t 20], [], [], .mv, none⟩] [20] [])
                    .ret)
                  .skip))
              (.seq
                (.reg [⟨(some 21), [], [.t 4], [], [], .cp, none⟩,
                   ⟨(some 2), [21], [.t 21], [], [], .mv, none⟩,
                   ⟨(some 3), [], [.c (.int .i64 0)], [], [], .cp, none⟩] [21] [])
                .ret))))))) }

def H_pref10_Short : Hints := [(1, { ops := [], kt := [4, 5], kb := [] }),
  (4, { ops := [], kt := [7, 8, 9], kb := [] }),
  (5, { ops := [], kt := [7, 8, 9, 10, 11, 12, 13, 14, 15, 16, 17, 18], kb := [] }),
  (6, { ops := [], kt := [13, 14, 15, 16, 17], kb := [] })]
def c_pref10_Short (F : Nat → FuncId) : AFun := { nparams := 1, ntmps := 19, results := [.tmp 2], body :=
  (.seq
    (.reg [⟨(some 2), [], [.c (.bool false)], [], [], .cp, none⟩] [] [])
    (.seq
      (.seq
        (.reg [⟨(some 4), [], [.t 0], [], [], .cp, none⟩,
           ⟨(some 5), [], [.t 4], [], [], .len false, none⟩,
           ⟨(some 6), [], [.t 5, .c (.int .i64 12)], [], [], .bini .gtr, none⟩] [4, 5] [])
        (.cond (.t 6)
          (.seq
            (.reg [⟨(some 2), [], [.c (.bool false)], [], [], .cp, none⟩] [] [])
            .ret)
          .skip))
      (.seq
        (.seq
          (.reg [⟨(some 3), [], [.c (.int .i64 0)], [], [], .cp, none⟩] [] [])
          (.block 0
            (.loop
              (.seq
                (.seq
                  (.reg [⟨(some 7), [], [.t 3], [], [], .cp, none⟩,
                     ⟨(some 8), [], [.t 0], [], [], .cp, none⟩,
                     ⟨(some 9), [], [.t 8], [], [], .len false, none⟩,
                     ⟨(some 10), [], [.t 7, .t 9], [], [], .bini .lss, none⟩] [7, 8, 9] [])
                  (.cond (.t 10)
                    .skip
                    (.exit 0)))
                (.seq
                  (.block 1
                    (.seq
                      (.reg [⟨(some 13), [], [.t 0], [], [], .cp, none⟩,
                         ⟨(some 14), [], [.t 3], [], [], .cp, none⟩,
                         ⟨(some 15), [], [.t 13, .t 14], [], [], .iaddr none 1, none⟩,
                         ⟨(some 16), [], [.t 15], [], [], .load false 1, none⟩,
                         ⟨(some 17), [], [.t 16], [], [], .len true, none⟩,
                         ⟨(some 18), [], [.t 17, .c (.int .i64 120)], [], [], .bini .gtr, none⟩] [13, 14, 15, 16, 17] [])
                      (.cond (.t 18)
                        (.seq
                          (.reg [⟨(some 2), [], [.c (.bool false)], [], [], .cp, none⟩] [] [])
                          .ret)
                        .skip)))
                  (.reg [⟨(some 11), [], [.t 3], [], [], .cp, none⟩,
                     ⟨(some 12), [], [.t 11, .c (.int .i64 1)], [], [], .bini .add, none⟩,
                     ⟨(some 3), [12], [.t 12], [], [], .mv, none⟩] [7, 8, 9, 10, 11, 12, 13, 14, 15, 16, 17, 18] []))))))
        (.seq
          (.reg [⟨(some 2), [], [.c (.bool true)], [], [], .cp, none⟩] [] [])
          .ret)))) }

def H_path_Compare : Hints := [(1, { ops := [], kt := [5, 6, 7], kb := [] })]
def c_path_Compare (F : Nat → FuncId) : AFun := { nparams := 2, ntmps := 8, results := [.tmp 4], body :=
  (.seq
    (.reg [⟨(some 4), [], [.c (.int .i64 0)], [], [], .cp, none⟩] [] [])
    (.seq
      (.reg [⟨(some 5), [], [.t 0], [], [], .cp, none⟩,
         ⟨(some 6), [], [.t 1], [], [], .cp, none⟩,
         ⟨(some 7), [], [.c (.fn (F n_slices_Compare_string_string)), .t 5, .t 6], [], [], .call 0 false, none⟩,
         ⟨(some 4), [7], [.t 7], [], [], .mv, none⟩] [5, 6, 7] [])
      .ret)) }

def H_path_Under : Hints := [(1, { ops := [], kt := [5, 6, 7, 8, 9, 10, 11, 12, 13, 14, 15, 16, 17], kb := [] })]
def c_path_Under (F : Nat → FuncId) : AFun := { nparams := 2, ntmps := 18, results := [.tmp 4], body :=
  (.seq
    (.reg [⟨(some 4), [], [.c (.bool false)], [], [], .cp, none⟩] [] [])
    (.seq
      (.reg [⟨(some 5), [], [.t 0], [], [], .cp, none⟩,
         ⟨(some 6), [], [.t 5], [], [], .len false, none⟩,
         ⟨(some 7), [], [.t 1], [], [], .cp, none⟩,
         ⟨(some 8), [], [.t 7], [], [], .len false, none⟩,
         ⟨(some 9), [], [.t 6, .t 8], [], [], .bini .geq, none⟩,
         ⟨(some 10), [], [.t 9], [], [], .cp, none⟩,
         ⟨(some 11), [], [.t 0], [], [], .cp, some (10, true)⟩,
         ⟨(some 12), [], [.t 1], [], [], .cp, some (10, true)⟩,
         ⟨(some 13), [], [.t 12], [], [], .len false, some (10, true)⟩,
         ⟨(some 14), [], [.t 11, .t 13], [], [], .slice 1 false true false, some (10, true)⟩,
         ⟨(some 15), [], [.t 1], [], [], .cp, some (10, true)⟩,
         ⟨(some 16), [], [.c (.fn (F n_slices_Equal_string_string)), .t 14, .t 15], [], [], .call 0 false, some (10, true)⟩,
         ⟨(some 17), [], [.t 10, .t 16, .c (.bool false)], [], [], .pick, none⟩,
         ⟨(some 4), [17], [.t 17], [], [], .mv, none⟩] [5, 6, 7, 8, 9, 10, 11, 12, 13, 14, 15, 16, 17] [])
      .ret)) }

def H_path_Same : Hints := [(1, { ops := [], kt := [5, 6, 7], kb := [] })]
def c_path_Same (F : Nat → FuncId) : AFun := { nparams := 2, ntmps := 8, results := [.tmp 4], body :=
  (.seq
    (.reg [⟨(some 4), [], [.c (.bool false)], [], [], .cp, none⟩] [] [])
    (.seq
      (.reg [⟨(some 5), [], [.t 0], [], [], .cp, none⟩,
         ⟨(some 6), [], [.t 1], [], [], .cp, none⟩,
         ⟨(some 7), [], [.c (.fn (F n_slices_Equal_string_string)), .t 5, .t 6], [], [], .call 0 false, none⟩,
         ⟨(some 4), [7], [.t 7], [], [], .mv, none⟩] [5, 6, 7] [])
      .ret)) }

def H_path_Check : Hints := [(1, { ops := [], kt := [4, 5, 6], kb := [] }),
  (3, { ops := [], kt := [8, 9, 10], kb := [] }),
  (5, { ops := [], kt := [12, 13], kb := [] })]
def c_path_Check (F : Nat → FuncId) : AFun := { nparams := 1, ntmps := 14, results := [.tmp 2], body :=
  (.seq
    (.reg [⟨(some 2), [], [.c (.int .i64 0)], [], [], .cp, none⟩] [] [])
    (.seq
      (.block 0
        (.seq
          (.reg [⟨(some 4), [], [.t 0], [], [], .cp, none⟩,
             ⟨(some 5), [], [.t 4], [], [], .len false, none⟩,
             ⟨(some 6), [], [.t 5, .c (.int .i64 0)], [], [], .bini .eql, none⟩,
             ⟨(some 3), [6], [.t 6], [], [], .mv, none⟩] [4, 5, 6] [])
          (.cond (.t 3)
            (.seq
              (.reg [⟨(some 2), [], [.c (.int .i64 8)], [], [], .cp, none⟩] [] [])
              .ret)
            (.seq
              (.reg [⟨(some 8), [], [.t 0], [], [], .cp, none⟩,
                 ⟨(some 9), [], [.t 8], [], [], .len false, none⟩,
                 ⟨(some 10), [], [.t 9, .c (.int .i64 8)], [], [], .bini .gtr, none⟩,
                 ⟨(some 7), [10], [.t 10], [], [], .mv, none⟩] [8, 9, 10] [])
              (.cond (.t 7)
                (.seq
                  (.reg [⟨(some 2), [], [.c (.int .i64 9)], [], [], .cp, none⟩] [] [])
                  .ret)
                (.seq
                  (.reg [⟨(some 12), [], [.t 0], [], [], .cp, none⟩,
                     ⟨(some 13), [], [.c (.fn (F n_slices_ContainsFunc_string_string)), .t 12, .c (.fn (F n_path_Check_1))], [], [], .call 0 false, none⟩,
                     ⟨(some 11), [13], [.t 13], [], [], .mv, none⟩] [12, 13] [])
                  (.cond (.t 11)
                    (.seq
                      (.reg [⟨(some 2), [], [.c (.int .i64 8)], [], [], .cp, none⟩] [] [])
                      .ret)
                    .skip)))))))
      (.seq
        (.reg [⟨(some 2), [], [.c (.int .i64 0)], [], [], .cp, none⟩] [] [])
        .ret))) }

def H_pref10_Check : Hints := [(1, { ops := [], kt := [4, 5], kb := [] }),
  (3, { ops := [], kt := [7, 8], kb := [] }),
  (6, { ops := [], kt := [10, 11, 12], kb := [] }),
  (7, { ops := [], kt := [10, 11, 12, 13, 14, 15, 16, 17, 18, 19, 20, 21], kb := [] }),
  (8, { ops := [], kt := [16, 17, 18, 19, 20], kb := [] })]
def c_pref10_Check (F : Nat → FuncId) : AFun := { nparams := 1, ntmps := 22, results := [.tmp 2], body :=
  (.seq
    (.reg [⟨(some 2), [], [.c (.int .i64 0)], [], [], .cp, none⟩] [] [])
    (.seq
      (.seq
        (.reg [⟨(some 4), [], [.t 0], [], [], .cp, none⟩,
           ⟨(some 5), [], [.t 4], [], [], .len false, none⟩,
           ⟨(some 6), [], [.t 5, .c (.int .i64 0)], [], [], .bini .eql, none⟩] [4, 5] [])
        (.cond (.t 6)
          (.seq
            (.reg [⟨(some 2), [], [.c (.int .i64 8)], [], [], .cp, none⟩] [] [])
            .ret)
          .skip))
      (.seq
        (.seq
          (.reg [⟨(some 7), [], [.t 0], [], [], .cp, none⟩,
             ⟨(some 8), [], [.t 7], [], [], .len false, none⟩,
             ⟨(some 9), [], [.t 8, .c (.int .i64 8)], [], [], .bini .gtr, none⟩] [7, 8] [])
          (.cond (.t 9)
            (.seq
              (.reg [⟨(some 2), [], [.c (.int .i64 9)], [], [], .cp, none⟩] [] [])
              .ret)
            .skip))
        (.seq
          (.seq
            (.reg [⟨(some 3), [], [.c (.int .i64 0)], [], [], .cp, none⟩] [] [])
            (.block 0
              (.loop
                (.seq
                  (.seq
                    (.reg [⟨(some 10), [], [.t 3], [], [], .cp, none⟩,
                       ⟨(some 11), [], [.t 0], [], [], .cp, none⟩,
                       ⟨(some 12), [], [.t 11], [], [], .len false, none⟩,
                       ⟨(some 13), [], [.t 10, .t 12], [], [], .bini .lss, none⟩] [10, 11, 12] [])
                    (.cond (.t 13)
                      .skip
                      (.exit 0)))
                  (.seq
                    (.block 1
                      (.seq
                        (.reg [⟨(some 16), [], [.t 0], [], [], .cp, none⟩,
                           ⟨(some 17), [], [.t 3], [], [], .cp, none⟩,
                           ⟨(some 18), [], [.t 16, .t 17], [], [], .iaddr none 1, none⟩,
                           ⟨(some 19), [], [.t 18], [], [], .load false 1, none⟩,
                           ⟨(some 20), [], [.c (.fn (F n_pref03_Right)), .t 19], [], [], .call 0 false, none⟩,
                           ⟨(some 21), [], [.t 20], [], [], .not, none⟩] [16, 17, 18, 19, 20] [])
                        (.cond (.t 21)
                          (.seq
                            (.reg [⟨(some 2), [], [.c (.int .i64 8)], [], [], .cp, none⟩] [] [])
                            .ret)
                          .skip)))
                    (.reg [⟨(some 14), [], [.t 3], [], [], .cp, none⟩,
                       ⟨(some 15), [], [.t 14, .c (.int .i64 1)], [], [], .bini .add, none⟩,
                       ⟨(some 3), [15], [.t 15], [], [], .mv, none⟩] [10, 11, 12, 13, 14, 15, 16, 17, 18, 19, 20, 21] []))))))
          (.seq
            (.reg [⟨(some 2), [], [.c (.int .i64 0)], [], [], .cp, none⟩] [] [])
            .ret))))) }

def H_pref10_Compare : Hints := [(2, { ops := [], kt := [7, 8, 9, 10, 11, 12, 13, 14, 15], kb := [] }),
  (3, { ops := [], kt := [6, 7, 8, 9, 10, 11, 12, 13, 14, 15, 16, 17, 18, 19, 20, 21, 22, 23, 24, 25, 26, 27, 28, 29, 30], kb := [] }),
  (4, { ops := [], kt := [19, 20, 21, 22, 23, 24, 25, 26, 27], kb := [] }),
  (5, { ops := [], kt := [28], kb := [] }),
  (6, { ops := [], kt := [30], kb := [] }),
  (7, { ops := [], kt := [31, 32, 33, 34], kb := [] }),
  (9, { ops := [], kt := [36, 37, 38, 39], kb := [] })]
def c_pref10_Compare (F : Nat → FuncId) : AFun := { nparams := 2, ntmps := 41, results := [.tmp 4], body :=
  (.seq
    (.reg [⟨(some 4), [], [.c (.int .i64 0)], [], [], .cp, none⟩] [] [])
    (.seq
      (.seq
        (.reg [⟨(some 5), [], [.c (.int .i64 0)], [], [], .cp, none⟩] [] [])
        (.block 0
          (.loop
            (.seq
              (.seq
                (.reg [⟨(some 7), [], [.t 5], [], [], .cp, none⟩,
                   ⟨(some 8), [], [.t 0], [], [], .cp, none⟩,
                   ⟨(some 9), [], [.t 8], [], [], .len false, none⟩,
                   ⟨(some 10), [], [.t 7, .t 9], [], [], .bini .lss, none⟩,
                   ⟨(some 11), [], [.t 10], [], [], .cp, none⟩,
                   ⟨(some 12), [], [.t 5], [], [], .cp, some (11, true)⟩,
                   ⟨(some 13), [], [.t 1], [], [], .cp, some (11, true)⟩,
                   ⟨(some 14), [], [.t 13], [], [], .len false, some (11, true)⟩,
                   ⟨(some 15), [], [.t 12, .t 14], [], [], .bini .lss, some (11, true)⟩,
                   ⟨(some 16), [], [.t 11, .t 15, .c (.bool false)], [], [], .pick, none⟩] [7, 8, 9, 10, 11, 12, 13, 14, 15] [])
                (.cond (.t 16)
                  .skip
                  (.exit 0)))
              (.seq
                (.block 1
                  (.seq
                    (.reg [⟨(some 19), [], [.t 0], [], [], .cp, none⟩,
                       ⟨(some 20), [], [.t 5], [], [], .cp, none⟩,
                       ⟨(some 21), [], [.t 19, .t 20], [], [], .iaddr none 1, none⟩,
                       ⟨(some 22), [], [.t 21], [], [], .load false 1, none⟩,
                       ⟨(some 23), [], [.t 1], [], [], .cp, none⟩,
                       ⟨(some 24), [], [.t 5], [], [], .cp, none⟩,
                       ⟨(some 25), [], [.t 23, .t 24], [], [], .iaddr none 1, none⟩,
                       ⟨(some 26), [], [.t 25], [], [], .load false 1, none⟩,
                       ⟨(some 27), [], [.c (.fn (F n_pref09_Texts)), .t 22, .t 26], [], [], .call 0 false, none⟩,
                       ⟨(some 6), [27], [.t 27], [], [], .mv, none⟩] [19, 20, 21, 22, 23, 24, 25, 26, 27] [])
                    (.seq
                      (.reg [⟨(some 28), [], [.t 6], [], [], .cp, none⟩,
                         ⟨(some 29), [], [.t 28, .c (.int .i64 0)], [], [], .bini .neq, none⟩] [28] [])
                      (.cond (.t 29)
                        (.seq
                          (.reg [⟨(some 30), [], [.t 6], [], [], .cp, none⟩,
                             ⟨(some 4), [30], [.t 30], [], [], .mv, none⟩] [30] [])
                          .ret)
                        .skip))))
                (.reg [⟨(some 17), [], [.t 5], [], [], .cp, none⟩,
                   ⟨(some 18), [], [.t 17, .c (.int .i64 1)], [], [], .bini .add, none⟩,
                   ⟨(some 5), [18], [.t 18], [], [], .mv, none⟩] [6, 7, 8, 9, 10, 11, 12, 13, 14, 15, 16, 17, 18, 19, 20, 21, 22, 23, 24, 25, 26, 27, 28, 29, 30] []))))))
      (.seq
        (.seq
          (.reg [⟨(some 31), [], [.t 0], [], [], .cp, none⟩,
             ⟨(some 32), [], [.t 31], [], [], .len false, none⟩,
             ⟨(some 33), [], [.t 1], [], [], .cp, none⟩,
             ⟨(some 34), [], [.t 33], [], [], .len false, none⟩,
             ⟨(some 35), [], [.t 32, .t 34], [], [], .bini .lss, none⟩] [31, 32, 33, 34] [])
          (.cond (.t 35)
            (.seq
              (.reg [⟨(some 4), [], [.c (.int .i64 (-1))], [], [], .cp, none⟩] [] [])
              .ret)
            .skip))
        (.seq
          (.seq
            (.reg [⟨(some 36), [], [.t 0], [], [], .cp, none⟩,
               ⟨(some 37), [], [.t 36], [], [], .len false, none⟩,
               ⟨(some 38), [], [.t 1], [], [], .cp, none⟩,
               ⟨(some 39), [], [.t 38], [], [], .len false, none⟩,
               ⟨(some 40), [], [.t 37, .t 39], [], [], .bini .gtr, none⟩] [36, 37, 38, 39] [])
            (.cond (.t 40)
              (.seq
                (.reg [⟨(some 4), [], [.c (.int .i64 1)], [], [], .cp, none⟩] [] [])
                .ret)
              .skip))
          (.seq
            (.reg [⟨(some 4), [], [.c (.int .i64 0)], [], [], .cp, none⟩] [] [])
            .ret))))) }

def H_pref10_Under : Hints := [(1, { ops := [], kt := [6, 7, 8, 9], kb := [] }),
  (4, { ops := [], kt := [11, 12, 13], kb := [] }),
  (5, { ops := [], kt := [11, 12, 13, 14, 15, 16, 17, 18, 19, 20, 21, 22, 23, 24, 25], kb := [] }),
  (6, { ops := [], kt := [17, 18, 19, 20, 21, 22, 23, 24], kb := [] })]
def c_pref10_Under (F : Nat → FuncId) : AFun := { nparams := 2, ntmps := 26, results := [.tmp 4], body :=
  (.seq
    (.reg [⟨(some 4), [], [.c (.bool false)], [], [], .cp, none⟩] [] [])
    (.seq
      (.seq
        (.reg [⟨(some 6), [], [.t 1], [], [], .cp, none⟩,
           ⟨(some 7), [], [.t 6], [], [], .len false, none⟩,
           ⟨(some 8), [], [.t 0], [], [], .cp, none⟩,
           ⟨(some 9), [], [.t 8], [], [], .len false, none⟩,
           ⟨(some 10), [], [.t 7, .t 9], [], [], .bini .gtr, none⟩] [6, 7, 8, 9] [])
        (.cond (.t 10)
          (.seq
            (.reg [⟨(some 4), [], [.c (.bool false)], [], [], .cp, none⟩] [] [])
            .ret)
          .skip))
      (.seq
        (.seq
          (.reg [⟨(some 5), [], [.c (.int .i64 0)], [], [], .cp, none⟩] [] [])
          (.block 0
            (.loop
              (.seq
                (.seq
                  (.reg [⟨(some 11), [], [.t 5], [], [], .cp, none⟩,
                     ⟨(some 12), [], [.t 1], [], [], .cp, none⟩,
                     ⟨(some 13), [], [.t 12], [], [], .len false, none⟩,
                     ⟨(some 14), [], [.t 11, .t 13], [], [], .bini .lss, none⟩] [11, 12, 13] [])
                  (.cond (.t 14)
                    .skip
                    (.exit 0)))
                (.seq
                  (.block 1
                    (.seq
                      (.reg [⟨(some 17), [], [.t 0], [], [], .cp, none⟩,
                         ⟨(some 18), [], [.t 5], [], [], .cp, none⟩,
                         ⟨(some 19), [], [.t 17, .t 18], [], [], .iaddr none 1, none⟩,
                         ⟨(some 20), [], [.t 19], [], [], .load false 1, none⟩,
                         ⟨(some 21), [], [.t 1], [], [], .cp, none⟩,
                         ⟨(some 22), [], [.t 5], [], [], .cp, none⟩,
                         ⟨(some 23), [], [.t 21, .t 22], [], [], .iaddr none 1, none⟩,
                         ⟨(some 24), [], [.t 23], [], [], .load false 1, none⟩,
                         ⟨(some 25), [], [.t 20, .t 24], [], [], .bins .neq, none⟩] [17, 18, 19, 20, 21, 22, 23, 24] [])
                      (.cond (.t 25)
                        (.seq
                          (.reg [⟨(some 4), [], [.c (.bool false)], [], [], .cp, none⟩] [] [])
                          .ret)
                        .skip)))
                  (.reg [⟨(some 15), [], [.t 5], [], [], .cp, none⟩,
                     ⟨(some 16), [], [.t 15, .c (.int .i64 1)], [], [], .bini .add, none⟩,
                     ⟨(some 5), [16], [.t 16], [], [], .mv, none⟩] [11, 12, 13, 14, 15, 16, 17, 18, 19, 20, 21, 22, 23, 24, 25] []))))))
        (.seq
          (.reg [⟨(some 4), [], [.c (.bool true)], [], [], .cp, none⟩] [] [])
          .ret)))) }

def H_path_Text : Hints := [(4, { ops := [], kt := [10, 11], kb := [] }),
  (5, { ops := [(0, { take := true })], kt := [12, 13, 14, 15, 16], kb := [] }),
  (6, { ops := [], kt := [5, 9, 10, 11, 12, 13, 14, 15, 16, 17], kb := [] }),
  (7, { ops := [], kt := [18, 19], kb := [] })]
def c_path_Text (F : Nat → FuncId) : AFun := { nparams := 1, ntmps := 20, results := [.tmp 2], body :=
  (.seq
    (.reg [⟨(some 2), [], [.c (.str [])], [], [], .cp, none⟩] [] [])
    (.seq
      (.reg [⟨(some 3), [], [], [], [], .nils 1, none⟩] [] [])
      (.seq
        (.seq
          (.reg [⟨(some 6), [], [.t 0], [], [], .cp, none⟩,
             ⟨(some 7), [], [.t 6], [], [], .len false, none⟩,
             ⟨(some 8), [], [.c (.int .i64 0)], [], [], .cp, none⟩] [] [])
          (.block 0
            (.loop
              (.seq
                (.reg [⟨(some 9), [], [.t 8, .t 7], [], [], .bini .lss, none⟩] [] [])
                (.seq
                  (.cond (.t 9)
                    .skip
                    (.exit 0))
                  (.seq
                    (.block 1
                      (.seq
                        (.reg [⟨(some 10), [], [.t 6, .t 8], [], [], .iaddr none 1, none⟩,
                           ⟨(some 11), [], [.t 10], [], [], .load false 1, none⟩,
                           ⟨(some 5), [11], [.t 11], [], [], .mv, none⟩] [10, 11] [])
                        (.reg [⟨(some 12), [3], [.t 3], [], [], .mv, none⟩,
                           ⟨(some 13), [], [.t 5], [], [], .cp, none⟩,
                           ⟨(some 14), [], [.c (.fn (F n_name_Quote)), .t 13], [], [], .call 0 false, none⟩,
                           ⟨(some 15), [], [.t 14], [], [], .bslice 1 [.str []] [(0, 1)], none⟩,
                           ⟨(some 16), [12], [.t 12, .t 15], [], [], .append 1 16, none⟩,
                           ⟨(some 3), [16], [.t 16], [], [], .mv, none⟩] [12, 13, 14, 15, 16] [])))
                    (.reg [⟨(some 17), [], [.t 8, .c (.int .i64 1)], [], [], .bini .add, none⟩,
                       ⟨(some 8), [], [.t 17], [], [], .cp, none⟩] [5, 9, 10, 11, 12, 13, 14, 15, 16, 17] [])))))))
        (.seq
          (.reg [⟨(some 18), [], [.t 3], [], [], .cp, none⟩,
             ⟨(some 19), [], [.c (.fn (F n_strings_Join)), .t 18, .c (.str [47])], [], [], .call 0 false, none⟩,
             ⟨(some 2), [19], [.t 19], [], [], .mv, none⟩] [18, 19] [])
          .ret)))) }

def H_pref10_Text : Hints := [(3, { ops := [], kt := [5, 6, 7], kb := [] }),
  (4, { ops := [], kt := [5, 6, 7, 8, 9, 10, 11, 12, 13, 14, 15, 16, 17, 18, 19, 20, 21], kb := [] }),
  (5, { ops := [], kt := [11], kb := [] }),
  (6, { ops := [], kt := [13, 14], kb := [] }),
  (7, { ops := [], kt := [15, 16, 17, 18, 19, 20, 21], kb := [] }),
  (8, { ops := [], kt := [22], kb := [] })]
def c_pref10_Text (F : Nat → FuncId) : AFun := { nparams := 1, ntmps := 23, results := [.tmp 2], body :=
  (.seq
    (.reg [⟨(some 2), [], [.c (.str [])], [], [], .cp, none⟩] [] [])
    (.seq
      (.reg [⟨(some 3), [], [.c (.str [])], [], [], .cp, none⟩] [] [])
      (.seq
        (.seq
          (.reg [⟨(some 4), [], [.c (.int .i64 0)], [], [], .cp, none⟩] [] [])
          (.block 0
            (.loop
              (.seq
                (.seq
                  (.reg [⟨(some 5), [], [.t 4], [], [], .cp, none⟩,
                     ⟨(some 6), [], [.t 0], [], [], .cp, none⟩,
                     ⟨(some 7), [], [.t 6], [], [], .len false, none⟩,
                     ⟨(some 8), [], [.t 5, .t 7], [], [], .bini .lss, none⟩] [5, 6, 7] [])
                  (.cond (.t 8)
                    .skip
                    (.exit 0)))
                (.seq
                  (.block 1
                    (.seq
                      (.seq
                        (.reg [⟨(some 11), [], [.t 4], [], [], .cp, none⟩,
                           ⟨(some 12), [], [.t 11, .c (.int .i64 0)], [], [], .bini .gtr, none⟩] [11] [])
                        (.cond (.t 12)
                          (.reg [⟨(some 13), [], [.t 3], [], [], .cp, none⟩,
                             ⟨(some 14), [], [.t 13, .c (.str [47])], [], [], .bins .add, none⟩,
                             ⟨(some 3), [14], [.t 14], [], [], .mv, none⟩] [13, 14] [])
                          .skip))
                      (.reg [⟨(some 15), [], [.t 3], [], [], .cp, none⟩,
                         ⟨(some 16), [], [.t 0], [], [], .cp, none⟩,
                         ⟨(some 17), [], [.t 4], [], [], .cp, none⟩,
                         ⟨(some 18), [], [.t 16, .t 17], [], [], .iaddr none 1, none⟩,
                         ⟨(some 19), [], [.t 18], [], [], .load false 1, none⟩,
                         ⟨(some 20), [], [.c (.fn (F n_pref03_Quote)), .t 19], [], [], .call 0 false, none⟩,
                         ⟨(some 21), [], [.t 15, .t 20], [], [], .bins .add, none⟩,
                         ⟨(some 3), [21], [.t 21], [], [], .mv, none⟩] [15, 16, 17, 18, 19, 20, 21] [])))
                  (.reg [⟨(some 9), [], [.t 4], [], [], .cp, none⟩,
                     ⟨(some 10), [], [.t 9, .c (.int .i64 1)], [], [], .bini .add, none⟩,
                     ⟨(some 4), [10], [.t 10], [], [], .mv, none⟩] [5, 6, 7, 8, 9, 10, 11, 12, 13, 14, 15, 16, 17, 18, 19, 20, 21] []))))))
        (.seq
          (.reg [⟨(some 22), [], [.t 3], [], [], .cp, none⟩,
             ⟨(some 2), [22], [.t 22], [], [], .mv, none⟩] [22] [])
          .ret)))) }

def H_path_Code : Hints := [(1, { ops := [], kt := [6, 7, 8], kb := [] }),
  (4, { ops := [], kt := [13, 14], kb := [] }),
  (5, { ops := [], kt := [15, 16, 17, 18], kb := [] }),
  (6, { ops := [], kt := [5, 12, 13, 14, 15, 16, 17, 18, 19], kb := [] }),
  (7, { ops := [], kt := [20], kb := [] })]
def c_path_Code (F : Nat → FuncId) : AFun := { nparams := 1, ntmps := 21, results := [.tmp 2], body :=
  (.seq
    (.reg [⟨(some 2), [], [.c (.str [])], [], [], .cp, none⟩] [] [])
    (.seq
      (.reg [⟨(some 6), [], [.t 0], [], [], .cp, none⟩,
         ⟨(some 7), [], [.t 6], [], [], .len false, none⟩,
         ⟨(some 8), [], [.c (.fn (F n_pack_Int)), .t 7], [], [], .call 0 false, none⟩,
         ⟨(some 3), [8], [.t 8], [], [], .mv, none⟩] [6, 7, 8] [])
      (.seq
        (.seq
          (.reg [⟨(some 9), [], [.t 0], [], [], .cp, none⟩,
             ⟨(some 10), [], [.t 9], [], [], .len false, none⟩,
             ⟨(some 11), [], [.c (.int .i64 0)], [], [], .cp, none⟩] [] [])
          (.block 0
            (.loop
              (.seq
                (.reg [⟨(some 12), [], [.t 11, .t 10], [], [], .bini .lss, none⟩] [] [])
                (.seq
                  (.cond (.t 12)
                    .skip
                    (.exit 0))
                  (.seq
                    (.block 1
                      (.seq
                        (.reg [⟨(some 13), [], [.t 9, .t 11], [], [], .iaddr none 1, none⟩,
                           ⟨(some 14), [], [.t 13], [], [], .load false 1, none⟩,
                           ⟨(some 5), [14], [.t 14], [], [], .mv, none⟩] [13, 14] [])
                        (.reg [⟨(some 15), [], [.t 3], [], [], .cp, none⟩,
                           ⟨(some 16), [], [.t 5], [], [], .cp, none⟩,
                           ⟨(some 17), [], [.c (.fn (F n_pack_Text)), .t 16], [], [], .call 0 false, none⟩,
                           ⟨(some 18), [], [.t 15, .t 17], [], [], .bins .add, none⟩,
                           ⟨(some 3), [18], [.t 18], [], [], .mv, none⟩] [15, 16, 17, 18] [])))
                    (.reg [⟨(some 19), [], [.t 11, .c (.int .i64 1)], [], [], .bini .add, none⟩,
                       ⟨(some 11), [], [.t 19], [], [], .cp, none⟩] [5, 12, 13, 14, 15, 16, 17, 18, 19] [])))))))
        (.seq
          (.reg [⟨(some 20), [], [.t 3], [], [], .cp, none⟩,
             ⟨(some 2), [20], [.t 20], [], [], .mv, none⟩] [20] [])
          .ret)))) }

def H_pref10_Code : Hints := [(1, { ops := [], kt := [5, 6, 7], kb := [] }),
  (3, { ops := [], kt := [8, 9, 10], kb := [] }),
  (4, { ops := [], kt := [8, 9, 10, 11, 12, 13, 14, 15, 16, 17, 18, 19, 20], kb := [] }),
  (5, { ops := [], kt := [14, 15, 16, 17, 18, 19, 20], kb := [] }),
  (6, { ops := [], kt := [21], kb := [] })]
def c_pref10_Code (F : Nat → FuncId) : AFun := { nparams := 1, ntmps := 22, results := [.tmp 2], body :=
  (.seq
    (.reg [⟨(some 2), [], [.c (.str [])], [], [], .cp, none⟩] [] [])
    (.seq
      (.reg [⟨(some 5), [], [.t 0], [], [], .cp, none⟩,
         ⟨(some 6), [], [.t 5], [], [], .len false, none⟩,
         ⟨(some 7), [], [.c (.fn (F n_pref02_Int)), .t 6], [], [], .call 0 false, none⟩,
         ⟨(some 3), [7], [.t 7], [], [], .mv, none⟩] [5, 6, 7] [])
      (.seq
        (.seq
          (.reg [⟨(some 4), [], [.c (.int .i64 0)], [], [], .cp, none⟩] [] [])
          (.block 0
            (.loop
              (.seq
                (.seq
                  (.reg [⟨(some 8), [], [.t 4], [], [], .cp, none⟩,
                     ⟨(some 9), [], [.t 0], [], [], .cp, none⟩,
                     ⟨(some 10), [], [.t 9], [], [], .len false, none⟩,
                     ⟨(some 11), [], [.t 8, .t 10], [], [], .bini .lss, none⟩] [8, 9, 10] [])
                  (.cond (.t 11)
                    .skip
                    (.exit 0)))
                (.seq
                  (.block 1
                    (.reg [⟨(some 14), [], [.t 3], [], [], .cp, none⟩,
                       ⟨(some 15), [], [.t 0], [], [], .cp, none⟩,
                       ⟨(some 16), [], [.t 4], [], [], .cp, none⟩,
                       ⟨(some 17), [], [.t 15, .t 16], [], [], .iaddr none 1, none⟩,
                       ⟨(some 18), [], [.t 17], [], [], .load false 1, none⟩,
                       ⟨(some 19), [], [.c (.fn (F n_pref02_Text)), .t 18], [], [], .call 0 false, none⟩,
                       ⟨(some 20), [], [.t 14, .t 19], [], [], .bins .add, none⟩,
                       ⟨(some 3), [20], [.t 20], [], [], .mv, none⟩] [14, 15, 16, 17, 18, 19, 20] []))
                  (.reg [⟨(some 12), [], [.t 4], [], [], .cp, none⟩,
                     ⟨(some 13), [], [.t 12, .c (.int .i64 1)], [], [], .bini .add, none⟩,
                     ⟨(some 4), [13], [.t 13], [], [], .mv, none⟩] [8, 9, 10, 11, 12, 13, 14, 15, 16, 17, 18, 19, 20] []))))))
        (.seq
          (.reg [⟨(some 21), [], [.t 3], [], [], .cp, none⟩,
             ⟨(some 2), [21], [.t 21], [], [], .mv, none⟩] [21] [])
          .ret)))) }

def H_path_Read : Hints := [(0, { ops := [(0, { x := 4 })], kt := [], kb := [] }),
  (2, { ops := [(1, { mw := [0], nref := 1 })], kt := [4], kb := [] }),
  (4, { ops := [(0, { take := true }), (2, { mw := [0], nref := 1 })], kt := [8, 9, 10, 11, 12], kb := [] }),
  (5, { ops := [], kt := [7, 8, 9, 10, 11, 12, 13], kb := [] }),
  (6, { ops := [(1, { mw := [0], nref := 1 })], kt := [14, 15], kb := [] }),
  (7, { ops := [(3, { mw := [0], nref := 1 })], kt := [17, 18, 19, 20], kb := [] }),
  (8, { ops := [(1, { mw := [0], nref := 1 })], kt := [21, 22], kb := [] }),
  (9, { ops := [(0, { x := 4 })], kt := [], kb := [] }),
  (10, { ops := [], kt := [24], kb := [] })]
def c_path_Read (F : Nat → FuncId) : AFun := { nparams := 1, ntmps := 25, results := [.tmp 2], body :=
  (.seq
    (.reg [⟨(some 2), [], [.c (.sl 1 [])], [], [], .cp, none⟩] [] [])
    (.seq
      (.reg [⟨(some 3), [], [], [], [], .nils 1, none⟩] [] [])
      (.seq
        (.seq
          (.reg [⟨(some 4), [], [.t 0], [], [], .cp, none⟩,
             ⟨(some 5), [], [.c (.fn (F n_pack_Reader_Many)), .t 4, .c (.int .i64 8)], [], [0], .call 1 false, none⟩,
             ⟨(some 6), [], [.c (.int .i64 0)], [], [], .cp, none⟩] [4] [])
          (.block 0
            (.loop
              (.seq
                (.reg [⟨(some 7), [], [.t 6, .t 5], [], [], .bini .lss, none⟩] [] [])
                (.seq
                  (.cond (.t 7)
                    .skip
                    (.exit 0))
                  (.seq
                    (.block 1
                      (.reg [⟨(some 8), [3], [.t 3], [], [], .mv, none⟩,
                         ⟨(some 9), [], [.t 0], [], [], .cp, none⟩,
                         ⟨(some 10), [], [.c (.fn (F n_pack_Reader_Text)), .t 9], [], [0], .call 1 false, none⟩,
                         ⟨(some 11), [], [.t 10], [], [], .bslice 1 [.str []] [(0, 1)], none⟩,
                         ⟨(some 12), [8], [.t 8, .t 11], [], [], .append 1 16, none⟩,
                         ⟨(some 3), [12], [.t 12], [], [], .mv, none⟩] [8, 9, 10, 11, 12] []))
                    (.reg [⟨(some 13), [], [.t 6, .c (.int .i64 1)], [], [], .bini .add, none⟩,
                       ⟨(some 6), [], [.t 13], [], [], .cp, none⟩] [7, 8, 9, 10, 11, 12, 13] [])))))))
        (.seq
          (.seq
            (.reg [⟨(some 14), [], [.t 0], [], [], .cp, none⟩,
               ⟨(some 15), [], [.c (.fn (F n_pack_Reader_Fault)), .t 14], [], [0], .call 1 false, none⟩,
               ⟨(some 16), [], [.t 15, .c (.int .i64 0)], [], [], .bini .eql, none⟩] [14, 15] [])
            (.cond (.t 16)
              (.reg [⟨(some 17), [], [.t 0], [], [], .cp, none⟩,
                 ⟨(some 18), [], [.t 3], [], [], .cp, none⟩,
                 ⟨(some 19), [], [.c (.fn (F n_path_Check)), .t 18], [], [], .call 0 false, none⟩,
                 ⟨(some 20), [], [.c (.fn (F n_pack_Reader_Fail)), .t 17, .t 19], [], [0], .call 1 false, none⟩] [17, 18, 19, 20] [])
              .skip))
          (.seq
            (.seq
              (.reg [⟨(some 21), [], [.t 0], [], [], .cp, none⟩,
                 ⟨(some 22), [], [.c (.fn (F n_pack_Reader_Fault)), .t 21], [], [0], .call 1 false, none⟩,
                 ⟨(some 23), [], [.t 22, .c (.int .i64 0)], [], [], .bini .neq, none⟩] [21, 22] [])
              (.cond (.t 23)
                (.seq
                  (.reg [⟨(some 2), [], [.c (.sl 1 [])], [], [], .cp, none⟩] [] [])
                  .ret)
                .skip))
            (.seq
              (.reg [⟨(some 24), [], [.t 3], [], [], .cp, none⟩,
                 ⟨(some 2), [24], [.t 24], [], [], .mv, none⟩] [24] [])
              .ret)))))) }

def H_pref10_Read : Hints := [(0, { ops := [(0, { x := 4 })], kt := [], kb := [] }),
  (1, { ops := [(1, { mw := [0], nref := 1 })], kt := [6, 7], kb := [] }),
  (4, { ops := [], kt := [8, 9], kb := [] }),
  (5, { ops := [], kt := [8, 9, 10, 11, 12, 13, 14, 15, 16, 17], kb := [] }),
  (6, { ops := [(0, { take := true }), (2, { mw := [0], nref := 1 })], kt := [13, 14, 15, 16, 17], kb := [] }),
  (7, { ops := [(3, { mr := [0] })], kt := [18, 19, 20, 21], kb := [] }),
  (8, { ops := [(3, { mw := [0], nref := 1 })], kt := [23, 24, 25, 26], kb := [] }),
  (9, { ops := [(3, { mr := [0] })], kt := [27, 28, 29, 30], kb := [] }),
  (10, { ops := [(0, { x := 4 })], kt := [], kb := [] }),
  (11, { ops := [], kt := [32], kb := [] })]
def c_pref10_Read (F : Nat → FuncId) : AFun := { nparams := 1, ntmps := 33, results := [.tmp 2], body :=
  (.seq
    (.reg [⟨(some 2), [], [.c (.sl 1 [])], [], [], .cp, none⟩] [] [])
    (.seq
      (.reg [⟨(some 6), [], [.t 0], [], [], .cp, none⟩,
         ⟨(some 7), [], [.c (.fn (F n_pref02_Reader_Many)), .t 6, .c (.int .i64 8)], [], [0], .call 1 false, none⟩,
         ⟨(some 3), [7], [.t 7], [], [], .mv, none⟩] [6, 7] [])
      (.seq
        (.reg [⟨(some 4), [], [], [], [], .nils 1, none⟩] [] [])
        (.seq
          (.seq
            (.reg [⟨(some 5), [], [.c (.int .i64 0)], [], [], .cp, none⟩] [] [])
            (.block 0
              (.loop
                (.seq
                  (.seq
                    (.reg [⟨(some 8), [], [.t 5], [], [], .cp, none⟩,
                       ⟨(some 9), [], [.t 3], [], [], .cp, none⟩,
                       ⟨(some 10), [], [.t 8, .t 9], [], [], .bini .lss, none⟩] [8, 9] [])
                    (.cond (.t 10)
                      .skip
                      (.exit 0)))
                  (.seq
                    (.block 1
                      (.reg [⟨(some 13), [4], [.t 4], [], [], .mv, none⟩,
                         ⟨(some 14), [], [.t 0], [], [], .cp, none⟩,
                         ⟨(some 15), [], [.c (.fn (F n_pref02_Reader_Text)), .t 14], [], [0], .call 1 false, none⟩,
                         ⟨(some 16), [], [.t 15], [], [], .bslice 1 [.str []] [(0, 1)], none⟩,
                         ⟨(some 17), [13], [.t 13, .t 16], [], [], .append 1 16, none⟩,
                         ⟨(some 4), [17], [.t 17], [], [], .mv, none⟩] [13, 14, 15, 16, 17] []))
                    (.reg [⟨(some 11), [], [.t 5], [], [], .cp, none⟩,
                       ⟨(some 12), [], [.t 11, .c (.int .i64 1)], [], [], .bini .add, none⟩,
                       ⟨(some 5), [12], [.t 12], [], [], .mv, none⟩] [8, 9, 10, 11, 12, 13, 14, 15, 16, 17] []))))))
          (.seq
            (.seq
              (.reg [⟨(some 18), [], [.t 0], [], [], .cp, none⟩,
                 ⟨(some 19), [], [.t 18], [], [], .nilck, none⟩,
                 ⟨(some 20), [], [.t 19], [], [], .faddr 2, none⟩,
                 ⟨(some 21), [], [.t 20], [0], [], .load false 1, none⟩,
                 ⟨(some 22), [], [.t 21, .c (.int .i64 0)], [], [], .bini .eql, none⟩] [18, 19, 20, 21] [])
              (.cond (.t 22)
                (.reg [⟨(some 23), [], [.t 0], [], [], .cp, none⟩,
                   ⟨(some 24), [], [.t 4], [], [], .cp, none⟩,
                   ⟨(some 25), [], [.c (.fn (F n_pref10_Check)), .t 24], [], [], .call 0 false, none⟩,
                   ⟨(some 26), [], [.c (.fn (F n_pref02_Reader_Fail)), .t 23, .t 25], [], [0], .call 1 false, none⟩] [23, 24, 25, 26] [])
                .skip))
            (.seq
              (.seq
                (.reg [⟨(some 27), [], [.t 0], [], [], .cp, none⟩,
                   ⟨(some 28), [], [.t 27], [], [], .nilck, none⟩,
                   ⟨(some 29), [], [.t 28], [], [], .faddr 2, none⟩,
                   ⟨(some 30), [], [.t 29], [0], [], .load false 1, none⟩,
                   ⟨(some 31), [], [.t 30, .c (.int .i64 0)], [], [], .bini .neq, none⟩] [27, 28, 29, 30] [])
                (.cond (.t 31)
                  (.seq
                    (.reg [⟨(some 2), [], [.c (.sl 1 [])], [], [], .cp, none⟩] [] [])
                    .ret)
                  .skip))
              (.seq
                (.reg [⟨(some 32), [], [.t 4], [], [], .cp, none⟩,
                   ⟨(some 2), [32], [.t 32], [], [], .mv, none⟩] [32] [])
                .ret))))))) }

def H_slices_Compare_string_string : Hints := [(3, { ops := [], kt := [13, 14, 15], kb := [] }),
  (4, { ops := [], kt := [16, 17, 18], kb := [] }),
  (6, { ops := [], kt := [20, 21, 22, 23], kb := [] }),
  (7, { ops := [], kt := [24, 25, 26], kb := [] }),
  (8, { ops := [], kt := [27], kb := [] }),
  (9, { ops := [], kt := [29], kb := [] }),
  (10, { ops := [], kt := [5, 6, 7, 8, 12, 13, 14, 15, 16, 17, 18, 19, 20, 21, 22, 23, 24, 25, 26, 27, 28, 29, 30], kb := [] }),
  (11, { ops := [], kt := [31, 32, 33, 34], kb := [] })]
def c_slices_Compare_string_string (F : Nat → FuncId) : AFun := { nparams := 2, ntmps := 36, results := [.tmp 4], body :=
  (.seq
    (.reg [⟨(some 4), [], [.c (.int .i64 0)], [], [], .cp, none⟩] [] [])
    (.seq
      (.seq
        (.reg [⟨(some 9), [], [.t 0], [], [], .cp, none⟩,
           ⟨(some 10), [], [.t 9], [], [], .len false, none⟩,
           ⟨(some 11), [], [.c (.int .i64 0)], [], [], .cp, none⟩] [] [])
        (.block 0
          (.loop
            (.seq
              (.reg [⟨(some 12), [], [.t 11, .t 10], [], [], .bini .lss, none⟩] [] [])
              (.seq
                (.cond (.t 12)
                  .skip
                  (.exit 0))
                (.seq
                  (.block 1
                    (.seq
                      (.reg [⟨(some 13), [], [.t 11], [], [], .cp, none⟩,
                         ⟨(some 14), [], [.t 9, .t 11], [], [], .iaddr none 1, none⟩,
                         ⟨(some 15), [], [.t 14], [], [], .load false 1, none⟩,
                         ⟨(some 5), [13], [.t 13], [], [], .mv, none⟩,
                         ⟨(some 6), [15], [.t 15], [], [], .mv, none⟩] [13, 14, 15] [])
                      (.seq
                        (.seq
                          (.reg [⟨(some 16), [], [.t 5], [], [], .cp, none⟩,
                             ⟨(some 17), [], [.t 1], [], [], .cp, none⟩,
                             ⟨(some 18), [], [.t 17], [], [], .len false, none⟩,
                             ⟨(some 19), [], [.t 16, .t 18], [], [], .bini .geq, none⟩] [16, 17, 18] [])
                          (.cond (.t 19)
                            (.seq
                              (.reg [⟨(some 4), [], [.c (.int .i64 1)], [], [], .cp, none⟩] [] [])
                              .ret)
                            .skip))
                        (.seq
                          (.reg [⟨(some 20), [], [.t 1], [], [], .cp, none⟩,
                             ⟨(some 21), [], [.t 5], [], [], .cp, none⟩,
                             ⟨(some 22), [], [.t 20, .t 21], [], [], .iaddr none 1, none⟩,
                             ⟨(some 23), [], [.t 22], [], [], .load false 1, none⟩,
                             ⟨(some 7), [23], [.t 23], [], [], .mv, none⟩] [20, 21, 22, 23] [])
                          (.seq
                            (.reg [⟨(some 24), [], [.t 6], [], [], .cp, none⟩,
                               ⟨(some 25), [], [.t 7], [], [], .cp, none⟩,
                               ⟨(some 26), [], [.c (.fn (F n_cmp_Compare_string)), .t 24, .t 25], [], [], .call 0 false, none⟩,
                               ⟨(some 8), [26], [.t 26], [], [], .mv, none⟩] [24, 25, 26] [])
                            (.seq
                              (.reg [⟨(some 27), [], [.t 8], [], [], .cp, none⟩,
                                 ⟨(some 28), [], [.t 27, .c (.int .i64 0)], [], [], .bini .neq, none⟩] [27] [])
                              (.cond (.t 28)
                                (.seq
                                  (.reg [⟨(some 29), [], [.t 8], [], [], .cp, none⟩,
                                     ⟨(some 4), [29], [.t 29], [], [], .mv, none⟩] [29] [])
                                  .ret)
                                .skip)))))))
                  (.reg [⟨(some 30), [], [.t 11, .c (.int .i64 1)], [], [], .bini .add, none⟩,
                     ⟨(some 11), [], [.t 30], [], [], .cp, none⟩] [5, 6, 7, 8, 12, 13, 14, 15, 16, 17, 18, 19, 20, 21, 22, 23, 24, 25, 26, 27, 28, 29, 30] [])))))))
      (.seq
        (.seq
          (.reg [⟨(some 31), [], [.t 0], [], [], .cp, none⟩,
             ⟨(some 32), [], [.t 31], [], [], .len false, none⟩,
             ⟨(some 33), [], [.t 1], [], [], .cp, none⟩,
             ⟨(some 34), [], [.t 33], [], [], .len false, none⟩,
             ⟨(some 35), [], [.t 32, .t 34], [], [], .bini .lss, none⟩] [31, 32, 33, 34] [])
          (.cond (.t 35)
            (.seq
              (.reg [⟨(some 4), [], [.c (.int .i64 (-1))], [], [], .cp, none⟩] [] [])
              .ret)
            .skip))
        (.seq
          (.reg [⟨(some 4), [], [.c (.int .i64 0)], [], [], .cp, none⟩] [] [])
          .ret)))) }

def H_slices_Equal_string_string : Hints := [(1, { ops := [], kt := [6, 7, 8, 9], kb := [] }),
  (3, { ops := [], kt := [11], kb := [] }),
  (5, { ops := [], kt := [15], kb := [] }),
  (6, { ops := [], kt := [16, 17, 18, 19, 20, 21, 22, 23], kb := [] }),
  (8, { ops := [], kt := [5, 14, 15, 16, 17, 18, 19, 20, 21, 22, 23, 24, 25], kb := [] })]
def c_slices_Equal_string_string (F : Nat → FuncId) : AFun := { nparams := 2, ntmps := 26, results := [.tmp 4], body :=
  (.seq
    (.reg [⟨(some 4), [], [.c (.bool false)], [], [], .cp, none⟩] [] [])
    (.seq
      (.seq
        (.reg [⟨(some 6), [], [.t 0], [], [], .cp, none⟩,
           ⟨(some 7), [], [.t 6], [], [], .len false, none⟩,
           ⟨(some 8), [], [.t 1], [], [], .cp, none⟩,
           ⟨(some 9), [], [.t 8], [], [], .len false, none⟩,
           ⟨(some 10), [], [.t 7, .t 9], [], [], .bini .neq, none⟩] [6, 7, 8, 9] [])
        (.cond (.t 10)
          (.seq
            (.reg [⟨(some 4), [], [.c (.bool false)], [], [], .cp, none⟩] [] [])
            .ret)
          .skip))
      (.seq
        (.seq
          (.reg [⟨(some 11), [], [.t 0], [], [], .cp, none⟩,
             ⟨(some 12), [], [.t 11], [], [], .len false, none⟩,
             ⟨(some 13), [], [.c (.int .i64 0)], [], [], .cp, none⟩] [11] [])
          (.block 0
            (.loop
              (.seq
                (.reg [⟨(some 14), [], [.t 13, .t 12], [], [], .bini .lss, none⟩] [] [])
                (.seq
                  (.cond (.t 14)
                    .skip
                    (.exit 0))
                  (.seq
                    (.block 1
                      (.seq
                        (.reg [⟨(some 15), [], [.t 13], [], [], .cp, none⟩,
                           ⟨(some 5), [15], [.t 15], [], [], .mv, none⟩] [15] [])
                        (.seq
                          (.reg [⟨(some 16), [], [.t 0], [], [], .cp, none⟩,
                             ⟨(some 17), [], [.t 5], [], [], .cp, none⟩,
                             ⟨(some 18), [], [.t 16, .t 17], [], [], .iaddr none 1, none⟩,
                             ⟨(some 19), [], [.t 18], [], [], .load false 1, none⟩,
                             ⟨(some 20), [], [.t 1], [], [], .cp, none⟩,
                             ⟨(some 21), [], [.t 5], [], [], .cp, none⟩,
                             ⟨(some 22), [], [.t 20, .t 21], [], [], .iaddr none 1, none⟩,
                             ⟨(some 23), [], [.t 22], [], [], .load false 1, none⟩,
                             ⟨(some 24), [], [.t 19, .t 23], [], [], .bins .neq, none⟩] [16, 17, 18, 19, 20, 21, 22, 23] [])
                          (.cond (.t 24)
                            (.seq
                              (.reg [⟨(some 4), [], [.c (.bool false)], [], [], .cp, none⟩] [] [])
                              .ret)
                            .skip))))
                    (.reg [⟨(some 25), [], [.t 13, .c (.int .i64 1)], [], [], .bini .add, none⟩,
                       ⟨(some 13), [], [.t 25], [], [], .cp, none⟩] [5, 14, 15, 16, 17, 18, 19, 20, 21, 22, 23, 24, 25] [])))))))
        (.seq
          (.reg [⟨(some 4), [], [.c (.bool true)], [], [], .cp, none⟩] [] [])
          .ret)))) }

def H_slices_ContainsFunc_string_string : Hints := [(1, { ops := [], kt := [5, 6, 7, 8], kb := [] })]
def c_slices_ContainsFunc_string_string (F : Nat → FuncId) : AFun := { nparams := 2, ntmps := 9, results := [.tmp 4], body :=
  (.seq
    (.reg [⟨(some 4), [], [.c (.bool false)], [], [], .cp, none⟩] [] [])
    (.seq
      (.reg [⟨(some 5), [], [.t 0], [], [], .cp, none⟩,
         ⟨(some 6), [], [.t 1], [], [], .cp, none⟩,
         ⟨(some 7), [], [.c (.fn (F n_slices_IndexFunc_string_string)), .t 5, .t 6], [], [], .call 0 false, none⟩,
         ⟨(some 8), [], [.t 7, .c (.int .i64 0)], [], [], .bini .geq, none⟩,
         ⟨(some 4), [8], [.t 8], [], [], .mv, none⟩] [5, 6, 7, 8] [])
      .ret)) }

def H_path_Check_1 : Hints := [(1, { ops := [], kt := [3, 4, 5], kb := [] })]
def c_path_Check_1 (F : Nat → FuncId) : AFun := { nparams := 1, ntmps := 6, results := [.tmp 2], body :=
  (.seq
    (.reg [⟨(some 2), [], [.c (.bool false)], [], [], .cp, none⟩] [] [])
    (.seq
      (.reg [⟨(some 3), [], [.t 0], [], [], .cp, none⟩,
         ⟨(some 4), [], [.c (.fn (F n_name_Right)), .t 3], [], [], .call 0 false, none⟩,
         ⟨(some 5), [], [.t 4], [], [], .not, none⟩,
         ⟨(some 2), [5], [.t 5], [], [], .mv, none⟩] [3, 4, 5] [])
      .ret)) }

def H_pref09_Texts : Hints := [(2, { ops := [], kt := [6, 7, 8, 9, 10, 11, 12, 13, 14], kb := [] }),
  (3, { ops := [], kt := [6, 7, 8, 9, 10, 11, 12, 13, 14, 15, 16, 17, 18, 19, 20, 21, 22, 23, 24, 25, 26, 27, 28, 29, 30, 31, 32, 33], kb := [] }),
  (4, { ops := [], kt := [18, 19, 20, 21, 22, 23], kb := [] }),
  (5, { ops := [], kt := [25, 26, 27, 28, 29, 30, 31, 32, 33], kb := [] }),
  (6, { ops := [], kt := [34, 35, 36, 37, 38], kb := [] })]
def c_pref09_Texts (F : Nat → FuncId) : AFun := { nparams := 2, ntmps := 39, results := [.tmp 4], body :=
  (.seq
    (.reg [⟨(some 4), [], [.c (.int .i64 0)], [], [], .cp, none⟩] [] [])
    (.seq
      (.seq
        (.reg [⟨(some 5), [], [.c (.int .i64 0)], [], [], .cp, none⟩] [] [])
        (.block 0
          (.loop
            (.seq
              (.seq
                (.reg [⟨(some 6), [], [.t 5], [], [], .cp, none⟩,
                   ⟨(some 7), [], [.t 0], [], [], .cp, none⟩,
                   ⟨(some 8), [], [.t 7], [], [], .len true, none⟩,
                   ⟨(some 9), [], [.t 6, .t 8], [], [], .bini .lss, none⟩,
                   ⟨(some 10), [], [.t 9], [], [], .cp, none⟩,
                   ⟨(some 11), [], [.t 5], [], [], .cp, some (10, true)⟩,
                   ⟨(some 12), [], [.t 1], [], [], .cp, some (10, true)⟩,
                   ⟨(some 13), [], [.t 12], [], [], .len true, some (10, true)⟩,
                   ⟨(some 14), [], [.t 11, .t 13], [], [], .bini .lss, some (10, true)⟩,
                   ⟨(some 15), [], [.t 10, .t 14, .c (.bool false)], [], [], .pick, none⟩] [6, 7, 8, 9, 10, 11, 12, 13, 14] [])
                (.cond (.t 15)
                  .skip
                  (.exit 0)))
              (.seq
                (.block 1
                  (.seq
                    (.reg [⟨(some 18), [], [.t 0], [], [], .cp, none⟩,
                       ⟨(some 19), [], [.t 5], [], [], .cp, none⟩,
                       ⟨(some 20), [], [.t 18, .t 19], [], [], .indexs, none⟩,
                       ⟨(some 21), [], [.t 1], [], [], .cp, none⟩,
                       ⟨(some 22), [], [.t 5], [], [], .cp, none⟩,
                       ⟨(some 23), [], [.t 21, .t 22], [], [], .indexs, none⟩,
                       ⟨(some 24), [], [.t 20, .t 23], [], [], .bini .neq, none⟩] [18, 19, 20, 21, 22, 23] [])
                    (.cond (.t 24)
                      (.seq
                        (.reg [⟨(some 25), [], [.t 0], [], [], .cp, none⟩,
                           ⟨(some 26), [], [.t 5], [], [], .cp, none⟩,
                           ⟨(some 27), [], [.t 25, .t 26], [], [], .indexs, none⟩,
                           ⟨(some 28), [], [.t 27], [], [], .conv .i64, none⟩,
                           ⟨(some 29), [], [.t 1], [], [], .cp, none⟩,
                           ⟨(some 30), [], [.t 5], [], [], .cp, none⟩,
                           ⟨(some 31), [], [.t 29, .t 30], [], [], .indexs, none⟩,
                           ⟨(some 32), [], [.t 31], [], [], .conv .i64, none⟩,
                           ⟨(some 33), [], [.c (.fn (F n_pref09_ints)), .t 28, .t 32], [], [], .call 0 false, none⟩,
                           ⟨(some 4), [33], [.t 33], [], [], .mv, none⟩] [25, 26, 27, 28, 29, 30, 31, 32, 33] [])
                        .ret)
                      .skip)))
                (.reg [⟨(some 16), [], [.t 5], [], [], .cp, none⟩,
                   ⟨(some 17), [], [.t 16, .c (.int .i64 1)], [], [], .bini .add, none⟩,
                   ⟨(some 5), [17], [.t 17], [], [], .mv, none⟩] [6, 7, 8, 9, 10, 11, 12, 13, 14, 15, 16, 17, 18, 19, 20, 21, 22, 23, 24, 25, 26, 27, 28, 29, 30, 31, 32, 33] []))))))
      (.seq
        (.reg [⟨(some 34), [], [.t 0], [], [], .cp, none⟩,
           ⟨(some 35), [], [.t 34], [], [], .len true, none⟩,
           ⟨(some 36), [], [.t 1], [], [], .cp, none⟩,
           ⟨(some 37), [], [.t 36], [], [], .len true, none⟩,
           ⟨(some 38), [], [.c (.fn (F n_pref09_ints)), .t 35, .t 37], [], [], .call 0 false, none⟩,
           ⟨(some 4), [38], [.t 38], [], [], .mv, none⟩] [34, 35, 36, 37, 38] [])
        .ret))) }

def H_cmp_Compare_string : Hints := [(1, { ops := [], kt := [7, 8], kb := [] }),
  (2, { ops := [], kt := [9, 10], kb := [] }),
  (9, { ops := [], kt := [14, 15], kb := [] }),
  (11, { ops := [], kt := [17, 18], kb := [] })]
def c_cmp_Compare_string (F : Nat → FuncId) : AFun := { nparams := 2, ntmps := 20, results := [.tmp 4], body :=
  (.seq
    (.reg [⟨(some 4), [], [.c (.int .i64 0)], [], [], .cp, none⟩] [] [])
    (.seq
      (.reg [⟨(some 7), [], [.t 0], [], [], .cp, none⟩,
         ⟨(some 8), [], [.c (.fn (F n_cmp_isNaN_string)), .t 7], [], [], .call 0 false, none⟩,
         ⟨(some 5), [8], [.t 8], [], [], .mv, none⟩] [7, 8] [])
      (.seq
        (.reg [⟨(some 9), [], [.t 1], [], [], .cp, none⟩,
           ⟨(some 10), [], [.c (.fn (F n_cmp_isNaN_string)), .t 9], [], [], .call 0 false, none⟩,
           ⟨(some 6), [10], [.t 10], [], [], .mv, none⟩] [9, 10] [])
        (.seq
          (.seq
            (.reg [⟨(some 11), [], [.t 5], [], [], .cp, none⟩] [] [])
            (.cond (.t 11)
              (.seq
                (.seq
                  (.reg [⟨(some 12), [], [.t 6], [], [], .cp, none⟩] [] [])
                  (.cond (.t 12)
                    (.seq
                      (.reg [⟨(some 4), [], [.c (.int .i64 0)], [], [], .cp, none⟩] [] [])
                      .ret)
                    .skip))
                (.seq
                  (.reg [⟨(some 4), [], [.c (.int .i64 (-1))], [], [], .cp, none⟩] [] [])
                  .ret))
              .skip))
          (.seq
            (.seq
              (.reg [⟨(some 13), [], [.t 6], [], [], .cp, none⟩] [] [])
              (.cond (.t 13)
                (.seq
                  (.reg [⟨(some 4), [], [.c (.int .i64 1)], [], [], .cp, none⟩] [] [])
                  .ret)
                .skip))
            (.seq
              (.seq
                (.reg [⟨(some 14), [], [.t 0], [], [], .cp, none⟩,
                   ⟨(some 15), [], [.t 1], [], [], .cp, none⟩,
                   ⟨(some 16), [], [.t 14, .t 15], [], [], .bins .lss, none⟩] [14, 15] [])
                (.cond (.t 16)
                  (.seq
                    (.reg [⟨(some 4), [], [.c (.int .i64 (-1))], [], [], .cp, none⟩] [] [])
                    .ret)
                  .skip))
              (.seq
                (.seq
                  (.reg [⟨(some 17), [], [.t 0], [], [], .cp, none⟩,
                     ⟨(some 18), [], [.t 1], [], [], .cp, none⟩,
                     ⟨(some 19), [], [.t 17, .t 18], [], [], .bins .gtr, none⟩] [17, 18] [])
                  (.cond (.t 19)
                    (.seq
                      (.reg [⟨(some 4), [], [.c (.int .i64 1)], [], [], .cp, none⟩] [] [])
                      .ret)
                    .skip))
                (.seq
                  (.reg [⟨(some 4), [], [.c (.int .i64 0)], [], [], .cp, none⟩] [] [])
                  .ret)))))))) }

def H_slices_IndexFunc_string_string : Hints := [(1, { ops := [], kt := [6], kb := [] }),
  (3, { ops := [], kt := [10], kb := [] }),
  (4, { ops := [], kt := [11, 12, 13, 14, 15], kb := [] }),
  (5, { ops := [], kt := [17], kb := [] }),
  (6, { ops := [], kt := [5, 9, 10, 11, 12, 13, 14, 15, 16, 17, 18], kb := [] })]
def c_slices_IndexFunc_string_string (F : Nat → FuncId) : AFun := { nparams := 2, ntmps := 19, results := [.tmp 4], body :=
  (.seq
    (.reg [⟨(some 4), [], [.c (.int .i64 0)], [], [], .cp, none⟩] [] [])
    (.seq
      (.seq
        (.reg [⟨(some 6), [], [.t 0], [], [], .cp, none⟩,
           ⟨(some 7), [], [.t 6], [], [], .len false, none⟩,
           ⟨(some 8), [], [.c (.int .i64 0)], [], [], .cp, none⟩] [6] [])
        (.block 0
          (.loop
            (.seq
              (.reg [⟨(some 9), [], [.t 8, .t 7], [], [], .bini .lss, none⟩] [] [])
              (.seq
                (.cond (.t 9)
                  .skip
                  (.exit 0))
                (.seq
                  (.block 1
                    (.seq
                      (.reg [⟨(some 10), [], [.t 8], [], [], .cp, none⟩,
                         ⟨(some 5), [10], [.t 10], [], [], .mv, none⟩] [10] [])
                      (.seq
                        (.reg [⟨(some 11), [], [.t 1], [], [], .cp, none⟩,
                           ⟨(some 12), [], [.t 0], [], [], .cp, none⟩,
                           ⟨(some 13), [], [.t 5], [], [], .cp, none⟩,
                           ⟨(some 14), [], [.t 12, .t 13], [], [], .iaddr none 1, none⟩,
                           ⟨(some 15), [], [.t 14], [], [], .load false 1, none⟩,
                           ⟨(some 16), [], [.t 11, .t 15], [], [], .call 0 false, none⟩] [11, 12, 13, 14, 15] [])
                        (.cond (.t 16)
                          (.seq
                            (.reg [⟨(some 17), [], [.t 5], [], [], .cp, none⟩,
                               ⟨(some 4), [17], [.t 17], [], [], .mv, none⟩] [17] [])
                            .ret)
                          .skip))))
                  (.reg [⟨(some 18), [], [.t 8, .c (.int .i64 1)], [], [], .bini .add, none⟩,
                     ⟨(some 8), [], [.t 18], [], [], .cp, none⟩] [5, 9, 10, 11, 12, 13, 14, 15, 16, 17, 18] [])))))))
      (.seq
        (.reg [⟨(some 4), [], [.c (.int .i64 (-1))], [], [], .cp, none⟩] [] [])
        .ret))) }

def H_pref09_ints : Hints := [(1, { ops := [], kt := [5, 6], kb := [] }),
  (3, { ops := [], kt := [8, 9], kb := [] })]
def c_pref09_ints (F : Nat → FuncId) : AFun := { nparams := 2, ntmps := 11, results := [.tmp 4], body :=
  (.seq
    (.reg [⟨(some 4), [], [.c (.int .i64 0)], [], [], .cp, none⟩] [] [])
    (.seq
      (.seq
        (.reg [⟨(some 5), [], [.t 0], [], [], .cp, none⟩,
           ⟨(some 6), [], [.t 1], [], [], .cp, none⟩,
           ⟨(some 7), [], [.t 5, .t 6], [], [], .bini .lss, none⟩] [5, 6] [])
        (.cond (.t 7)
          (.seq
            (.reg [⟨(some 4), [], [.c (.int .i64 (-1))], [], [], .cp, none⟩] [] [])
            .ret)
          .skip))
      (.seq
        (.seq
          (.reg [⟨(some 8), [], [.t 0], [], [], .cp, none⟩,
             ⟨(some 9), [], [.t 1], [], [], .cp, none⟩,
             ⟨(some 10), [], [.t 8, .t 9], [], [], .bini .gtr, none⟩] [8, 9] [])
          (.cond (.t 10)
            (.seq
              (.reg [⟨(some 4), [], [.c (.int .i64 1)], [], [], .cp, none⟩] [] [])
              .ret)
            .skip))
        (.seq
          (.reg [⟨(some 4), [], [.c (.int .i64 0)], [], [], .cp, none⟩] [] [])
          .ret)))) }

def H_cmp_isNaN_string : Hints := [(1, { ops := [], kt := [3, 4, 5], kb := [] })]
def c_cmp_isNaN_string (F : Nat → FuncId) : AFun := { nparams := 1, ntmps := 6, results := [.tmp 2], body :=
  (.seq
    (.reg [⟨(some 2), [], [.c (.bool false)], [], [], .cp, none⟩] [] [])
    (.seq
      (.reg [⟨(some 3), [], [.t 0], [], [], .cp, none⟩,
         ⟨(some 4), [], [.t 0], [], [], .cp, none⟩,
         ⟨(some 5), [], [.t 3, .t 4], [], [], .bins .neq, none⟩,
         ⟨(some 2), [5], [.t 5], [], [], .mv, none⟩] [3, 4, 5] [])
      .ret)) }

end Go.AR

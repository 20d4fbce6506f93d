import Derived.Test.YteombjhaanohiaaComp
import Derived.Test.YteombjhaanohiaaNames
set_option linter.all false
/-! Codes, printed by program. -/
namespace Go.AR
def H_plaw07_MatrixRises : Hints := [(1, { ops := [(0, { mr := [5] }), (2, { mw := [11] })], kt := [13], kb := [] }),
  (2, { ops := [(0, { mr := [11] }), (2, { mr := [7] }), (5, { mw := [12] })], kt := [14, 15, 16, 17], kb := [] }),
  (3, { ops := [(0, { mr := [11] }), (3, { mr := [12] }), (9, { mr := [11] }), (11, { mr := [9] }), (14, { mr := [12] }), (16, { mr := [9] })], kt := [18, 19, 20, 21, 22, 23, 24, 25, 26, 27, 28, 29, 30, 31, 32, 33, 34, 35, 36, 37], kb := [] }),
  (5, { ops := [(7, { mr := [11] }), (10, { mr := [9] }), (15, { mr := [11] }), (17, { mr := [9] })], kt := [39, 40, 41, 42, 43, 44, 45, 46, 47, 48, 49, 50, 51, 52, 53, 54, 55, 56, 57, 58, 59, 60, 61], kb := [] })]
def c_plaw07_MatrixRises (F : Nat → FuncId) : AFun := { nparams := 5, ntmps := 62, results := [.tmp 10], body :=
  (.seq
    (.reg [⟨(some 5), [], [.t 0], [], [5], .box, none⟩,
       ⟨(some 7), [], [.t 2], [], [7], .box, none⟩,
       ⟨(some 9), [], [.t 4], [], [9], .box, none⟩,
       ⟨(some 10), [], [.c (.bool false)], [], [], .cp, none⟩] [] [])
    (.seq
      (.reg [⟨(some 13), [], [.t 5], [5], [], .load true 256, none⟩,
         ⟨(some 11), [], [], [], [11], .alloc (List.replicate 256 (.val (.int .i64 0))), none⟩,
         ⟨none, [13], [.t 11, .t 13], [], [11], .store true 256, none⟩] [13] [])
      (.seq
        (.reg [⟨(some 14), [], [.t 11], [11], [], .load true 256, none⟩,
           ⟨(some 15), [], [.t 1], [], [], .cp, none⟩,
           ⟨(some 16), [], [.t 7], [7], [], .load true 16, none⟩,
           ⟨(some 17), [], [.c (.fn (F n_matrix_Matrix_Learn)), .t 14, .t 15, .t 16], [], [], .call 0 false, none⟩,
           ⟨(some 12), [], [], [], [12], .alloc (List.replicate 256 (.val (.int .i64 0))), none⟩,
           ⟨none, [17], [.t 12, .t 17], [], [12], .store true 256, none⟩] [14, 15, 16, 17] [])
        (.seq
          (.seq
            (.reg [⟨(some 18), [], [.t 11], [11], [], .load true 256, none⟩,
               ⟨(some 19), [], [.t 3], [], [], .cp, none⟩,
               ⟨(some 20), [], [.c (.fn (F n_matrix_Matrix_Frontier)), .t 18, .t 19], [], [], .call 0 false, none⟩,
               ⟨(some 21), [], [.t 12], [12], [], .load true 256, none⟩,
               ⟨(some 22), [], [.t 3], [], [], .cp, none⟩,
               ⟨(some 23), [], [.c (.fn (F n_matrix_Matrix_Frontier)), .t 21, .t 22], [], [], .call 0 false, none⟩,
               ⟨(some 24), [], [.c (.fn (F n_pref05_Within)), .t 20, .t 23], [], [], .call 0 false, none⟩,
               ⟨(some 25), [], [.t 24], [], [], .not, none⟩,
               ⟨(some 26), [], [.t 25], [], [], .cp, none⟩,
               ⟨(some 27), [], [.t 11], [11], [], .load true 256, some (26, false)⟩,
               ⟨(some 28), [], [.t 3], [], [], .cp, some (26, false)⟩,
               ⟨(some 29), [], [.t 9], [9], [], .load true 2, some (26, false)⟩,
               ⟨(some 30), [], [.c (.fn (F n_matrix_Matrix_Stable)), .t 27, .t 28, .t 29], [], [], .call 0 false, some (26, false)⟩,
               ⟨(some 31), [], [.t 30], [], [], .cp, some (26, false)⟩,
               ⟨(some 32), [], [.t 12], [12], [], .load true 256, some (31, true)⟩,
               ⟨(some 33), [], [.t 3], [], [], .cp, some (31, true)⟩,
               ⟨(some 34), [], [.t 9], [9], [], .load true 2, some (31, true)⟩,
               ⟨(some 35), [], [.c (.fn (F n_matrix_Matrix_Stable)), .t 32, .t 33, .t 34], [], [], .call 0 false, some (31, true)⟩,
               ⟨(some 36), [], [.t 35], [], [], .not, some (31, true)⟩,
               ⟨(some 37), [], [.t 31, .t 36, .c (.bool false)], [], [], .pick, some (26, false)⟩,
               ⟨(some 38), [], [.t 26, .c (.bool true), .t 37], [], [], .pick, none⟩] [18, 19, 20, 21, 22, 23, 24, 25, 26, 27, 28, 29, 30, 31, 32, 33, 34, 35, 36, 37] [])
            (.cond (.t 38)
              (.seq
                (.reg [⟨(some 10), [], [.c (.bool false)], [], [], .cp, none⟩] [] [])
                .ret)
              .skip))
          (.seq
            (.reg [⟨(some 39), [], [.t 3], [], [], .cp, none⟩,
               ⟨(some 40), [], [.t 39, .c (.int .i64 1)], [], [], .bini .lss, none⟩,
               ⟨(some 41), [], [.t 40], [], [], .cp, none⟩,
               ⟨(some 42), [], [.t 3], [], [], .cp, some (41, false)⟩,
               ⟨(some 43), [], [.t 42, .c (.int .i64 15)], [], [], .bini .gtr, some (41, false)⟩,
               ⟨(some 44), [], [.t 41, .c (.bool true), .t 43], [], [], .pick, none⟩,
               ⟨(some 45), [], [.t 44], [], [], .cp, none⟩,
               ⟨(some 46), [], [.t 11], [11], [], .load true 256, some (45, false)⟩,
               ⟨(some 47), [], [.t 3], [], [], .cp, some (45, false)⟩,
               ⟨(some 48), [], [.t 47, .c (.int .i64 1)], [], [], .bini .add, some (45, false)⟩,
               ⟨(some 49), [], [.t 9], [9], [], .load true 2, some (45, false)⟩,
               ⟨(some 50), [], [.c (.fn (F n_matrix_Matrix_Stable)), .t 46, .t 48, .t 49], [], [], .call 0 false, some (45, false)⟩,
               ⟨(some 51), [], [.t 50], [], [], .not, some (45, false)⟩,
               ⟨(some 52), [], [.t 45, .c (.bool true), .t 51], [], [], .pick, none⟩,
               ⟨(some 53), [], [.t 52], [], [], .cp, none⟩,
               ⟨(some 54), [], [.t 11], [11], [], .load true 256, some (53, false)⟩,
               ⟨(some 55), [], [.t 3], [], [], .cp, some (53, false)⟩,
               ⟨(some 56), [], [.t 9], [9], [], .load true 2, some (53, false)⟩,
               ⟨(some 57), [], [.c (.fn (F n_matrix_Matrix_Stable)), .t 54, .t 55, .t 56], [], [], .call 0 false, some (53, false)⟩,
               ⟨(some 58), [], [.t 53, .c (.bool true), .t 57], [], [], .pick, none⟩,
               ⟨(some 59), [], [.t 58], [], [], .cp, none⟩,
               ⟨(some 60), [], [.c (.fn (F n_plaw07_awake))], [], [], .call 0 false, some (59, true)⟩,
               ⟨(some 61), [], [.t 59, .t 60, .c (.bool false)], [], [], .pick, none⟩,
               ⟨(some 10), [61], [.t 61], [], [], .mv, none⟩] [39, 40, 41, 42, 43, 44, 45, 46, 47, 48, 49, 50, 51, 52, 53, 54, 55, 56, 57, 58, 59, 60, 61] [])
            .ret))))) }

def H_plaw07_MatrixStable : Hints := [(1, { ops := [(0, { mr := [3] }), (2, { mw := [7] })], kt := [10], kb := [] }),
  (2, { ops := [], kt := [11, 12, 13, 14, 15, 16], kb := [] }),
  (4, { ops := [], kt := [17, 18, 19, 20, 21, 22], kb := [] }),
  (5, { ops := [], kt := [17, 18, 19, 20, 21, 22, 23, 24, 25, 26, 27, 28, 29, 30, 31, 32, 33], kb := [] }),
  (6, { ops := [(4, { mr := [3] }), (5, { mr := [5] })], kt := [26, 27, 28, 29, 30, 31, 32, 33], kb := [] }),
  (7, { ops := [(0, { mr := [7] }), (2, { mr := [5] })], kt := [34, 35, 36, 37, 38, 39, 40, 41, 42], kb := [] })]
def c_plaw07_MatrixStable (F : Nat → FuncId) : AFun := { nparams := 3, ntmps := 43, results := [.tmp 6], body :=
  (.seq
    (.reg [⟨(some 3), [], [.t 0], [], [3], .box, none⟩,
       ⟨(some 5), [], [.t 2], [], [5], .box, none⟩,
       ⟨(some 6), [], [.c (.bool false)], [], [], .cp, none⟩] [] [])
    (.seq
      (.reg [⟨(some 10), [], [.t 3], [3], [], .load true 256, none⟩,
         ⟨(some 7), [], [], [], [7], .alloc (List.replicate 256 (.val (.int .i64 0))), none⟩,
         ⟨none, [10], [.t 7, .t 10], [], [7], .store true 256, none⟩] [10] [])
      (.seq
        (.reg [⟨(some 11), [], [.t 1], [], [], .cp, none⟩,
           ⟨(some 12), [], [.t 11, .c (.int .i64 1)], [], [], .bini .geq, none⟩,
           ⟨(some 13), [], [.t 12], [], [], .cp, none⟩,
           ⟨(some 14), [], [.t 1], [], [], .cp, some (13, true)⟩,
           ⟨(some 15), [], [.t 14, .c (.int .i64 16)], [], [], .bini .leq, some (13, true)⟩,
           ⟨(some 16), [], [.t 13, .t 15, .c (.bool false)], [], [], .pick, none⟩,
           ⟨(some 8), [16], [.t 16], [], [], .mv, none⟩] [11, 12, 13, 14, 15, 16] [])
        (.seq
          (.seq
            (.reg [⟨(some 9), [], [.c (.int .i64 0)], [], [], .cp, none⟩] [] [])
            (.block 0
              (.loop
                (.seq
                  (.seq
                    (.reg [⟨(some 17), [], [.t 9], [], [], .cp, none⟩,
                       ⟨(some 18), [], [.t 17, .c (.int .i64 16)], [], [], .bini .lss, none⟩,
                       ⟨(some 19), [], [.t 18], [], [], .cp, none⟩,
                       ⟨(some 20), [], [.t 9], [], [], .cp, some (19, true)⟩,
                       ⟨(some 21), [], [.t 1], [], [], .cp, some (19, true)⟩,
                       ⟨(some 22), [], [.t 20, .t 21], [], [], .bini .lss, some (19, true)⟩,
                       ⟨(some 23), [], [.t 19, .t 22, .c (.bool false)], [], [], .pick, none⟩] [17, 18, 19, 20, 21, 22] [])
                    (.cond (.t 23)
                      .skip
                      (.exit 0)))
                  (.seq
                    (.block 1
                      (.reg [⟨(some 26), [], [.t 8], [], [], .cp, none⟩,
                         ⟨(some 27), [], [.t 26], [], [], .cp, none⟩,
                         ⟨(some 28), [], [.t 9], [], [], .cp, some (27, true)⟩,
                         ⟨(some 29), [], [.t 3, .t 28], [], [], .iaddr (some 16) 16, some (27, true)⟩,
                         ⟨(some 30), [], [.t 29], [3], [], .load true 16, some (27, true)⟩,
                         ⟨(some 31), [], [.t 5], [5], [], .load true 2, some (27, true)⟩,
                         ⟨(some 32), [], [.c (.fn (F n_pref05_Has)), .t 30, .t 31], [], [], .call 0 false, some (27, true)⟩,
                         ⟨(some 33), [], [.t 27, .t 32, .c (.bool false)], [], [], .pick, none⟩,
                         ⟨(some 8), [33], [.t 33], [], [], .mv, none⟩] [26, 27, 28, 29, 30, 31, 32, 33] []))
                    (.reg [⟨(some 24), [], [.t 9], [], [], .cp, none⟩,
                       ⟨(some 25), [], [.t 24, .c (.int .i64 1)], [], [], .bini .add, none⟩,
                       ⟨(some 9), [25], [.t 25], [], [], .mv, none⟩] [17, 18, 19, 20, 21, 22, 23, 24, 25, 26, 27, 28, 29, 30, 31, 32, 33] []))))))
          (.seq
            (.reg [⟨(some 34), [], [.t 7], [7], [], .load true 256, none⟩,
               ⟨(some 35), [], [.t 1], [], [], .cp, none⟩,
               ⟨(some 36), [], [.t 5], [5], [], .load true 2, none⟩,
               ⟨(some 37), [], [.c (.fn (F n_matrix_Matrix_Stable)), .t 34, .t 35, .t 36], [], [], .call 0 false, none⟩,
               ⟨(some 38), [], [.t 8], [], [], .cp, none⟩,
               ⟨(some 39), [], [.t 37, .t 38], [], [], .binb false, none⟩,
               ⟨(some 40), [], [.t 39], [], [], .cp, none⟩,
               ⟨(some 41), [], [.c (.fn (F n_plaw07_awake))], [], [], .call 0 false, some (40, true)⟩,
               ⟨(some 42), [], [.t 40, .t 41, .c (.bool false)], [], [], .pick, none⟩,
               ⟨(some 6), [42], [.t 42], [], [], .mv, none⟩] [34, 35, 36, 37, 38, 39, 40, 41, 42] [])
            .ret))))) }

def H_plaw07_MatrixTells : Hints := [(1, { ops := [(0, { mr := [5] }), (2, { mw := [11] })], kt := [13], kb := [] }),
  (2, { ops := [(2, { mw := [12] })], kt := [14], kb := [] }),
  (3, { ops := [], kt := [15, 16, 17, 18, 19], kb := [] }),
  (4, { ops := [(2, { mr := [5] }), (3, { mw := [12] })], kt := [21, 22, 23], kb := [] }),
  (5, { ops := [(0, { mr := [11] }), (2, { mr := [7] }), (4, { mr := [5] }), (6, { mr := [7] }), (10, { mr := [11] }), (13, { mr := [12] }), (17, { mr := [11] }), (20, { mr := [5] })], kt := [24, 25, 26, 27, 28, 29, 30, 31, 32, 33, 34, 35, 36, 37, 38, 39, 40, 41, 42, 43, 44, 45, 46, 47], kb := [] }),
  (7, { ops := [(0, { mr := [11] }), (2, { mr := [9] }), (4, { mr := [5] }), (7, { mr := [9] }), (11, { mr := [5] }), (15, { mr := [11] }), (19, { mr := [5] })], kt := [49, 50, 51, 52, 53, 54, 55, 56, 57, 58, 59, 60, 61, 62, 63, 64, 65, 66, 67, 68, 69, 70, 71, 72, 73, 74, 75, 76, 77], kb := [] })]
def c_plaw07_MatrixTells (F : Nat → FuncId) : AFun := { nparams := 5, ntmps := 78, results := [.tmp 10], body :=
  (.seq
    (.reg [⟨(some 5), [], [.t 0], [], [5], .box, none⟩,
       ⟨(some 7), [], [.t 2], [], [7], .box, none⟩,
       ⟨(some 9), [], [.t 4], [], [9], .box, none⟩,
       ⟨(some 10), [], [.c (.bool false)], [], [], .cp, none⟩] [] [])
    (.seq
      (.reg [⟨(some 13), [], [.t 5], [5], [], .load true 256, none⟩,
         ⟨(some 11), [], [], [], [11], .alloc (List.replicate 256 (.val (.int .i64 0))), none⟩,
         ⟨none, [13], [.t 11, .t 13], [], [11], .store true 256, none⟩] [13] [])
      (.seq
        (.reg [⟨(some 14), [], [], [], [], .build (List.replicate 16 (.int .i64 0)) [], none⟩,
           ⟨(some 12), [], [], [], [12], .alloc (List.replicate 16 (.val (.int .i64 0))), none⟩,
           ⟨none, [14], [.t 12, .t 14], [], [12], .store true 16, none⟩] [14] [])
        (.seq
          (.seq
            (.reg [⟨(some 15), [], [.t 1], [], [], .cp, none⟩,
               ⟨(some 16), [], [.t 15, .c (.int .i64 0)], [], [], .bini .geq, none⟩,
               ⟨(some 17), [], [.t 16], [], [], .cp, none⟩,
               ⟨(some 18), [], [.t 1], [], [], .cp, some (17, true)⟩,
               ⟨(some 19), [], [.t 18, .c (.int .i64 16)], [], [], .bini .lss, some (17, true)⟩,
               ⟨(some 20), [], [.t 17, .t 19, .c (.bool false)], [], [], .pick, none⟩] [15, 16, 17, 18, 19] [])
            (.cond (.t 20)
              (.reg [⟨(some 21), [], [.t 1], [], [], .cp, none⟩,
                 ⟨(some 22), [], [.t 5, .t 21], [], [], .iaddr (some 16) 16, none⟩,
                 ⟨(some 23), [], [.t 22], [5], [], .load true 16, none⟩,
                 ⟨none, [23], [.t 12, .t 23], [], [12], .store true 16, none⟩] [21, 22, 23] [])
              .skip))
          (.seq
            (.seq
              (.reg [⟨(some 24), [], [.t 11], [11], [], .load true 256, none⟩,
                 ⟨(some 25), [], [.t 1], [], [], .cp, none⟩,
                 ⟨(some 26), [], [.t 7], [7], [], .load true 16, none⟩,
                 ⟨(some 27), [], [.c (.fn (F n_matrix_Matrix_Learn)), .t 24, .t 25, .t 26], [], [], .call 0 false, none⟩,
                 ⟨(some 28), [], [.t 5], [5], [], .load true 256, none⟩,
                 ⟨(some 29), [], [.t 1], [], [], .cp, none⟩,
                 ⟨(some 30), [], [.t 7], [7], [], .load true 16, none⟩,
                 ⟨(some 31), [], [.c (.fn (F n_pref07_Learn)), .t 28, .t 29, .t 30], [], [], .call 0 false, none⟩,
                 ⟨(some 32), [], [.t 27, .t 31], [], [], .eqa (List.replicate 256 (.i)) true, none⟩,
                 ⟨(some 33), [], [.t 32], [], [], .cp, none⟩,
                 ⟨(some 34), [], [.t 11], [11], [], .load true 256, some (33, false)⟩,
                 ⟨(some 35), [], [.t 1], [], [], .cp, some (33, false)⟩,
                 ⟨(some 36), [], [.c (.fn (F n_matrix_Matrix_Row)), .t 34, .t 35], [], [], .call 0 false, some (33, false)⟩,
                 ⟨(some 37), [], [.t 12], [12], [], .load true 16, some (33, false)⟩,
                 ⟨(some 38), [], [.t 36, .t 37], [], [], .eqa (List.replicate 16 (.i)) true, some (33, false)⟩,
                 ⟨(some 39), [], [.t 33, .c (.bool true), .t 38], [], [], .pick, none⟩,
                 ⟨(some 40), [], [.t 39], [], [], .cp, none⟩,
                 ⟨(some 41), [], [.t 11], [11], [], .load true 256, some (40, false)⟩,
                 ⟨(some 42), [], [.t 3], [], [], .cp, some (40, false)⟩,
                 ⟨(some 43), [], [.c (.fn (F n_matrix_Matrix_Frontier)), .t 41, .t 42], [], [], .call 0 false, some (40, false)⟩,
                 ⟨(some 44), [], [.t 5], [5], [], .load true 256, some (40, false)⟩,
                 ⟨(some 45), [], [.t 3], [], [], .cp, some (40, false)⟩,
                 ⟨(some 46), [], [.c (.fn (F n_pref07_Frontier)), .t 44, .t 45], [], [], .call 0 false, some (40, false)⟩,
                 ⟨(some 47), [], [.t 43, .t 46], [], [], .eqa (List.replicate 16 (.i)) true, some (40, false)⟩,
                 ⟨(some 48), [], [.t 40, .c (.bool true), .t 47], [], [], .pick, none⟩] [24, 25, 26, 27, 28, 29, 30, 31, 32, 33, 34, 35, 36, 37, 38, 39, 40, 41, 42, 43, 44, 45, 46, 47] [])
              (.cond (.t 48)
                (.seq
                  (.reg [⟨(some 10), [], [.c (.bool false)], [], [], .cp, none⟩] [] [])
                  .ret)
                .skip))
            (.seq
              (.reg [⟨(some 49), [], [.t 11], [11], [], .load true 256, none⟩,
                 ⟨(some 50), [], [.t 3], [], [], .cp, none⟩,
                 ⟨(some 51), [], [.t 9], [9], [], .load true 2, none⟩,
                 ⟨(some 52), [], [.c (.fn (F n_matrix_Matrix_Stable)), .t 49, .t 50, .t 51], [], [], .call 0 false, none⟩,
                 ⟨(some 53), [], [.t 5], [5], [], .load true 256, none⟩,
                 ⟨(some 54), [], [.t 3], [], [], .cp, none⟩,
                 ⟨(some 55), [], [.c (.fn (F n_pref07_Frontier)), .t 53, .t 54], [], [], .call 0 false, none⟩,
                 ⟨(some 56), [], [.t 9], [9], [], .load true 2, none⟩,
                 ⟨(some 57), [], [.c (.fn (F n_pref05_Has)), .t 55, .t 56], [], [], .call 0 false, none⟩,
                 ⟨(some 58), [], [.t 52, .t 57], [], [], .binb false, none⟩,
                 ⟨(some 59), [], [.t 58], [], [], .cp, none⟩,
                 ⟨(some 60), [], [.t 5], [5], [], .load true 256, some (59, true)⟩,
                 ⟨(some 61), [], [.c (.fn (F n_plaw07_right)), .t 60], [], [], .call 0 false, some (59, true)⟩,
                 ⟨(some 62), [], [.t 61], [], [], .not, some (59, true)⟩,
                 ⟨(some 63), [], [.t 62], [], [], .cp, some (59, true)⟩,
                 ⟨(some 64), [], [.t 11], [11], [], .load true 256, some (63, false)⟩,
                 ⟨(some 65), [], [.t 3], [], [], .cp, some (63, false)⟩,
                 ⟨(some 66), [], [.t 1], [], [], .cp, some (63, false)⟩,
                 ⟨(some 67), [], [.c (.fn (F n_matrix_Matrix_Behind)), .t 64, .t 65, .t 66], [], [], .call 0 false, some (63, false)⟩,
                 ⟨(some 68), [], [.t 5], [5], [], .load true 256, some (63, false)⟩,
                 ⟨(some 69), [], [.t 3], [], [], .cp, some (63, false)⟩,
                 ⟨(some 70), [], [.t 1], [], [], .cp, some (63, false)⟩,
                 ⟨(some 71), [], [.c (.fn (F n_pref07_Behind)), .t 68, .t 69, .t 70], [], [], .call 0 false, some (63, false)⟩,
                 ⟨(some 72), [], [.t 67, .t 71], [], [], .bini .eql, some (63, false)⟩,
                 ⟨(some 73), [], [.t 63, .c (.bool true), .t 72], [], [], .pick, some (59, true)⟩,
                 ⟨(some 74), [], [.t 59, .t 73, .c (.bool false)], [], [], .pick, none⟩,
                 ⟨(some 75), [], [.t 74], [], [], .cp, none⟩,
                 ⟨(some 76), [], [.c (.fn (F n_plaw07_awake))], [], [], .call 0 false, some (75, true)⟩,
                 ⟨(some 77), [], [.t 75, .t 76, .c (.bool false)], [], [], .pick, none⟩,
                 ⟨(some 10), [77], [.t 77], [], [], .mv, none⟩] [49, 50, 51, 52, 53, 54, 55, 56, 57, 58, 59, 60, 61, 62, 63, 64, 65, 66, 67, 68, 69, 70, 71, 72, 73, 74, 75, 76, 77] [])
              .ret)))))) }

def H_plaw07_MatrixJoins : Hints := [(1, { ops := [(0, { mr := [4] }), (1, { mr := [5] }), (4, { mw := [9] }), (5, { mw := [10] })], kt := [14, 15], kb := [] }),
  (2, { ops := [(0, { mr := [9] }), (1, { mr := [10] }), (4, { mw := [11] })], kt := [16, 17, 18], kb := [] }),
  (3, { ops := [(0, { mr := [11] }), (1, { mr := [10] }), (2, { mr := [9] }), (6, { mr := [11] }), (7, { mr := [9] }), (9, { mr := [11] })], kt := [19, 20, 21, 22, 23, 24, 25, 26, 27, 28, 29], kb := [] }),
  (6, { ops := [], kt := [31], kb := [] }),
  (7, { ops := [], kt := [31, 32, 33, 34, 35, 36, 37, 38, 39, 40, 41, 42, 43, 44, 45], kb := [] }),
  (8, { ops := [(0, { mr := [11] }), (5, { mr := [4] }), (8, { mr := [5] })], kt := [35, 36, 37, 38, 39, 40, 41, 42, 43, 44], kb := [] }),
  (10, { ops := [(0, { mr := [4] }), (21, { mr := [9] })], kt := [46, 47, 48, 49, 50, 51, 52, 53, 54, 55, 56, 57, 58, 59, 60, 61, 62, 63, 64, 65, 66, 67, 68, 69, 70, 71], kb := [] }),
  (11, { ops := [], kt := [73], kb := [] }),
  (13, { ops := [], kt := [74, 75], kb := [] }),
  (14, { ops := [], kt := [74, 75, 76, 77, 78, 79, 80, 81, 82, 83, 84, 85, 86], kb := [] }),
  (15, { ops := [(2, { mr := [4] }), (5, { mr := [4] })], kt := [79, 80, 81, 82, 83, 84, 85], kb := [] }),
  (17, { ops := [], kt := [87], kb := [] })]
def c_plaw07_MatrixJoins (F : Nat → FuncId) : AFun := { nparams := 4, ntmps := 88, results := [.tmp 8], body :=
  (.seq
    (.reg [⟨(some 4), [], [.t 0], [], [4], .box, none⟩,
       ⟨(some 5), [], [.t 1], [], [5], .box, none⟩,
       ⟨(some 8), [], [.c (.bool false)], [], [], .cp, none⟩] [] [])
    (.seq
      (.reg [⟨(some 14), [], [.t 4], [4], [], .load true 256, none⟩,
         ⟨(some 15), [], [.t 5], [5], [], .load true 256, none⟩,
         ⟨(some 9), [], [], [], [9], .alloc (List.replicate 256 (.val (.int .i64 0))), none⟩,
         ⟨(some 10), [], [], [], [10], .alloc (List.replicate 256 (.val (.int .i64 0))), none⟩,
         ⟨none, [14], [.t 9, .t 14], [], [9], .store true 256, none⟩,
         ⟨none, [15], [.t 10, .t 15], [], [10], .store true 256, none⟩] [14, 15] [])
      (.seq
        (.reg [⟨(some 16), [], [.t 9], [9], [], .load true 256, none⟩,
           ⟨(some 17), [], [.t 10], [10], [], .load true 256, none⟩,
           ⟨(some 18), [], [.c (.fn (F n_matrix_Matrix_Join)), .t 16, .t 17], [], [], .call 0 false, none⟩,
           ⟨(some 11), [], [], [], [11], .alloc (List.replicate 256 (.val (.int .i64 0))), none⟩,
           ⟨none, [18], [.t 11, .t 18], [], [11], .store true 256, none⟩] [16, 17, 18] [])
        (.seq
          (.seq
            (.reg [⟨(some 19), [], [.t 11], [11], [], .load true 256, none⟩,
               ⟨(some 20), [], [.t 10], [10], [], .load true 256, none⟩,
               ⟨(some 21), [], [.t 9], [9], [], .load true 256, none⟩,
               ⟨(some 22), [], [.c (.fn (F n_matrix_Matrix_Join)), .t 20, .t 21], [], [], .call 0 false, none⟩,
               ⟨(some 23), [], [.t 19, .t 22], [], [], .eqa (List.replicate 256 (.i)) true, none⟩,
               ⟨(some 24), [], [.t 23], [], [], .cp, none⟩,
               ⟨(some 25), [], [.t 11], [11], [], .load true 256, some (24, false)⟩,
               ⟨(some 26), [], [.t 9], [9], [], .load true 256, some (24, false)⟩,
               ⟨(some 27), [], [.c (.fn (F n_matrix_Matrix_Join)), .t 25, .t 26], [], [], .call 0 false, some (24, false)⟩,
               ⟨(some 28), [], [.t 11], [11], [], .load true 256, some (24, false)⟩,
               ⟨(some 29), [], [.t 27, .t 28], [], [], .eqa (List.replicate 256 (.i)) true, some (24, false)⟩,
               ⟨(some 30), [], [.t 24, .c (.bool true), .t 29], [], [], .pick, none⟩] [19, 20, 21, 22, 23, 24, 25, 26, 27, 28, 29] [])
            (.cond (.t 30)
              (.seq
                (.reg [⟨(some 8), [], [.c (.bool false)], [], [], .cp, none⟩] [] [])
                .ret)
              .skip))
          (.seq
            (.seq
              (.reg [⟨(some 12), [], [.c (.int .i64 0)], [], [], .cp, none⟩] [] [])
              (.block 0
                (.loop
                  (.seq
                    (.seq
                      (.reg [⟨(some 31), [], [.t 12], [], [], .cp, none⟩,
                         ⟨(some 32), [], [.t 31, .c (.int .i64 16)], [], [], .bini .lss, none⟩] [31] [])
                      (.cond (.t 32)
                        .skip
                        (.exit 0)))
                    (.seq
                      (.block 1
                        (.seq
                          (.reg [⟨(some 35), [], [.t 11], [11], [], .load true 256, none⟩,
                             ⟨(some 36), [], [.t 12], [], [], .cp, none⟩,
                             ⟨(some 37), [], [.c (.fn (F n_matrix_Matrix_Row)), .t 35, .t 36], [], [], .call 0 false, none⟩,
                             ⟨(some 38), [], [.t 12], [], [], .cp, none⟩,
                             ⟨(some 39), [], [.t 4, .t 38], [], [], .iaddr (some 16) 16, none⟩,
                             ⟨(some 40), [], [.t 39], [4], [], .load true 16, none⟩,
                             ⟨(some 41), [], [.t 12], [], [], .cp, none⟩,
                             ⟨(some 42), [], [.t 5, .t 41], [], [], .iaddr (some 16) 16, none⟩,
                             ⟨(some 43), [], [.t 42], [5], [], .load true 16, none⟩,
                             ⟨(some 44), [], [.c (.fn (F n_pref05_Join)), .t 40, .t 43], [], [], .call 0 false, none⟩,
                             ⟨(some 45), [], [.t 37, .t 44], [], [], .eqa (List.replicate 16 (.i)) true, none⟩] [35, 36, 37, 38, 39, 40, 41, 42, 43, 44] [])
                          (.cond (.t 45)
                            (.seq
                              (.reg [⟨(some 8), [], [.c (.bool false)], [], [], .cp, none⟩] [] [])
                              .ret)
                            .skip)))
                      (.reg [⟨(some 33), [], [.t 12], [], [], .cp, none⟩,
                         ⟨(some 34), [], [.t 33, .c (.int .i64 1)], [], [], .bini .add, none⟩,
                         ⟨(some 12), [34], [.t 34], [], [], .mv, none⟩] [31, 32, 33, 34, 35, 36, 37, 38, 39, 40, 41, 42, 43, 44, 45] []))))))
            (.seq
              (.seq
                (.reg [⟨(some 46), [], [.t 4], [4], [], .load true 256, none⟩,
                   ⟨(some 47), [], [.c (.fn (F n_plaw07_right)), .t 46], [], [], .call 0 false, none⟩,
                   ⟨(some 48), [], [.t 47], [], [], .not, none⟩,
                   ⟨(some 49), [], [.t 48], [], [], .cp, none⟩,
                   ⟨(some 50), [], [.t 2], [], [], .cp, some (49, false)⟩,
                   ⟨(some 51), [], [.t 50, .c (.int .i64 1)], [], [], .bini .lss, some (49, false)⟩,
                   ⟨(some 52), [], [.t 49, .c (.bool true), .t 51], [], [], .pick, none⟩,
                   ⟨(some 53), [], [.t 52], [], [], .cp, none⟩,
                   ⟨(some 54), [], [.t 2], [], [], .cp, some (53, false)⟩,
                   ⟨(some 55), [], [.t 54, .c (.int .i64 16)], [], [], .bini .gtr, some (53, false)⟩,
                   ⟨(some 56), [], [.t 53, .c (.bool true), .t 55], [], [], .pick, none⟩,
                   ⟨(some 57), [], [.t 56], [], [], .cp, none⟩,
                   ⟨(some 58), [], [.t 3], [], [], .cp, some (57, false)⟩,
                   ⟨(some 59), [], [.t 58, .c (.int .i64 0)], [], [], .bini .lss, some (57, false)⟩,
                   ⟨(some 60), [], [.t 57, .c (.bool true), .t 59], [], [], .pick, none⟩,
                   ⟨(some 61), [], [.t 60], [], [], .cp, none⟩,
                   ⟨(some 62), [], [.t 3], [], [], .cp, some (61, false)⟩,
                   ⟨(some 63), [], [.t 2], [], [], .cp, some (61, false)⟩,
                   ⟨(some 64), [], [.t 62, .t 63], [], [], .bini .geq, some (61, false)⟩,
                   ⟨(some 65), [], [.t 61, .c (.bool true), .t 64], [], [], .pick, none⟩,
                   ⟨(some 66), [], [.t 65], [], [], .cp, none⟩,
                   ⟨(some 67), [], [.t 9], [9], [], .load true 256, some (66, false)⟩,
                   ⟨(some 68), [], [.t 2], [], [], .cp, some (66, false)⟩,
                   ⟨(some 69), [], [.t 3], [], [], .cp, some (66, false)⟩,
                   ⟨(some 70), [], [.c (.fn (F n_matrix_Matrix_Behind)), .t 67, .t 68, .t 69], [], [], .call 0 false, some (66, false)⟩,
                   ⟨(some 71), [], [.t 70, .c (.int .i64 0)], [], [], .bini .neq, some (66, false)⟩,
                   ⟨(some 72), [], [.t 66, .c (.bool true), .t 71], [], [], .pick, none⟩] [46, 47, 48, 49, 50, 51, 52, 53, 54, 55, 56, 57, 58, 59, 60, 61, 62, 63, 64, 65, 66, 67, 68, 69, 70, 71] [])
                (.cond (.t 72)
                  (.seq
                    (.reg [⟨(some 73), [], [.c (.fn (F n_plaw07_awake))], [], [], .call 0 false, none⟩,
                       ⟨(some 8), [73], [.t 73], [], [], .mv, none⟩] [73] [])
                    .ret)
                  .skip))
              (.seq
                (.seq
                  (.reg [⟨(some 13), [], [.c (.int .i64 0)], [], [], .cp, none⟩] [] [])
                  (.block 2
                    (.loop
                      (.seq
                        (.seq
                          (.reg [⟨(some 74), [], [.t 13], [], [], .cp, none⟩,
                             ⟨(some 75), [], [.t 2], [], [], .cp, none⟩,
                             ⟨(some 76), [], [.t 74, .t 75], [], [], .bini .lss, none⟩] [74, 75] [])
                          (.cond (.t 76)
                            .skip
                            (.exit 2)))
                        (.seq
                          (.block 3
                            (.seq
                              (.reg [⟨(some 79), [], [.t 13], [], [], .cp, none⟩,
                                 ⟨(some 80), [], [.t 4, .t 79], [], [], .iaddr (some 16) 16, none⟩,
                                 ⟨(some 81), [], [.t 80], [4], [], .load true 16, none⟩,
                                 ⟨(some 82), [], [.t 3], [], [], .cp, none⟩,
                                 ⟨(some 83), [], [.t 4, .t 82], [], [], .iaddr (some 16) 16, none⟩,
                                 ⟨(some 84), [], [.t 83], [4], [], .load true 16, none⟩,
                                 ⟨(some 85), [], [.c (.fn (F n_pref05_Within)), .t 81, .t 84], [], [], .call 0 false, none⟩,
                                 ⟨(some 86), [], [.t 85], [], [], .not, none⟩] [79, 80, 81, 82, 83, 84, 85] [])
                              (.cond (.t 86)
                                (.seq
                                  (.reg [⟨(some 8), [], [.c (.bool false)], [], [], .cp, none⟩] [] [])
                                  .ret)
                                .skip)))
                          (.reg [⟨(some 77), [], [.t 13], [], [], .cp, none⟩,
                             ⟨(some 78), [], [.t 77, .c (.int .i64 1)], [], [], .bini .add, none⟩,
                             ⟨(some 13), [78], [.t 78], [], [], .mv, none⟩] [74, 75, 76, 77, 78, 79, 80, 81, 82, 83, 84, 85, 86] []))))))
                (.seq
                  (.reg [⟨(some 87), [], [.c (.fn (F n_plaw07_awake))], [], [], .call 0 false, none⟩,
                     ⟨(some 8), [87], [.t 87], [], [], .mv, none⟩] [87] [])
                  .ret)))))))) }

def H_matrix_Matrix_Learn : Hints := [(1, { ops := [], kt := [7], kb := [] }),
  (2, { ops := [(3, { mr := [3] }), (4, { mr := [5] }), (7, { mw := [3] })], kt := [9, 10, 11, 12, 13, 14, 15], kb := [] }),
  (3, { ops := [(0, { mr := [3] }), (1, { mw := [6] })], kt := [16], kb := [] })]
def c_matrix_Matrix_Learn (F : Nat → FuncId) : AFun := { nparams := 3, ntmps := 17, results := [.cell 6 true 256], body :=
  (.seq
    (.reg [⟨(some 3), [], [.t 0], [], [3], .box, none⟩,
       ⟨(some 5), [], [.t 2], [], [5], .box, none⟩,
       ⟨(some 6), [], [], [], [6], .alloc (List.replicate 256 (.val (.int .i64 0))), none⟩] [] [])
    (.seq
      (.seq
        (.reg [⟨(some 7), [], [.t 1], [], [], .cp, none⟩,
           ⟨(some 8), [], [.c (.fn (F n_matrix_replica)), .t 7], [], [], .call 0 false, none⟩] [7] [])
        (.cond (.t 8)
          (.reg [⟨(some 9), [], [.t 1], [], [], .cp, none⟩,
             ⟨(some 10), [], [.t 1], [], [], .cp, none⟩,
             ⟨(some 11), [], [.t 3, .t 10], [], [], .iaddr (some 16) 16, none⟩,
             ⟨(some 12), [], [.t 11], [3], [], .load true 16, none⟩,
             ⟨(some 13), [], [.t 5], [5], [], .load true 16, none⟩,
             ⟨(some 14), [], [.c (.fn (F n_vec_Join)), .t 12, .t 13], [], [], .call 0 false, none⟩,
             ⟨(some 15), [], [.t 3, .t 9], [], [], .iaddr (some 16) 16, none⟩,
             ⟨none, [14], [.t 15, .t 14], [], [3], .store true 16, none⟩] [9, 10, 11, 12, 13, 14, 15] [])
          .skip))
      (.seq
        (.reg [⟨(some 16), [], [.t 3], [3], [], .load true 256, none⟩,
           ⟨none, [16], [.t 6, .t 16], [], [6], .store true 256, none⟩] [16] [])
        .ret))) }

def H_matrix_Matrix_Frontier : Hints := [(1, { ops := [], kt := [8, 9, 10, 11, 12], kb := [] }),
  (2, { ops := [(1, { mw := [4] })], kt := [14], kb := [] }),
  (3, { ops := [(1, { mr := [2] }), (3, { mw := [5] })], kt := [15, 16], kb := [] }),
  (4, { ops := [(1, { mw := [2] })], kt := [17], kb := [] }),
  (6, { ops := [(3, { mw := [7] })], kt := [22, 23], kb := [] }),
  (7, { ops := [(0, { mr := [5] }), (1, { mr := [7] }), (3, { mw := [5] })], kt := [24, 25, 26], kb := [] }),
  (8, { ops := [], kt := [7, 21, 22, 23, 24, 25, 26, 27], kb := [7] }),
  (9, { ops := [(0, { mr := [5] }), (1, { mw := [4] })], kt := [28], kb := [] })]
def c_matrix_Matrix_Frontier (F : Nat → FuncId) : AFun := { nparams := 2, ntmps := 29, results := [.cell 4 true 16], body :=
  (.seq
    (.reg [⟨(some 2), [], [.t 0], [], [2], .box, none⟩,
       ⟨(some 4), [], [], [], [4], .alloc (List.replicate 16 (.val (.int .i64 0))), none⟩] [] [])
    (.seq
      (.seq
        (.reg [⟨(some 8), [], [.t 1], [], [], .cp, none⟩,
           ⟨(some 9), [], [.t 8, .c (.int .i64 1)], [], [], .bini .lss, none⟩,
           ⟨(some 10), [], [.t 9], [], [], .cp, none⟩,
           ⟨(some 11), [], [.t 1], [], [], .cp, some (10, false)⟩,
           ⟨(some 12), [], [.t 11, .c (.int .i64 16)], [], [], .bini .gtr, some (10, false)⟩,
           ⟨(some 13), [], [.t 10, .c (.bool true), .t 12], [], [], .pick, none⟩] [8, 9, 10, 11, 12] [])
        (.cond (.t 13)
          (.seq
            (.reg [⟨(some 14), [], [], [], [], .build (List.replicate 16 (.int .i64 0)) [], none⟩,
               ⟨none, [14], [.t 4, .t 14], [], [4], .store true 16, none⟩] [14] [])
            .ret)
          .skip))
      (.seq
        (.reg [⟨(some 15), [], [.t 2, .c (.int .i64 0)], [], [], .iaddr (some 16) 16, none⟩,
           ⟨(some 16), [], [.t 15], [2], [], .load true 16, none⟩,
           ⟨(some 5), [], [], [], [5], .alloc (List.replicate 16 (.val (.int .i64 0))), none⟩,
           ⟨none, [16], [.t 5, .t 16], [], [5], .store true 16, none⟩] [15, 16] [])
        (.seq
          (.seq
            (.reg [⟨(some 17), [], [.t 1], [], [], .cp, none⟩,
               ⟨(some 18), [], [.t 2, .c (.int .i64 1), .t 17], [], [2], .slicea 16 16 true true, none⟩,
               ⟨(some 19), [], [.t 18], [], [], .len false, none⟩,
               ⟨(some 20), [], [.c (.int .i64 0)], [], [], .cp, none⟩] [17] [])
            (.block 0
              (.loop
                (.seq
                  (.reg [⟨(some 21), [], [.t 20, .t 19], [], [], .bini .lss, none⟩] [] [])
                  (.seq
                    (.cond (.t 21)
                      .skip
                      (.exit 0))
                    (.seq
                      (.block 1
                        (.seq
                          (.reg [⟨(some 22), [], [.t 18, .t 20], [], [], .iaddr none 16, none⟩,
                             ⟨(some 23), [], [.t 22], [], [], .load true 16, none⟩,
                             ⟨(some 7), [], [], [], [7], .alloc (List.replicate 16 (.val (.int .i64 0))), none⟩,
                             ⟨none, [23], [.t 7, .t 23], [], [7], .store true 16, none⟩] [22, 23] [])
                          (.reg [⟨(some 24), [], [.t 5], [5], [], .load true 16, none⟩,
                             ⟨(some 25), [], [.t 7], [7], [], .load true 16, none⟩,
                             ⟨(some 26), [], [.c (.fn (F n_vec_Meet)), .t 24, .t 25], [], [], .call 0 false, none⟩,
                             ⟨none, [26], [.t 5, .t 26], [], [5], .store true 16, none⟩] [24, 25, 26] [])))
                      (.reg [⟨(some 27), [], [.t 20, .c (.int .i64 1)], [], [], .bini .add, none⟩,
                         ⟨(some 20), [], [.t 27], [], [], .cp, none⟩] [7, 21, 22, 23, 24, 25, 26, 27] [7])))))))
          (.seq
            (.reg [⟨(some 28), [], [.t 5], [5], [], .load true 16, none⟩,
               ⟨none, [28], [.t 4, .t 28], [], [4], .store true 16, none⟩] [28] [])
            .ret))))) }

def H_matrix_Matrix_Stable : Hints := [(1, { ops := [(0, { mr := [3] }), (3, { mr := [5] })], kt := [7, 8, 9, 10, 11], kb := [] })]
def c_matrix_Matrix_Stable (F : Nat → FuncId) : AFun := { nparams := 3, ntmps := 12, results := [.tmp 6], body :=
  (.seq
    (.reg [⟨(some 3), [], [.t 0], [], [3], .box, none⟩,
       ⟨(some 5), [], [.t 2], [], [5], .box, none⟩,
       ⟨(some 6), [], [.c (.bool false)], [], [], .cp, none⟩] [] [])
    (.seq
      (.reg [⟨(some 7), [], [.t 3], [3], [], .load true 256, none⟩,
         ⟨(some 8), [], [.t 1], [], [], .cp, none⟩,
         ⟨(some 9), [], [.c (.fn (F n_matrix_Matrix_Frontier)), .t 7, .t 8], [], [], .call 0 false, none⟩,
         ⟨(some 10), [], [.t 5], [5], [], .load true 2, none⟩,
         ⟨(some 11), [], [.c (.fn (F n_vec_Has)), .t 9, .t 10], [], [], .call 0 false, none⟩,
         ⟨(some 6), [11], [.t 11], [], [], .mv, none⟩] [7, 8, 9, 10, 11] [])
      .ret)) }

def H_plaw07_awake : Hints := [(1, { ops := [(6, { mw := [1] })], kt := [2, 3, 4, 5, 6], kb := [] }),
  (2, { ops := [(0, { mr := [1] }), (5, { mr := [1] }), (10, { mr := [1] })], kt := [7, 8, 9, 10, 11, 12, 13, 14, 15, 16, 17, 18, 19, 20, 21], kb := [] })]
def c_plaw07_awake (F : Nat → FuncId) : AFun := { nparams := 0, ntmps := 22, results := [.tmp 0], body :=
  (.seq
    (.reg [⟨(some 0), [], [.c (.bool false)], [], [], .cp, none⟩] [] [])
    (.seq
      (.reg [⟨(some 2), [], [], [], [], .build (List.replicate 256 (.int .i64 0)) [], none⟩,
         ⟨(some 3), [], [.c (.int .i64 2), .c (.int .i64 1)], [], [], .build [.int .i64 0, .int .i64 0, .int .i64 0, .int .i64 0, .int .i64 0, .int .i64 0, .int .i64 0, .int .i64 0, .int .i64 0, .int .i64 0, .int .i64 0, .int .i64 0, .int .i64 0, .int .i64 0, .int .i64 0, .int .i64 0] [(0, 1), (1, 1)], none⟩,
         ⟨(some 4), [], [.c (.fn (F n_matrix_Matrix_Learn)), .t 2, .c (.int .i64 0), .t 3], [], [], .call 0 false, none⟩,
         ⟨(some 5), [], [.c (.int .i64 1), .c (.int .i64 3)], [], [], .build [.int .i64 0, .int .i64 0, .int .i64 0, .int .i64 0, .int .i64 0, .int .i64 0, .int .i64 0, .int .i64 0, .int .i64 0, .int .i64 0, .int .i64 0, .int .i64 0, .int .i64 0, .int .i64 0, .int .i64 0, .int .i64 0] [(0, 1), (1, 1)], none⟩,
         ⟨(some 6), [], [.c (.fn (F n_matrix_Matrix_Learn)), .t 4, .c (.int .i64 1), .t 5], [], [], .call 0 false, none⟩,
         ⟨(some 1), [], [], [], [1], .alloc (List.replicate 256 (.val (.int .i64 0))), none⟩,
         ⟨none, [6], [.t 1, .t 6], [], [1], .store true 256, none⟩] [2, 3, 4, 5, 6] [])
      (.seq
        (.reg [⟨(some 7), [], [.t 1], [1], [], .load true 256, none⟩,
           ⟨(some 8), [], [.c (.fn (F n_matrix_Matrix_Frontier)), .t 7, .c (.int .i64 2)], [], [], .call 0 false, none⟩,
           ⟨(some 9), [], [.c (.int .i64 1), .c (.int .i64 1)], [], [], .build [.int .i64 0, .int .i64 0, .int .i64 0, .int .i64 0, .int .i64 0, .int .i64 0, .int .i64 0, .int .i64 0, .int .i64 0, .int .i64 0, .int .i64 0, .int .i64 0, .int .i64 0, .int .i64 0, .int .i64 0, .int .i64 0] [(0, 1), (1, 1)], none⟩,
           ⟨(some 10), [], [.t 8, .t 9], [], [], .eqa (List.replicate 16 (.i)) false, none⟩,
           ⟨(some 11), [], [.t 10], [], [], .cp, none⟩,
           ⟨(some 12), [], [.t 1], [1], [], .load true 256, some (11, true)⟩,
           ⟨(some 13), [], [.c (.int .i64 1), .c (.int .i64 1)], [], [], .build [.int .i64 0, .int .i64 0] [(0, 1), (1, 1)], some (11, true)⟩,
           ⟨(some 14), [], [.c (.fn (F n_matrix_Matrix_Stable)), .t 12, .c (.int .i64 2), .t 13], [], [], .call 0 false, some (11, true)⟩,
           ⟨(some 15), [], [.t 11, .t 14, .c (.bool false)], [], [], .pick, none⟩,
           ⟨(some 16), [], [.t 15], [], [], .cp, none⟩,
           ⟨(some 17), [], [.t 1], [1], [], .load true 256, some (16, true)⟩,
           ⟨(some 18), [], [.c (.int .i64 1), .c (.int .i64 1)], [], [], .build [.int .i64 0, .int .i64 0] [(0, 1), (1, 1)], some (16, true)⟩,
           ⟨(some 19), [], [.c (.fn (F n_matrix_Matrix_Stable)), .t 17, .c (.int .i64 3), .t 18], [], [], .call 0 false, some (16, true)⟩,
           ⟨(some 20), [], [.t 19], [], [], .not, some (16, true)⟩,
           ⟨(some 21), [], [.t 16, .t 20, .c (.bool false)], [], [], .pick, none⟩,
           ⟨(some 0), [21], [.t 21], [], [], .mv, none⟩] [7, 8, 9, 10, 11, 12, 13, 14, 15, 16, 17, 18, 19, 20, 21] [])
        .ret))) }

def H_pref07_Learn : Hints := [(1, { ops := [], kt := [7, 8, 9, 10, 11], kb := [] }),
  (2, { ops := [(3, { mr := [3] }), (4, { mr := [5] }), (7, { mw := [3] })], kt := [13, 14, 15, 16, 17, 18, 19], kb := [] }),
  (3, { ops := [(0, { mr := [3] }), (1, { mw := [6] })], kt := [20], kb := [] })]
def c_pref07_Learn (F : Nat → FuncId) : AFun := { nparams := 3, ntmps := 21, results := [.cell 6 true 256], body :=
  (.seq
    (.reg [⟨(some 3), [], [.t 0], [], [3], .box, none⟩,
       ⟨(some 5), [], [.t 2], [], [5], .box, none⟩,
       ⟨(some 6), [], [], [], [6], .alloc (List.replicate 256 (.val (.int .i64 0))), none⟩] [] [])
    (.seq
      (.seq
        (.reg [⟨(some 7), [], [.t 1], [], [], .cp, none⟩,
           ⟨(some 8), [], [.t 7, .c (.int .i64 0)], [], [], .bini .geq, none⟩,
           ⟨(some 9), [], [.t 8], [], [], .cp, none⟩,
           ⟨(some 10), [], [.t 1], [], [], .cp, some (9, true)⟩,
           ⟨(some 11), [], [.t 10, .c (.int .i64 15)], [], [], .bini .leq, some (9, true)⟩,
           ⟨(some 12), [], [.t 9, .t 11, .c (.bool false)], [], [], .pick, none⟩] [7, 8, 9, 10, 11] [])
        (.cond (.t 12)
          (.reg [⟨(some 13), [], [.t 1], [], [], .cp, none⟩,
             ⟨(some 14), [], [.t 1], [], [], .cp, none⟩,
             ⟨(some 15), [], [.t 3, .t 14], [], [], .iaddr (some 16) 16, none⟩,
             ⟨(some 16), [], [.t 15], [3], [], .load true 16, none⟩,
             ⟨(some 17), [], [.t 5], [5], [], .load true 16, none⟩,
             ⟨(some 18), [], [.c (.fn (F n_pref05_Join)), .t 16, .t 17], [], [], .call 0 false, none⟩,
             ⟨(some 19), [], [.t 3, .t 13], [], [], .iaddr (some 16) 16, none⟩,
             ⟨none, [18], [.t 19, .t 18], [], [3], .store true 16, none⟩] [13, 14, 15, 16, 17, 18, 19] [])
          .skip))
      (.seq
        (.reg [⟨(some 20), [], [.t 3], [3], [], .load true 256, none⟩,
           ⟨none, [20], [.t 6, .t 20], [], [6], .store true 256, none⟩] [20] [])
        .ret))) }

def H_matrix_Matrix_Row : Hints := [(1, { ops := [], kt := [5, 6], kb := [] }),
  (2, { ops := [(1, { mw := [4] })], kt := [8], kb := [] }),
  (3, { ops := [(2, { mr := [2] }), (3, { mw := [4] })], kt := [9, 10, 11], kb := [] })]
def c_matrix_Matrix_Row (F : Nat → FuncId) : AFun := { nparams := 2, ntmps := 12, results := [.cell 4 true 16], body :=
  (.seq
    (.reg [⟨(some 2), [], [.t 0], [], [2], .box, none⟩,
       ⟨(some 4), [], [], [], [4], .alloc (List.replicate 16 (.val (.int .i64 0))), none⟩] [] [])
    (.seq
      (.seq
        (.reg [⟨(some 5), [], [.t 1], [], [], .cp, none⟩,
           ⟨(some 6), [], [.c (.fn (F n_matrix_replica)), .t 5], [], [], .call 0 false, none⟩,
           ⟨(some 7), [], [.t 6], [], [], .not, none⟩] [5, 6] [])
        (.cond (.t 7)
          (.seq
            (.reg [⟨(some 8), [], [], [], [], .build (List.replicate 16 (.int .i64 0)) [], none⟩,
               ⟨none, [8], [.t 4, .t 8], [], [4], .store true 16, none⟩] [8] [])
            .ret)
          .skip))
      (.seq
        (.reg [⟨(some 9), [], [.t 1], [], [], .cp, none⟩,
           ⟨(some 10), [], [.t 2, .t 9], [], [], .iaddr (some 16) 16, none⟩,
           ⟨(some 11), [], [.t 10], [2], [], .load true 16, none⟩,
           ⟨none, [11], [.t 4, .t 11], [], [4], .store true 16, none⟩] [9, 10, 11] [])
        .ret))) }

def H_pref07_Frontier : Hints := [(1, { ops := [(2, { mw := [5] })], kt := [9], kb := [] }),
  (2, { ops := [], kt := [10, 11, 12, 13, 14], kb := [] }),
  (3, { ops := [(0, { mr := [5] }), (1, { mw := [4] })], kt := [16], kb := [] }),
  (5, { ops := [], kt := [17], kb := [] }),
  (6, { ops := [], kt := [7, 8, 17, 18, 19, 20, 21, 22, 23, 24, 25, 26, 27, 28, 29, 30, 31, 32, 33, 34, 35, 36, 37, 38, 39, 40, 41, 42, 43, 44], kb := [] }),
  (7, { ops := [(3, { mr := [2] })], kt := [21, 22, 23, 24], kb := [] }),
  (9, { ops := [], kt := [25, 26], kb := [] }),
  (10, { ops := [], kt := [25, 26, 27, 28, 29, 30, 31, 32, 33, 34, 35, 36, 37, 38, 39, 40, 41], kb := [] }),
  (11, { ops := [(4, { mr := [2] })], kt := [30, 31, 32, 33, 34, 35], kb := [] }),
  (12, { ops := [(4, { mr := [2] })], kt := [37, 38, 39, 40, 41], kb := [] }),
  (13, { ops := [(3, { mw := [5] })], kt := [42, 43, 44], kb := [] }),
  (14, { ops := [(0, { mr := [5] }), (1, { mw := [4] })], kt := [45], kb := [] })]
def c_pref07_Frontier (F : Nat → FuncId) : AFun := { nparams := 2, ntmps := 46, results := [.cell 4 true 16], body :=
  (.seq
    (.reg [⟨(some 2), [], [.t 0], [], [2], .box, none⟩,
       ⟨(some 4), [], [], [], [4], .alloc (List.replicate 16 (.val (.int .i64 0))), none⟩] [] [])
    (.seq
      (.reg [⟨(some 9), [], [], [], [], .build (List.replicate 16 (.int .i64 0)) [], none⟩,
         ⟨(some 5), [], [], [], [5], .alloc (List.replicate 16 (.val (.int .i64 0))), none⟩,
         ⟨none, [9], [.t 5, .t 9], [], [5], .store true 16, none⟩] [9] [])
      (.seq
        (.seq
          (.reg [⟨(some 10), [], [.t 1], [], [], .cp, none⟩,
             ⟨(some 11), [], [.t 10, .c (.int .i64 1)], [], [], .bini .lss, none⟩,
             ⟨(some 12), [], [.t 11], [], [], .cp, none⟩,
             ⟨(some 13), [], [.t 1], [], [], .cp, some (12, false)⟩,
             ⟨(some 14), [], [.t 13, .c (.int .i64 16)], [], [], .bini .gtr, some (12, false)⟩,
             ⟨(some 15), [], [.t 12, .c (.bool true), .t 14], [], [], .pick, none⟩] [10, 11, 12, 13, 14] [])
          (.cond (.t 15)
            (.seq
              (.reg [⟨(some 16), [], [.t 5], [5], [], .load true 16, none⟩,
                 ⟨none, [16], [.t 4, .t 16], [], [4], .store true 16, none⟩] [16] [])
              .ret)
            .skip))
        (.seq
          (.seq
            (.reg [⟨(some 6), [], [.c (.int .i64 0)], [], [], .cp, none⟩] [] [])
            (.block 0
              (.loop
                (.seq
                  (.seq
                    (.reg [⟨(some 17), [], [.t 6], [], [], .cp, none⟩,
                       ⟨(some 18), [], [.t 17, .c (.int .i64 16)], [], [], .bini .lss, none⟩] [17] [])
                    (.cond (.t 18)
                      .skip
                      (.exit 0)))
                  (.seq
                    (.block 1
                      (.seq
                        (.reg [⟨(some 21), [], [.t 6], [], [], .cp, none⟩,
                           ⟨(some 22), [], [.t 2, .c (.int .i64 0)], [], [], .iaddr (some 16) 16, none⟩,
                           ⟨(some 23), [], [.t 22, .t 21], [], [], .iaddr (some 16) 1, none⟩,
                           ⟨(some 24), [], [.t 23], [2], [], .load false 1, none⟩,
                           ⟨(some 7), [24], [.t 24], [], [], .mv, none⟩] [21, 22, 23, 24] [])
                        (.seq
                          (.seq
                            (.reg [⟨(some 8), [], [.c (.int .i64 1)], [], [], .cp, none⟩] [] [])
                            (.block 2
                              (.loop
                                (.seq
                                  (.seq
                                    (.reg [⟨(some 25), [], [.t 8], [], [], .cp, none⟩,
                                       ⟨(some 26), [], [.t 1], [], [], .cp, none⟩,
                                       ⟨(some 27), [], [.t 25, .t 26], [], [], .bini .lss, none⟩] [25, 26] [])
                                    (.cond (.t 27)
                                      .skip
                                      (.exit 2)))
                                  (.seq
                                    (.block 3
                                      (.seq
                                        (.reg [⟨(some 30), [], [.t 8], [], [], .cp, none⟩,
                                           ⟨(some 31), [], [.t 6], [], [], .cp, none⟩,
                                           ⟨(some 32), [], [.t 2, .t 30], [], [], .iaddr (some 16) 16, none⟩,
                                           ⟨(some 33), [], [.t 32, .t 31], [], [], .iaddr (some 16) 1, none⟩,
                                           ⟨(some 34), [], [.t 33], [2], [], .load false 1, none⟩,
                                           ⟨(some 35), [], [.t 7], [], [], .cp, none⟩,
                                           ⟨(some 36), [], [.t 34, .t 35], [], [], .bini .lss, none⟩] [30, 31, 32, 33, 34, 35] [])
                                        (.cond (.t 36)
                                          (.reg [⟨(some 37), [], [.t 8], [], [], .cp, none⟩,
                                             ⟨(some 38), [], [.t 6], [], [], .cp, none⟩,
                                             ⟨(some 39), [], [.t 2, .t 37], [], [], .iaddr (some 16) 16, none⟩,
                                             ⟨(some 40), [], [.t 39, .t 38], [], [], .iaddr (some 16) 1, none⟩,
                                             ⟨(some 41), [], [.t 40], [2], [], .load false 1, none⟩,
                                             ⟨(some 7), [41], [.t 41], [], [], .mv, none⟩] [37, 38, 39, 40, 41] [])
                                          .skip)))
                                    (.reg [⟨(some 28), [], [.t 8], [], [], .cp, none⟩,
                                       ⟨(some 29), [], [.t 28, .c (.int .i64 1)], [], [], .bini .add, none⟩,
                                       ⟨(some 8), [29], [.t 29], [], [], .mv, none⟩] [25, 26, 27, 28, 29, 30, 31, 32, 33, 34, 35, 36, 37, 38, 39, 40, 41] []))))))
                          (.reg [⟨(some 42), [], [.t 6], [], [], .cp, none⟩,
                             ⟨(some 43), [], [.t 7], [], [], .cp, none⟩,
                             ⟨(some 44), [], [.t 5, .t 42], [], [], .iaddr (some 16) 1, none⟩,
                             ⟨none, [43], [.t 44, .t 43], [], [5], .store false 1, none⟩] [42, 43, 44] []))))
                    (.reg [⟨(some 19), [], [.t 6], [], [], .cp, none⟩,
                       ⟨(some 20), [], [.t 19, .c (.int .i64 1)], [], [], .bini .add, none⟩,
                       ⟨(some 6), [20], [.t 20], [], [], .mv, none⟩] [7, 8, 17, 18, 19, 20, 21, 22, 23, 24, 25, 26, 27, 28, 29, 30, 31, 32, 33, 34, 35, 36, 37, 38, 39, 40, 41, 42, 43, 44] []))))))
          (.seq
            (.reg [⟨(some 45), [], [.t 5], [5], [], .load true 16, none⟩,
               ⟨none, [45], [.t 4, .t 45], [], [4], .store true 16, none⟩] [45] [])
            .ret))))) }

def H_plaw07_right : Hints := [(2, { ops := [], kt := [4], kb := [] }),
  (3, { ops := [], kt := [4, 5, 6, 7, 8, 9, 10, 11, 12], kb := [] }),
  (4, { ops := [(2, { mr := [1] })], kt := [8, 9, 10, 11], kb := [] })]
def c_plaw07_right (F : Nat → FuncId) : AFun := { nparams := 1, ntmps := 13, results := [.tmp 2], body :=
  (.seq
    (.reg [⟨(some 1), [], [.t 0], [], [1], .box, none⟩,
       ⟨(some 2), [], [.c (.bool false)], [], [], .cp, none⟩] [] [])
    (.seq
      (.seq
        (.reg [⟨(some 3), [], [.c (.int .i64 0)], [], [], .cp, none⟩] [] [])
        (.block 0
          (.loop
            (.seq
              (.seq
                (.reg [⟨(some 4), [], [.t 3], [], [], .cp, none⟩,
                   ⟨(some 5), [], [.t 4, .c (.int .i64 16)], [], [], .bini .lss, none⟩] [4] [])
                (.cond (.t 5)
                  .skip
                  (.exit 0)))
              (.seq
                (.block 1
                  (.seq
                    (.reg [⟨(some 8), [], [.t 3], [], [], .cp, none⟩,
                       ⟨(some 9), [], [.t 1, .t 8], [], [], .iaddr (some 16) 16, none⟩,
                       ⟨(some 10), [], [.t 9], [1], [], .load true 16, none⟩,
                       ⟨(some 11), [], [.c (.fn (F n_pref05_Right)), .t 10], [], [], .call 0 false, none⟩,
                       ⟨(some 12), [], [.t 11], [], [], .not, none⟩] [8, 9, 10, 11] [])
                    (.cond (.t 12)
                      (.seq
                        (.reg [⟨(some 2), [], [.c (.bool false)], [], [], .cp, none⟩] [] [])
                        .ret)
                      .skip)))
                (.reg [⟨(some 6), [], [.t 3], [], [], .cp, none⟩,
                   ⟨(some 7), [], [.t 6, .c (.int .i64 1)], [], [], .bini .add, none⟩,
                   ⟨(some 3), [7], [.t 7], [], [], .mv, none⟩] [4, 5, 6, 7, 8, 9, 10, 11, 12] []))))))
      (.seq
        (.reg [⟨(some 2), [], [.c (.bool true)], [], [], .cp, none⟩] [] [])
        .ret))) }

def H_matrix_Matrix_Behind : Hints := [(1, { ops := [], kt := [10, 11, 12, 13, 14, 15, 16, 17, 18, 19], kb := [] }),
  (4, { ops := [(1, { mw := [3] })], kt := [21], kb := [] }),
  (6, { ops := [(3, { mw := [9] })], kt := [26, 27], kb := [] }),
  (7, { ops := [(0, { mr := [7] }), (1, { mr := [9] }), (3, { mw := [7] })], kt := [28, 29, 30], kb := [] }),
  (8, { ops := [], kt := [9, 25, 26, 27, 28, 29, 30, 31], kb := [9] }),
  (9, { ops := [(0, { mr := [7] }), (2, { mr := [7] }), (5, { mr := [3] })], kt := [32, 33, 34, 35, 36, 37, 38, 39, 40], kb := [] })]
def c_matrix_Matrix_Behind (F : Nat → FuncId) : AFun := { nparams := 3, ntmps := 41, results := [.tmp 6], body :=
  (.seq
    (.reg [⟨(some 3), [], [.t 0], [], [3], .box, none⟩,
       ⟨(some 6), [], [.c (.int .i64 0)], [], [], .cp, none⟩] [] [])
    (.seq
      (.seq
        (.reg [⟨(some 10), [], [.t 1], [], [], .cp, none⟩,
           ⟨(some 11), [], [.t 10, .c (.int .i64 1)], [], [], .bini .lss, none⟩,
           ⟨(some 12), [], [.t 11], [], [], .cp, none⟩,
           ⟨(some 13), [], [.t 1], [], [], .cp, some (12, false)⟩,
           ⟨(some 14), [], [.t 13, .c (.int .i64 16)], [], [], .bini .gtr, some (12, false)⟩,
           ⟨(some 15), [], [.t 12, .c (.bool true), .t 14], [], [], .pick, none⟩,
           ⟨(some 16), [], [.t 15], [], [], .cp, none⟩,
           ⟨(some 17), [], [.t 2], [], [], .cp, some (16, false)⟩,
           ⟨(some 18), [], [.c (.fn (F n_matrix_replica)), .t 17], [], [], .call 0 false, some (16, false)⟩,
           ⟨(some 19), [], [.t 18], [], [], .not, some (16, false)⟩,
           ⟨(some 20), [], [.t 16, .c (.bool true), .t 19], [], [], .pick, none⟩] [10, 11, 12, 13, 14, 15, 16, 17, 18, 19] [])
        (.cond (.t 20)
          (.seq
            (.reg [⟨(some 6), [], [.c (.int .i64 0)], [], [], .cp, none⟩] [] [])
            .ret)
          .skip))
      (.seq
        (.reg [⟨(some 7), [], [], [], [7], .alloc (List.replicate 16 (.val (.int .i64 0))), none⟩] [] [])
        (.seq
          (.seq
            (.reg [⟨(some 21), [], [.t 1], [], [], .cp, none⟩,
               ⟨(some 22), [], [.t 3, .t 21], [], [3], .slicea 16 16 false true, none⟩,
               ⟨(some 23), [], [.t 22], [], [], .len false, none⟩,
               ⟨(some 24), [], [.c (.int .i64 0)], [], [], .cp, none⟩] [21] [])
            (.block 0
              (.loop
                (.seq
                  (.reg [⟨(some 25), [], [.t 24, .t 23], [], [], .bini .lss, none⟩] [] [])
                  (.seq
                    (.cond (.t 25)
                      .skip
                      (.exit 0))
                    (.seq
                      (.block 1
                        (.seq
                          (.reg [⟨(some 26), [], [.t 22, .t 24], [], [], .iaddr none 16, none⟩,
                             ⟨(some 27), [], [.t 26], [], [], .load true 16, none⟩,
                             ⟨(some 9), [], [], [], [9], .alloc (List.replicate 16 (.val (.int .i64 0))), none⟩,
                             ⟨none, [27], [.t 9, .t 27], [], [9], .store true 16, none⟩] [26, 27] [])
                          (.reg [⟨(some 28), [], [.t 7], [7], [], .load true 16, none⟩,
                             ⟨(some 29), [], [.t 9], [9], [], .load true 16, none⟩,
                             ⟨(some 30), [], [.c (.fn (F n_vec_Join)), .t 28, .t 29], [], [], .call 0 false, none⟩,
                             ⟨none, [30], [.t 7, .t 30], [], [7], .store true 16, none⟩] [28, 29, 30] [])))
                      (.reg [⟨(some 31), [], [.t 24, .c (.int .i64 1)], [], [], .bini .add, none⟩,
                         ⟨(some 24), [], [.t 31], [], [], .cp, none⟩] [9, 25, 26, 27, 28, 29, 30, 31] [9])))))))
          (.seq
            (.reg [⟨(some 32), [], [.t 7], [7], [], .load true 16, none⟩,
               ⟨(some 33), [], [.c (.fn (F n_vec_Count)), .t 32], [], [], .call 0 false, none⟩,
               ⟨(some 34), [], [.t 7], [7], [], .load true 16, none⟩,
               ⟨(some 35), [], [.t 2], [], [], .cp, none⟩,
               ⟨(some 36), [], [.t 3, .t 35], [], [], .iaddr (some 16) 16, none⟩,
               ⟨(some 37), [], [.t 36], [3], [], .load true 16, none⟩,
               ⟨(some 38), [], [.c (.fn (F n_vec_Meet)), .t 34, .t 37], [], [], .call 0 false, none⟩,
               ⟨(some 39), [], [.c (.fn (F n_vec_Count)), .t 38], [], [], .call 0 false, none⟩,
               ⟨(some 40), [], [.t 33, .t 39], [], [], .bini .sub, none⟩,
               ⟨(some 6), [40], [.t 40], [], [], .mv, none⟩] [32, 33, 34, 35, 36, 37, 38, 39, 40] [])
            .ret))))) }

def H_pref07_Behind : Hints := [(1, { ops := [], kt := [11, 12, 13, 14, 15, 16, 17, 18, 19, 20, 21, 22, 23], kb := [] }),
  (5, { ops := [], kt := [25], kb := [] }),
  (6, { ops := [], kt := [9, 10, 25, 26, 27, 28, 29, 30, 31, 32, 33, 34, 35, 36, 37, 38, 39, 40, 41, 42, 43, 44, 45, 46, 47, 48, 49, 50, 51, 52, 53, 54, 55, 56, 57, 58, 59, 60, 61], kb := [] }),
  (9, { ops := [], kt := [29, 30], kb := [] }),
  (10, { ops := [], kt := [29, 30, 31, 32, 33, 34, 35, 36, 37, 38, 39, 40, 41, 42, 43, 44, 45], kb := [] }),
  (11, { ops := [(4, { mr := [3] })], kt := [34, 35, 36, 37, 38, 39], kb := [] }),
  (12, { ops := [(4, { mr := [3] })], kt := [41, 42, 43, 44, 45], kb := [] }),
  (13, { ops := [(5, { mr := [3] })], kt := [46, 47, 48, 49, 50, 51], kb := [] }),
  (14, { ops := [(7, { mr := [3] })], kt := [53, 54, 55, 56, 57, 58, 59, 60, 61], kb := [] }),
  (15, { ops := [], kt := [62], kb := [] })]
def c_pref07_Behind (F : Nat → FuncId) : AFun := { nparams := 3, ntmps := 63, results := [.tmp 6], body :=
  (.seq
    (.reg [⟨(some 3), [], [.t 0], [], [3], .box, none⟩,
       ⟨(some 6), [], [.c (.int .i64 0)], [], [], .cp, none⟩] [] [])
    (.seq
      (.seq
        (.reg [⟨(some 11), [], [.t 1], [], [], .cp, none⟩,
           ⟨(some 12), [], [.t 11, .c (.int .i64 1)], [], [], .bini .lss, none⟩,
           ⟨(some 13), [], [.t 12], [], [], .cp, none⟩,
           ⟨(some 14), [], [.t 1], [], [], .cp, some (13, false)⟩,
           ⟨(some 15), [], [.t 14, .c (.int .i64 16)], [], [], .bini .gtr, some (13, false)⟩,
           ⟨(some 16), [], [.t 13, .c (.bool true), .t 15], [], [], .pick, none⟩,
           ⟨(some 17), [], [.t 16], [], [], .cp, none⟩,
           ⟨(some 18), [], [.t 2], [], [], .cp, some (17, false)⟩,
           ⟨(some 19), [], [.t 18, .c (.int .i64 0)], [], [], .bini .lss, some (17, false)⟩,
           ⟨(some 20), [], [.t 17, .c (.bool true), .t 19], [], [], .pick, none⟩,
           ⟨(some 21), [], [.t 20], [], [], .cp, none⟩,
           ⟨(some 22), [], [.t 2], [], [], .cp, some (21, false)⟩,
           ⟨(some 23), [], [.t 22, .c (.int .i64 15)], [], [], .bini .gtr, some (21, false)⟩,
           ⟨(some 24), [], [.t 21, .c (.bool true), .t 23], [], [], .pick, none⟩] [11, 12, 13, 14, 15, 16, 17, 18, 19, 20, 21, 22, 23] [])
        (.cond (.t 24)
          (.seq
            (.reg [⟨(some 6), [], [.c (.int .i64 0)], [], [], .cp, none⟩] [] [])
            .ret)
          .skip))
      (.seq
        (.reg [⟨(some 7), [], [.c (.int .i64 0)], [], [], .cp, none⟩] [] [])
        (.seq
          (.seq
            (.reg [⟨(some 8), [], [.c (.int .i64 0)], [], [], .cp, none⟩] [] [])
            (.block 0
              (.loop
                (.seq
                  (.seq
                    (.reg [⟨(some 25), [], [.t 8], [], [], .cp, none⟩,
                       ⟨(some 26), [], [.t 25, .c (.int .i64 16)], [], [], .bini .lss, none⟩] [25] [])
                    (.cond (.t 26)
                      .skip
                      (.exit 0)))
                  (.seq
                    (.block 1
                      (.seq
                        (.reg [⟨(some 9), [], [.c (.int .i64 0)], [], [], .cp, none⟩] [] [])
                        (.seq
                          (.seq
                            (.reg [⟨(some 10), [], [.c (.int .i64 0)], [], [], .cp, none⟩] [] [])
                            (.block 2
                              (.loop
                                (.seq
                                  (.seq
                                    (.reg [⟨(some 29), [], [.t 10], [], [], .cp, none⟩,
                                       ⟨(some 30), [], [.t 1], [], [], .cp, none⟩,
                                       ⟨(some 31), [], [.t 29, .t 30], [], [], .bini .lss, none⟩] [29, 30] [])
                                    (.cond (.t 31)
                                      .skip
                                      (.exit 2)))
                                  (.seq
                                    (.block 3
                                      (.seq
                                        (.reg [⟨(some 34), [], [.t 10], [], [], .cp, none⟩,
                                           ⟨(some 35), [], [.t 8], [], [], .cp, none⟩,
                                           ⟨(some 36), [], [.t 3, .t 34], [], [], .iaddr (some 16) 16, none⟩,
                                           ⟨(some 37), [], [.t 36, .t 35], [], [], .iaddr (some 16) 1, none⟩,
                                           ⟨(some 38), [], [.t 37], [3], [], .load false 1, none⟩,
                                           ⟨(some 39), [], [.t 9], [], [], .cp, none⟩,
                                           ⟨(some 40), [], [.t 38, .t 39], [], [], .bini .gtr, none⟩] [34, 35, 36, 37, 38, 39] [])
                                        (.cond (.t 40)
                                          (.reg [⟨(some 41), [], [.t 10], [], [], .cp, none⟩,
                                             ⟨(some 42), [], [.t 8], [], [], .cp, none⟩,
                                             ⟨(some 43), [], [.t 3, .t 41], [], [], .iaddr (some 16) 16, none⟩,
                                             ⟨(some 44), [], [.t 43, .t 42], [], [], .iaddr (some 16) 1, none⟩,
                                             ⟨(some 45), [], [.t 44], [3], [], .load false 1, none⟩,
                                             ⟨(some 9), [45], [.t 45], [], [], .mv, none⟩] [41, 42, 43, 44, 45] [])
                                          .skip)))
                                    (.reg [⟨(some 32), [], [.t 10], [], [], .cp, none⟩,
                                       ⟨(some 33), [], [.t 32, .c (.int .i64 1)], [], [], .bini .add, none⟩,
                                       ⟨(some 10), [33], [.t 33], [], [], .mv, none⟩] [29, 30, 31, 32, 33, 34, 35, 36, 37, 38, 39, 40, 41, 42, 43, 44, 45] []))))))
                          (.seq
                            (.reg [⟨(some 46), [], [.t 9], [], [], .cp, none⟩,
                               ⟨(some 47), [], [.t 2], [], [], .cp, none⟩,
                               ⟨(some 48), [], [.t 8], [], [], .cp, none⟩,
                               ⟨(some 49), [], [.t 3, .t 47], [], [], .iaddr (some 16) 16, none⟩,
                               ⟨(some 50), [], [.t 49, .t 48], [], [], .iaddr (some 16) 1, none⟩,
                               ⟨(some 51), [], [.t 50], [3], [], .load false 1, none⟩,
                               ⟨(some 52), [], [.t 46, .t 51], [], [], .bini .gtr, none⟩] [46, 47, 48, 49, 50, 51] [])
                            (.cond (.t 52)
                              (.reg [⟨(some 53), [], [.t 7], [], [], .cp, none⟩,
                                 ⟨(some 54), [], [.t 9], [], [], .cp, none⟩,
                                 ⟨(some 55), [], [.t 53, .t 54], [], [], .bini .add, none⟩,
                                 ⟨(some 56), [], [.t 2], [], [], .cp, none⟩,
                                 ⟨(some 57), [], [.t 8], [], [], .cp, none⟩,
                                 ⟨(some 58), [], [.t 3, .t 56], [], [], .iaddr (some 16) 16, none⟩,
                                 ⟨(some 59), [], [.t 58, .t 57], [], [], .iaddr (some 16) 1, none⟩,
                                 ⟨(some 60), [], [.t 59], [3], [], .load false 1, none⟩,
                                 ⟨(some 61), [], [.t 55, .t 60], [], [], .bini .sub, none⟩,
                                 ⟨(some 7), [61], [.t 61], [], [], .mv, none⟩] [53, 54, 55, 56, 57, 58, 59, 60, 61] [])
                              .skip)))))
                    (.reg [⟨(some 27), [], [.t 8], [], [], .cp, none⟩,
                       ⟨(some 28), [], [.t 27, .c (.int .i64 1)], [], [], .bini .add, none⟩,
                       ⟨(some 8), [28], [.t 28], [], [], .mv, none⟩] [9, 10, 25, 26, 27, 28, 29, 30, 31, 32, 33, 34, 35, 36, 37, 38, 39, 40, 41, 42, 43, 44, 45, 46, 47, 48, 49, 50, 51, 52, 53, 54, 55, 56, 57, 58, 59, 60, 61] []))))))
          (.seq
            (.reg [⟨(some 62), [], [.t 7], [], [], .cp, none⟩,
               ⟨(some 6), [62], [.t 62], [], [], .mv, none⟩] [62] [])
            .ret))))) }

def H_matrix_Matrix_Join : Hints := [(1, { ops := [(0, { mr := [3] })], kt := [], kb := [] }),
  (3, { ops := [(4, { mw := [6] })], kt := [10, 11], kb := [] }),
  (4, { ops := [(0, { mr := [2] }), (2, { mr := [6] }), (4, { mw := [2] })], kt := [12, 13, 14, 15], kb := [] }),
  (5, { ops := [], kt := [5, 6, 9, 10, 11, 12, 13, 14, 15, 16], kb := [6] }),
  (6, { ops := [(0, { mr := [2] }), (1, { mw := [4] })], kt := [17], kb := [] })]
def c_matrix_Matrix_Join (F : Nat → FuncId) : AFun := { nparams := 2, ntmps := 18, results := [.cell 4 true 256], body :=
  (.seq
    (.reg [⟨(some 2), [], [.t 0], [], [2], .box, none⟩,
       ⟨(some 3), [], [.t 1], [], [3], .box, none⟩,
       ⟨(some 4), [], [], [], [4], .alloc (List.replicate 256 (.val (.int .i64 0))), none⟩] [] [])
    (.seq
      (.seq
        (.reg [⟨(some 7), [], [.t 3], [3], [], .load true 256, none⟩,
           ⟨(some 8), [], [.c (.int .i64 0)], [], [], .cp, none⟩] [] [])
        (.block 0
          (.loop
            (.seq
              (.reg [⟨(some 9), [], [.t 8, .c (.int .i64 16)], [], [], .bini .lss, none⟩] [] [])
              (.seq
                (.cond (.t 9)
                  .skip
                  (.exit 0))
                (.seq
                  (.block 1
                    (.seq
                      (.reg [⟨(some 10), [], [.t 8], [], [], .cp, none⟩,
                         ⟨(some 11), [], [.t 7, .t 8], [], [], .indexa 16 true 16, none⟩,
                         ⟨(some 6), [], [], [], [6], .alloc (List.replicate 16 (.val (.int .i64 0))), none⟩,
                         ⟨(some 5), [10], [.t 10], [], [], .mv, none⟩,
                         ⟨none, [11], [.t 6, .t 11], [], [6], .store true 16, none⟩] [10, 11] [])
                      (.reg [⟨(some 12), [], [.t 2], [2], [], .load true 256, none⟩,
                         ⟨(some 13), [], [.t 5], [], [], .cp, none⟩,
                         ⟨(some 14), [], [.t 6], [6], [], .load true 16, none⟩,
                         ⟨(some 15), [], [.c (.fn (F n_matrix_Matrix_Learn)), .t 12, .t 13, .t 14], [], [], .call 0 false, none⟩,
                         ⟨none, [15], [.t 2, .t 15], [], [2], .store true 256, none⟩] [12, 13, 14, 15] [])))
                  (.reg [⟨(some 16), [], [.t 8, .c (.int .i64 1)], [], [], .bini .add, none⟩,
                     ⟨(some 8), [], [.t 16], [], [], .cp, none⟩] [5, 6, 9, 10, 11, 12, 13, 14, 15, 16] [6])))))))
      (.seq
        (.reg [⟨(some 17), [], [.t 2], [2], [], .load true 256, none⟩,
           ⟨none, [17], [.t 4, .t 17], [], [4], .store true 256, none⟩] [17] [])
        .ret))) }

def H_matrix_replica : Hints := [(1, { ops := [], kt := [3, 4, 5, 6, 7, 8], kb := [] })]
def c_matrix_replica (F : Nat → FuncId) : AFun := { nparams := 1, ntmps := 9, results := [.tmp 2], body :=
  (.seq
    (.reg [⟨(some 2), [], [.c (.bool false)], [], [], .cp, none⟩] [] [])
    (.seq
      (.reg [⟨(some 3), [], [.t 0], [], [], .cp, none⟩,
         ⟨(some 4), [], [.t 3, .c (.int .i64 0)], [], [], .bini .geq, none⟩,
         ⟨(some 5), [], [.t 4], [], [], .cp, none⟩,
         ⟨(some 6), [], [.t 0], [], [], .cp, some (5, true)⟩,
         ⟨(some 7), [], [.t 6, .c (.int .i64 16)], [], [], .bini .lss, some (5, true)⟩,
         ⟨(some 8), [], [.t 5, .t 7, .c (.bool false)], [], [], .pick, none⟩,
         ⟨(some 2), [8], [.t 8], [], [], .mv, none⟩] [3, 4, 5, 6, 7, 8] [])
      .ret)) }

end Go.AR

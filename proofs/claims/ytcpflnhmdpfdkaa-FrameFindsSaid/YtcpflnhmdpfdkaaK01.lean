import Derived.Test.YtcpflnhmdpfdkaaComp
import Derived.Test.YtcpflnhmdpfdkaaNames
set_option linter.all false
/-! Codes, printed by program. -/
namespace Go.AR
def H_gosem_cut_init : Hints := [(0, { ops := [], kt := [0], kb := [] })]
def c_gosem_cut_init (F : Nat → FuncId) : AFun := { nparams := 0, ntmps := 1, results := [], body :=
  (.reg [⟨(some 0), [], [.c (.fn (F n_gosem_cut))], [], [], .call 0 false, none⟩] [0] []) }

def H_plaw01_SumTells : Hints := [(1, { ops := [], kt := [5, 6], kb := [] }),
  (2, { ops := [], kt := [8], kb := [] }),
  (3, { ops := [], kt := [9, 10, 11, 12, 13, 14, 15, 16, 17, 18, 19, 20, 21, 22, 23, 24, 25, 26, 27, 28, 29, 30, 31, 32], kb := [] })]
def c_plaw01_SumTells (F : Nat → FuncId) : AFun := { nparams := 2, ntmps := 33, results := [.tmp 4], body :=
  (.seq
    (.reg [⟨(some 4), [], [.c (.bool false)], [], [], .cp, none⟩] [] [])
    (.seq
      (.seq
        (.reg [⟨(some 5), [], [.t 0], [], [], .cp, none⟩,
           ⟨(some 6), [], [.t 5], [], [], .len true, none⟩,
           ⟨(some 7), [], [.t 6, .c (.int .i64 2000)], [], [], .bini .gtr, none⟩] [5, 6] [])
        (.cond (.t 7)
          (.seq
            (.reg [⟨(some 8), [], [.c (.fn (F n_plaw01_awake))], [], [], .call 0 false, none⟩,
               ⟨(some 4), [8], [.t 8], [], [], .mv, none⟩] [8] [])
            .ret)
          .skip))
      (.seq
        (.reg [⟨(some 9), [], [.t 0], [], [], .cp, none⟩,
           ⟨(some 10), [], [.c (.fn (F n_sum_Of)), .t 9], [], [], .call 0 false, none⟩,
           ⟨(some 11), [], [.t 0], [], [], .cp, none⟩,
           ⟨(some 12), [], [.c (.fn (F n_pref01_Of)), .t 11], [], [], .call 0 false, none⟩,
           ⟨(some 13), [], [.t 10, .t 12], [], [], .bini .eql, none⟩,
           ⟨(some 14), [], [.t 13], [], [], .cp, none⟩,
           ⟨(some 15), [], [.t 1], [], [], .cp, some (14, true)⟩,
           ⟨(some 16), [], [.t 0], [], [], .cp, some (14, true)⟩,
           ⟨(some 17), [], [.c (.fn (F n_sum_More)), .t 15, .t 16], [], [], .call 0 false, some (14, true)⟩,
           ⟨(some 18), [], [.t 1], [], [], .cp, some (14, true)⟩,
           ⟨(some 19), [], [.t 0], [], [], .cp, some (14, true)⟩,
           ⟨(some 20), [], [.c (.fn (F n_pref01_More)), .t 18, .t 19], [], [], .call 0 false, some (14, true)⟩,
           ⟨(some 21), [], [.t 17, .t 20], [], [], .bini .eql, some (14, true)⟩,
           ⟨(some 22), [], [.t 14, .t 21, .c (.bool false)], [], [], .pick, none⟩,
           ⟨(some 23), [], [.t 22], [], [], .cp, none⟩,
           ⟨(some 24), [], [.t 1], [], [], .cp, some (23, true)⟩,
           ⟨(some 25), [], [.c (.fn (F n_sum_Bytes)), .t 24], [], [], .call 0 false, some (23, true)⟩,
           ⟨(some 26), [], [.t 1], [], [], .cp, some (23, true)⟩,
           ⟨(some 27), [], [.c (.fn (F n_pref01_Bytes)), .t 26], [], [], .call 0 false, some (23, true)⟩,
           ⟨(some 28), [], [.t 25, .t 27], [], [], .bins .eql, some (23, true)⟩,
           ⟨(some 29), [], [.t 23, .t 28, .c (.bool false)], [], [], .pick, none⟩,
           ⟨(some 30), [], [.t 29], [], [], .cp, none⟩,
           ⟨(some 31), [], [.c (.fn (F n_plaw01_awake))], [], [], .call 0 false, some (30, true)⟩,
           ⟨(some 32), [], [.t 30, .t 31, .c (.bool false)], [], [], .pick, none⟩,
           ⟨(some 4), [32], [.t 32], [], [], .mv, none⟩] [9, 10, 11, 12, 13, 14, 15, 16, 17, 18, 19, 20, 21, 22, 23, 24, 25, 26, 27, 28, 29, 30, 31, 32] [])
        .ret))) }

def H_plaw01_SumGoes : Hints := [(1, { ops := [], kt := [5, 6, 7, 8, 9, 10, 11], kb := [] }),
  (2, { ops := [], kt := [13], kb := [] }),
  (3, { ops := [], kt := [14, 15, 16, 17, 18, 19, 20, 21, 22, 23, 24, 25], kb := [] })]
def c_plaw01_SumGoes (F : Nat → FuncId) : AFun := { nparams := 2, ntmps := 26, results := [.tmp 4], body :=
  (.seq
    (.reg [⟨(some 4), [], [.c (.bool false)], [], [], .cp, none⟩] [] [])
    (.seq
      (.seq
        (.reg [⟨(some 5), [], [.t 0], [], [], .cp, none⟩,
           ⟨(some 6), [], [.t 5], [], [], .len true, none⟩,
           ⟨(some 7), [], [.t 6, .c (.int .i64 2000)], [], [], .bini .gtr, none⟩,
           ⟨(some 8), [], [.t 7], [], [], .cp, none⟩,
           ⟨(some 9), [], [.t 1], [], [], .cp, some (8, false)⟩,
           ⟨(some 10), [], [.t 9], [], [], .len true, some (8, false)⟩,
           ⟨(some 11), [], [.t 10, .c (.int .i64 2000)], [], [], .bini .gtr, some (8, false)⟩,
           ⟨(some 12), [], [.t 8, .c (.bool true), .t 11], [], [], .pick, none⟩] [5, 6, 7, 8, 9, 10, 11] [])
        (.cond (.t 12)
          (.seq
            (.reg [⟨(some 13), [], [.c (.fn (F n_plaw01_awake))], [], [], .call 0 false, none⟩,
               ⟨(some 4), [13], [.t 13], [], [], .mv, none⟩] [13] [])
            .ret)
          .skip))
      (.seq
        (.reg [⟨(some 14), [], [.t 0], [], [], .cp, none⟩,
           ⟨(some 15), [], [.c (.fn (F n_sum_Of)), .t 14], [], [], .call 0 false, none⟩,
           ⟨(some 16), [], [.t 1], [], [], .cp, none⟩,
           ⟨(some 17), [], [.c (.fn (F n_sum_More)), .t 15, .t 16], [], [], .call 0 false, none⟩,
           ⟨(some 18), [], [.t 0], [], [], .cp, none⟩,
           ⟨(some 19), [], [.t 1], [], [], .cp, none⟩,
           ⟨(some 20), [], [.t 18, .t 19], [], [], .bins .add, none⟩,
           ⟨(some 21), [], [.c (.fn (F n_sum_Of)), .t 20], [], [], .call 0 false, none⟩,
           ⟨(some 22), [], [.t 17, .t 21], [], [], .bini .eql, none⟩,
           ⟨(some 23), [], [.t 22], [], [], .cp, none⟩,
           ⟨(some 24), [], [.c (.fn (F n_plaw01_awake))], [], [], .call 0 false, some (23, true)⟩,
           ⟨(some 25), [], [.t 23, .t 24, .c (.bool false)], [], [], .pick, none⟩,
           ⟨(some 4), [25], [.t 25], [], [], .mv, none⟩] [14, 15, 16, 17, 18, 19, 20, 21, 22, 23, 24, 25] [])
        .ret))) }

def H_plaw01_SumOpens : Hints := [(1, { ops := [], kt := [9, 10], kb := [] }),
  (2, { ops := [], kt := [12], kb := [] }),
  (3, { ops := [], kt := [13, 14, 15, 16, 17, 18], kb := [] }),
  (4, { ops := [], kt := [19, 20, 21, 22, 23], kb := [] }),
  (5, { ops := [], kt := [24, 25, 26, 27, 28], kb := [] }),
  (6, { ops := [], kt := [29, 30, 31, 32, 33, 34, 35, 36, 37, 38, 39, 40, 41, 42, 43, 44, 45, 46, 47], kb := [] })]
def c_plaw01_SumOpens (F : Nat → FuncId) : AFun := { nparams := 1, ntmps := 48, results := [.tmp 2], body :=
  (.seq
    (.reg [⟨(some 2), [], [.c (.bool false)], [], [], .cp, none⟩] [] [])
    (.seq
      (.seq
        (.reg [⟨(some 9), [], [.t 0], [], [], .cp, none⟩,
           ⟨(some 10), [], [.t 9], [], [], .len true, none⟩,
           ⟨(some 11), [], [.t 10, .c (.int .i64 2000)], [], [], .bini .gtr, none⟩] [9, 10] [])
        (.cond (.t 11)
          (.seq
            (.reg [⟨(some 12), [], [.c (.fn (F n_plaw01_awake))], [], [], .call 0 false, none⟩,
               ⟨(some 2), [12], [.t 12], [], [], .mv, none⟩] [12] [])
            .ret)
          .skip))
      (.seq
        (.reg [⟨(some 14), [], [.t 0], [], [], .cp, none⟩,
           ⟨(some 15), [], [.c (.fn (F n_sum_Sealed)), .t 14], [], [], .call 0 false, none⟩,
           ⟨(some 16), [], [.c (.fn (F n_sum_Open)), .t 15], [], [], .call 0 false, none⟩,
           ⟨(some 13), [], [.t 16], [], [], .cp, none⟩,
           ⟨(some 17), [], [.t 13], [], [], .extract 0, none⟩,
           ⟨(some 18), [], [.t 13], [], [], .extract 1, none⟩,
           ⟨(some 3), [17], [.t 17], [], [], .mv, none⟩,
           ⟨(some 4), [18], [.t 18], [], [], .mv, none⟩] [13, 14, 15, 16, 17, 18] [])
        (.seq
          (.reg [⟨(some 20), [], [.t 0], [], [], .cp, none⟩,
             ⟨(some 21), [], [.c (.fn (F n_sum_Open)), .t 20], [], [], .call 0 false, none⟩,
             ⟨(some 19), [], [.t 21], [], [], .cp, none⟩,
             ⟨(some 22), [], [.t 19], [], [], .extract 0, none⟩,
             ⟨(some 23), [], [.t 19], [], [], .extract 1, none⟩,
             ⟨(some 5), [22], [.t 22], [], [], .mv, none⟩,
             ⟨(some 6), [23], [.t 23], [], [], .mv, none⟩] [19, 20, 21, 22, 23] [])
          (.seq
            (.reg [⟨(some 25), [], [.t 0], [], [], .cp, none⟩,
               ⟨(some 26), [], [.c (.fn (F n_pref01_Open)), .t 25], [], [], .call 0 false, none⟩,
               ⟨(some 24), [], [.t 26], [], [], .cp, none⟩,
               ⟨(some 27), [], [.t 24], [], [], .extract 0, none⟩,
               ⟨(some 28), [], [.t 24], [], [], .extract 1, none⟩,
               ⟨(some 7), [27], [.t 27], [], [], .mv, none⟩,
               ⟨(some 8), [28], [.t 28], [], [], .mv, none⟩] [24, 25, 26, 27, 28] [])
            (.seq
              (.reg [⟨(some 29), [], [.t 4], [], [], .cp, none⟩,
                 ⟨(some 30), [], [.t 29], [], [], .cp, none⟩,
                 ⟨(some 31), [], [.t 3], [], [], .cp, some (30, true)⟩,
                 ⟨(some 32), [], [.t 0], [], [], .cp, some (30, true)⟩,
                 ⟨(some 33), [], [.t 31, .t 32], [], [], .bins .eql, some (30, true)⟩,
                 ⟨(some 34), [], [.t 30, .t 33, .c (.bool false)], [], [], .pick, none⟩,
                 ⟨(some 35), [], [.t 34], [], [], .cp, none⟩,
                 ⟨(some 36), [], [.t 5], [], [], .cp, some (35, true)⟩,
                 ⟨(some 37), [], [.t 7], [], [], .cp, some (35, true)⟩,
                 ⟨(some 38), [], [.t 36, .t 37], [], [], .bins .eql, some (35, true)⟩,
                 ⟨(some 39), [], [.t 35, .t 38, .c (.bool false)], [], [], .pick, none⟩,
                 ⟨(some 40), [], [.t 39], [], [], .cp, none⟩,
                 ⟨(some 41), [], [.t 6], [], [], .cp, some (40, true)⟩,
                 ⟨(some 42), [], [.t 8], [], [], .cp, some (40, true)⟩,
                 ⟨(some 43), [], [.t 41, .t 42], [], [], .binb false, some (40, true)⟩,
                 ⟨(some 44), [], [.t 40, .t 43, .c (.bool false)], [], [], .pick, none⟩,
                 ⟨(some 45), [], [.t 44], [], [], .cp, none⟩,
                 ⟨(some 46), [], [.c (.fn (F n_plaw01_awake))], [], [], .call 0 false, some (45, true)⟩,
                 ⟨(some 47), [], [.t 45, .t 46, .c (.bool false)], [], [], .pick, none⟩,
                 ⟨(some 2), [47], [.t 47], [], [], .mv, none⟩] [29, 30, 31, 32, 33, 34, 35, 36, 37, 38, 39, 40, 41, 42, 43, 44, 45, 46, 47] [])
              .ret)))))) }

def H_plaw01_SumFinds : Hints := [(1, { ops := [], kt := [10, 11, 12, 13, 14, 15], kb := [] }),
  (2, { ops := [], kt := [17], kb := [] }),
  (3, { ops := [], kt := [18, 19], kb := [] }),
  (4, { ops := [], kt := [20, 21, 22, 23, 24, 25, 26, 27, 28, 29, 30, 31, 32, 33, 34, 35, 36], kb := [] }),
  (6, { ops := [], kt := [8, 38, 39, 40, 41, 42, 43, 44, 45], kb := [] }),
  (7, { ops := [], kt := [46, 47, 48, 49, 50, 51, 52, 53, 54, 55, 56, 57, 58], kb := [] })]
def c_plaw01_SumFinds (F : Nat → FuncId) : AFun := { nparams := 3, ntmps := 59, results := [.tmp 6], body :=
  (.seq
    (.reg [⟨(some 6), [], [.c (.bool false)], [], [], .cp, none⟩] [] [])
    (.seq
      (.seq
        (.reg [⟨(some 10), [], [.t 0], [], [], .cp, none⟩,
           ⟨(some 11), [], [.t 10], [], [], .len true, none⟩,
           ⟨(some 12), [], [.t 11, .c (.int .i64 2000)], [], [], .bini .gtr, none⟩,
           ⟨(some 13), [], [.t 12], [], [], .cp, none⟩,
           ⟨(some 14), [], [.t 2], [], [], .cp, some (13, false)⟩,
           ⟨(some 15), [], [.t 14, .c (.int .u8 0)], [], [], .bini .eql, some (13, false)⟩,
           ⟨(some 16), [], [.t 13, .c (.bool true), .t 15], [], [], .pick, none⟩] [10, 11, 12, 13, 14, 15] [])
        (.cond (.t 16)
          (.seq
            (.reg [⟨(some 17), [], [.c (.fn (F n_plaw01_awake))], [], [], .call 0 false, none⟩,
               ⟨(some 6), [17], [.t 17], [], [], .mv, none⟩] [17] [])
            .ret)
          .skip))
      (.seq
        (.reg [⟨(some 18), [], [.t 0], [], [], .cp, none⟩,
           ⟨(some 19), [], [.c (.fn (F n_sum_Sealed)), .t 18], [], [], .call 0 false, none⟩,
           ⟨(some 7), [19], [.t 19], [], [], .mv, none⟩] [18, 19] [])
        (.seq
          (.seq
            (.reg [⟨(some 20), [], [.t 1], [], [], .cp, none⟩,
               ⟨(some 21), [], [.t 20, .c (.int .i64 0)], [], [], .bini .geq, none⟩,
               ⟨(some 22), [], [.t 21], [], [], .cp, none⟩,
               ⟨(some 23), [], [.t 1], [], [], .cp, some (22, true)⟩,
               ⟨(some 24), [], [.t 0], [], [], .cp, some (22, true)⟩,
               ⟨(some 25), [], [.t 24], [], [], .len true, some (22, true)⟩,
               ⟨(some 26), [], [.t 23, .t 25], [], [], .bini .lss, some (22, true)⟩,
               ⟨(some 27), [], [.t 22, .t 26, .c (.bool false)], [], [], .pick, none⟩,
               ⟨(some 28), [], [.t 27], [], [], .cp, none⟩,
               ⟨(some 29), [], [.t 0], [], [], .cp, some (28, true)⟩,
               ⟨(some 30), [], [.t 1], [], [], .cp, some (28, true)⟩,
               ⟨(some 31), [], [.t 2], [], [], .cp, some (28, true)⟩,
               ⟨(some 32), [], [.c (.fn (F n_pref01_Changed)), .t 29, .t 30, .t 31], [], [], .call 0 false, some (28, true)⟩,
               ⟨(some 33), [], [.c (.fn (F n_sum_Of)), .t 32], [], [], .call 0 false, some (28, true)⟩,
               ⟨(some 34), [], [.t 0], [], [], .cp, some (28, true)⟩,
               ⟨(some 35), [], [.c (.fn (F n_sum_Of)), .t 34], [], [], .call 0 false, some (28, true)⟩,
               ⟨(some 36), [], [.t 33, .t 35], [], [], .bini .eql, some (28, true)⟩,
               ⟨(some 37), [], [.t 28, .t 36, .c (.bool false)], [], [], .pick, none⟩] [20, 21, 22, 23, 24, 25, 26, 27, 28, 29, 30, 31, 32, 33, 34, 35, 36] [])
            (.cond (.t 37)
              (.seq
                (.reg [⟨(some 6), [], [.c (.bool false)], [], [], .cp, none⟩] [] [])
                .ret)
              .skip))
          (.seq
            (.reg [⟨(some 39), [], [.t 7], [], [], .cp, none⟩,
               ⟨(some 40), [], [.t 1], [], [], .cp, none⟩,
               ⟨(some 41), [], [.t 2], [], [], .cp, none⟩,
               ⟨(some 42), [], [.c (.fn (F n_pref01_Changed)), .t 39, .t 40, .t 41], [], [], .call 0 false, none⟩,
               ⟨(some 43), [], [.c (.fn (F n_sum_Open)), .t 42], [], [], .call 0 false, none⟩,
               ⟨(some 38), [], [.t 43], [], [], .cp, none⟩,
               ⟨(some 44), [], [.t 38], [], [], .extract 0, none⟩,
               ⟨(some 45), [], [.t 38], [], [], .extract 1, none⟩,
               ⟨(some 8), [44], [.t 44], [], [], .mv, none⟩,
               ⟨(some 9), [45], [.t 45], [], [], .mv, none⟩] [8, 38, 39, 40, 41, 42, 43, 44, 45] [])
            (.seq
              (.reg [⟨(some 46), [], [.t 9], [], [], .cp, none⟩,
                 ⟨(some 47), [], [.t 1], [], [], .cp, none⟩,
                 ⟨(some 48), [], [.t 47, .c (.int .i64 0)], [], [], .bini .lss, none⟩,
                 ⟨(some 49), [], [.t 48], [], [], .cp, none⟩,
                 ⟨(some 50), [], [.t 1], [], [], .cp, some (49, false)⟩,
                 ⟨(some 51), [], [.t 7], [], [], .cp, some (49, false)⟩,
                 ⟨(some 52), [], [.t 51], [], [], .len true, some (49, false)⟩,
                 ⟨(some 53), [], [.t 50, .t 52], [], [], .bini .geq, some (49, false)⟩,
                 ⟨(some 54), [], [.t 49, .c (.bool true), .t 53], [], [], .pick, none⟩,
                 ⟨(some 55), [], [.t 46, .t 54], [], [], .binb false, none⟩,
                 ⟨(some 56), [], [.t 55], [], [], .cp, none⟩,
                 ⟨(some 57), [], [.c (.fn (F n_plaw01_awake))], [], [], .call 0 false, some (56, true)⟩,
                 ⟨(some 58), [], [.t 56, .t 57, .c (.bool false)], [], [], .pick, none⟩,
                 ⟨(some 6), [58], [.t 58], [], [], .mv, none⟩] [46, 47, 48, 49, 50, 51, 52, 53, 54, 55, 56, 57, 58] [])
              .ret)))))) }

def H_plaw01_awake : Hints := [(1, { ops := [], kt := [1, 2, 3, 4, 5, 6], kb := [] })]
def c_plaw01_awake (F : Nat → FuncId) : AFun := { nparams := 0, ntmps := 7, results := [.tmp 0], body :=
  (.seq
    (.reg [⟨(some 0), [], [.c (.bool false)], [], [], .cp, none⟩] [] [])
    (.seq
      (.reg [⟨(some 1), [], [.c (.fn (F n_sum_Of)), .c (.str [49, 50, 51, 52, 53, 54, 55, 56, 57])], [], [], .call 0 false, none⟩,
         ⟨(some 2), [], [.t 1, .c (.int .u32 3421780262)], [], [], .bini .eql, none⟩,
         ⟨(some 3), [], [.t 2], [], [], .cp, none⟩,
         ⟨(some 4), [], [.c (.fn (F n_sum_Sealed)), .c (.str [])], [], [], .call 0 false, some (3, true)⟩,
         ⟨(some 5), [], [.t 4, .c (.str [0, 0, 0, 0])], [], [], .bins .eql, some (3, true)⟩,
         ⟨(some 6), [], [.t 3, .t 5, .c (.bool false)], [], [], .pick, none⟩,
         ⟨(some 0), [6], [.t 6], [], [], .mv, none⟩] [1, 2, 3, 4, 5, 6] [])
      .ret)) }

def H_sum_Of : Hints := [(1, { ops := [], kt := [3, 4], kb := [] })]
def c_sum_Of (F : Nat → FuncId) : AFun := { nparams := 1, ntmps := 5, results := [.tmp 2], body :=
  (.seq
    (.reg [⟨(some 2), [], [.c (.int .u32 0)], [], [], .cp, none⟩] [] [])
    (.seq
      (.reg [⟨(some 3), [], [.t 0], [], [], .cp, none⟩,
         ⟨(some 4), [], [.c (.fn (F n_sum_More)), .c (.int .u32 0), .t 3], [], [], .call 0 false, none⟩,
         ⟨(some 2), [4], [.t 4], [], [], .mv, none⟩] [3, 4] [])
      .ret)) }

def H_pref01_Of : Hints := [(1, { ops := [], kt := [3, 4], kb := [] })]
def c_pref01_Of (F : Nat → FuncId) : AFun := { nparams := 1, ntmps := 5, results := [.tmp 2], body :=
  (.seq
    (.reg [⟨(some 2), [], [.c (.int .u32 0)], [], [], .cp, none⟩] [] [])
    (.seq
      (.reg [⟨(some 3), [], [.t 0], [], [], .cp, none⟩,
         ⟨(some 4), [], [.c (.fn (F n_pref01_More)), .c (.int .u32 0), .t 3], [], [], .call 0 false, none⟩,
         ⟨(some 2), [4], [.t 4], [], [], .mv, none⟩] [3, 4] [])
      .ret)) }

def H_sum_More : Hints := [(1, { ops := [(2, { mw := [5] })], kt := [8], kb := [] }),
  (2, { ops := [], kt := [9, 10], kb := [] }),
  (3, { ops := [], kt := [11], kb := [] }),
  (5, { ops := [], kt := [15], kb := [] }),
  (6, { ops := [], kt := [16, 17, 18, 19, 20, 21], kb := [] }),
  (7, { ops := [(5, { mr := [5] })], kt := [22, 23, 24, 25, 26, 27, 28], kb := [] }),
  (8, { ops := [(5, { mr := [5] })], kt := [29, 30, 31, 32, 33, 34, 35], kb := [] }),
  (9, { ops := [], kt := [7, 14, 15, 16, 17, 18, 19, 20, 21, 22, 23, 24, 25, 26, 27, 28, 29, 30, 31, 32, 33, 34, 35, 36], kb := [] }),
  (10, { ops := [], kt := [37, 38], kb := [] })]
def c_sum_More (F : Nat → FuncId) : AFun := { nparams := 2, ntmps := 39, results := [.tmp 4], body :=
  (.seq
    (.reg [⟨(some 4), [], [.c (.int .u32 0)], [], [], .cp, none⟩] [] [])
    (.seq
      (.reg [⟨(some 8), [], [.c (.fn (F n_sum_table))], [], [], .call 0 false, none⟩,
         ⟨(some 5), [], [], [], [5], .alloc (List.replicate 16 (.val (.int .u32 0))), none⟩,
         ⟨none, [8], [.t 5, .t 8], [], [5], .store true 16, none⟩] [8] [])
      (.seq
        (.reg [⟨(some 9), [], [.t 0], [], [], .cp, none⟩,
           ⟨(some 10), [], [.t 9], [], [], .unint .xor, none⟩,
           ⟨(some 6), [10], [.t 10], [], [], .mv, none⟩] [9, 10] [])
        (.seq
          (.seq
            (.reg [⟨(some 11), [], [.t 1], [], [], .cp, none⟩,
               ⟨(some 12), [], [.t 11], [], [], .len true, none⟩,
               ⟨(some 13), [], [.c (.int .i64 0)], [], [], .cp, none⟩] [11] [])
            (.block 0
              (.loop
                (.seq
                  (.reg [⟨(some 14), [], [.t 13, .t 12], [], [], .bini .lss, none⟩] [] [])
                  (.seq
                    (.cond (.t 14)
                      .skip
                      (.exit 0))
                    (.seq
                      (.block 1
                        (.seq
                          (.reg [⟨(some 15), [], [.t 13], [], [], .cp, none⟩,
                             ⟨(some 7), [15], [.t 15], [], [], .mv, none⟩] [15] [])
                          (.seq
                            (.reg [⟨(some 16), [], [.t 6], [], [], .cp, none⟩,
                               ⟨(some 17), [], [.t 1], [], [], .cp, none⟩,
                               ⟨(some 18), [], [.t 7], [], [], .cp, none⟩,
                               ⟨(some 19), [], [.t 17, .t 18], [], [], .indexs, none⟩,
                               ⟨(some 20), [], [.t 19], [], [], .conv .u32, none⟩,
                               ⟨(some 21), [], [.t 16, .t 20], [], [], .bini .xor, none⟩,
                               ⟨(some 6), [21], [.t 21], [], [], .mv, none⟩] [16, 17, 18, 19, 20, 21] [])
                            (.seq
                              (.reg [⟨(some 22), [], [.t 6], [], [], .cp, none⟩,
                                 ⟨(some 23), [], [.t 22, .c (.int .u64 4)], [], [], .bini .shr, none⟩,
                                 ⟨(some 24), [], [.t 6], [], [], .cp, none⟩,
                                 ⟨(some 25), [], [.t 24, .c (.int .u32 15)], [], [], .bini .and, none⟩,
                                 ⟨(some 26), [], [.t 5, .t 25], [], [], .iaddr (some 16) 1, none⟩,
                                 ⟨(some 27), [], [.t 26], [5], [], .load false 1, none⟩,
                                 ⟨(some 28), [], [.t 23, .t 27], [], [], .bini .xor, none⟩,
                                 ⟨(some 6), [28], [.t 28], [], [], .mv, none⟩] [22, 23, 24, 25, 26, 27, 28] [])
                              (.reg [⟨(some 29), [], [.t 6], [], [], .cp, none⟩,
                                 ⟨(some 30), [], [.t 29, .c (.int .u64 4)], [], [], .bini .shr, none⟩,
                                 ⟨(some 31), [], [.t 6], [], [], .cp, none⟩,
                                 ⟨(some 32), [], [.t 31, .c (.int .u32 15)], [], [], .bini .and, none⟩,
                                 ⟨(some 33), [], [.t 5, .t 32], [], [], .iaddr (some 16) 1, none⟩,
                                 ⟨(some 34), [], [.t 33], [5], [], .load false 1, none⟩,
                                 ⟨(some 35), [], [.t 30, .t 34], [], [], .bini .xor, none⟩,
                                 ⟨(some 6), [35], [.t 35], [], [], .mv, none⟩] [29, 30, 31, 32, 33, 34, 35] [])))))
                      (.reg [⟨(some 36), [], [.t 13, .c (.int .i64 1)], [], [], .bini .add, none⟩,
                         ⟨(some 13), [], [.t 36], [], [], .cp, none⟩] [7, 14, 15, 16, 17, 18, 19, 20, 21, 22, 23, 24, 25, 26, 27, 28, 29, 30, 31, 32, 33, 34, 35, 36] [])))))))
          (.seq
            (.reg [⟨(some 37), [], [.t 6], [], [], .cp, none⟩,
               ⟨(some 38), [], [.t 37], [], [], .unint .xor, none⟩,
               ⟨(some 4), [38], [.t 38], [], [], .mv, none⟩] [37, 38] [])
            .ret))))) }

def H_pref01_More : Hints := [(1, { ops := [], kt := [9, 10], kb := [] }),
  (3, { ops := [], kt := [11, 12, 13], kb := [] }),
  (4, { ops := [], kt := [7, 8, 11, 12, 13, 14, 15, 16, 17, 18, 19, 20, 21, 22, 23, 24, 25, 26, 27, 28, 29, 30, 31, 32, 33, 34], kb := [] }),
  (5, { ops := [], kt := [17, 18, 19, 20, 21, 22], kb := [] }),
  (7, { ops := [], kt := [23], kb := [] }),
  (8, { ops := [], kt := [8, 23, 24, 25, 26, 27, 28, 29, 30, 31, 32, 33, 34], kb := [] }),
  (9, { ops := [], kt := [27, 28], kb := [] }),
  (10, { ops := [], kt := [29, 30], kb := [] }),
  (11, { ops := [], kt := [31], kb := [] }),
  (12, { ops := [], kt := [33, 34], kb := [] }),
  (13, { ops := [], kt := [35, 36], kb := [] })]
def c_pref01_More (F : Nat → FuncId) : AFun := { nparams := 2, ntmps := 37, results := [.tmp 4], body :=
  (.seq
    (.reg [⟨(some 4), [], [.c (.int .u32 0)], [], [], .cp, none⟩] [] [])
    (.seq
      (.reg [⟨(some 9), [], [.t 0], [], [], .cp, none⟩,
         ⟨(some 10), [], [.t 9, .c (.int .u32 4294967295)], [], [], .bini .xor, none⟩,
         ⟨(some 5), [10], [.t 10], [], [], .mv, none⟩] [9, 10] [])
      (.seq
        (.seq
          (.reg [⟨(some 6), [], [.c (.int .i64 0)], [], [], .cp, none⟩] [] [])
          (.block 0
            (.loop
              (.seq
                (.seq
                  (.reg [⟨(some 11), [], [.t 6], [], [], .cp, none⟩,
                     ⟨(some 12), [], [.t 1], [], [], .cp, none⟩,
                     ⟨(some 13), [], [.t 12], [], [], .len true, none⟩,
                     ⟨(some 14), [], [.t 11, .t 13], [], [], .bini .lss, none⟩] [11, 12, 13] [])
                  (.cond (.t 14)
                    .skip
                    (.exit 0)))
                (.seq
                  (.block 1
                    (.seq
                      (.reg [⟨(some 17), [], [.t 5], [], [], .cp, none⟩,
                         ⟨(some 18), [], [.t 1], [], [], .cp, none⟩,
                         ⟨(some 19), [], [.t 6], [], [], .cp, none⟩,
                         ⟨(some 20), [], [.t 18, .t 19], [], [], .indexs, none⟩,
                         ⟨(some 21), [], [.t 20], [], [], .conv .u32, none⟩,
                         ⟨(some 22), [], [.t 17, .t 21], [], [], .bini .xor, none⟩,
                         ⟨(some 5), [22], [.t 22], [], [], .mv, none⟩] [17, 18, 19, 20, 21, 22] [])
                      (.seq
                        (.reg [⟨(some 7), [], [.c (.int .i64 0)], [], [], .cp, none⟩] [] [])
                        (.block 2
                          (.loop
                            (.seq
                              (.seq
                                (.reg [⟨(some 23), [], [.t 7], [], [], .cp, none⟩,
                                   ⟨(some 24), [], [.t 23, .c (.int .i64 8)], [], [], .bini .lss, none⟩] [23] [])
                                (.cond (.t 24)
                                  .skip
                                  (.exit 2)))
                              (.seq
                                (.block 3
                                  (.seq
                                    (.reg [⟨(some 27), [], [.t 5], [], [], .cp, none⟩,
                                       ⟨(some 28), [], [.t 27, .c (.int .u32 2)], [], [], .bini .rem, none⟩,
                                       ⟨(some 8), [28], [.t 28], [], [], .mv, none⟩] [27, 28] [])
                                    (.seq
                                      (.reg [⟨(some 29), [], [.t 5], [], [], .cp, none⟩,
                                         ⟨(some 30), [], [.t 29, .c (.int .u32 2)], [], [], .bini .quo, none⟩,
                                         ⟨(some 5), [30], [.t 30], [], [], .mv, none⟩] [29, 30] [])
                                      (.seq
                                        (.reg [⟨(some 31), [], [.t 8], [], [], .cp, none⟩,
                                           ⟨(some 32), [], [.t 31, .c (.int .u32 1)], [], [], .bini .eql, none⟩] [31] [])
                                        (.cond (.t 32)
                                          (.reg [⟨(some 33), [], [.t 5], [], [], .cp, none⟩,
                                             ⟨(some 34), [], [.t 33, .c (.int .u32 3988292384)], [], [], .bini .xor, none⟩,
                                             ⟨(some 5), [34], [.t 34], [], [], .mv, none⟩] [33, 34] [])
                                          .skip)))))
                                (.reg [⟨(some 25), [], [.t 7], [], [], .cp, none⟩,
                                   ⟨(some 26), [], [.t 25, .c (.int .i64 1)], [], [], .bini .add, none⟩,
                                   ⟨(some 7), [26], [.t 26], [], [], .mv, none⟩] [8, 23, 24, 25, 26, 27, 28, 29, 30, 31, 32, 33, 34] []))))))))
                  (.reg [⟨(some 15), [], [.t 6], [], [], .cp, none⟩,
                     ⟨(some 16), [], [.t 15, .c (.int .i64 1)], [], [], .bini .add, none⟩,
                     ⟨(some 6), [16], [.t 16], [], [], .mv, none⟩] [7, 8, 11, 12, 13, 14, 15, 16, 17, 18, 19, 20, 21, 22, 23, 24, 25, 26, 27, 28, 29, 30, 31, 32, 33, 34] []))))))
        (.seq
          (.reg [⟨(some 35), [], [.t 5], [], [], .cp, none⟩,
             ⟨(some 36), [], [.t 35, .c (.int .u32 4294967295)], [], [], .bini .xor, none⟩,
             ⟨(some 4), [36], [.t 36], [], [], .mv, none⟩] [35, 36] [])
          .ret)))) }

def H_sum_Bytes : Hints := [(1, { ops := [], kt := [3, 4, 5, 6, 7, 8, 9, 10, 11, 12, 13, 14, 15], kb := [] })]
def c_sum_Bytes (F : Nat → FuncId) : AFun := { nparams := 1, ntmps := 16, results := [.tmp 2], body :=
  (.seq
    (.reg [⟨(some 2), [], [.c (.str [])], [], [], .cp, none⟩] [] [])
    (.seq
      (.reg [⟨(some 3), [], [.t 0], [], [], .cp, none⟩,
         ⟨(some 4), [], [.t 3], [], [], .conv .u8, none⟩,
         ⟨(some 5), [], [.t 0], [], [], .cp, none⟩,
         ⟨(some 6), [], [.t 5, .c (.int .u64 8)], [], [], .bini .shr, none⟩,
         ⟨(some 7), [], [.t 6], [], [], .conv .u8, none⟩,
         ⟨(some 8), [], [.t 0], [], [], .cp, none⟩,
         ⟨(some 9), [], [.t 8, .c (.int .u64 16)], [], [], .bini .shr, none⟩,
         ⟨(some 10), [], [.t 9], [], [], .conv .u8, none⟩,
         ⟨(some 11), [], [.t 0], [], [], .cp, none⟩,
         ⟨(some 12), [], [.t 11, .c (.int .u64 24)], [], [], .bini .shr, none⟩,
         ⟨(some 13), [], [.t 12], [], [], .conv .u8, none⟩,
         ⟨(some 14), [], [.t 4, .t 7, .t 10, .t 13], [], [], .bslice 1 [.int .u8 0, .int .u8 0, .int .u8 0, .int .u8 0] [(0, 1), (1, 1), (2, 1), (3, 1)], none⟩,
         ⟨(some 15), [], [.t 14], [], [], .b2s, none⟩,
         ⟨(some 2), [15], [.t 15], [], [], .mv, none⟩] [3, 4, 5, 6, 7, 8, 9, 10, 11, 12, 13, 14, 15] [])
      .ret)) }

def H_pref01_Bytes : Hints := [(3, { ops := [], kt := [5], kb := [] }),
  (4, { ops := [], kt := [5, 6, 7, 8, 9, 10, 11, 12, 13, 14, 15, 16], kb := [] }),
  (5, { ops := [(0, { take := true })], kt := [9, 10, 11, 12, 13, 14], kb := [] }),
  (6, { ops := [], kt := [15, 16], kb := [] }),
  (7, { ops := [], kt := [17, 18], kb := [] })]
def c_pref01_Bytes (F : Nat → FuncId) : AFun := { nparams := 1, ntmps := 19, results := [.tmp 2], body :=
  (.seq
    (.reg [⟨(some 2), [], [.c (.str [])], [], [], .cp, none⟩] [] [])
    (.seq
      (.reg [⟨(some 3), [], [], [], [], .nils 1, none⟩] [] [])
      (.seq
        (.seq
          (.reg [⟨(some 4), [], [.c (.int .i64 0)], [], [], .cp, none⟩] [] [])
          (.block 0
            (.loop
              (.seq
                (.seq
                  (.reg [⟨(some 5), [], [.t 4], [], [], .cp, none⟩,
                     ⟨(some 6), [], [.t 5, .c (.int .i64 4)], [], [], .bini .lss, none⟩] [5] [])
                  (.cond (.t 6)
                    .skip
                    (.exit 0)))
                (.seq
                  (.block 1
                    (.seq
                      (.reg [⟨(some 9), [3], [.t 3], [], [], .mv, none⟩,
                         ⟨(some 10), [], [.t 0], [], [], .cp, none⟩,
                         ⟨(some 11), [], [.t 10, .c (.int .u32 256)], [], [], .bini .rem, none⟩,
                         ⟨(some 12), [], [.t 11], [], [], .conv .u8, none⟩,
                         ⟨(some 13), [], [.t 12], [], [], .bslice 1 [.int .u8 0] [(0, 1)], none⟩,
                         ⟨(some 14), [9], [.t 9, .t 13], [], [], .append 1 1, none⟩,
                         ⟨(some 3), [14], [.t 14], [], [], .mv, none⟩] [9, 10, 11, 12, 13, 14] [])
                      (.reg [⟨(some 15), [], [.t 0], [], [], .cp, none⟩,
                         ⟨(some 16), [], [.t 15, .c (.int .u32 256)], [], [], .bini .quo, none⟩,
                         ⟨(some 0), [16], [.t 16], [], [], .mv, none⟩] [15, 16] [])))
                  (.reg [⟨(some 7), [], [.t 4], [], [], .cp, none⟩,
                     ⟨(some 8), [], [.t 7, .c (.int .i64 1)], [], [], .bini .add, none⟩,
                     ⟨(some 4), [8], [.t 8], [], [], .mv, none⟩] [5, 6, 7, 8, 9, 10, 11, 12, 13, 14, 15, 16] []))))))
        (.seq
          (.reg [⟨(some 17), [], [.t 3], [], [], .cp, none⟩,
             ⟨(some 18), [], [.t 17], [], [], .b2s, none⟩,
             ⟨(some 2), [18], [.t 18], [], [], .mv, none⟩] [17, 18] [])
          .ret)))) }

def H_sum_Open : Hints := [(1, { ops := [], kt := [5, 6, 7], kb := [] }),
  (2, { ops := [], kt := [8, 9, 10, 11, 12, 13, 14, 15, 16, 17, 18, 19], kb := [] }),
  (4, { ops := [], kt := [21, 22, 23], kb := [] })]
def c_sum_Open (F : Nat → FuncId) : AFun := { nparams := 1, ntmps := 24, results := [.tmp 2, .tmp 3], body :=
  (.seq
    (.reg [⟨(some 2), [], [.c (.str [])], [], [], .cp, none⟩,
       ⟨(some 3), [], [.c (.bool false)], [], [], .cp, none⟩] [] [])
    (.seq
      (.reg [⟨(some 5), [], [.t 0], [], [], .cp, none⟩,
         ⟨(some 6), [], [.t 5], [], [], .len true, none⟩,
         ⟨(some 7), [], [.t 6, .c (.int .i64 4)], [], [], .bini .sub, none⟩,
         ⟨(some 4), [7], [.t 7], [], [], .mv, none⟩] [5, 6, 7] [])
      (.seq
        (.seq
          (.reg [⟨(some 8), [], [.t 4], [], [], .cp, none⟩,
             ⟨(some 9), [], [.t 8, .c (.int .i64 0)], [], [], .bini .lss, none⟩,
             ⟨(some 10), [], [.t 9], [], [], .cp, none⟩,
             ⟨(some 11), [], [.t 0], [], [], .cp, some (10, false)⟩,
             ⟨(some 12), [], [.t 4], [], [], .cp, some (10, false)⟩,
             ⟨(some 13), [], [.t 11, .t 12], [], [], .slices false true, some (10, false)⟩,
             ⟨(some 14), [], [.c (.fn (F n_sum_Of)), .t 13], [], [], .call 0 false, some (10, false)⟩,
             ⟨(some 15), [], [.c (.fn (F n_sum_Bytes)), .t 14], [], [], .call 0 false, some (10, false)⟩,
             ⟨(some 16), [], [.t 0], [], [], .cp, some (10, false)⟩,
             ⟨(some 17), [], [.t 4], [], [], .cp, some (10, false)⟩,
             ⟨(some 18), [], [.t 16, .t 17], [], [], .slices true false, some (10, false)⟩,
             ⟨(some 19), [], [.t 15, .t 18], [], [], .bins .neq, some (10, false)⟩,
             ⟨(some 20), [], [.t 10, .c (.bool true), .t 19], [], [], .pick, none⟩] [8, 9, 10, 11, 12, 13, 14, 15, 16, 17, 18, 19] [])
          (.cond (.t 20)
            (.seq
              (.reg [⟨(some 2), [], [.c (.str [])], [], [], .cp, none⟩,
                 ⟨(some 3), [], [.c (.bool false)], [], [], .cp, none⟩] [] [])
              .ret)
            .skip))
        (.seq
          (.reg [⟨(some 21), [], [.t 0], [], [], .cp, none⟩,
             ⟨(some 22), [], [.t 4], [], [], .cp, none⟩,
             ⟨(some 23), [], [.t 21, .t 22], [], [], .slices false true, none⟩,
             ⟨(some 2), [23], [.t 23], [], [], .mv, none⟩,
             ⟨(some 3), [], [.c (.bool true)], [], [], .cp, none⟩] [21, 22, 23] [])
          .ret)))) }

def H_sum_Sealed : Hints := [(1, { ops := [], kt := [3, 4, 5, 6, 7], kb := [] })]
def c_sum_Sealed (F : Nat → FuncId) : AFun := { nparams := 1, ntmps := 8, results := [.tmp 2], body :=
  (.seq
    (.reg [⟨(some 2), [], [.c (.str [])], [], [], .cp, none⟩] [] [])
    (.seq
      (.reg [⟨(some 3), [], [.t 0], [], [], .cp, none⟩,
         ⟨(some 4), [], [.t 0], [], [], .cp, none⟩,
         ⟨(some 5), [], [.c (.fn (F n_sum_Of)), .t 4], [], [], .call 0 false, none⟩,
         ⟨(some 6), [], [.c (.fn (F n_sum_Bytes)), .t 5], [], [], .call 0 false, none⟩,
         ⟨(some 7), [], [.t 3, .t 6], [], [], .bins .add, none⟩,
         ⟨(some 2), [7], [.t 7], [], [], .mv, none⟩] [3, 4, 5, 6, 7] [])
      .ret)) }

def H_pref01_Open : Hints := [(1, { ops := [], kt := [5, 6], kb := [] }),
  (3, { ops := [], kt := [8, 9, 10, 11, 12], kb := [] }),
  (4, { ops := [], kt := [13, 14, 15, 16, 17, 18], kb := [] }),
  (6, { ops := [], kt := [20], kb := [] })]
def c_pref01_Open (F : Nat → FuncId) : AFun := { nparams := 1, ntmps := 21, results := [.tmp 2, .tmp 3], body :=
  (.seq
    (.reg [⟨(some 2), [], [.c (.str [])], [], [], .cp, none⟩,
       ⟨(some 3), [], [.c (.bool false)], [], [], .cp, none⟩] [] [])
    (.seq
      (.seq
        (.reg [⟨(some 5), [], [.t 0], [], [], .cp, none⟩,
           ⟨(some 6), [], [.t 5], [], [], .len true, none⟩,
           ⟨(some 7), [], [.t 6, .c (.int .i64 4)], [], [], .bini .lss, none⟩] [5, 6] [])
        (.cond (.t 7)
          (.seq
            (.reg [⟨(some 2), [], [.c (.str [])], [], [], .cp, none⟩,
               ⟨(some 3), [], [.c (.bool false)], [], [], .cp, none⟩] [] [])
            .ret)
          .skip))
      (.seq
        (.reg [⟨(some 8), [], [.t 0], [], [], .cp, none⟩,
           ⟨(some 9), [], [.t 0], [], [], .cp, none⟩,
           ⟨(some 10), [], [.t 9], [], [], .len true, none⟩,
           ⟨(some 11), [], [.t 10, .c (.int .i64 4)], [], [], .bini .sub, none⟩,
           ⟨(some 12), [], [.t 8, .t 11], [], [], .slices false true, none⟩,
           ⟨(some 4), [12], [.t 12], [], [], .mv, none⟩] [8, 9, 10, 11, 12] [])
        (.seq
          (.seq
            (.reg [⟨(some 13), [], [.t 4], [], [], .cp, none⟩,
               ⟨(some 14), [], [.t 4], [], [], .cp, none⟩,
               ⟨(some 15), [], [.c (.fn (F n_pref01_Of)), .t 14], [], [], .call 0 false, none⟩,
               ⟨(some 16), [], [.c (.fn (F n_pref01_Bytes)), .t 15], [], [], .call 0 false, none⟩,
               ⟨(some 17), [], [.t 13, .t 16], [], [], .bins .add, none⟩,
               ⟨(some 18), [], [.t 0], [], [], .cp, none⟩,
               ⟨(some 19), [], [.t 17, .t 18], [], [], .bins .neq, none⟩] [13, 14, 15, 16, 17, 18] [])
            (.cond (.t 19)
              (.seq
                (.reg [⟨(some 2), [], [.c (.str [])], [], [], .cp, none⟩,
                   ⟨(some 3), [], [.c (.bool false)], [], [], .cp, none⟩] [] [])
                .ret)
              .skip))
          (.seq
            (.reg [⟨(some 20), [], [.t 4], [], [], .cp, none⟩,
               ⟨(some 2), [20], [.t 20], [], [], .mv, none⟩,
               ⟨(some 3), [], [.c (.bool true)], [], [], .cp, none⟩] [20] [])
            .ret))))) }

def H_pref01_Changed : Hints := [(3, { ops := [], kt := [10, 11, 12], kb := [] }),
  (4, { ops := [], kt := [9, 10, 11, 12, 13, 14, 15, 16, 17, 18, 19, 20, 21, 22, 23, 24, 25, 26, 27, 28], kb := [] }),
  (5, { ops := [], kt := [16, 17, 18], kb := [] }),
  (6, { ops := [], kt := [19, 20], kb := [] }),
  (7, { ops := [], kt := [22, 23, 24], kb := [] }),
  (8, { ops := [(0, { take := true })], kt := [25, 26, 27, 28], kb := [] }),
  (9, { ops := [], kt := [29, 30], kb := [] })]
def c_pref01_Changed (F : Nat → FuncId) : AFun := { nparams := 3, ntmps := 31, results := [.tmp 6], body :=
  (.seq
    (.reg [⟨(some 6), [], [.c (.str [])], [], [], .cp, none⟩] [] [])
    (.seq
      (.reg [⟨(some 7), [], [], [], [], .nils 1, none⟩] [] [])
      (.seq
        (.seq
          (.reg [⟨(some 8), [], [.c (.int .i64 0)], [], [], .cp, none⟩] [] [])
          (.block 0
            (.loop
              (.seq
                (.seq
                  (.reg [⟨(some 10), [], [.t 8], [], [], .cp, none⟩,
                     ⟨(some 11), [], [.t 0], [], [], .cp, none⟩,
                     ⟨(some 12), [], [.t 11], [], [], .len true, none⟩,
                     ⟨(some 13), [], [.t 10, .t 12], [], [], .bini .lss, none⟩] [10, 11, 12] [])
                  (.cond (.t 13)
                    .skip
                    (.exit 0)))
                (.seq
                  (.block 1
                    (.seq
                      (.reg [⟨(some 16), [], [.t 0], [], [], .cp, none⟩,
                         ⟨(some 17), [], [.t 8], [], [], .cp, none⟩,
                         ⟨(some 18), [], [.t 16, .t 17], [], [], .indexs, none⟩,
                         ⟨(some 9), [18], [.t 18], [], [], .mv, none⟩] [16, 17, 18] [])
                      (.seq
                        (.seq
                          (.reg [⟨(some 19), [], [.t 8], [], [], .cp, none⟩,
                             ⟨(some 20), [], [.t 1], [], [], .cp, none⟩,
                             ⟨(some 21), [], [.t 19, .t 20], [], [], .bini .eql, none⟩] [19, 20] [])
                          (.cond (.t 21)
                            (.reg [⟨(some 22), [], [.t 9], [], [], .cp, none⟩,
                               ⟨(some 23), [], [.t 2], [], [], .cp, none⟩,
                               ⟨(some 24), [], [.t 22, .t 23], [], [], .bini .xor, none⟩,
                               ⟨(some 9), [24], [.t 24], [], [], .mv, none⟩] [22, 23, 24] [])
                            .skip))
                        (.reg [⟨(some 25), [7], [.t 7], [], [], .mv, none⟩,
                           ⟨(some 26), [], [.t 9], [], [], .cp, none⟩,
                           ⟨(some 27), [], [.t 26], [], [], .bslice 1 [.int .u8 0] [(0, 1)], none⟩,
                           ⟨(some 28), [25], [.t 25, .t 27], [], [], .append 1 1, none⟩,
                           ⟨(some 7), [28], [.t 28], [], [], .mv, none⟩] [25, 26, 27, 28] []))))
                  (.reg [⟨(some 14), [], [.t 8], [], [], .cp, none⟩,
                     ⟨(some 15), [], [.t 14, .c (.int .i64 1)], [], [], .bini .add, none⟩,
                     ⟨(some 8), [15], [.t 15], [], [], .mv, none⟩] [9, 10, 11, 12, 13, 14, 15, 16, 17, 18, 19, 20, 21, 22, 23, 24, 25, 26, 27, 28] []))))))
        (.seq
          (.reg [⟨(some 29), [], [.t 7], [], [], .cp, none⟩,
             ⟨(some 30), [], [.t 29], [], [], .b2s, none⟩,
             ⟨(some 6), [30], [.t 30], [], [], .mv, none⟩] [29, 30] [])
          .ret)))) }

def H_sum_table : Hints := [(4, { ops := [], kt := [6], kb := [] }),
  (5, { ops := [], kt := [7, 8], kb := [] }),
  (8, { ops := [], kt := [11, 12], kb := [] }),
  (9, { ops := [], kt := [14, 15, 16], kb := [] }),
  (10, { ops := [], kt := [17, 18], kb := [] }),
  (11, { ops := [], kt := [10, 11, 12, 13, 14, 15, 16, 17, 18, 19], kb := [] }),
  (12, { ops := [(3, { mw := [1] })], kt := [20, 21, 22], kb := [] }),
  (13, { ops := [], kt := [2, 3, 5, 6, 7, 8, 9, 10, 11, 12, 13, 14, 15, 16, 17, 18, 19, 20, 21, 22, 23], kb := [] }),
  (14, { ops := [(0, { mr := [1] }), (1, { mw := [0] })], kt := [24], kb := [] })]
def c_sum_table (F : Nat → FuncId) : AFun := { nparams := 0, ntmps := 25, results := [.cell 0 true 16], body :=
  (.seq
    (.reg [⟨(some 0), [], [], [], [0], .alloc (List.replicate 16 (.val (.int .u32 0))), none⟩] [] [])
    (.seq
      (.reg [⟨(some 1), [], [], [], [1], .alloc (List.replicate 16 (.val (.int .u32 0))), none⟩] [] [])
      (.seq
        (.seq
          (.reg [⟨(some 4), [], [.c (.int .i64 0)], [], [], .cp, none⟩] [] [])
          (.block 0
            (.loop
              (.seq
                (.reg [⟨(some 5), [], [.t 4, .c (.int .i64 16)], [], [], .bini .lss, none⟩] [] [])
                (.seq
                  (.cond (.t 5)
                    .skip
                    (.exit 0))
                  (.seq
                    (.block 1
                      (.seq
                        (.reg [⟨(some 6), [], [.t 4], [], [], .cp, none⟩,
                           ⟨(some 2), [6], [.t 6], [], [], .mv, none⟩] [6] [])
                        (.seq
                          (.reg [⟨(some 7), [], [.t 2], [], [], .cp, none⟩,
                             ⟨(some 8), [], [.t 7], [], [], .conv .u32, none⟩,
                             ⟨(some 3), [8], [.t 8], [], [], .mv, none⟩] [7, 8] [])
                          (.seq
                            (.seq
                              (.reg [⟨(some 9), [], [.c (.int .i64 0)], [], [], .cp, none⟩] [] [])
                              (.block 2
                                (.loop
                                  (.seq
                                    (.reg [⟨(some 10), [], [.t 9, .c (.int .i64 4)], [], [], .bini .lss, none⟩] [] [])
                                    (.seq
                                      (.cond (.t 10)
                                        .skip
                                        (.exit 2))
                                      (.seq
                                        (.block 3
                                          (.seq
                                            (.reg [⟨(some 11), [], [.t 3], [], [], .cp, none⟩,
                                               ⟨(some 12), [], [.t 11, .c (.int .u32 1)], [], [], .bini .and, none⟩,
                                               ⟨(some 13), [], [.t 12, .c (.int .u32 1)], [], [], .bini .eql, none⟩] [11, 12] [])
                                            (.cond (.t 13)
                                              (.reg [⟨(some 14), [], [.t 3], [], [], .cp, none⟩,
                                                 ⟨(some 15), [], [.t 14, .c (.int .u64 1)], [], [], .bini .shr, none⟩,
                                                 ⟨(some 16), [], [.t 15, .c (.int .u32 3988292384)], [], [], .bini .xor, none⟩,
                                                 ⟨(some 3), [16], [.t 16], [], [], .mv, none⟩] [14, 15, 16] [])
                                              (.reg [⟨(some 17), [], [.t 3], [], [], .cp, none⟩,
                                                 ⟨(some 18), [], [.t 17, .c (.int .u64 1)], [], [], .bini .shr, none⟩,
                                                 ⟨(some 3), [18], [.t 18], [], [], .mv, none⟩] [17, 18] []))))
                                        (.reg [⟨(some 19), [], [.t 9, .c (.int .i64 1)], [], [], .bini .add, none⟩,
                                           ⟨(some 9), [], [.t 19], [], [], .cp, none⟩] [10, 11, 12, 13, 14, 15, 16, 17, 18, 19] [])))))))
                            (.reg [⟨(some 20), [], [.t 2], [], [], .cp, none⟩,
                               ⟨(some 21), [], [.t 3], [], [], .cp, none⟩,
                               ⟨(some 22), [], [.t 1, .t 20], [], [], .iaddr (some 16) 1, none⟩,
                               ⟨none, [21], [.t 22, .t 21], [], [1], .store false 1, none⟩] [20, 21, 22] [])))))
                    (.reg [⟨(some 23), [], [.t 4, .c (.int .i64 1)], [], [], .bini .add, none⟩,
                       ⟨(some 4), [], [.t 23], [], [], .cp, none⟩] [2, 3, 5, 6, 7, 8, 9, 10, 11, 12, 13, 14, 15, 16, 17, 18, 19, 20, 21, 22, 23] [])))))))
        (.seq
          (.reg [⟨(some 24), [], [.t 1], [1], [], .load true 16, none⟩,
             ⟨none, [24], [.t 0, .t 24], [], [0], .store true 16, none⟩] [24] [])
          .ret)))) }

end Go.AR

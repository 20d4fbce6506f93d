import Derived.Test.YteombjhaanohiaaComp
import Derived.Test.YteombjhaanohiaaNames
set_option linter.all false
/-! Codes, printed by program. -/
namespace Go.AR
def H_pref05_Right : Hints := [(2, { ops := [], kt := [4], kb := [] }),
  (3, { ops := [], kt := [4, 5, 6, 7, 8, 9, 10, 11, 12, 13, 14, 15, 16, 17], kb := [] }),
  (4, { ops := [(2, { mr := [1] }), (7, { mr := [1] })], kt := [8, 9, 10, 11, 12, 13, 14, 15, 16], kb := [] })]
def c_pref05_Right (F : Nat → FuncId) : AFun := { nparams := 1, ntmps := 18, results := [.tmp 2], body :=
  (.seq
    (.reg [⟨(some 1), [], [.t 0], [], [1], .box, none⟩,
       ⟨(some 2), [], [.c (.bool false)], [], [], .cp, none⟩] [] [])
    (.seq
      (.seq
        (.reg [⟨(some 3), [], [.c (.int .i64 0)], [], [], .cp, none⟩] [] [])
        (.block 0
          (.loop
            (.seq
              (.seq
                (.reg [⟨(some 4), [], [.t 3], [], [], .cp, none⟩,
                   ⟨(some 5), [], [.t 4, .c (.int .i64 16)], [], [], .bini .lss, none⟩] [4] [])
                (.cond (.t 5)
                  .skip
                  (.exit 0)))
              (.seq
                (.block 1
                  (.seq
                    (.reg [⟨(some 8), [], [.t 3], [], [], .cp, none⟩,
                       ⟨(some 9), [], [.t 1, .t 8], [], [], .iaddr (some 16) 1, none⟩,
                       ⟨(some 10), [], [.t 9], [1], [], .load false 1, none⟩,
                       ⟨(some 11), [], [.t 10, .c (.int .i64 0)], [], [], .bini .lss, none⟩,
                       ⟨(some 12), [], [.t 11], [], [], .cp, none⟩,
                       ⟨(some 13), [], [.t 3], [], [], .cp, some (12, false)⟩,
                       ⟨(some 14), [], [.t 1, .t 13], [], [], .iaddr (some 16) 1, some (12, false)⟩,
                       ⟨(some 15), [], [.t 14], [1], [], .load false 1, some (12, false)⟩,
                       ⟨(some 16), [], [.t 15, .c (.int .i64 1048576)], [], [], .bini .gtr, some (12, false)⟩,
                       ⟨(some 17), [], [.t 12, .c (.bool true), .t 16], [], [], .pick, none⟩] [8, 9, 10, 11, 12, 13, 14, 15, 16] [])
                    (.cond (.t 17)
                      (.seq
                        (.reg [⟨(some 2), [], [.c (.bool false)], [], [], .cp, none⟩] [] [])
                        .ret)
                      .skip)))
                (.reg [⟨(some 6), [], [.t 3], [], [], .cp, none⟩,
                   ⟨(some 7), [], [.t 6, .c (.int .i64 1)], [], [], .bini .add, none⟩,
                   ⟨(some 3), [7], [.t 7], [], [], .mv, none⟩] [4, 5, 6, 7, 8, 9, 10, 11, 12, 13, 14, 15, 16, 17] []))))))
      (.seq
        (.reg [⟨(some 2), [], [.c (.bool true)], [], [], .cp, none⟩] [] [])
        .ret))) }

def H_pref05_Has : Hints := [(1, { ops := [(0, { mr := [3] }), (4, { mr := [3] }), (6, { mr := [2] }), (8, { mr := [3] })], kt := [5, 6, 7, 8, 9, 10, 11, 12, 13, 14, 15], kb := [] })]
def c_pref05_Has (F : Nat → FuncId) : AFun := { nparams := 2, ntmps := 16, results := [.tmp 4], body :=
  (.seq
    (.reg [⟨(some 2), [], [.t 0], [], [2], .box, none⟩,
       ⟨(some 3), [], [.t 1], [], [3], .box, none⟩,
       ⟨(some 4), [], [.c (.bool false)], [], [], .cp, none⟩] [] [])
    (.seq
      (.reg [⟨(some 5), [], [.t 3], [3], [], .load true 2, none⟩,
         ⟨(some 6), [], [.c (.fn (F n_pref04_Right)), .t 5], [], [], .call 0 false, none⟩,
         ⟨(some 7), [], [.t 6], [], [], .cp, none⟩,
         ⟨(some 8), [], [.t 3], [], [], .faddr 0, some (7, true)⟩,
         ⟨(some 9), [], [.t 8], [3], [], .load false 1, some (7, true)⟩,
         ⟨(some 10), [], [.t 2, .t 9], [], [], .iaddr (some 16) 1, some (7, true)⟩,
         ⟨(some 11), [], [.t 10], [2], [], .load false 1, some (7, true)⟩,
         ⟨(some 12), [], [.t 3], [], [], .faddr 1, some (7, true)⟩,
         ⟨(some 13), [], [.t 12], [3], [], .load false 1, some (7, true)⟩,
         ⟨(some 14), [], [.t 11, .t 13], [], [], .bini .geq, some (7, true)⟩,
         ⟨(some 15), [], [.t 7, .t 14, .c (.bool false)], [], [], .pick, none⟩,
         ⟨(some 4), [15], [.t 15], [], [], .mv, none⟩] [5, 6, 7, 8, 9, 10, 11, 12, 13, 14, 15] [])
      .ret)) }

def H_pref05_Join : Hints := [(1, { ops := [(0, { mr := [2] }), (2, { mw := [5] })], kt := [7], kb := [] }),
  (3, { ops := [], kt := [8], kb := [] }),
  (4, { ops := [], kt := [8, 9, 10, 11, 12, 13, 14, 15, 16, 17, 18, 19, 20, 21, 22, 23], kb := [] }),
  (5, { ops := [(2, { mr := [3] }), (5, { mr := [2] })], kt := [12, 13, 14, 15, 16, 17], kb := [] }),
  (6, { ops := [(3, { mr := [3] }), (5, { mw := [5] })], kt := [19, 20, 21, 22, 23], kb := [] }),
  (7, { ops := [(0, { mr := [5] }), (1, { mw := [4] })], kt := [24], kb := [] })]
def c_pref05_Join (F : Nat → FuncId) : AFun := { nparams := 2, ntmps := 25, results := [.cell 4 true 16], body :=
  (.seq
    (.reg [⟨(some 2), [], [.t 0], [], [2], .box, none⟩,
       ⟨(some 3), [], [.t 1], [], [3], .box, none⟩,
       ⟨(some 4), [], [], [], [4], .alloc (List.replicate 16 (.val (.int .i64 0))), none⟩] [] [])
    (.seq
      (.reg [⟨(some 7), [], [.t 2], [2], [], .load true 16, none⟩,
         ⟨(some 5), [], [], [], [5], .alloc (List.replicate 16 (.val (.int .i64 0))), none⟩,
         ⟨none, [7], [.t 5, .t 7], [], [5], .store true 16, none⟩] [7] [])
      (.seq
        (.seq
          (.reg [⟨(some 6), [], [.c (.int .i64 0)], [], [], .cp, none⟩] [] [])
          (.block 0
            (.loop
              (.seq
                (.seq
                  (.reg [⟨(some 8), [], [.t 6], [], [], .cp, none⟩,
                     ⟨(some 9), [], [.t 8, .c (.int .i64 16)], [], [], .bini .lss, none⟩] [8] [])
                  (.cond (.t 9)
                    .skip
                    (.exit 0)))
                (.seq
                  (.block 1
                    (.seq
                      (.reg [⟨(some 12), [], [.t 6], [], [], .cp, none⟩,
                         ⟨(some 13), [], [.t 3, .t 12], [], [], .iaddr (some 16) 1, none⟩,
                         ⟨(some 14), [], [.t 13], [3], [], .load false 1, none⟩,
                         ⟨(some 15), [], [.t 6], [], [], .cp, none⟩,
                         ⟨(some 16), [], [.t 2, .t 15], [], [], .iaddr (some 16) 1, none⟩,
                         ⟨(some 17), [], [.t 16], [2], [], .load false 1, none⟩,
                         ⟨(some 18), [], [.t 14, .t 17], [], [], .bini .gtr, none⟩] [12, 13, 14, 15, 16, 17] [])
                      (.cond (.t 18)
                        (.reg [⟨(some 19), [], [.t 6], [], [], .cp, none⟩,
                           ⟨(some 20), [], [.t 6], [], [], .cp, none⟩,
                           ⟨(some 21), [], [.t 3, .t 20], [], [], .iaddr (some 16) 1, none⟩,
                           ⟨(some 22), [], [.t 21], [3], [], .load false 1, none⟩,
                           ⟨(some 23), [], [.t 5, .t 19], [], [], .iaddr (some 16) 1, none⟩,
                           ⟨none, [22], [.t 23, .t 22], [], [5], .store false 1, none⟩] [19, 20, 21, 22, 23] [])
                        .skip)))
                  (.reg [⟨(some 10), [], [.t 6], [], [], .cp, none⟩,
                     ⟨(some 11), [], [.t 10, .c (.int .i64 1)], [], [], .bini .add, none⟩,
                     ⟨(some 6), [11], [.t 11], [], [], .mv, none⟩] [8, 9, 10, 11, 12, 13, 14, 15, 16, 17, 18, 19, 20, 21, 22, 23] []))))))
        (.seq
          (.reg [⟨(some 24), [], [.t 5], [5], [], .load true 16, none⟩,
             ⟨none, [24], [.t 4, .t 24], [], [4], .store true 16, none⟩] [24] [])
          .ret)))) }

def H_pref05_Meet : Hints := [(1, { ops := [(0, { mr := [2] }), (2, { mw := [5] })], kt := [7], kb := [] }),
  (3, { ops := [], kt := [8], kb := [] }),
  (4, { ops := [], kt := [8, 9, 10, 11, 12, 13, 14, 15, 16, 17, 18, 19, 20, 21, 22, 23], kb := [] }),
  (5, { ops := [(2, { mr := [3] }), (5, { mr := [2] })], kt := [12, 13, 14, 15, 16, 17], kb := [] }),
  (6, { ops := [(3, { mr := [3] }), (5, { mw := [5] })], kt := [19, 20, 21, 22, 23], kb := [] }),
  (7, { ops := [(0, { mr := [5] }), (1, { mw := [4] })], kt := [24], kb := [] })]
def c_pref05_Meet (F : Nat → FuncId) : AFun := { nparams := 2, ntmps := 25, results := [.cell 4 true 16], body :=
  (.seq
    (.reg [⟨(some 2), [], [.t 0], [], [2], .box, none⟩,
       ⟨(some 3), [], [.t 1], [], [3], .box, none⟩,
       ⟨(some 4), [], [], [], [4], .alloc (List.replicate 16 (.val (.int .i64 0))), none⟩] [] [])
    (.seq
      (.reg [⟨(some 7), [], [.t 2], [2], [], .load true 16, none⟩,
         ⟨(some 5), [], [], [], [5], .alloc (List.replicate 16 (.val (.int .i64 0))), none⟩,
         ⟨none, [7], [.t 5, .t 7], [], [5], .store true 16, none⟩] [7] [])
      (.seq
        (.seq
          (.reg [⟨(some 6), [], [.c (.int .i64 0)], [], [], .cp, none⟩] [] [])
          (.block 0
            (.loop
              (.seq
                (.seq
                  (.reg [⟨(some 8), [], [.t 6], [], [], .cp, none⟩,
                     ⟨(some 9), [], [.t 8, .c (.int .i64 16)], [], [], .bini .lss, none⟩] [8] [])
                  (.cond (.t 9)
                    .skip
                    (.exit 0)))
                (.seq
                  (.block 1
                    (.seq
                      (.reg [⟨(some 12), [], [.t 6], [], [], .cp, none⟩,
                         ⟨(some 13), [], [.t 3, .t 12], [], [], .iaddr (some 16) 1, none⟩,
                         ⟨(some 14), [], [.t 13], [3], [], .load false 1, none⟩,
                         ⟨(some 15), [], [.t 6], [], [], .cp, none⟩,
                         ⟨(some 16), [], [.t 2, .t 15], [], [], .iaddr (some 16) 1, none⟩,
                         ⟨(some 17), [], [.t 16], [2], [], .load false 1, none⟩,
                         ⟨(some 18), [], [.t 14, .t 17], [], [], .bini .lss, none⟩] [12, 13, 14, 15, 16, 17] [])
                      (.cond (.t 18)
                        (.reg [⟨(some 19), [], [.t 6], [], [], .cp, none⟩,
                           ⟨(some 20), [], [.t 6], [], [], .cp, none⟩,
                           ⟨(some 21), [], [.t 3, .t 20], [], [], .iaddr (some 16) 1, none⟩,
                           ⟨(some 22), [], [.t 21], [3], [], .load false 1, none⟩,
                           ⟨(some 23), [], [.t 5, .t 19], [], [], .iaddr (some 16) 1, none⟩,
                           ⟨none, [22], [.t 23, .t 22], [], [5], .store false 1, none⟩] [19, 20, 21, 22, 23] [])
                        .skip)))
                  (.reg [⟨(some 10), [], [.t 6], [], [], .cp, none⟩,
                     ⟨(some 11), [], [.t 10, .c (.int .i64 1)], [], [], .bini .add, none⟩,
                     ⟨(some 6), [11], [.t 11], [], [], .mv, none⟩] [8, 9, 10, 11, 12, 13, 14, 15, 16, 17, 18, 19, 20, 21, 22, 23] []))))))
        (.seq
          (.reg [⟨(some 24), [], [.t 5], [5], [], .load true 16, none⟩,
             ⟨none, [24], [.t 4, .t 24], [], [4], .store true 16, none⟩] [24] [])
          .ret)))) }

def H_pref05_Within : Hints := [(2, { ops := [], kt := [6], kb := [] }),
  (3, { ops := [], kt := [6, 7, 8, 9, 10, 11, 12, 13, 14, 15, 16], kb := [] }),
  (4, { ops := [(2, { mr := [2] }), (5, { mr := [3] })], kt := [10, 11, 12, 13, 14, 15], kb := [] })]
def c_pref05_Within (F : Nat → FuncId) : AFun := { nparams := 2, ntmps := 17, results := [.tmp 4], body :=
  (.seq
    (.reg [⟨(some 2), [], [.t 0], [], [2], .box, none⟩,
       ⟨(some 3), [], [.t 1], [], [3], .box, none⟩,
       ⟨(some 4), [], [.c (.bool false)], [], [], .cp, none⟩] [] [])
    (.seq
      (.seq
        (.reg [⟨(some 5), [], [.c (.int .i64 0)], [], [], .cp, none⟩] [] [])
        (.block 0
          (.loop
            (.seq
              (.seq
                (.reg [⟨(some 6), [], [.t 5], [], [], .cp, none⟩,
                   ⟨(some 7), [], [.t 6, .c (.int .i64 16)], [], [], .bini .lss, none⟩] [6] [])
                (.cond (.t 7)
                  .skip
                  (.exit 0)))
              (.seq
                (.block 1
                  (.seq
                    (.reg [⟨(some 10), [], [.t 5], [], [], .cp, none⟩,
                       ⟨(some 11), [], [.t 2, .t 10], [], [], .iaddr (some 16) 1, none⟩,
                       ⟨(some 12), [], [.t 11], [2], [], .load false 1, none⟩,
                       ⟨(some 13), [], [.t 5], [], [], .cp, none⟩,
                       ⟨(some 14), [], [.t 3, .t 13], [], [], .iaddr (some 16) 1, none⟩,
                       ⟨(some 15), [], [.t 14], [3], [], .load false 1, none⟩,
                       ⟨(some 16), [], [.t 12, .t 15], [], [], .bini .gtr, none⟩] [10, 11, 12, 13, 14, 15] [])
                    (.cond (.t 16)
                      (.seq
                        (.reg [⟨(some 4), [], [.c (.bool false)], [], [], .cp, none⟩] [] [])
                        .ret)
                      .skip)))
                (.reg [⟨(some 8), [], [.t 5], [], [], .cp, none⟩,
                   ⟨(some 9), [], [.t 8, .c (.int .i64 1)], [], [], .bini .add, none⟩,
                   ⟨(some 5), [9], [.t 9], [], [], .mv, none⟩] [6, 7, 8, 9, 10, 11, 12, 13, 14, 15, 16] []))))))
      (.seq
        (.reg [⟨(some 4), [], [.c (.bool true)], [], [], .cp, none⟩] [] [])
        .ret))) }

def H_pref05_Code : Hints := [(3, { ops := [], kt := [5], kb := [] }),
  (4, { ops := [], kt := [5, 6, 7, 8, 9, 10, 11, 12, 13, 14], kb := [] }),
  (5, { ops := [(3, { mr := [1] })], kt := [9, 10, 11, 12, 13, 14], kb := [] }),
  (6, { ops := [], kt := [15], kb := [] })]
def c_pref05_Code (F : Nat → FuncId) : AFun := { nparams := 1, ntmps := 16, results := [.tmp 2], body :=
  (.seq
    (.reg [⟨(some 1), [], [.t 0], [], [1], .box, none⟩,
       ⟨(some 2), [], [.c (.str [])], [], [], .cp, none⟩] [] [])
    (.seq
      (.reg [⟨(some 3), [], [.c (.str [])], [], [], .cp, none⟩] [] [])
      (.seq
        (.seq
          (.reg [⟨(some 4), [], [.c (.int .i64 0)], [], [], .cp, none⟩] [] [])
          (.block 0
            (.loop
              (.seq
                (.seq
                  (.reg [⟨(some 5), [], [.t 4], [], [], .cp, none⟩,
                     ⟨(some 6), [], [.t 5, .c (.int .i64 16)], [], [], .bini .lss, none⟩] [5] [])
                  (.cond (.t 6)
                    .skip
                    (.exit 0)))
                (.seq
                  (.block 1
                    (.reg [⟨(some 9), [], [.t 3], [], [], .cp, none⟩,
                       ⟨(some 10), [], [.t 4], [], [], .cp, none⟩,
                       ⟨(some 11), [], [.t 1, .t 10], [], [], .iaddr (some 16) 1, none⟩,
                       ⟨(some 12), [], [.t 11], [1], [], .load false 1, none⟩,
                       ⟨(some 13), [], [.c (.fn (F n_pref02_Int)), .t 12], [], [], .call 0 false, none⟩,
                       ⟨(some 14), [], [.t 9, .t 13], [], [], .bins .add, none⟩,
                       ⟨(some 3), [14], [.t 14], [], [], .mv, none⟩] [9, 10, 11, 12, 13, 14] []))
                  (.reg [⟨(some 7), [], [.t 4], [], [], .cp, none⟩,
                     ⟨(some 8), [], [.t 7, .c (.int .i64 1)], [], [], .bini .add, none⟩,
                     ⟨(some 4), [8], [.t 8], [], [], .mv, none⟩] [5, 6, 7, 8, 9, 10, 11, 12, 13, 14] []))))))
        (.seq
          (.reg [⟨(some 15), [], [.t 3], [], [], .cp, none⟩,
             ⟨(some 2), [15], [.t 15], [], [], .mv, none⟩] [15] [])
          .ret)))) }

def H_pref05_Count : Hints := [(3, { ops := [], kt := [5], kb := [] }),
  (4, { ops := [], kt := [5, 6, 7, 8, 9, 10, 11, 12, 13, 14, 15, 16, 17], kb := [] }),
  (5, { ops := [(2, { mr := [1] })], kt := [9, 10, 11], kb := [] }),
  (6, { ops := [(3, { mr := [1] })], kt := [13, 14, 15, 16, 17], kb := [] }),
  (7, { ops := [], kt := [18], kb := [] })]
def c_pref05_Count (F : Nat → FuncId) : AFun := { nparams := 1, ntmps := 19, results := [.tmp 2], body :=
  (.seq
    (.reg [⟨(some 1), [], [.t 0], [], [1], .box, none⟩,
       ⟨(some 2), [], [.c (.int .i64 0)], [], [], .cp, none⟩] [] [])
    (.seq
      (.reg [⟨(some 3), [], [.c (.int .i64 0)], [], [], .cp, none⟩] [] [])
      (.seq
        (.seq
          (.reg [⟨(some 4), [], [.c (.int .i64 0)], [], [], .cp, none⟩] [] [])
          (.block 0
            (.loop
              (.seq
                (.seq
                  (.reg [⟨(some 5), [], [.t 4], [], [], .cp, none⟩,
                     ⟨(some 6), [], [.t 5, .c (.int .i64 16)], [], [], .bini .lss, none⟩] [5] [])
                  (.cond (.t 6)
                    .skip
                    (.exit 0)))
                (.seq
                  (.block 1
                    (.seq
                      (.reg [⟨(some 9), [], [.t 4], [], [], .cp, none⟩,
                         ⟨(some 10), [], [.t 1, .t 9], [], [], .iaddr (some 16) 1, none⟩,
                         ⟨(some 11), [], [.t 10], [1], [], .load false 1, none⟩,
                         ⟨(some 12), [], [.t 11, .c (.int .i64 0)], [], [], .bini .gtr, none⟩] [9, 10, 11] [])
                      (.cond (.t 12)
                        (.reg [⟨(some 13), [], [.t 3], [], [], .cp, none⟩,
                           ⟨(some 14), [], [.t 4], [], [], .cp, none⟩,
                           ⟨(some 15), [], [.t 1, .t 14], [], [], .iaddr (some 16) 1, none⟩,
                           ⟨(some 16), [], [.t 15], [1], [], .load false 1, none⟩,
                           ⟨(some 17), [], [.t 13, .t 16], [], [], .bini .add, none⟩,
                           ⟨(some 3), [17], [.t 17], [], [], .mv, none⟩] [13, 14, 15, 16, 17] [])
                        .skip)))
                  (.reg [⟨(some 7), [], [.t 4], [], [], .cp, none⟩,
                     ⟨(some 8), [], [.t 7, .c (.int .i64 1)], [], [], .bini .add, none⟩,
                     ⟨(some 4), [8], [.t 8], [], [], .mv, none⟩] [5, 6, 7, 8, 9, 10, 11, 12, 13, 14, 15, 16, 17] []))))))
        (.seq
          (.reg [⟨(some 18), [], [.t 3], [], [], .cp, none⟩,
             ⟨(some 2), [18], [.t 18], [], [], .mv, none⟩] [18] [])
          .ret)))) }

def H_pref04_Right : Hints := [(1, { ops := [(1, { mr := [1] }), (5, { mr := [1] }), (10, { mr := [1] }), (15, { mr := [1] })], kt := [3, 4, 5, 6, 7, 8, 9, 10, 11, 12, 13, 14, 15, 16, 17, 18, 19, 20], kb := [] })]
def c_pref04_Right (F : Nat → FuncId) : AFun := { nparams := 1, ntmps := 21, results := [.tmp 2], body :=
  (.seq
    (.reg [⟨(some 1), [], [.t 0], [], [1], .box, none⟩,
       ⟨(some 2), [], [.c (.bool false)], [], [], .cp, none⟩] [] [])
    (.seq
      (.reg [⟨(some 3), [], [.t 1], [], [], .faddr 0, none⟩,
         ⟨(some 4), [], [.t 3], [1], [], .load false 1, none⟩,
         ⟨(some 5), [], [.t 4, .c (.int .i64 0)], [], [], .bini .geq, none⟩,
         ⟨(some 6), [], [.t 5], [], [], .cp, none⟩,
         ⟨(some 7), [], [.t 1], [], [], .faddr 0, some (6, true)⟩,
         ⟨(some 8), [], [.t 7], [1], [], .load false 1, some (6, true)⟩,
         ⟨(some 9), [], [.t 8, .c (.int .i64 15)], [], [], .bini .leq, some (6, true)⟩,
         ⟨(some 10), [], [.t 6, .t 9, .c (.bool false)], [], [], .pick, none⟩,
         ⟨(some 11), [], [.t 10], [], [], .cp, none⟩,
         ⟨(some 12), [], [.t 1], [], [], .faddr 1, some (11, true)⟩,
         ⟨(some 13), [], [.t 12], [1], [], .load false 1, some (11, true)⟩,
         ⟨(some 14), [], [.t 13, .c (.int .i64 1)], [], [], .bini .geq, some (11, true)⟩,
         ⟨(some 15), [], [.t 11, .t 14, .c (.bool false)], [], [], .pick, none⟩,
         ⟨(some 16), [], [.t 15], [], [], .cp, none⟩,
         ⟨(some 17), [], [.t 1], [], [], .faddr 1, some (16, true)⟩,
         ⟨(some 18), [], [.t 17], [1], [], .load false 1, some (16, true)⟩,
         ⟨(some 19), [], [.t 18, .c (.int .i64 1048576)], [], [], .bini .leq, some (16, true)⟩,
         ⟨(some 20), [], [.t 16, .t 19, .c (.bool false)], [], [], .pick, none⟩,
         ⟨(some 2), [20], [.t 20], [], [], .mv, none⟩] [3, 4, 5, 6, 7, 8, 9, 10, 11, 12, 13, 14, 15, 16, 17, 18, 19, 20] [])
      .ret)) }

end Go.AR

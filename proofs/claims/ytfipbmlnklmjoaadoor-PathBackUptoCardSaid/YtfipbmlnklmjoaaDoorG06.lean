import Derived.Test.YtfipbmlnklmjoaaDoorG02
import Derived.Test.YtfipbmlnklmjoaaDoorG03
set_option linter.all false
/-! Codes, printed by program. -/
namespace Go.AR
def H_plaw03_NameTells : Hints := [(1, { ops := [], kt := [8, 9], kb := [] }),
  (2, { ops := [], kt := [11], kb := [] }),
  (3, { ops := [], kt := [12, 13, 14, 15, 16], kb := [] }),
  (4, { ops := [], kt := [17, 18, 19, 20, 21], kb := [] }),
  (5, { ops := [], kt := [22, 23, 24, 25, 26, 27, 28, 29, 30], kb := [] }),
  (8, { ops := [], kt := [32, 33, 34], kb := [] }),
  (9, { ops := [], kt := [32, 33, 34, 35, 36, 37, 38, 39, 40, 41, 42, 43, 44, 45, 46, 47], kb := [] }),
  (10, { ops := [], kt := [38, 39, 40, 41, 42, 43, 44, 45, 46], kb := [] }),
  (12, { ops := [], kt := [48, 49, 50, 51, 52, 53, 54, 55, 56, 57, 58, 59, 60, 61, 62], kb := [] })]
def c_plaw03_NameTells (F : Nat → FuncId) : AFun := { nparams := 1, ntmps := 63, results := [.tmp 2], body :=
  (.seq
    (.reg [⟨(some 2), [], [.c (.bool false)], [], [], .cp, none⟩] [] [])
    (.seq
      (.seq
        (.reg [⟨(some 8), [], [.t 0], [], [], .cp, none⟩,
           ⟨(some 9), [], [.t 8], [], [], .len true, none⟩,
           ⟨(some 10), [], [.t 9, .c (.int .i64 500)], [], [], .bini .gtr, none⟩] [8, 9] [])
        (.cond (.t 10)
          (.seq
            (.reg [⟨(some 11), [], [.c (.fn (F n_plaw03_awake))], [], [], .call 0 false, none⟩,
               ⟨(some 2), [11], [.t 11], [], [], .mv, none⟩] [11] [])
            .ret)
          .skip))
      (.seq
        (.reg [⟨(some 13), [], [.t 0], [], [], .cp, none⟩,
           ⟨(some 14), [], [.c (.fn (F n_name_Runes)), .t 13], [], [], .call 0 false, none⟩,
           ⟨(some 12), [], [.t 14], [], [], .cp, none⟩,
           ⟨(some 15), [], [.t 12], [], [], .extract 0, none⟩,
           ⟨(some 16), [], [.t 12], [], [], .extract 1, none⟩,
           ⟨(some 3), [15], [.t 15], [], [], .mv, none⟩,
           ⟨(some 4), [16], [.t 16], [], [], .mv, none⟩] [12, 13, 14, 15, 16] [])
        (.seq
          (.reg [⟨(some 18), [], [.t 0], [], [], .cp, none⟩,
             ⟨(some 19), [], [.c (.fn (F n_pref03_Runes)), .t 18], [], [], .call 0 false, none⟩,
             ⟨(some 17), [], [.t 19], [], [], .cp, none⟩,
             ⟨(some 20), [], [.t 17], [], [], .extract 0, none⟩,
             ⟨(some 21), [], [.t 17], [], [], .extract 1, none⟩,
             ⟨(some 5), [20], [.t 20], [], [], .mv, none⟩,
             ⟨(some 6), [21], [.t 21], [], [], .mv, none⟩] [17, 18, 19, 20, 21] [])
          (.seq
            (.seq
              (.reg [⟨(some 22), [], [.t 4], [], [], .cp, none⟩,
                 ⟨(some 23), [], [.t 6], [], [], .cp, none⟩,
                 ⟨(some 24), [], [.t 22, .t 23], [], [], .binb true, none⟩,
                 ⟨(some 25), [], [.t 24], [], [], .cp, none⟩,
                 ⟨(some 26), [], [.t 3], [], [], .cp, some (25, false)⟩,
                 ⟨(some 27), [], [.t 26], [], [], .len false, some (25, false)⟩,
                 ⟨(some 28), [], [.t 5], [], [], .cp, some (25, false)⟩,
                 ⟨(some 29), [], [.t 28], [], [], .len false, some (25, false)⟩,
                 ⟨(some 30), [], [.t 27, .t 29], [], [], .bini .neq, some (25, false)⟩,
                 ⟨(some 31), [], [.t 25, .c (.bool true), .t 30], [], [], .pick, none⟩] [22, 23, 24, 25, 26, 27, 28, 29, 30] [])
              (.cond (.t 31)
                (.seq
                  (.reg [⟨(some 2), [], [.c (.bool false)], [], [], .cp, none⟩] [] [])
                  .ret)
                .skip))
            (.seq
              (.seq
                (.reg [⟨(some 7), [], [.c (.int .i64 0)], [], [], .cp, none⟩] [] [])
                (.block 0
                  (.loop
                    (.seq
                      (.seq
                        (.reg [⟨(some 32), [], [.t 7], [], [], .cp, none⟩,
                           ⟨(some 33), [], [.t 3], [], [], .cp, none⟩,
                           ⟨(some 34), [], [.t 33], [], [], .len false, none⟩,
                           ⟨(some 35), [], [.t 32, .t 34], [], [], .bini .lss, none⟩] [32, 33, 34] [])
                        (.cond (.t 35)
                          .skip
                          (.exit 0)))
                      (.seq
                        (.block 1
                          (.seq
                            (.reg [⟨(some 38), [], [.t 3], [], [], .cp, none⟩,
                               ⟨(some 39), [], [.t 7], [], [], .cp, none⟩,
                               ⟨(some 40), [], [.t 38, .t 39], [], [], .iaddr none 1, none⟩,
                               ⟨(some 41), [], [.t 40], [], [], .load false 1, none⟩,
                               ⟨(some 42), [], [.t 41], [], [], .conv .i64, none⟩,
                               ⟨(some 43), [], [.t 5], [], [], .cp, none⟩,
                               ⟨(some 44), [], [.t 7], [], [], .cp, none⟩,
                               ⟨(some 45), [], [.t 43, .t 44], [], [], .iaddr none 1, none⟩,
                               ⟨(some 46), [], [.t 45], [], [], .load false 1, none⟩,
                               ⟨(some 47), [], [.t 42, .t 46], [], [], .bini .neq, none⟩] [38, 39, 40, 41, 42, 43, 44, 45, 46] [])
                            (.cond (.t 47)
                              (.seq
                                (.reg [⟨(some 2), [], [.c (.bool false)], [], [], .cp, none⟩] [] [])
                                .ret)
                              .skip)))
                        (.reg [⟨(some 36), [], [.t 7], [], [], .cp, none⟩,
                           ⟨(some 37), [], [.t 36, .c (.int .i64 1)], [], [], .bini .add, none⟩,
                           ⟨(some 7), [37], [.t 37], [], [], .mv, none⟩] [32, 33, 34, 35, 36, 37, 38, 39, 40, 41, 42, 43, 44, 45, 46, 47] []))))))
              (.seq
                (.reg [⟨(some 48), [], [.t 0], [], [], .cp, none⟩,
                   ⟨(some 49), [], [.c (.fn (F n_name_Right)), .t 48], [], [], .call 0 false, none⟩,
                   ⟨(some 50), [], [.t 0], [], [], .cp, none⟩,
                   ⟨(some 51), [], [.c (.fn (F n_pref03_Right)), .t 50], [], [], .call 0 false, none⟩,
                   ⟨(some 52), [], [.t 49, .t 51], [], [], .binb false, none⟩,
                   ⟨(some 53), [], [.t 52], [], [], .cp, none⟩,
                   ⟨(some 54), [], [.t 0], [], [], .cp, some (53, true)⟩,
                   ⟨(some 55), [], [.c (.fn (F n_name_Clean)), .t 54], [], [], .call 0 false, some (53, true)⟩,
                   ⟨(some 56), [], [.t 0], [], [], .cp, some (53, true)⟩,
                   ⟨(some 57), [], [.c (.fn (F n_pref03_Clean)), .t 56], [], [], .call 0 false, some (53, true)⟩,
                   ⟨(some 58), [], [.t 55, .t 57], [], [], .bins .eql, some (53, true)⟩,
                   ⟨(some 59), [], [.t 53, .t 58, .c (.bool false)], [], [], .pick, none⟩,
                   ⟨(some 60), [], [.t 59], [], [], .cp, none⟩,
                   ⟨(some 61), [], [.c (.fn (F n_plaw03_awake))], [], [], .call 0 false, some (60, true)⟩,
                   ⟨(some 62), [], [.t 60, .t 61, .c (.bool false)], [], [], .pick, none⟩,
                   ⟨(some 2), [62], [.t 62], [], [], .mv, none⟩] [48, 49, 50, 51, 52, 53, 54, 55, 56, 57, 58, 59, 60, 61, 62] [])
                .ret))))))) }

def H_plaw03_NameCleans : Hints := [(1, { ops := [], kt := [4, 5], kb := [] }),
  (2, { ops := [], kt := [7], kb := [] }),
  (3, { ops := [], kt := [8, 9], kb := [] }),
  (4, { ops := [], kt := [10, 11, 12, 13, 14, 15, 16, 17, 18, 19, 20, 21, 22, 23, 24, 25, 26, 27, 28], kb := [] })]
def c_plaw03_NameCleans (F : Nat → FuncId) : AFun := { nparams := 1, ntmps := 29, results := [.tmp 2], body :=
  (.seq
    (.reg [⟨(some 2), [], [.c (.bool false)], [], [], .cp, none⟩] [] [])
    (.seq
      (.seq
        (.reg [⟨(some 4), [], [.t 0], [], [], .cp, none⟩,
           ⟨(some 5), [], [.t 4], [], [], .len true, none⟩,
           ⟨(some 6), [], [.t 5, .c (.int .i64 500)], [], [], .bini .gtr, none⟩] [4, 5] [])
        (.cond (.t 6)
          (.seq
            (.reg [⟨(some 7), [], [.c (.fn (F n_plaw03_awake))], [], [], .call 0 false, none⟩,
               ⟨(some 2), [7], [.t 7], [], [], .mv, none⟩] [7] [])
            .ret)
          .skip))
      (.seq
        (.reg [⟨(some 8), [], [.t 0], [], [], .cp, none⟩,
           ⟨(some 9), [], [.c (.fn (F n_name_Clean)), .t 8], [], [], .call 0 false, none⟩,
           ⟨(some 3), [9], [.t 9], [], [], .mv, none⟩] [8, 9] [])
        (.seq
          (.reg [⟨(some 10), [], [.t 3], [], [], .cp, none⟩,
             ⟨(some 11), [], [.c (.fn (F n_name_Right)), .t 10], [], [], .call 0 false, none⟩,
             ⟨(some 12), [], [.t 11], [], [], .cp, none⟩,
             ⟨(some 13), [], [.t 3], [], [], .cp, some (12, true)⟩,
             ⟨(some 14), [], [.c (.fn (F n_name_Clean)), .t 13], [], [], .call 0 false, some (12, true)⟩,
             ⟨(some 15), [], [.t 3], [], [], .cp, some (12, true)⟩,
             ⟨(some 16), [], [.t 14, .t 15], [], [], .bins .eql, some (12, true)⟩,
             ⟨(some 17), [], [.t 12, .t 16, .c (.bool false)], [], [], .pick, none⟩,
             ⟨(some 18), [], [.t 17], [], [], .cp, none⟩,
             ⟨(some 19), [], [.t 0], [], [], .cp, some (18, true)⟩,
             ⟨(some 20), [], [.c (.fn (F n_name_Right)), .t 19], [], [], .call 0 false, some (18, true)⟩,
             ⟨(some 21), [], [.t 3], [], [], .cp, some (18, true)⟩,
             ⟨(some 22), [], [.t 0], [], [], .cp, some (18, true)⟩,
             ⟨(some 23), [], [.t 21, .t 22], [], [], .bins .eql, some (18, true)⟩,
             ⟨(some 24), [], [.t 20, .t 23], [], [], .binb false, some (18, true)⟩,
             ⟨(some 25), [], [.t 18, .t 24, .c (.bool false)], [], [], .pick, none⟩,
             ⟨(some 26), [], [.t 25], [], [], .cp, none⟩,
             ⟨(some 27), [], [.c (.fn (F n_plaw03_awake))], [], [], .call 0 false, some (26, true)⟩,
             ⟨(some 28), [], [.t 26, .t 27, .c (.bool false)], [], [], .pick, none⟩,
             ⟨(some 2), [28], [.t 28], [], [], .mv, none⟩] [10, 11, 12, 13, 14, 15, 16, 17, 18, 19, 20, 21, 22, 23, 24, 25, 26, 27, 28] [])
          .ret)))) }

def H_pref03_Runes : Hints := [(3, { ops := [], kt := [8, 9, 10], kb := [] }),
  (4, { ops := [], kt := [12, 13, 14, 15, 16, 17, 18], kb := [] }),
  (5, { ops := [], kt := [19], kb := [] }),
  (7, { ops := [(0, { take := true })], kt := [21, 22, 23, 24], kb := [] }),
  (8, { ops := [], kt := [25, 26, 27], kb := [] }),
  (9, { ops := [], kt := [28], kb := [] }),
  (1000001, { ops := [], kt := [6, 7, 8, 9, 10, 11, 12, 13, 14, 15, 16, 17, 18, 19, 20, 21, 22, 23, 24, 25, 26, 27], kb := [] })]
def c_pref03_Runes (F : Nat → FuncId) : AFun := { nparams := 1, ntmps := 29, results := [.tmp 2, .tmp 3], body :=
  (.seq
    (.reg [⟨(some 2), [], [], [], [], .nils 1, none⟩,
       ⟨(some 3), [], [.c (.bool false)], [], [], .cp, none⟩] [] [])
    (.seq
      (.reg [⟨(some 4), [], [], [], [], .nils 1, none⟩] [] [])
      (.seq
        (.seq
          (.reg [⟨(some 5), [], [.c (.int .i64 0)], [], [], .cp, none⟩] [] [])
          (.block 0
            (.loop
              (.seq
                (.seq
                  (.reg [⟨(some 8), [], [.t 5], [], [], .cp, none⟩,
                     ⟨(some 9), [], [.t 0], [], [], .cp, none⟩,
                     ⟨(some 10), [], [.t 9], [], [], .len true, none⟩,
                     ⟨(some 11), [], [.t 8, .t 10], [], [], .bini .lss, none⟩] [8, 9, 10] [])
                  (.cond (.t 11)
                    .skip
                    (.exit 0)))
                (.seq
                  (.block 1
                    (.seq
                      (.reg [⟨(some 13), [], [.t 0], [], [], .cp, none⟩,
                         ⟨(some 14), [], [.t 5], [], [], .cp, none⟩,
                         ⟨(some 15), [], [.t 13, .t 14], [], [], .slices true false, none⟩,
                         ⟨(some 16), [], [.c (.fn (F n_pref03_Char)), .t 15], [], [], .call 0 false, none⟩,
                         ⟨(some 12), [], [.t 16], [], [], .cp, none⟩,
                         ⟨(some 17), [], [.t 12], [], [], .extract 0, none⟩,
                         ⟨(some 18), [], [.t 12], [], [], .extract 1, none⟩,
                         ⟨(some 6), [17], [.t 17], [], [], .mv, none⟩,
                         ⟨(some 7), [18], [.t 18], [], [], .mv, none⟩] [12, 13, 14, 15, 16, 17, 18] [])
                      (.seq
                        (.seq
                          (.reg [⟨(some 19), [], [.t 7], [], [], .cp, none⟩,
                             ⟨(some 20), [], [.t 19, .c (.int .i64 0)], [], [], .bini .eql, none⟩] [19] [])
                          (.cond (.t 20)
                            (.seq
                              (.reg [⟨(some 2), [], [], [], [], .nils 1, none⟩,
                                 ⟨(some 3), [], [.c (.bool false)], [], [], .cp, none⟩] [] [])
                              .ret)
                            .skip))
                        (.seq
                          (.reg [⟨(some 21), [4], [.t 4], [], [], .mv, none⟩,
                             ⟨(some 22), [], [.t 6], [], [], .cp, none⟩,
                             ⟨(some 23), [], [.t 22], [], [], .bslice 1 [.int .i64 0] [(0, 1)], none⟩,
                             ⟨(some 24), [21], [.t 21, .t 23], [], [], .append 1 8, none⟩,
                             ⟨(some 4), [24], [.t 24], [], [], .mv, none⟩] [21, 22, 23, 24] [])
                          (.reg [⟨(some 25), [], [.t 5], [], [], .cp, none⟩,
                             ⟨(some 26), [], [.t 7], [], [], .cp, none⟩,
                             ⟨(some 27), [], [.t 25, .t 26], [], [], .bini .add, none⟩,
                             ⟨(some 5), [27], [.t 27], [], [], .mv, none⟩] [25, 26, 27] [])))))
                  (.reg [] [6, 7, 8, 9, 10, 11, 12, 13, 14, 15, 16, 17, 18, 19, 20, 21, 22, 23, 24, 25, 26, 27] []))))))
        (.seq
          (.reg [⟨(some 28), [], [.t 4], [], [], .cp, none⟩,
             ⟨(some 2), [28], [.t 28], [], [], .mv, none⟩,
             ⟨(some 3), [], [.c (.bool true)], [], [], .cp, none⟩] [28] [])
          .ret)))) }

def H_pref03_Right : Hints := [(1, { ops := [], kt := [6, 7, 8, 9, 10], kb := [] }),
  (3, { ops := [], kt := [11, 12, 13], kb := [] }),
  (4, { ops := [], kt := [11, 12, 13, 14, 15, 16, 17, 18, 19, 20, 21, 22], kb := [] }),
  (5, { ops := [], kt := [17, 18, 19, 20, 21], kb := [] }),
  (7, { ops := [], kt := [23, 24, 25, 26, 27, 28, 29, 30, 31, 32, 33], kb := [] })]
def c_pref03_Right (F : Nat → FuncId) : AFun := { nparams := 1, ntmps := 34, results := [.tmp 2], body :=
  (.seq
    (.reg [⟨(some 2), [], [.c (.bool false)], [], [], .cp, none⟩] [] [])
    (.seq
      (.reg [⟨(some 7), [], [.t 0], [], [], .cp, none⟩,
         ⟨(some 8), [], [.c (.fn (F n_pref03_Runes)), .t 7], [], [], .call 0 false, none⟩,
         ⟨(some 6), [], [.t 8], [], [], .cp, none⟩,
         ⟨(some 9), [], [.t 6], [], [], .extract 0, none⟩,
         ⟨(some 10), [], [.t 6], [], [], .extract 1, none⟩,
         ⟨(some 3), [9], [.t 9], [], [], .mv, none⟩,
         ⟨(some 4), [10], [.t 10], [], [], .mv, none⟩] [6, 7, 8, 9, 10] [])
      (.seq
        (.seq
          (.reg [⟨(some 5), [], [.c (.int .i64 0)], [], [], .cp, none⟩] [] [])
          (.block 0
            (.loop
              (.seq
                (.seq
                  (.reg [⟨(some 11), [], [.t 5], [], [], .cp, none⟩,
                     ⟨(some 12), [], [.t 3], [], [], .cp, none⟩,
                     ⟨(some 13), [], [.t 12], [], [], .len false, none⟩,
                     ⟨(some 14), [], [.t 11, .t 13], [], [], .bini .lss, none⟩] [11, 12, 13] [])
                  (.cond (.t 14)
                    .skip
                    (.exit 0)))
                (.seq
                  (.block 1
                    (.seq
                      (.reg [⟨(some 17), [], [.t 3], [], [], .cp, none⟩,
                         ⟨(some 18), [], [.t 5], [], [], .cp, none⟩,
                         ⟨(some 19), [], [.t 17, .t 18], [], [], .iaddr none 1, none⟩,
                         ⟨(some 20), [], [.t 19], [], [], .load false 1, none⟩,
                         ⟨(some 21), [], [.c (.fn (F n_pref03_may)), .t 20], [], [], .call 0 false, none⟩,
                         ⟨(some 22), [], [.t 21], [], [], .not, none⟩] [17, 18, 19, 20, 21] [])
                      (.cond (.t 22)
                        (.seq
                          (.reg [⟨(some 2), [], [.c (.bool false)], [], [], .cp, none⟩] [] [])
                          .ret)
                        .skip)))
                  (.reg [⟨(some 15), [], [.t 5], [], [], .cp, none⟩,
                     ⟨(some 16), [], [.t 15, .c (.int .i64 1)], [], [], .bini .add, none⟩,
                     ⟨(some 5), [16], [.t 16], [], [], .mv, none⟩] [11, 12, 13, 14, 15, 16, 17, 18, 19, 20, 21, 22] []))))))
        (.seq
          (.reg [⟨(some 23), [], [.t 4], [], [], .cp, none⟩,
             ⟨(some 24), [], [.t 23], [], [], .cp, none⟩,
             ⟨(some 25), [], [.t 3], [], [], .cp, some (24, true)⟩,
             ⟨(some 26), [], [.t 25], [], [], .len false, some (24, true)⟩,
             ⟨(some 27), [], [.t 26, .c (.int .i64 1)], [], [], .bini .geq, some (24, true)⟩,
             ⟨(some 28), [], [.t 24, .t 27, .c (.bool false)], [], [], .pick, none⟩,
             ⟨(some 29), [], [.t 28], [], [], .cp, none⟩,
             ⟨(some 30), [], [.t 3], [], [], .cp, some (29, true)⟩,
             ⟨(some 31), [], [.t 30], [], [], .len false, some (29, true)⟩,
             ⟨(some 32), [], [.t 31, .c (.int .i64 24)], [], [], .bini .leq, some (29, true)⟩,
             ⟨(some 33), [], [.t 29, .t 32, .c (.bool false)], [], [], .pick, none⟩,
             ⟨(some 2), [33], [.t 33], [], [], .mv, none⟩] [23, 24, 25, 26, 27, 28, 29, 30, 31, 32, 33] [])
          .ret)))) }

def H_name_Clean : Hints := [(2, { ops := [], kt := [6], kb := [] }),
  (3, { ops := [(0, { mw := [7] })], kt := [], kb := [] }),
  (4, { ops := [], kt := [10], kb := [] }),
  (5, { ops := [], kt := [11, 12, 13, 14, 15, 16], kb := [] }),
  (6, { ops := [(0, { take := true })], kt := [18, 19, 20, 21], kb := [] }),
  (7, { ops := [], kt := [22, 23], kb := [] }),
  (9, { ops := [], kt := [25, 26], kb := [] }),
  (1000001, { ops := [], kt := [5, 8, 9, 10, 11, 12, 13, 14, 15, 16, 17, 18, 19, 20, 21], kb := [] })]
def c_name_Clean (F : Nat → FuncId) : AFun := { nparams := 1, ntmps := 27, results := [.tmp 2], body :=
  (.seq
    (.reg [⟨(some 2), [], [.c (.str [])], [], [], .cp, none⟩] [] [])
    (.seq
      (.reg [⟨(some 3), [], [], [], [], .nils 1, none⟩] [] [])
      (.seq
        (.seq
          (.reg [⟨(some 6), [], [.t 0], [], [], .cp, none⟩,
             ⟨(some 7), [], [.t 6], [], [7], .range, none⟩] [6] [])
          (.block 0
            (.loop
              (.seq
                (.reg [⟨(some 8), [], [.t 7], [], [7], .next, none⟩,
                   ⟨(some 9), [], [.t 8], [], [], .extract 0, none⟩] [] [])
                (.seq
                  (.cond (.t 9)
                    .skip
                    (.exit 0))
                  (.seq
                    (.block 1
                      (.seq
                        (.reg [⟨(some 10), [], [.t 8], [], [], .extract 2, none⟩,
                           ⟨(some 5), [10], [.t 10], [], [], .mv, none⟩] [10] [])
                        (.seq
                          (.reg [⟨(some 11), [], [.t 5], [], [], .cp, none⟩,
                             ⟨(some 12), [], [.c (.fn (F n_name_may)), .t 11], [], [], .call 0 false, none⟩,
                             ⟨(some 13), [], [.t 12], [], [], .cp, none⟩,
                             ⟨(some 14), [], [.t 3], [], [], .cp, some (13, true)⟩,
                             ⟨(some 15), [], [.t 14], [], [], .len false, some (13, true)⟩,
                             ⟨(some 16), [], [.t 15, .c (.int .i64 24)], [], [], .bini .lss, some (13, true)⟩,
                             ⟨(some 17), [], [.t 13, .t 16, .c (.bool false)], [], [], .pick, none⟩] [11, 12, 13, 14, 15, 16] [])
                          (.cond (.t 17)
                            (.reg [⟨(some 18), [3], [.t 3], [], [], .mv, none⟩,
                               ⟨(some 19), [], [.t 5], [], [], .cp, none⟩,
                               ⟨(some 20), [], [.t 19], [], [], .bslice 1 [.int .i32 0] [(0, 1)], none⟩,
                               ⟨(some 21), [18], [.t 18, .t 20], [], [], .append 1 4, none⟩,
                               ⟨(some 3), [21], [.t 21], [], [], .mv, none⟩] [18, 19, 20, 21] [])
                            .skip))))
                    (.reg [] [5, 8, 9, 10, 11, 12, 13, 14, 15, 16, 17, 18, 19, 20, 21] [])))))))
        (.seq
          (.seq
            (.reg [⟨(some 22), [], [.t 3], [], [], .cp, none⟩,
               ⟨(some 23), [], [.t 22], [], [], .len false, none⟩,
               ⟨(some 24), [], [.t 23, .c (.int .i64 0)], [], [], .bini .eql, none⟩] [22, 23] [])
            (.cond (.t 24)
              (.seq
                (.reg [⟨(some 2), [], [.c (.str [95])], [], [], .cp, none⟩] [] [])
                .ret)
              .skip))
          (.seq
            (.reg [⟨(some 25), [], [.t 3], [], [], .cp, none⟩,
               ⟨(some 26), [], [.t 25], [], [], .r2s, none⟩,
               ⟨(some 2), [26], [.t 26], [], [], .mv, none⟩] [25, 26] [])
            .ret))))) }

def H_pref03_Clean : Hints := [(4, { ops := [], kt := [8, 9, 10], kb := [] }),
  (5, { ops := [], kt := [12, 13, 14, 15, 16, 17, 18], kb := [] }),
  (6, { ops := [], kt := [19], kb := [] }),
  (7, { ops := [], kt := [21, 22], kb := [] }),
  (8, { ops := [], kt := [23, 24, 25, 26, 27], kb := [] }),
  (9, { ops := [], kt := [29, 30, 31, 32, 33, 34, 35, 36], kb := [] }),
  (10, { ops := [], kt := [37, 38], kb := [] }),
  (11, { ops := [], kt := [39, 40, 41], kb := [] }),
  (12, { ops := [], kt := [42], kb := [] }),
  (14, { ops := [], kt := [44], kb := [] }),
  (1000001, { ops := [], kt := [6, 7, 8, 9, 10, 11, 12, 13, 14, 15, 16, 17, 18, 19, 20, 21, 22, 23, 24, 25, 26, 27, 28, 29, 30, 31, 32, 33, 34, 35, 36, 37, 38, 39, 40, 41], kb := [] })]
def c_pref03_Clean (F : Nat → FuncId) : AFun := { nparams := 1, ntmps := 45, results := [.tmp 2], body :=
  (.seq
    (.reg [⟨(some 2), [], [.c (.str [])], [], [], .cp, none⟩] [] [])
    (.seq
      (.reg [⟨(some 3), [], [.c (.str [])], [], [], .cp, none⟩] [] [])
      (.seq
        (.reg [⟨(some 4), [], [.c (.int .i64 0)], [], [], .cp, none⟩] [] [])
        (.seq
          (.seq
            (.reg [⟨(some 5), [], [.c (.int .i64 0)], [], [], .cp, none⟩] [] [])
            (.block 0
              (.loop
                (.seq
                  (.seq
                    (.reg [⟨(some 8), [], [.t 5], [], [], .cp, none⟩,
                       ⟨(some 9), [], [.t 0], [], [], .cp, none⟩,
                       ⟨(some 10), [], [.t 9], [], [], .len true, none⟩,
                       ⟨(some 11), [], [.t 8, .t 10], [], [], .bini .lss, none⟩] [8, 9, 10] [])
                    (.cond (.t 11)
                      .skip
                      (.exit 0)))
                  (.seq
                    (.block 1
                      (.seq
                        (.reg [⟨(some 13), [], [.t 0], [], [], .cp, none⟩,
                           ⟨(some 14), [], [.t 5], [], [], .cp, none⟩,
                           ⟨(some 15), [], [.t 13, .t 14], [], [], .slices true false, none⟩,
                           ⟨(some 16), [], [.c (.fn (F n_pref03_Char)), .t 15], [], [], .call 0 false, none⟩,
                           ⟨(some 12), [], [.t 16], [], [], .cp, none⟩,
                           ⟨(some 17), [], [.t 12], [], [], .extract 0, none⟩,
                           ⟨(some 18), [], [.t 12], [], [], .extract 1, none⟩,
                           ⟨(some 6), [17], [.t 17], [], [], .mv, none⟩,
                           ⟨(some 7), [18], [.t 18], [], [], .mv, none⟩] [12, 13, 14, 15, 16, 17, 18] [])
                        (.seq
                          (.seq
                            (.reg [⟨(some 19), [], [.t 7], [], [], .cp, none⟩,
                               ⟨(some 20), [], [.t 19, .c (.int .i64 0)], [], [], .bini .eql, none⟩] [19] [])
                            (.cond (.t 20)
                              (.seq
                                (.reg [⟨(some 21), [], [.t 5], [], [], .cp, none⟩,
                                   ⟨(some 22), [], [.t 21, .c (.int .i64 1)], [], [], .bini .add, none⟩,
                                   ⟨(some 5), [22], [.t 22], [], [], .mv, none⟩] [21, 22] [])
                                (.exit 1))
                              .skip))
                          (.seq
                            (.seq
                              (.reg [⟨(some 23), [], [.t 6], [], [], .cp, none⟩,
                                 ⟨(some 24), [], [.c (.fn (F n_pref03_may)), .t 23], [], [], .call 0 false, none⟩,
                                 ⟨(some 25), [], [.t 24], [], [], .cp, none⟩,
                                 ⟨(some 26), [], [.t 4], [], [], .cp, some (25, true)⟩,
                                 ⟨(some 27), [], [.t 26, .c (.int .i64 24)], [], [], .bini .lss, some (25, true)⟩,
                                 ⟨(some 28), [], [.t 25, .t 27, .c (.bool false)], [], [], .pick, none⟩] [23, 24, 25, 26, 27] [])
                              (.cond (.t 28)
                                (.seq
                                  (.reg [⟨(some 29), [], [.t 3], [], [], .cp, none⟩,
                                     ⟨(some 30), [], [.t 0], [], [], .cp, none⟩,
                                     ⟨(some 31), [], [.t 5], [], [], .cp, none⟩,
                                     ⟨(some 32), [], [.t 5], [], [], .cp, none⟩,
                                     ⟨(some 33), [], [.t 7], [], [], .cp, none⟩,
                                     ⟨(some 34), [], [.t 32, .t 33], [], [], .bini .add, none⟩,
                                     ⟨(some 35), [], [.t 30, .t 31, .t 34], [], [], .slices true true, none⟩,
                                     ⟨(some 36), [], [.t 29, .t 35], [], [], .bins .add, none⟩,
                                     ⟨(some 3), [36], [.t 36], [], [], .mv, none⟩] [29, 30, 31, 32, 33, 34, 35, 36] [])
                                  (.reg [⟨(some 37), [], [.t 4], [], [], .cp, none⟩,
                                     ⟨(some 38), [], [.t 37, .c (.int .i64 1)], [], [], .bini .add, none⟩,
                                     ⟨(some 4), [38], [.t 38], [], [], .mv, none⟩] [37, 38] []))
                                .skip))
                            (.reg [⟨(some 39), [], [.t 5], [], [], .cp, none⟩,
                               ⟨(some 40), [], [.t 7], [], [], .cp, none⟩,
                               ⟨(some 41), [], [.t 39, .t 40], [], [], .bini .add, none⟩,
                               ⟨(some 5), [41], [.t 41], [], [], .mv, none⟩] [39, 40, 41] [])))))
                    (.reg [] [6, 7, 8, 9, 10, 11, 12, 13, 14, 15, 16, 17, 18, 19, 20, 21, 22, 23, 24, 25, 26, 27, 28, 29, 30, 31, 32, 33, 34, 35, 36, 37, 38, 39, 40, 41] []))))))
          (.seq
            (.seq
              (.reg [⟨(some 42), [], [.t 4], [], [], .cp, none⟩,
                 ⟨(some 43), [], [.t 42, .c (.int .i64 0)], [], [], .bini .eql, none⟩] [42] [])
              (.cond (.t 43)
                (.seq
                  (.reg [⟨(some 2), [], [.c (.str [95])], [], [], .cp, none⟩] [] [])
                  .ret)
                .skip))
            (.seq
              (.reg [⟨(some 44), [], [.t 3], [], [], .cp, none⟩,
                 ⟨(some 2), [44], [.t 44], [], [], .mv, none⟩] [44] [])
              .ret)))))) }

def H_unicode_utf8_DecodeRuneInString : Hints := [(1, { ops := [], kt := [4, 5, 6, 7, 8, 9], kb := [] }),
  (2, { ops := [], kt := [11, 12, 13], kb := [] }),
  (3, { ops := [], kt := [14, 15, 16, 17, 18], kb := [] })]
def c_unicode_utf8_DecodeRuneInString (F : Nat → FuncId) : AFun := { nparams := 1, ntmps := 19, results := [.tmp 2, .tmp 3], body :=
  (.seq
    (.reg [⟨(some 2), [], [.c (.int .i32 0)], [], [], .cp, none⟩,
       ⟨(some 3), [], [.c (.int .i64 0)], [], [], .cp, none⟩] [] [])
    (.seq
      (.seq
        (.reg [⟨(some 4), [], [.t 0], [], [], .cp, none⟩,
           ⟨(some 5), [], [.t 4, .c (.str [])], [], [], .bins .neq, none⟩,
           ⟨(some 6), [], [.t 5], [], [], .cp, none⟩,
           ⟨(some 7), [], [.t 0], [], [], .cp, some (6, true)⟩,
           ⟨(some 8), [], [.t 7, .c (.int .i64 0)], [], [], .indexs, some (6, true)⟩,
           ⟨(some 9), [], [.t 8, .c (.int .u8 128)], [], [], .bini .lss, some (6, true)⟩,
           ⟨(some 10), [], [.t 6, .t 9, .c (.bool false)], [], [], .pick, none⟩] [4, 5, 6, 7, 8, 9] [])
        (.cond (.t 10)
          (.seq
            (.reg [⟨(some 11), [], [.t 0], [], [], .cp, none⟩,
               ⟨(some 12), [], [.t 11, .c (.int .i64 0)], [], [], .indexs, none⟩,
               ⟨(some 13), [], [.t 12], [], [], .conv .i32, none⟩,
               ⟨(some 2), [13], [.t 13], [], [], .mv, none⟩,
               ⟨(some 3), [], [.c (.int .i64 1)], [], [], .cp, none⟩] [11, 12, 13] [])
            .ret)
          (.reg [⟨(some 15), [], [.t 0], [], [], .cp, none⟩,
             ⟨(some 16), [], [.c (.fn (F n_unicode_utf8_decodeRuneInStringSlow)), .t 15], [], [], .call 0 false, none⟩,
             ⟨(some 14), [], [.t 16], [], [], .cp, none⟩,
             ⟨(some 17), [], [.t 14], [], [], .extract 0, none⟩,
             ⟨(some 18), [], [.t 14], [], [], .extract 1, none⟩,
             ⟨(some 2), [17], [.t 17], [], [], .mv, none⟩,
             ⟨(some 3), [18], [.t 18], [], [], .mv, none⟩] [14, 15, 16, 17, 18] [])))
      .ret)) }

def H_pref03_Char : Hints := [(1, { ops := [], kt := [8, 9], kb := [] }),
  (3, { ops := [], kt := [11, 12, 13], kb := [] }),
  (6, { ops := [], kt := [15, 16], kb := [] }),
  (7, { ops := [], kt := [17], kb := [] }),
  (8, { ops := [], kt := [19, 20, 21, 22, 23, 24], kb := [] }),
  (9, { ops := [], kt := [25, 26], kb := [] }),
  (10, { ops := [], kt := [28, 29, 30, 31, 32, 33], kb := [] }),
  (11, { ops := [], kt := [34, 35], kb := [] }),
  (12, { ops := [], kt := [37, 38, 39, 40, 41, 42], kb := [] }),
  (13, { ops := [], kt := [43, 44], kb := [] }),
  (14, { ops := [], kt := [45, 46, 47], kb := [] }),
  (17, { ops := [], kt := [49, 50], kb := [] }),
  (18, { ops := [], kt := [49, 50, 51, 52, 53, 54, 55, 56, 57, 58, 59, 60, 61, 62, 63, 64, 65, 66, 67, 68, 69, 70, 71], kb := [] }),
  (19, { ops := [], kt := [54, 55, 56, 57, 58, 59, 60, 61, 62], kb := [] }),
  (21, { ops := [], kt := [64, 65, 66, 67, 68, 69, 70, 71], kb := [] }),
  (22, { ops := [], kt := [72, 73, 74, 75, 76, 77, 78, 79, 80, 81, 82, 83, 84, 85], kb := [] }),
  (24, { ops := [], kt := [87, 88], kb := [] })]
def c_pref03_Char (F : Nat → FuncId) : AFun := { nparams := 1, ntmps := 89, results := [.tmp 2, .tmp 3], body :=
  (.seq
    (.reg [⟨(some 2), [], [.c (.int .i64 0)], [], [], .cp, none⟩,
       ⟨(some 3), [], [.c (.int .i64 0)], [], [], .cp, none⟩] [] [])
    (.seq
      (.seq
        (.reg [⟨(some 8), [], [.t 0], [], [], .cp, none⟩,
           ⟨(some 9), [], [.t 8], [], [], .len true, none⟩,
           ⟨(some 10), [], [.t 9, .c (.int .i64 0)], [], [], .bini .eql, none⟩] [8, 9] [])
        (.cond (.t 10)
          (.seq
            (.reg [⟨(some 2), [], [.c (.int .i64 0)], [], [], .cp, none⟩,
               ⟨(some 3), [], [.c (.int .i64 0)], [], [], .cp, none⟩] [] [])
            .ret)
          .skip))
      (.seq
        (.reg [⟨(some 11), [], [.t 0], [], [], .cp, none⟩,
           ⟨(some 12), [], [.t 11, .c (.int .i64 0)], [], [], .indexs, none⟩,
           ⟨(some 13), [], [.t 12], [], [], .conv .i64, none⟩,
           ⟨(some 4), [13], [.t 13], [], [], .mv, none⟩] [11, 12, 13] [])
        (.seq
          (.reg [⟨(some 5), [], [.c (.int .i64 1)], [], [], .cp, none⟩,
             ⟨(some 6), [], [.c (.int .i64 0)], [], [], .cp, none⟩] [] [])
          (.seq
            (.block 0
              (.seq
                (.reg [⟨(some 15), [], [.t 4], [], [], .cp, none⟩,
                   ⟨(some 16), [], [.t 15, .c (.int .i64 128)], [], [], .bini .lss, none⟩,
                   ⟨(some 14), [16], [.t 16], [], [], .mv, none⟩] [15, 16] [])
                (.cond (.t 14)
                  (.seq
                    (.reg [⟨(some 17), [], [.t 4], [], [], .cp, none⟩,
                       ⟨(some 2), [17], [.t 17], [], [], .mv, none⟩,
                       ⟨(some 3), [], [.c (.int .i64 1)], [], [], .cp, none⟩] [17] [])
                    .ret)
                  (.seq
                    (.reg [⟨(some 19), [], [.t 4], [], [], .cp, none⟩,
                       ⟨(some 20), [], [.t 19, .c (.int .i64 194)], [], [], .bini .geq, none⟩,
                       ⟨(some 21), [], [.t 20], [], [], .cp, none⟩,
                       ⟨(some 22), [], [.t 4], [], [], .cp, some (21, true)⟩,
                       ⟨(some 23), [], [.t 22, .c (.int .i64 224)], [], [], .bini .lss, some (21, true)⟩,
                       ⟨(some 24), [], [.t 21, .t 23, .c (.bool false)], [], [], .pick, none⟩,
                       ⟨(some 18), [24], [.t 24], [], [], .mv, none⟩] [19, 20, 21, 22, 23, 24] [])
                    (.cond (.t 18)
                      (.reg [⟨(some 25), [], [.t 4], [], [], .cp, none⟩,
                         ⟨(some 26), [], [.t 25, .c (.int .i64 192)], [], [], .bini .sub, none⟩,
                         ⟨(some 5), [], [.c (.int .i64 2)], [], [], .cp, none⟩,
                         ⟨(some 6), [], [.c (.int .i64 128)], [], [], .cp, none⟩,
                         ⟨(some 4), [26], [.t 26], [], [], .mv, none⟩] [25, 26] [])
                      (.seq
                        (.reg [⟨(some 28), [], [.t 4], [], [], .cp, none⟩,
                           ⟨(some 29), [], [.t 28, .c (.int .i64 224)], [], [], .bini .geq, none⟩,
                           ⟨(some 30), [], [.t 29], [], [], .cp, none⟩,
                           ⟨(some 31), [], [.t 4], [], [], .cp, some (30, true)⟩,
                           ⟨(some 32), [], [.t 31, .c (.int .i64 240)], [], [], .bini .lss, some (30, true)⟩,
                           ⟨(some 33), [], [.t 30, .t 32, .c (.bool false)], [], [], .pick, none⟩,
                           ⟨(some 27), [33], [.t 33], [], [], .mv, none⟩] [28, 29, 30, 31, 32, 33] [])
                        (.cond (.t 27)
                          (.reg [⟨(some 34), [], [.t 4], [], [], .cp, none⟩,
                             ⟨(some 35), [], [.t 34, .c (.int .i64 224)], [], [], .bini .sub, none⟩,
                             ⟨(some 5), [], [.c (.int .i64 3)], [], [], .cp, none⟩,
                             ⟨(some 6), [], [.c (.int .i64 2048)], [], [], .cp, none⟩,
                             ⟨(some 4), [35], [.t 35], [], [], .mv, none⟩] [34, 35] [])
                          (.seq
                            (.reg [⟨(some 37), [], [.t 4], [], [], .cp, none⟩,
                               ⟨(some 38), [], [.t 37, .c (.int .i64 240)], [], [], .bini .geq, none⟩,
                               ⟨(some 39), [], [.t 38], [], [], .cp, none⟩,
                               ⟨(some 40), [], [.t 4], [], [], .cp, some (39, true)⟩,
                               ⟨(some 41), [], [.t 40, .c (.int .i64 245)], [], [], .bini .lss, some (39, true)⟩,
                               ⟨(some 42), [], [.t 39, .t 41, .c (.bool false)], [], [], .pick, none⟩,
                               ⟨(some 36), [42], [.t 42], [], [], .mv, none⟩] [37, 38, 39, 40, 41, 42] [])
                            (.cond (.t 36)
                              (.reg [⟨(some 43), [], [.t 4], [], [], .cp, none⟩,
                                 ⟨(some 44), [], [.t 43, .c (.int .i64 240)], [], [], .bini .sub, none⟩,
                                 ⟨(some 5), [], [.c (.int .i64 4)], [], [], .cp, none⟩,
                                 ⟨(some 6), [], [.c (.int .i64 65536)], [], [], .cp, none⟩,
                                 ⟨(some 4), [44], [.t 44], [], [], .mv, none⟩] [43, 44] [])
                              (.seq
                                (.reg [⟨(some 2), [], [.c (.int .i64 0)], [], [], .cp, none⟩,
                                   ⟨(some 3), [], [.c (.int .i64 0)], [], [], .cp, none⟩] [] [])
                                .ret))))))))))
            (.seq
              (.seq
                (.reg [⟨(some 45), [], [.t 0], [], [], .cp, none⟩,
                   ⟨(some 46), [], [.t 45], [], [], .len true, none⟩,
                   ⟨(some 47), [], [.t 5], [], [], .cp, none⟩,
                   ⟨(some 48), [], [.t 46, .t 47], [], [], .bini .lss, none⟩] [45, 46, 47] [])
                (.cond (.t 48)
                  (.seq
                    (.reg [⟨(some 2), [], [.c (.int .i64 0)], [], [], .cp, none⟩,
                       ⟨(some 3), [], [.c (.int .i64 0)], [], [], .cp, none⟩] [] [])
                    .ret)
                  .skip))
              (.seq
                (.seq
                  (.reg [⟨(some 7), [], [.c (.int .i64 1)], [], [], .cp, none⟩] [] [])
                  (.block 1
                    (.loop
                      (.seq
                        (.seq
                          (.reg [⟨(some 49), [], [.t 7], [], [], .cp, none⟩,
                             ⟨(some 50), [], [.t 5], [], [], .cp, none⟩,
                             ⟨(some 51), [], [.t 49, .t 50], [], [], .bini .lss, none⟩] [49, 50] [])
                          (.cond (.t 51)
                            .skip
                            (.exit 1)))
                        (.seq
                          (.block 2
                            (.seq
                              (.seq
                                (.reg [⟨(some 54), [], [.t 0], [], [], .cp, none⟩,
                                   ⟨(some 55), [], [.t 7], [], [], .cp, none⟩,
                                   ⟨(some 56), [], [.t 54, .t 55], [], [], .indexs, none⟩,
                                   ⟨(some 57), [], [.t 56, .c (.int .u8 128)], [], [], .bini .lss, none⟩,
                                   ⟨(some 58), [], [.t 57], [], [], .cp, none⟩,
                                   ⟨(some 59), [], [.t 0], [], [], .cp, some (58, false)⟩,
                                   ⟨(some 60), [], [.t 7], [], [], .cp, some (58, false)⟩,
                                   ⟨(some 61), [], [.t 59, .t 60], [], [], .indexs, some (58, false)⟩,
                                   ⟨(some 62), [], [.t 61, .c (.int .u8 191)], [], [], .bini .gtr, some (58, false)⟩,
                                   ⟨(some 63), [], [.t 58, .c (.bool true), .t 62], [], [], .pick, none⟩] [54, 55, 56, 57, 58, 59, 60, 61, 62] [])
                                (.cond (.t 63)
                                  (.seq
                                    (.reg [⟨(some 2), [], [.c (.int .i64 0)], [], [], .cp, none⟩,
                                       ⟨(some 3), [], [.c (.int .i64 0)], [], [], .cp, none⟩] [] [])
                                    .ret)
                                  .skip))
                              (.reg [⟨(some 64), [], [.t 4], [], [], .cp, none⟩,
                                 ⟨(some 65), [], [.c (.int .i64 64), .t 64], [], [], .bini .mul, none⟩,
                                 ⟨(some 66), [], [.t 0], [], [], .cp, none⟩,
                                 ⟨(some 67), [], [.t 7], [], [], .cp, none⟩,
                                 ⟨(some 68), [], [.t 66, .t 67], [], [], .indexs, none⟩,
                                 ⟨(some 69), [], [.t 68], [], [], .conv .i64, none⟩,
                                 ⟨(some 70), [], [.t 65, .t 69], [], [], .bini .add, none⟩,
                                 ⟨(some 71), [], [.t 70, .c (.int .i64 128)], [], [], .bini .sub, none⟩,
                                 ⟨(some 4), [71], [.t 71], [], [], .mv, none⟩] [64, 65, 66, 67, 68, 69, 70, 71] [])))
                          (.reg [⟨(some 52), [], [.t 7], [], [], .cp, none⟩,
                             ⟨(some 53), [], [.t 52, .c (.int .i64 1)], [], [], .bini .add, none⟩,
                             ⟨(some 7), [53], [.t 53], [], [], .mv, none⟩] [49, 50, 51, 52, 53, 54, 55, 56, 57, 58, 59, 60, 61, 62, 63, 64, 65, 66, 67, 68, 69, 70, 71] []))))))
                (.seq
                  (.seq
                    (.reg [⟨(some 72), [], [.t 4], [], [], .cp, none⟩,
                       ⟨(some 73), [], [.t 6], [], [], .cp, none⟩,
                       ⟨(some 74), [], [.t 72, .t 73], [], [], .bini .lss, none⟩,
                       ⟨(some 75), [], [.t 74], [], [], .cp, none⟩,
                       ⟨(some 76), [], [.t 4], [], [], .cp, some (75, false)⟩,
                       ⟨(some 77), [], [.t 76, .c (.int .i64 1114111)], [], [], .bini .gtr, some (75, false)⟩,
                       ⟨(some 78), [], [.t 75, .c (.bool true), .t 77], [], [], .pick, none⟩,
                       ⟨(some 79), [], [.t 78], [], [], .cp, none⟩,
                       ⟨(some 80), [], [.t 4], [], [], .cp, some (79, false)⟩,
                       ⟨(some 81), [], [.t 80, .c (.int .i64 55296)], [], [], .bini .geq, some (79, false)⟩,
                       ⟨(some 82), [], [.t 81], [], [], .cp, some (79, false)⟩,
                       ⟨(some 83), [], [.t 4], [], [], .cp, some (82, true)⟩,
                       ⟨(some 84), [], [.t 83, .c (.int .i64 57343)], [], [], .bini .leq, some (82, true)⟩,
                       ⟨(some 85), [], [.t 82, .t 84, .c (.bool false)], [], [], .pick, some (79, false)⟩,
                       ⟨(some 86), [], [.t 79, .c (.bool true), .t 85], [], [], .pick, none⟩] [72, 73, 74, 75, 76, 77, 78, 79, 80, 81, 82, 83, 84, 85] [])
                    (.cond (.t 86)
                      (.seq
                        (.reg [⟨(some 2), [], [.c (.int .i64 0)], [], [], .cp, none⟩,
                           ⟨(some 3), [], [.c (.int .i64 0)], [], [], .cp, none⟩] [] [])
                        .ret)
                      .skip))
                  (.seq
                    (.reg [⟨(some 87), [], [.t 4], [], [], .cp, none⟩,
                       ⟨(some 88), [], [.t 5], [], [], .cp, none⟩,
                       ⟨(some 2), [87], [.t 87], [], [], .mv, none⟩,
                       ⟨(some 3), [88], [.t 88], [], [], .mv, none⟩] [87, 88] [])
                    .ret))))))))) }

def H_pref03_may : Hints := [(1, { ops := [], kt := [3, 4, 5, 6, 7, 8, 9, 10, 11, 12, 13, 14, 15, 16], kb := [] })]
def c_pref03_may (F : Nat → FuncId) : AFun := { nparams := 1, ntmps := 17, results := [.tmp 2], body :=
  (.seq
    (.reg [⟨(some 2), [], [.c (.bool false)], [], [], .cp, none⟩] [] [])
    (.seq
      (.reg [⟨(some 3), [], [.t 0], [], [], .cp, none⟩,
         ⟨(some 4), [], [.t 3, .c (.int .i64 32)], [], [], .bini .geq, none⟩,
         ⟨(some 5), [], [.t 4], [], [], .cp, none⟩,
         ⟨(some 6), [], [.t 0], [], [], .cp, some (5, true)⟩,
         ⟨(some 7), [], [.t 6, .c (.int .i64 127)], [], [], .bini .lss, some (5, true)⟩,
         ⟨(some 8), [], [.t 7], [], [], .cp, some (5, true)⟩,
         ⟨(some 9), [], [.t 0], [], [], .cp, some (8, false)⟩,
         ⟨(some 10), [], [.t 9, .c (.int .i64 159)], [], [], .bini .gtr, some (8, false)⟩,
         ⟨(some 11), [], [.t 8, .c (.bool true), .t 10], [], [], .pick, some (5, true)⟩,
         ⟨(some 12), [], [.t 5, .t 11, .c (.bool false)], [], [], .pick, none⟩,
         ⟨(some 13), [], [.t 12], [], [], .cp, none⟩,
         ⟨(some 14), [], [.t 0], [], [], .cp, some (13, true)⟩,
         ⟨(some 15), [], [.t 14, .c (.int .i64 65533)], [], [], .bini .neq, some (13, true)⟩,
         ⟨(some 16), [], [.t 13, .t 15, .c (.bool false)], [], [], .pick, none⟩,
         ⟨(some 2), [16], [.t 16], [], [], .mv, none⟩] [3, 4, 5, 6, 7, 8, 9, 10, 11, 12, 13, 14, 15, 16] [])
      .ret)) }

end Go.AR

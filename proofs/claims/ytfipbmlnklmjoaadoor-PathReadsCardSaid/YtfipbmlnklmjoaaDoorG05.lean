import Derived.Test.YtfipbmlnklmjoaaDoorG02
import Derived.Test.YtfipbmlnklmjoaaDoorG03
set_option linter.all false
/-! Codes, printed by program. -/
namespace Go.AR
def H_plaw03_NameSplits : Hints := [(1, { ops := [], kt := [7, 8], kb := [] }),
  (2, { ops := [], kt := [10], kb := [] }),
  (3, { ops := [], kt := [11, 12, 13, 14, 15], kb := [] }),
  (4, { ops := [], kt := [16, 17, 18, 19, 20], kb := [] }),
  (5, { ops := [], kt := [21, 22, 23, 24, 25, 26, 27, 28, 29, 30, 31, 32, 33, 34, 35, 36, 37, 38], kb := [] })]
def c_plaw03_NameSplits (F : Nat → FuncId) : AFun := { nparams := 1, ntmps := 39, results := [.tmp 2], body :=
  (.seq
    (.reg [⟨(some 2), [], [.c (.bool false)], [], [], .cp, none⟩] [] [])
    (.seq
      (.seq
        (.reg [⟨(some 7), [], [.t 0], [], [], .cp, none⟩,
           ⟨(some 8), [], [.t 7], [], [], .len true, none⟩,
           ⟨(some 9), [], [.t 8, .c (.int .i64 500)], [], [], .bini .gtr, none⟩] [7, 8] [])
        (.cond (.t 9)
          (.seq
            (.reg [⟨(some 10), [], [.c (.fn (F n_plaw03_awake))], [], [], .call 0 false, none⟩,
               ⟨(some 2), [10], [.t 10], [], [], .mv, none⟩] [10] [])
            .ret)
          .skip))
      (.seq
        (.reg [⟨(some 12), [], [.t 0], [], [], .cp, none⟩,
           ⟨(some 13), [], [.c (.fn (F n_name_Split)), .t 12], [], [], .call 0 false, none⟩,
           ⟨(some 11), [], [.t 13], [], [], .cp, none⟩,
           ⟨(some 14), [], [.t 11], [], [], .extract 0, none⟩,
           ⟨(some 15), [], [.t 11], [], [], .extract 1, none⟩,
           ⟨(some 3), [14], [.t 14], [], [], .mv, none⟩,
           ⟨(some 4), [15], [.t 15], [], [], .mv, none⟩] [11, 12, 13, 14, 15] [])
        (.seq
          (.reg [⟨(some 17), [], [.t 0], [], [], .cp, none⟩,
             ⟨(some 18), [], [.c (.fn (F n_pref03_Split)), .t 17], [], [], .call 0 false, none⟩,
             ⟨(some 16), [], [.t 18], [], [], .cp, none⟩,
             ⟨(some 19), [], [.t 16], [], [], .extract 0, none⟩,
             ⟨(some 20), [], [.t 16], [], [], .extract 1, none⟩,
             ⟨(some 5), [19], [.t 19], [], [], .mv, none⟩,
             ⟨(some 6), [20], [.t 20], [], [], .mv, none⟩] [16, 17, 18, 19, 20] [])
          (.seq
            (.reg [⟨(some 21), [], [.t 0], [], [], .cp, none⟩,
               ⟨(some 22), [], [.c (.fn (F n_name_Quote)), .t 21], [], [], .call 0 false, none⟩,
               ⟨(some 23), [], [.t 0], [], [], .cp, none⟩,
               ⟨(some 24), [], [.c (.fn (F n_pref03_Quote)), .t 23], [], [], .call 0 false, none⟩,
               ⟨(some 25), [], [.t 22, .t 24], [], [], .bins .eql, none⟩,
               ⟨(some 26), [], [.t 25], [], [], .cp, none⟩,
               ⟨(some 27), [], [.t 4], [], [], .cp, some (26, true)⟩,
               ⟨(some 28), [], [.t 6], [], [], .cp, some (26, true)⟩,
               ⟨(some 29), [], [.t 27, .t 28], [], [], .binb false, some (26, true)⟩,
               ⟨(some 30), [], [.t 26, .t 29, .c (.bool false)], [], [], .pick, none⟩,
               ⟨(some 31), [], [.t 30], [], [], .cp, none⟩,
               ⟨(some 32), [], [.t 3], [], [], .cp, some (31, true)⟩,
               ⟨(some 33), [], [.t 5], [], [], .cp, some (31, true)⟩,
               ⟨(some 34), [], [.c (.fn (F n_pref03_Same)), .t 32, .t 33], [], [], .call 0 false, some (31, true)⟩,
               ⟨(some 35), [], [.t 31, .t 34, .c (.bool false)], [], [], .pick, none⟩,
               ⟨(some 36), [], [.t 35], [], [], .cp, none⟩,
               ⟨(some 37), [], [.c (.fn (F n_plaw03_awake))], [], [], .call 0 false, some (36, true)⟩,
               ⟨(some 38), [], [.t 36, .t 37, .c (.bool false)], [], [], .pick, none⟩,
               ⟨(some 2), [38], [.t 38], [], [], .mv, none⟩] [21, 22, 23, 24, 25, 26, 27, 28, 29, 30, 31, 32, 33, 34, 35, 36, 37, 38] [])
            .ret))))) }

def H_plaw03_NameBack : Hints := [(1, { ops := [], kt := [7, 8, 9, 10, 11, 12, 13], kb := [] }),
  (2, { ops := [], kt := [15], kb := [] }),
  (5, { ops := [], kt := [16, 17, 18], kb := [] }),
  (6, { ops := [], kt := [16, 17, 18, 19, 20, 21, 22, 23, 24, 25, 26, 27, 28, 29, 30, 31, 32, 33, 34, 35, 36, 37, 38, 39], kb := [] }),
  (7, { ops := [], kt := [22, 23, 24, 25, 26], kb := [] }),
  (8, { ops := [], kt := [28], kb := [] }),
  (9, { ops := [], kt := [29], kb := [] }),
  (10, { ops := [], kt := [31, 32], kb := [] }),
  (11, { ops := [], kt := [33, 34, 35, 36, 37, 38, 39], kb := [] }),
  (12, { ops := [], kt := [40, 41, 42, 43, 44], kb := [] }),
  (13, { ops := [], kt := [45, 46, 47, 48, 49, 50, 51, 52, 53], kb := [] })]
def c_plaw03_NameBack (F : Nat → FuncId) : AFun := { nparams := 1, ntmps := 54, results := [.tmp 2], body :=
  (.seq
    (.reg [⟨(some 2), [], [.c (.bool false)], [], [], .cp, none⟩] [] [])
    (.seq
      (.seq
        (.reg [⟨(some 7), [], [.t 0], [], [], .cp, none⟩,
           ⟨(some 8), [], [.t 7], [], [], .len false, none⟩,
           ⟨(some 9), [], [.t 8, .c (.int .i64 0)], [], [], .bini .eql, none⟩,
           ⟨(some 10), [], [.t 9], [], [], .cp, none⟩,
           ⟨(some 11), [], [.t 0], [], [], .cp, some (10, false)⟩,
           ⟨(some 12), [], [.t 11], [], [], .len false, some (10, false)⟩,
           ⟨(some 13), [], [.t 12, .c (.int .i64 12)], [], [], .bini .gtr, some (10, false)⟩,
           ⟨(some 14), [], [.t 10, .c (.bool true), .t 13], [], [], .pick, none⟩] [7, 8, 9, 10, 11, 12, 13] [])
        (.cond (.t 14)
          (.seq
            (.reg [⟨(some 15), [], [.c (.fn (F n_plaw03_awake))], [], [], .call 0 false, none⟩,
               ⟨(some 2), [15], [.t 15], [], [], .mv, none⟩] [15] [])
            .ret)
          .skip))
      (.seq
        (.reg [⟨(some 3), [], [.c (.str [])], [], [], .cp, none⟩] [] [])
        (.seq
          (.seq
            (.reg [⟨(some 4), [], [.c (.int .i64 0)], [], [], .cp, none⟩] [] [])
            (.block 0
              (.loop
                (.seq
                  (.seq
                    (.reg [⟨(some 16), [], [.t 4], [], [], .cp, none⟩,
                       ⟨(some 17), [], [.t 0], [], [], .cp, none⟩,
                       ⟨(some 18), [], [.t 17], [], [], .len false, none⟩,
                       ⟨(some 19), [], [.t 16, .t 18], [], [], .bini .lss, none⟩] [16, 17, 18] [])
                    (.cond (.t 19)
                      .skip
                      (.exit 0)))
                  (.seq
                    (.block 1
                      (.seq
                        (.seq
                          (.reg [⟨(some 22), [], [.t 0], [], [], .cp, none⟩,
                             ⟨(some 23), [], [.t 4], [], [], .cp, none⟩,
                             ⟨(some 24), [], [.t 22, .t 23], [], [], .iaddr none 1, none⟩,
                             ⟨(some 25), [], [.t 24], [], [], .load false 1, none⟩,
                             ⟨(some 26), [], [.t 25], [], [], .len true, none⟩,
                             ⟨(some 27), [], [.t 26, .c (.int .i64 100)], [], [], .bini .gtr, none⟩] [22, 23, 24, 25, 26] [])
                          (.cond (.t 27)
                            (.seq
                              (.reg [⟨(some 28), [], [.c (.fn (F n_plaw03_awake))], [], [], .call 0 false, none⟩,
                                 ⟨(some 2), [28], [.t 28], [], [], .mv, none⟩] [28] [])
                              .ret)
                            .skip))
                        (.seq
                          (.seq
                            (.reg [⟨(some 29), [], [.t 4], [], [], .cp, none⟩,
                               ⟨(some 30), [], [.t 29, .c (.int .i64 0)], [], [], .bini .gtr, none⟩] [29] [])
                            (.cond (.t 30)
                              (.reg [⟨(some 31), [], [.t 3], [], [], .cp, none⟩,
                                 ⟨(some 32), [], [.t 31, .c (.str [47])], [], [], .bins .add, none⟩,
                                 ⟨(some 3), [32], [.t 32], [], [], .mv, none⟩] [31, 32] [])
                              .skip))
                          (.reg [⟨(some 33), [], [.t 3], [], [], .cp, none⟩,
                             ⟨(some 34), [], [.t 0], [], [], .cp, none⟩,
                             ⟨(some 35), [], [.t 4], [], [], .cp, none⟩,
                             ⟨(some 36), [], [.t 34, .t 35], [], [], .iaddr none 1, none⟩,
                             ⟨(some 37), [], [.t 36], [], [], .load false 1, none⟩,
                             ⟨(some 38), [], [.c (.fn (F n_name_Quote)), .t 37], [], [], .call 0 false, none⟩,
                             ⟨(some 39), [], [.t 33, .t 38], [], [], .bins .add, none⟩,
                             ⟨(some 3), [39], [.t 39], [], [], .mv, none⟩] [33, 34, 35, 36, 37, 38, 39] []))))
                    (.reg [⟨(some 20), [], [.t 4], [], [], .cp, none⟩,
                       ⟨(some 21), [], [.t 20, .c (.int .i64 1)], [], [], .bini .add, none⟩,
                       ⟨(some 4), [21], [.t 21], [], [], .mv, none⟩] [16, 17, 18, 19, 20, 21, 22, 23, 24, 25, 26, 27, 28, 29, 30, 31, 32, 33, 34, 35, 36, 37, 38, 39] []))))))
          (.seq
            (.reg [⟨(some 41), [], [.t 3], [], [], .cp, none⟩,
               ⟨(some 42), [], [.c (.fn (F n_name_Split)), .t 41], [], [], .call 0 false, none⟩,
               ⟨(some 40), [], [.t 42], [], [], .cp, none⟩,
               ⟨(some 43), [], [.t 40], [], [], .extract 0, none⟩,
               ⟨(some 44), [], [.t 40], [], [], .extract 1, none⟩,
               ⟨(some 5), [43], [.t 43], [], [], .mv, none⟩,
               ⟨(some 6), [44], [.t 44], [], [], .mv, none⟩] [40, 41, 42, 43, 44] [])
            (.seq
              (.reg [⟨(some 45), [], [.t 6], [], [], .cp, none⟩,
                 ⟨(some 46), [], [.t 45], [], [], .cp, none⟩,
                 ⟨(some 47), [], [.t 0], [], [], .cp, some (46, true)⟩,
                 ⟨(some 48), [], [.t 5], [], [], .cp, some (46, true)⟩,
                 ⟨(some 49), [], [.c (.fn (F n_pref03_Same)), .t 47, .t 48], [], [], .call 0 false, some (46, true)⟩,
                 ⟨(some 50), [], [.t 46, .t 49, .c (.bool false)], [], [], .pick, none⟩,
                 ⟨(some 51), [], [.t 50], [], [], .cp, none⟩,
                 ⟨(some 52), [], [.c (.fn (F n_plaw03_awake))], [], [], .call 0 false, some (51, true)⟩,
                 ⟨(some 53), [], [.t 51, .t 52, .c (.bool false)], [], [], .pick, none⟩,
                 ⟨(some 2), [53], [.t 53], [], [], .mv, none⟩] [45, 46, 47, 48, 49, 50, 51, 52, 53] [])
              .ret)))))) }

def H_plaw03_awake : Hints := [(1, { ops := [], kt := [3, 4, 5, 6], kb := [] }),
  (2, { ops := [], kt := [7, 8, 9, 10, 11, 12, 13, 14, 15, 16, 17, 18, 19, 20, 21, 22, 23], kb := [] })]
def c_plaw03_awake (F : Nat → FuncId) : AFun := { nparams := 0, ntmps := 24, results := [.tmp 0], body :=
  (.seq
    (.reg [⟨(some 0), [], [.c (.bool false)], [], [], .cp, none⟩] [] [])
    (.seq
      (.reg [⟨(some 4), [], [.c (.fn (F n_name_Split)), .c (.str [120, 92, 92, 121, 47, 122])], [], [], .call 0 false, none⟩,
         ⟨(some 3), [], [.t 4], [], [], .cp, none⟩,
         ⟨(some 5), [], [.t 3], [], [], .extract 0, none⟩,
         ⟨(some 6), [], [.t 3], [], [], .extract 1, none⟩,
         ⟨(some 1), [5], [.t 5], [], [], .mv, none⟩,
         ⟨(some 2), [6], [.t 6], [], [], .mv, none⟩] [3, 4, 5, 6] [])
      (.seq
        (.reg [⟨(some 7), [], [.t 2], [], [], .cp, none⟩,
           ⟨(some 8), [], [.t 7], [], [], .cp, none⟩,
           ⟨(some 9), [], [.t 1], [], [], .cp, some (8, true)⟩,
           ⟨(some 10), [], [.c (.str [120, 92, 121]), .c (.str [122])], [], [], .bslice 1 [.str [], .str []] [(0, 1), (1, 1)], some (8, true)⟩,
           ⟨(some 11), [], [.c (.fn (F n_pref03_Same)), .t 9, .t 10], [], [], .call 0 false, some (8, true)⟩,
           ⟨(some 12), [], [.t 8, .t 11, .c (.bool false)], [], [], .pick, none⟩,
           ⟨(some 13), [], [.t 12], [], [], .cp, none⟩,
           ⟨(some 14), [], [.c (.fn (F n_name_Quote)), .c (.str [97, 47, 98])], [], [], .call 0 false, some (13, true)⟩,
           ⟨(some 15), [], [.t 14, .c (.str [97, 92, 47, 98])], [], [], .bins .eql, some (13, true)⟩,
           ⟨(some 16), [], [.t 13, .t 15, .c (.bool false)], [], [], .pick, none⟩,
           ⟨(some 17), [], [.t 16], [], [], .cp, none⟩,
           ⟨(some 18), [], [.c (.fn (F n_name_Right)), .c (.str [107, 101, 121])], [], [], .call 0 false, some (17, true)⟩,
           ⟨(some 19), [], [.t 17, .t 18, .c (.bool false)], [], [], .pick, none⟩,
           ⟨(some 20), [], [.t 19], [], [], .cp, none⟩,
           ⟨(some 21), [], [.c (.fn (F n_name_Right)), .c (.str [])], [], [], .call 0 false, some (20, true)⟩,
           ⟨(some 22), [], [.t 21], [], [], .not, some (20, true)⟩,
           ⟨(some 23), [], [.t 20, .t 22, .c (.bool false)], [], [], .pick, none⟩,
           ⟨(some 0), [23], [.t 23], [], [], .mv, none⟩] [7, 8, 9, 10, 11, 12, 13, 14, 15, 16, 17, 18, 19, 20, 21, 22, 23] [])
        .ret))) }

def H_name_Split : Hints := [(1, { ops := [(0, { x := 1 })], kt := [8], kb := [] }),
  (3, { ops := [], kt := [9], kb := [] }),
  (5, { ops := [], kt := [13], kb := [] }),
  (6, { ops := [], kt := [14, 15, 16], kb := [] }),
  (7, { ops := [], kt := [18, 19, 20, 21, 22, 23, 24, 25, 26], kb := [] }),
  (9, { ops := [], kt := [28, 29, 30, 31, 32, 33], kb := [] }),
  (11, { ops := [], kt := [35, 36, 37, 38, 39, 40], kb := [] }),
  (12, { ops := [(0, { take := true }), (2, { x := 1 })], kt := [41, 42, 43], kb := [] }),
  (13, { ops := [(5, { mr := [44] }), (11, { mw := [44] })], kt := [44, 45, 46, 47, 48, 49, 50, 51, 52, 53, 54], kb := [], cl := [(4, 44, 1)], op := [(4, 44, 1)] }),
  (15, { ops := [], kt := [6, 7, 12, 13, 14, 15, 16, 17, 18, 19, 20, 21, 22, 23, 24, 25, 26, 27, 28, 29, 30, 31, 32, 33, 34, 35, 36, 37, 38, 39, 40, 41, 42, 43, 44, 45, 46, 47, 48, 49, 50, 51, 52, 53, 54, 55], kb := [] }),
  (18, { ops := [(0, { x := 3 })], kt := [57], kb := [] })]
def c_name_Split (F : Nat → FuncId) : AFun := { nparams := 1, ntmps := 58, results := [.tmp 2, .tmp 3], body :=
  (.seq
    (.reg [⟨(some 2), [], [], [], [], .nils 1, none⟩,
       ⟨(some 3), [], [.c (.bool false)], [], [], .cp, none⟩] [] [])
    (.seq
      (.reg [⟨(some 8), [], [.c (.str [])], [], [], .bslicex 1 [.str []] [(0, 1)], none⟩,
         ⟨(some 4), [8], [.t 8], [], [], .mv, none⟩] [8] [])
      (.seq
        (.reg [⟨(some 5), [], [.c (.bool false)], [], [], .cp, none⟩] [] [])
        (.seq
          (.seq
            (.reg [⟨(some 9), [], [.t 0], [], [], .cp, none⟩,
               ⟨(some 10), [], [.t 9], [], [], .len true, none⟩,
               ⟨(some 11), [], [.c (.int .i64 0)], [], [], .cp, none⟩] [9] [])
            (.block 0
              (.loop
                (.seq
                  (.reg [⟨(some 12), [], [.t 11, .t 10], [], [], .bini .lss, none⟩] [] [])
                  (.seq
                    (.cond (.t 12)
                      .skip
                      (.exit 0))
                    (.seq
                      (.block 1
                        (.seq
                          (.reg [⟨(some 13), [], [.t 11], [], [], .cp, none⟩,
                             ⟨(some 6), [13], [.t 13], [], [], .mv, none⟩] [13] [])
                          (.seq
                            (.reg [⟨(some 14), [], [.t 0], [], [], .cp, none⟩,
                               ⟨(some 15), [], [.t 6], [], [], .cp, none⟩,
                               ⟨(some 16), [], [.t 14, .t 15], [], [], .indexs, none⟩,
                               ⟨(some 7), [16], [.t 16], [], [], .mv, none⟩] [14, 15, 16] [])
                            (.seq
                              (.block 2
                                (.seq
                                  (.reg [⟨(some 18), [], [.t 5], [], [], .cp, none⟩,
                                     ⟨(some 19), [], [.t 18], [], [], .cp, none⟩,
                                     ⟨(some 20), [], [.t 7], [], [], .cp, some (19, true)⟩,
                                     ⟨(some 21), [], [.t 20, .c (.int .u8 47)], [], [], .bini .neq, some (19, true)⟩,
                                     ⟨(some 22), [], [.t 19, .t 21, .c (.bool false)], [], [], .pick, none⟩,
                                     ⟨(some 23), [], [.t 22], [], [], .cp, none⟩,
                                     ⟨(some 24), [], [.t 7], [], [], .cp, some (23, true)⟩,
                                     ⟨(some 25), [], [.t 24, .c (.int .u8 92)], [], [], .bini .neq, some (23, true)⟩,
                                     ⟨(some 26), [], [.t 23, .t 25, .c (.bool false)], [], [], .pick, none⟩,
                                     ⟨(some 17), [26], [.t 26], [], [], .mv, none⟩] [18, 19, 20, 21, 22, 23, 24, 25, 26] [])
                                  (.cond (.t 17)
                                    (.seq
                                      (.reg [⟨(some 2), [], [], [], [], .nils 1, none⟩,
                                         ⟨(some 3), [], [.c (.bool false)], [], [], .cp, none⟩] [] [])
                                      .ret)
                                    (.seq
                                      (.reg [⟨(some 28), [], [.t 5], [], [], .cp, none⟩,
                                         ⟨(some 29), [], [.t 28], [], [], .not, none⟩,
                                         ⟨(some 30), [], [.t 29], [], [], .cp, none⟩,
                                         ⟨(some 31), [], [.t 7], [], [], .cp, some (30, true)⟩,
                                         ⟨(some 32), [], [.t 31, .c (.int .u8 92)], [], [], .bini .eql, some (30, true)⟩,
                                         ⟨(some 33), [], [.t 30, .t 32, .c (.bool false)], [], [], .pick, none⟩,
                                         ⟨(some 27), [33], [.t 33], [], [], .mv, none⟩] [28, 29, 30, 31, 32, 33] [])
                                      (.cond (.t 27)
                                        (.seq
                                          (.reg [⟨(some 5), [], [.c (.bool true)], [], [], .cp, none⟩] [] [])
                                          (.exit 1))
                                        (.seq
                                          (.reg [⟨(some 35), [], [.t 5], [], [], .cp, none⟩,
                                             ⟨(some 36), [], [.t 35], [], [], .not, none⟩,
                                             ⟨(some 37), [], [.t 36], [], [], .cp, none⟩,
                                             ⟨(some 38), [], [.t 7], [], [], .cp, some (37, true)⟩,
                                             ⟨(some 39), [], [.t 38, .c (.int .u8 47)], [], [], .bini .eql, some (37, true)⟩,
                                             ⟨(some 40), [], [.t 37, .t 39, .c (.bool false)], [], [], .pick, none⟩,
                                             ⟨(some 34), [40], [.t 40], [], [], .mv, none⟩] [35, 36, 37, 38, 39, 40] [])
                                          (.cond (.t 34)
                                            (.seq
                                              (.reg [⟨(some 41), [4], [.t 4], [], [], .mv, none⟩,
                                                 ⟨(some 42), [], [.c (.str [])], [], [], .bslice 1 [.str []] [(0, 1)], none⟩,
                                                 ⟨(some 43), [41], [.t 41, .t 42], [], [], .appendx 1 16, none⟩,
                                                 ⟨(some 4), [43], [.t 43], [], [], .mv, none⟩] [41, 42, 43] [])
                                              (.exit 1))
                                            .skip)))))))
                              (.seq
                                (.seq (.opn 4 44 1) (.seq (.reg [⟨(some 44), [], [.t 4], [], [], .cp, none⟩,
   ⟨(some 45), [], [.t 4], [], [], .cp, none⟩,
   ⟨(some 46), [], [.t 45], [], [], .len false, none⟩,
   ⟨(some 47), [], [.t 46, .c (.int .i64 1)], [], [], .bini .sub, none⟩,
   ⟨(some 48), [], [.t 44, .t 47], [], [], .iaddr none 1, none⟩,
   ⟨(some 49), [], [.t 48], [44], [], .load false 1, none⟩,
   ⟨(some 50), [], [.t 7], [], [], .cp, none⟩,
   ⟨(some 51), [], [.t 50], [], [], .bslice 1 [.int .u8 0] [(0, 1)], none⟩,
   ⟨(some 52), [], [.t 51], [], [], .b2s, none⟩,
   ⟨(some 53), [], [.t 49, .t 52], [], [], .bins .add, none⟩,
   ⟨(some 54), [], [.t 44, .t 47], [], [], .iaddr none 1, none⟩,
   ⟨none, [53], [.t 54, .t 53], [], [44], .store false 1, none⟩] [44, 45, 46, 47, 48, 49, 50, 51, 52, 53, 54] []) (.close 4 44 1)))
                                (.reg [⟨(some 5), [], [.c (.bool false)], [], [], .cp, none⟩] [] []))))))
                      (.reg [⟨(some 55), [], [.t 11, .c (.int .i64 1)], [], [], .bini .add, none⟩,
                         ⟨(some 11), [], [.t 55], [], [], .cp, none⟩] [6, 7, 12, 13, 14, 15, 16, 17, 18, 19, 20, 21, 22, 23, 24, 25, 26, 27, 28, 29, 30, 31, 32, 33, 34, 35, 36, 37, 38, 39, 40, 41, 42, 43, 44, 45, 46, 47, 48, 49, 50, 51, 52, 53, 54, 55] [])))))))
          (.seq
            (.seq
              (.reg [⟨(some 56), [], [.t 5], [], [], .cp, none⟩] [] [])
              (.cond (.t 56)
                (.seq
                  (.reg [⟨(some 2), [], [], [], [], .nils 1, none⟩,
                     ⟨(some 3), [], [.c (.bool false)], [], [], .cp, none⟩] [] [])
                  .ret)
                .skip))
            (.seq
              (.reg [⟨(some 57), [4], [.t 4], [], [], .pubv, none⟩,
                 ⟨(some 2), [57], [.t 57], [], [], .mv, none⟩,
                 ⟨(some 3), [], [.c (.bool true)], [], [], .cp, none⟩] [57] [])
              .ret)))))) }

def H_pref03_Split : Hints := [(4, { ops := [], kt := [7, 8, 9], kb := [] }),
  (5, { ops := [], kt := [7, 8, 9, 10, 11, 12, 13, 14, 15, 16, 17, 18, 19, 20, 21, 22, 23, 24, 25, 26, 27, 28, 29, 30, 31, 32, 33, 34, 35, 36, 37, 38, 39, 40, 41, 42, 43, 44, 45, 46, 47, 48, 49, 50, 51, 52], kb := [] }),
  (6, { ops := [], kt := [13, 14, 15], kb := [] }),
  (7, { ops := [(0, { take := true })], kt := [17, 18, 19, 20], kb := [] }),
  (9, { ops := [], kt := [21, 22, 23], kb := [] }),
  (10, { ops := [], kt := [25, 26, 27, 28, 29, 30, 31, 32, 33, 34, 35, 36, 37, 38, 39, 40, 41, 42], kb := [] }),
  (12, { ops := [], kt := [44, 45], kb := [] }),
  (13, { ops := [], kt := [46, 47, 48, 49, 50, 51, 52], kb := [] }),
  (14, { ops := [(0, { take := true })], kt := [53, 54, 55, 56], kb := [] })]
def c_pref03_Split (F : Nat → FuncId) : AFun := { nparams := 1, ntmps := 57, results := [.tmp 2, .tmp 3], body :=
  (.seq
    (.reg [⟨(some 2), [], [], [], [], .nils 1, none⟩,
       ⟨(some 3), [], [.c (.bool false)], [], [], .cp, none⟩] [] [])
    (.seq
      (.reg [⟨(some 4), [], [], [], [], .nils 1, none⟩] [] [])
      (.seq
        (.reg [⟨(some 5), [], [.c (.str [])], [], [], .cp, none⟩] [] [])
        (.seq
          (.seq
            (.reg [⟨(some 6), [], [.c (.int .i64 0)], [], [], .cp, none⟩] [] [])
            (.block 0
              (.loop
                (.seq
                  (.seq
                    (.reg [⟨(some 7), [], [.t 6], [], [], .cp, none⟩,
                       ⟨(some 8), [], [.t 0], [], [], .cp, none⟩,
                       ⟨(some 9), [], [.t 8], [], [], .len true, none⟩,
                       ⟨(some 10), [], [.t 7, .t 9], [], [], .bini .lss, none⟩] [7, 8, 9] [])
                    (.cond (.t 10)
                      .skip
                      (.exit 0)))
                  (.seq
                    (.block 1
                      (.seq
                        (.seq
                          (.reg [⟨(some 13), [], [.t 0], [], [], .cp, none⟩,
                             ⟨(some 14), [], [.t 6], [], [], .cp, none⟩,
                             ⟨(some 15), [], [.t 13, .t 14], [], [], .indexs, none⟩,
                             ⟨(some 16), [], [.t 15, .c (.int .u8 47)], [], [], .bini .eql, none⟩] [13, 14, 15] [])
                          (.cond (.t 16)
                            (.seq
                              (.reg [⟨(some 17), [4], [.t 4], [], [], .mv, none⟩,
                                 ⟨(some 18), [], [.t 5], [], [], .cp, none⟩,
                                 ⟨(some 19), [], [.t 18], [], [], .bslice 1 [.str []] [(0, 1)], none⟩,
                                 ⟨(some 20), [17], [.t 17, .t 19], [], [], .append 1 16, none⟩,
                                 ⟨(some 4), [20], [.t 20], [], [], .mv, none⟩] [17, 18, 19, 20] [])
                              (.seq
                                (.reg [⟨(some 5), [], [.c (.str [])], [], [], .cp, none⟩] [] [])
                                (.exit 1)))
                            .skip))
                        (.seq
                          (.seq
                            (.reg [⟨(some 21), [], [.t 0], [], [], .cp, none⟩,
                               ⟨(some 22), [], [.t 6], [], [], .cp, none⟩,
                               ⟨(some 23), [], [.t 21, .t 22], [], [], .indexs, none⟩,
                               ⟨(some 24), [], [.t 23, .c (.int .u8 92)], [], [], .bini .eql, none⟩] [21, 22, 23] [])
                            (.cond (.t 24)
                              (.seq
                                (.seq
                                  (.reg [⟨(some 25), [], [.t 6], [], [], .cp, none⟩,
                                     ⟨(some 26), [], [.t 25, .c (.int .i64 1)], [], [], .bini .add, none⟩,
                                     ⟨(some 27), [], [.t 0], [], [], .cp, none⟩,
                                     ⟨(some 28), [], [.t 27], [], [], .len true, none⟩,
                                     ⟨(some 29), [], [.t 26, .t 28], [], [], .bini .eql, none⟩,
                                     ⟨(some 30), [], [.t 29], [], [], .cp, none⟩,
                                     ⟨(some 31), [], [.t 0], [], [], .cp, some (30, false)⟩,
                                     ⟨(some 32), [], [.t 6], [], [], .cp, some (30, false)⟩,
                                     ⟨(some 33), [], [.t 32, .c (.int .i64 1)], [], [], .bini .add, some (30, false)⟩,
                                     ⟨(some 34), [], [.t 31, .t 33], [], [], .indexs, some (30, false)⟩,
                                     ⟨(some 35), [], [.t 34, .c (.int .u8 47)], [], [], .bini .neq, some (30, false)⟩,
                                     ⟨(some 36), [], [.t 35], [], [], .cp, some (30, false)⟩,
                                     ⟨(some 37), [], [.t 0], [], [], .cp, some (36, true)⟩,
                                     ⟨(some 38), [], [.t 6], [], [], .cp, some (36, true)⟩,
                                     ⟨(some 39), [], [.t 38, .c (.int .i64 1)], [], [], .bini .add, some (36, true)⟩,
                                     ⟨(some 40), [], [.t 37, .t 39], [], [], .indexs, some (36, true)⟩,
                                     ⟨(some 41), [], [.t 40, .c (.int .u8 92)], [], [], .bini .neq, some (36, true)⟩,
                                     ⟨(some 42), [], [.t 36, .t 41, .c (.bool false)], [], [], .pick, some (30, false)⟩,
                                     ⟨(some 43), [], [.t 30, .c (.bool true), .t 42], [], [], .pick, none⟩] [25, 26, 27, 28, 29, 30, 31, 32, 33, 34, 35, 36, 37, 38, 39, 40, 41, 42] [])
                                  (.cond (.t 43)
                                    (.seq
                                      (.reg [⟨(some 2), [], [], [], [], .nils 1, none⟩,
                                         ⟨(some 3), [], [.c (.bool false)], [], [], .cp, none⟩] [] [])
                                      .ret)
                                    .skip))
                                (.reg [⟨(some 44), [], [.t 6], [], [], .cp, none⟩,
                                   ⟨(some 45), [], [.t 44, .c (.int .i64 1)], [], [], .bini .add, none⟩,
                                   ⟨(some 6), [45], [.t 45], [], [], .mv, none⟩] [44, 45] []))
                              .skip))
                          (.reg [⟨(some 46), [], [.t 5], [], [], .cp, none⟩,
                             ⟨(some 47), [], [.t 0], [], [], .cp, none⟩,
                             ⟨(some 48), [], [.t 6], [], [], .cp, none⟩,
                             ⟨(some 49), [], [.t 6], [], [], .cp, none⟩,
                             ⟨(some 50), [], [.t 49, .c (.int .i64 1)], [], [], .bini .add, none⟩,
                             ⟨(some 51), [], [.t 47, .t 48, .t 50], [], [], .slices true true, none⟩,
                             ⟨(some 52), [], [.t 46, .t 51], [], [], .bins .add, none⟩,
                             ⟨(some 5), [52], [.t 52], [], [], .mv, none⟩] [46, 47, 48, 49, 50, 51, 52] []))))
                    (.reg [⟨(some 11), [], [.t 6], [], [], .cp, none⟩,
                       ⟨(some 12), [], [.t 11, .c (.int .i64 1)], [], [], .bini .add, none⟩,
                       ⟨(some 6), [12], [.t 12], [], [], .mv, none⟩] [7, 8, 9, 10, 11, 12, 13, 14, 15, 16, 17, 18, 19, 20, 21, 22, 23, 24, 25, 26, 27, 28, 29, 30, 31, 32, 33, 34, 35, 36, 37, 38, 39, 40, 41, 42, 43, 44, 45, 46, 47, 48, 49, 50, 51, 52] []))))))
          (.seq
            (.reg [⟨(some 53), [4], [.t 4], [], [], .mv, none⟩,
               ⟨(some 54), [], [.t 5], [], [], .cp, none⟩,
               ⟨(some 55), [], [.t 54], [], [], .bslice 1 [.str []] [(0, 1)], none⟩,
               ⟨(some 56), [53], [.t 53, .t 55], [], [], .append 1 16, none⟩,
               ⟨(some 2), [56], [.t 56], [], [], .mv, none⟩,
               ⟨(some 3), [], [.c (.bool true)], [], [], .cp, none⟩] [53, 54, 55, 56] [])
            .ret))))) }

def H_name_Quote : Hints := [(1, { ops := [(0, { take := true })], kt := [], kb := [] }),
  (2, { ops := [], kt := [5], kb := [] }),
  (4, { ops := [], kt := [9], kb := [] }),
  (5, { ops := [], kt := [10, 11, 12, 13, 14, 15, 16, 17, 18], kb := [] }),
  (6, { ops := [(0, { mw := [3], nref := 1 })], kt := [20], kb := [] }),
  (7, { ops := [(3, { mw := [3], nref := 1 })], kt := [21, 22, 23, 24], kb := [] }),
  (8, { ops := [], kt := [4, 8, 9, 10, 11, 12, 13, 14, 15, 16, 17, 18, 19, 20, 21, 22, 23, 24, 25], kb := [] }),
  (9, { ops := [(0, { mw := [3], nref := 1 })], kt := [26], kb := [] })]
def c_name_Quote (F : Nat → FuncId) : AFun := { nparams := 1, ntmps := 27, results := [.tmp 2], body :=
  (.seq
    (.reg [⟨(some 2), [], [.c (.str [])], [], [], .cp, none⟩] [] [])
    (.seq
      (.reg [⟨(some 3), [], [], [], [3], .alloct (F n_T_strings_Builder) [.val (.nilp), .ownE (some (F n_T_uint8)) 1 []], none⟩] [] [])
      (.seq
        (.seq
          (.reg [⟨(some 5), [], [.t 0], [], [], .cp, none⟩,
             ⟨(some 6), [], [.t 5], [], [], .len true, none⟩,
             ⟨(some 7), [], [.c (.int .i64 0)], [], [], .cp, none⟩] [5] [])
          (.block 0
            (.loop
              (.seq
                (.reg [⟨(some 8), [], [.t 7, .t 6], [], [], .bini .lss, none⟩] [] [])
                (.seq
                  (.cond (.t 8)
                    .skip
                    (.exit 0))
                  (.seq
                    (.block 1
                      (.seq
                        (.reg [⟨(some 9), [], [.t 7], [], [], .cp, none⟩,
                           ⟨(some 4), [9], [.t 9], [], [], .mv, none⟩] [9] [])
                        (.seq
                          (.seq
                            (.reg [⟨(some 10), [], [.t 0], [], [], .cp, none⟩,
                               ⟨(some 11), [], [.t 4], [], [], .cp, none⟩,
                               ⟨(some 12), [], [.t 10, .t 11], [], [], .indexs, none⟩,
                               ⟨(some 13), [], [.t 12, .c (.int .u8 47)], [], [], .bini .eql, none⟩,
                               ⟨(some 14), [], [.t 13], [], [], .cp, none⟩,
                               ⟨(some 15), [], [.t 0], [], [], .cp, some (14, false)⟩,
                               ⟨(some 16), [], [.t 4], [], [], .cp, some (14, false)⟩,
                               ⟨(some 17), [], [.t 15, .t 16], [], [], .indexs, some (14, false)⟩,
                               ⟨(some 18), [], [.t 17, .c (.int .u8 92)], [], [], .bini .eql, some (14, false)⟩,
                               ⟨(some 19), [], [.t 14, .c (.bool true), .t 18], [], [], .pick, none⟩] [10, 11, 12, 13, 14, 15, 16, 17, 18] [])
                            (.cond (.t 19)
                              (.reg [⟨(some 20), [], [.c (.fn (F n_strings_Builder_WriteByte)), .t 3, .c (.int .u8 92)], [], [3], .call 1 false, none⟩] [20] [])
                              .skip))
                          (.reg [⟨(some 21), [], [.t 0], [], [], .cp, none⟩,
                             ⟨(some 22), [], [.t 4], [], [], .cp, none⟩,
                             ⟨(some 23), [], [.t 21, .t 22], [], [], .indexs, none⟩,
                             ⟨(some 24), [], [.c (.fn (F n_strings_Builder_WriteByte)), .t 3, .t 23], [], [3], .call 1 false, none⟩] [21, 22, 23, 24] []))))
                    (.reg [⟨(some 25), [], [.t 7, .c (.int .i64 1)], [], [], .bini .add, none⟩,
                       ⟨(some 7), [], [.t 25], [], [], .cp, none⟩] [4, 8, 9, 10, 11, 12, 13, 14, 15, 16, 17, 18, 19, 20, 21, 22, 23, 24, 25] [])))))))
        (.seq
          (.reg [⟨(some 26), [], [.c (.fn (F n_strings_Builder_String)), .t 3], [], [3], .call 1 false, none⟩,
             ⟨(some 2), [26], [.t 26], [], [], .mv, none⟩] [26] [])
          .ret)))) }

def H_pref03_Quote : Hints := [(3, { ops := [], kt := [5, 6, 7], kb := [] }),
  (4, { ops := [], kt := [5, 6, 7, 8, 9, 10, 11, 12, 13, 14, 15, 16, 17, 18, 19, 20, 21, 22, 23, 24, 25, 26, 27, 28, 29], kb := [] }),
  (5, { ops := [], kt := [11, 12, 13, 14, 15, 16, 17, 18, 19], kb := [] }),
  (6, { ops := [], kt := [21, 22], kb := [] }),
  (7, { ops := [], kt := [23, 24, 25, 26, 27, 28, 29], kb := [] }),
  (8, { ops := [], kt := [30], kb := [] })]
def c_pref03_Quote (F : Nat → FuncId) : AFun := { nparams := 1, ntmps := 31, results := [.tmp 2], body :=
  (.seq
    (.reg [⟨(some 2), [], [.c (.str [])], [], [], .cp, none⟩] [] [])
    (.seq
      (.reg [⟨(some 3), [], [.c (.str [])], [], [], .cp, none⟩] [] [])
      (.seq
        (.seq
          (.reg [⟨(some 4), [], [.c (.int .i64 0)], [], [], .cp, none⟩] [] [])
          (.block 0
            (.loop
              (.seq
                (.seq
                  (.reg [⟨(some 5), [], [.t 4], [], [], .cp, none⟩,
                     ⟨(some 6), [], [.t 0], [], [], .cp, none⟩,
                     ⟨(some 7), [], [.t 6], [], [], .len true, none⟩,
                     ⟨(some 8), [], [.t 5, .t 7], [], [], .bini .lss, none⟩] [5, 6, 7] [])
                  (.cond (.t 8)
                    .skip
                    (.exit 0)))
                (.seq
                  (.block 1
                    (.seq
                      (.seq
                        (.reg [⟨(some 11), [], [.t 0], [], [], .cp, none⟩,
                           ⟨(some 12), [], [.t 4], [], [], .cp, none⟩,
                           ⟨(some 13), [], [.t 11, .t 12], [], [], .indexs, none⟩,
                           ⟨(some 14), [], [.t 13, .c (.int .u8 47)], [], [], .bini .eql, none⟩,
                           ⟨(some 15), [], [.t 14], [], [], .cp, none⟩,
                           ⟨(some 16), [], [.t 0], [], [], .cp, some (15, false)⟩,
                           ⟨(some 17), [], [.t 4], [], [], .cp, some (15, false)⟩,
                           ⟨(some 18), [], [.t 16, .t 17], [], [], .indexs, some (15, false)⟩,
                           ⟨(some 19), [], [.t 18, .c (.int .u8 92)], [], [], .bini .eql, some (15, false)⟩,
                           ⟨(some 20), [], [.t 15, .c (.bool true), .t 19], [], [], .pick, none⟩] [11, 12, 13, 14, 15, 16, 17, 18, 19] [])
                        (.cond (.t 20)
                          (.reg [⟨(some 21), [], [.t 3], [], [], .cp, none⟩,
                             ⟨(some 22), [], [.t 21, .c (.str [92])], [], [], .bins .add, none⟩,
                             ⟨(some 3), [22], [.t 22], [], [], .mv, none⟩] [21, 22] [])
                          .skip))
                      (.reg [⟨(some 23), [], [.t 3], [], [], .cp, none⟩,
                         ⟨(some 24), [], [.t 0], [], [], .cp, none⟩,
                         ⟨(some 25), [], [.t 4], [], [], .cp, none⟩,
                         ⟨(some 26), [], [.t 4], [], [], .cp, none⟩,
                         ⟨(some 27), [], [.t 26, .c (.int .i64 1)], [], [], .bini .add, none⟩,
                         ⟨(some 28), [], [.t 24, .t 25, .t 27], [], [], .slices true true, none⟩,
                         ⟨(some 29), [], [.t 23, .t 28], [], [], .bins .add, none⟩,
                         ⟨(some 3), [29], [.t 29], [], [], .mv, none⟩] [23, 24, 25, 26, 27, 28, 29] [])))
                  (.reg [⟨(some 9), [], [.t 4], [], [], .cp, none⟩,
                     ⟨(some 10), [], [.t 9, .c (.int .i64 1)], [], [], .bini .add, none⟩,
                     ⟨(some 4), [10], [.t 10], [], [], .mv, none⟩] [5, 6, 7, 8, 9, 10, 11, 12, 13, 14, 15, 16, 17, 18, 19, 20, 21, 22, 23, 24, 25, 26, 27, 28, 29] []))))))
        (.seq
          (.reg [⟨(some 30), [], [.t 3], [], [], .cp, none⟩,
             ⟨(some 2), [30], [.t 30], [], [], .mv, none⟩] [30] [])
          .ret)))) }

def H_pref03_Same : Hints := [(1, { ops := [], kt := [6, 7, 8, 9], kb := [] }),
  (4, { ops := [], kt := [11, 12, 13], kb := [] }),
  (5, { ops := [], kt := [11, 12, 13, 14, 15, 16, 17, 18, 19, 20, 21, 22, 23, 24, 25], kb := [] }),
  (6, { ops := [], kt := [17, 18, 19, 20, 21, 22, 23, 24], kb := [] })]
def c_pref03_Same (F : Nat → FuncId) : AFun := { nparams := 2, ntmps := 26, results := [.tmp 4], body :=
  (.seq
    (.reg [⟨(some 4), [], [.c (.bool false)], [], [], .cp, none⟩] [] [])
    (.seq
      (.seq
        (.reg [⟨(some 6), [], [.t 0], [], [], .cp, none⟩,
           ⟨(some 7), [], [.t 6], [], [], .len false, none⟩,
           ⟨(some 8), [], [.t 1], [], [], .cp, none⟩,
           ⟨(some 9), [], [.t 8], [], [], .len false, none⟩,
           ⟨(some 10), [], [.t 7, .t 9], [], [], .bini .neq, none⟩] [6, 7, 8, 9] [])
        (.cond (.t 10)
          (.seq
            (.reg [⟨(some 4), [], [.c (.bool false)], [], [], .cp, none⟩] [] [])
            .ret)
          .skip))
      (.seq
        (.seq
          (.reg [⟨(some 5), [], [.c (.int .i64 0)], [], [], .cp, none⟩] [] [])
          (.block 0
            (.loop
              (.seq
                (.seq
                  (.reg [⟨(some 11), [], [.t 5], [], [], .cp, none⟩,
                     ⟨(some 12), [], [.t 0], [], [], .cp, none⟩,
                     ⟨(some 13), [], [.t 12], [], [], .len false, none⟩,
                     ⟨(some 14), [], [.t 11, .t 13], [], [], .bini .lss, none⟩] [11, 12, 13] [])
                  (.cond (.t 14)
                    .skip
                    (.exit 0)))
                (.seq
                  (.block 1
                    (.seq
                      (.reg [⟨(some 17), [], [.t 0], [], [], .cp, none⟩,
                         ⟨(some 18), [], [.t 5], [], [], .cp, none⟩,
                         ⟨(some 19), [], [.t 17, .t 18], [], [], .iaddr none 1, none⟩,
                         ⟨(some 20), [], [.t 19], [], [], .load false 1, none⟩,
                         ⟨(some 21), [], [.t 1], [], [], .cp, none⟩,
                         ⟨(some 22), [], [.t 5], [], [], .cp, none⟩,
                         ⟨(some 23), [], [.t 21, .t 22], [], [], .iaddr none 1, none⟩,
                         ⟨(some 24), [], [.t 23], [], [], .load false 1, none⟩,
                         ⟨(some 25), [], [.t 20, .t 24], [], [], .bins .neq, none⟩] [17, 18, 19, 20, 21, 22, 23, 24] [])
                      (.cond (.t 25)
                        (.seq
                          (.reg [⟨(some 4), [], [.c (.bool false)], [], [], .cp, none⟩] [] [])
                          .ret)
                        .skip)))
                  (.reg [⟨(some 15), [], [.t 5], [], [], .cp, none⟩,
                     ⟨(some 16), [], [.t 15, .c (.int .i64 1)], [], [], .bini .add, none⟩,
                     ⟨(some 5), [16], [.t 16], [], [], .mv, none⟩] [11, 12, 13, 14, 15, 16, 17, 18, 19, 20, 21, 22, 23, 24, 25] []))))))
        (.seq
          (.reg [⟨(some 4), [], [.c (.bool true)], [], [], .cp, none⟩] [] [])
          .ret)))) }

def H_name_Runes : Hints := [(2, { ops := [], kt := [9], kb := [] }),
  (3, { ops := [(0, { mw := [10] })], kt := [], kb := [] }),
  (4, { ops := [], kt := [13, 14], kb := [] }),
  (5, { ops := [], kt := [15], kb := [] }),
  (6, { ops := [], kt := [7, 17, 18, 19, 20, 21, 22, 23], kb := [] }),
  (7, { ops := [], kt := [24], kb := [] }),
  (9, { ops := [(0, { take := true })], kt := [26, 27, 28, 29], kb := [] }),
  (10, { ops := [], kt := [30], kb := [] }),
  (1000001, { ops := [], kt := [5, 6, 7, 8, 11, 12, 13, 14, 15, 16, 17, 18, 19, 20, 21, 22, 23, 24, 25, 26, 27, 28, 29], kb := [] })]
def c_name_Runes (F : Nat → FuncId) : AFun := { nparams := 1, ntmps := 31, results := [.tmp 2, .tmp 3], body :=
  (.seq
    (.reg [⟨(some 2), [], [], [], [], .nils 1, none⟩,
       ⟨(some 3), [], [.c (.bool false)], [], [], .cp, none⟩] [] [])
    (.seq
      (.reg [⟨(some 4), [], [], [], [], .nils 1, none⟩] [] [])
      (.seq
        (.seq
          (.reg [⟨(some 9), [], [.t 0], [], [], .cp, none⟩,
             ⟨(some 10), [], [.t 9], [], [10], .range, none⟩] [9] [])
          (.block 0
            (.loop
              (.seq
                (.reg [⟨(some 11), [], [.t 10], [], [10], .next, none⟩,
                   ⟨(some 12), [], [.t 11], [], [], .extract 0, none⟩] [] [])
                (.seq
                  (.cond (.t 12)
                    .skip
                    (.exit 0))
                  (.seq
                    (.block 1
                      (.seq
                        (.reg [⟨(some 13), [], [.t 11], [], [], .extract 1, none⟩,
                           ⟨(some 14), [], [.t 11], [], [], .extract 2, none⟩,
                           ⟨(some 5), [13], [.t 13], [], [], .mv, none⟩,
                           ⟨(some 6), [14], [.t 14], [], [], .mv, none⟩] [13, 14] [])
                        (.seq
                          (.seq
                            (.reg [⟨(some 15), [], [.t 6], [], [], .cp, none⟩,
                               ⟨(some 16), [], [.t 15, .c (.int .i32 65533)], [], [], .bini .eql, none⟩] [15] [])
                            (.cond (.t 16)
                              (.seq
                                (.reg [⟨(some 18), [], [.t 0], [], [], .cp, none⟩,
                                   ⟨(some 19), [], [.t 5], [], [], .cp, none⟩,
                                   ⟨(some 20), [], [.t 18, .t 19], [], [], .slices true false, none⟩,
                                   ⟨(some 21), [], [.c (.fn (F n_unicode_utf8_DecodeRuneInString)), .t 20], [], [], .call 0 false, none⟩,
                                   ⟨(some 17), [], [.t 21], [], [], .cp, none⟩,
                                   ⟨(some 22), [], [.t 17], [], [], .extract 0, none⟩,
                                   ⟨(some 23), [], [.t 17], [], [], .extract 1, none⟩,
                                   ⟨(some 7), [22], [.t 22], [], [], .mv, none⟩,
                                   ⟨(some 8), [23], [.t 23], [], [], .mv, none⟩] [7, 17, 18, 19, 20, 21, 22, 23] [])
                                (.seq
                                  (.reg [⟨(some 24), [], [.t 8], [], [], .cp, none⟩,
                                     ⟨(some 25), [], [.t 24, .c (.int .i64 1)], [], [], .bini .leq, none⟩] [24] [])
                                  (.cond (.t 25)
                                    (.seq
                                      (.reg [⟨(some 2), [], [], [], [], .nils 1, none⟩,
                                         ⟨(some 3), [], [.c (.bool false)], [], [], .cp, none⟩] [] [])
                                      .ret)
                                    .skip)))
                              .skip))
                          (.reg [⟨(some 26), [4], [.t 4], [], [], .mv, none⟩,
                             ⟨(some 27), [], [.t 6], [], [], .cp, none⟩,
                             ⟨(some 28), [], [.t 27], [], [], .bslice 1 [.int .i32 0] [(0, 1)], none⟩,
                             ⟨(some 29), [26], [.t 26, .t 28], [], [], .append 1 4, none⟩,
                             ⟨(some 4), [29], [.t 29], [], [], .mv, none⟩] [26, 27, 28, 29] []))))
                    (.reg [] [5, 6, 7, 8, 11, 12, 13, 14, 15, 16, 17, 18, 19, 20, 21, 22, 23, 24, 25, 26, 27, 28, 29] [])))))))
        (.seq
          (.reg [⟨(some 30), [], [.t 4], [], [], .cp, none⟩,
             ⟨(some 2), [30], [.t 30], [], [], .mv, none⟩,
             ⟨(some 3), [], [.c (.bool true)], [], [], .cp, none⟩] [30] [])
          .ret)))) }

def H_name_Right : Hints := [(1, { ops := [], kt := [7, 8, 9, 10, 11], kb := [] }),
  (2, { ops := [], kt := [12, 13, 14, 15, 16, 17, 18, 19, 20, 21, 22], kb := [] }),
  (6, { ops := [], kt := [28, 29], kb := [] }),
  (7, { ops := [], kt := [30, 31], kb := [] }),
  (9, { ops := [], kt := [6, 27, 28, 29, 30, 31, 32, 33], kb := [] })]
def c_name_Right (F : Nat → FuncId) : AFun := { nparams := 1, ntmps := 34, results := [.tmp 2], body :=
  (.seq
    (.reg [⟨(some 2), [], [.c (.bool false)], [], [], .cp, none⟩] [] [])
    (.seq
      (.reg [⟨(some 8), [], [.t 0], [], [], .cp, none⟩,
         ⟨(some 9), [], [.c (.fn (F n_name_Runes)), .t 8], [], [], .call 0 false, none⟩,
         ⟨(some 7), [], [.t 9], [], [], .cp, none⟩,
         ⟨(some 10), [], [.t 7], [], [], .extract 0, none⟩,
         ⟨(some 11), [], [.t 7], [], [], .extract 1, none⟩,
         ⟨(some 3), [10], [.t 10], [], [], .mv, none⟩,
         ⟨(some 4), [11], [.t 11], [], [], .mv, none⟩] [7, 8, 9, 10, 11] [])
      (.seq
        (.seq
          (.reg [⟨(some 12), [], [.t 4], [], [], .cp, none⟩,
             ⟨(some 13), [], [.t 12], [], [], .not, none⟩,
             ⟨(some 14), [], [.t 13], [], [], .cp, none⟩,
             ⟨(some 15), [], [.t 3], [], [], .cp, some (14, false)⟩,
             ⟨(some 16), [], [.t 15], [], [], .len false, some (14, false)⟩,
             ⟨(some 17), [], [.t 16, .c (.int .i64 0)], [], [], .bini .eql, some (14, false)⟩,
             ⟨(some 18), [], [.t 14, .c (.bool true), .t 17], [], [], .pick, none⟩,
             ⟨(some 19), [], [.t 18], [], [], .cp, none⟩,
             ⟨(some 20), [], [.t 3], [], [], .cp, some (19, false)⟩,
             ⟨(some 21), [], [.t 20], [], [], .len false, some (19, false)⟩,
             ⟨(some 22), [], [.t 21, .c (.int .i64 24)], [], [], .bini .gtr, some (19, false)⟩,
             ⟨(some 23), [], [.t 19, .c (.bool true), .t 22], [], [], .pick, none⟩] [12, 13, 14, 15, 16, 17, 18, 19, 20, 21, 22] [])
          (.cond (.t 23)
            (.seq
              (.reg [⟨(some 2), [], [.c (.bool false)], [], [], .cp, none⟩] [] [])
              .ret)
            .skip))
        (.seq
          (.seq
            (.reg [⟨(some 24), [], [.t 3], [], [], .cp, none⟩,
               ⟨(some 25), [], [.t 24], [], [], .len false, none⟩,
               ⟨(some 26), [], [.c (.int .i64 0)], [], [], .cp, none⟩] [] [])
            (.block 0
              (.loop
                (.seq
                  (.reg [⟨(some 27), [], [.t 26, .t 25], [], [], .bini .lss, none⟩] [] [])
                  (.seq
                    (.cond (.t 27)
                      .skip
                      (.exit 0))
                    (.seq
                      (.block 1
                        (.seq
                          (.reg [⟨(some 28), [], [.t 24, .t 26], [], [], .iaddr none 1, none⟩,
                             ⟨(some 29), [], [.t 28], [], [], .load false 1, none⟩,
                             ⟨(some 6), [29], [.t 29], [], [], .mv, none⟩] [28, 29] [])
                          (.seq
                            (.reg [⟨(some 30), [], [.t 6], [], [], .cp, none⟩,
                               ⟨(some 31), [], [.c (.fn (F n_name_may)), .t 30], [], [], .call 0 false, none⟩,
                               ⟨(some 32), [], [.t 31], [], [], .not, none⟩] [30, 31] [])
                            (.cond (.t 32)
                              (.seq
                                (.reg [⟨(some 2), [], [.c (.bool false)], [], [], .cp, none⟩] [] [])
                                .ret)
                              .skip))))
                      (.reg [⟨(some 33), [], [.t 26, .c (.int .i64 1)], [], [], .bini .add, none⟩,
                         ⟨(some 26), [], [.t 33], [], [], .cp, none⟩] [6, 27, 28, 29, 30, 31, 32, 33] [])))))))
          (.seq
            (.reg [⟨(some 2), [], [.c (.bool true)], [], [], .cp, none⟩] [] [])
            .ret))))) }

def H_name_may : Hints := [(1, { ops := [], kt := [4, 5], kb := [] }),
  (2, { ops := [], kt := [6, 7, 8, 9, 10, 11], kb := [] }),
  (4, { ops := [], kt := [12, 13], kb := [] })]
def c_name_may (F : Nat → FuncId) : AFun := { nparams := 1, ntmps := 14, results := [.tmp 2], body :=
  (.seq
    (.reg [⟨(some 2), [], [.c (.bool false)], [], [], .cp, none⟩] [] [])
    (.seq
      (.block 0
        (.seq
          (.seq
            (.reg [⟨(some 4), [], [.t 0], [], [], .cp, none⟩,
               ⟨(some 5), [], [.t 4, .c (.int .i32 32)], [], [], .bini .lss, none⟩,
               ⟨(some 3), [5], [.t 5], [], [], .mv, none⟩] [4, 5] [])
            (.cond (.t 3)
              .skip
              (.reg [⟨(some 6), [], [.t 0], [], [], .cp, none⟩,
                 ⟨(some 7), [], [.t 6, .c (.int .i32 127)], [], [], .bini .geq, none⟩,
                 ⟨(some 8), [], [.t 7], [], [], .cp, none⟩,
                 ⟨(some 9), [], [.t 0], [], [], .cp, some (8, true)⟩,
                 ⟨(some 10), [], [.t 9, .c (.int .i32 160)], [], [], .bini .lss, some (8, true)⟩,
                 ⟨(some 11), [], [.t 8, .t 10, .c (.bool false)], [], [], .pick, none⟩,
                 ⟨(some 3), [11], [.t 11], [], [], .mv, none⟩] [6, 7, 8, 9, 10, 11] [])))
          (.cond (.t 3)
            (.seq
              (.reg [⟨(some 2), [], [.c (.bool false)], [], [], .cp, none⟩] [] [])
              .ret)
            .skip)))
      (.seq
        (.reg [⟨(some 12), [], [.t 0], [], [], .cp, none⟩,
           ⟨(some 13), [], [.t 12, .c (.int .i32 65533)], [], [], .bini .neq, none⟩,
           ⟨(some 2), [13], [.t 13], [], [], .mv, none⟩] [12, 13] [])
        .ret))) }

end Go.AR

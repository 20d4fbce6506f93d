import Derived.Test.YtdlghdkihlbegaaComp
import Derived.Test.YtdlghdkihlbegaaNames
set_option linter.all false
/-! Codes, printed by program. -/
namespace Go.AR
def H_gosem_cut_init : Hints := [(0, { ops := [], kt := [0], kb := [] })]
def c_gosem_cut_init (F : Nat → FuncId) : AFun := { nparams := 0, ntmps := 1, results := [], body :=
  (.reg [⟨(some 0), [], [.c (.fn (F n_gosem_cut))], [], [], .call 0 false, none⟩] [0] []) }

def H_plaw20_DiskKeeps : Hints := [(1, { ops := [(0, { mw := [9], new := true })], kt := [9], kb := [] }),
  (4, { ops := [], kt := [10, 11, 12, 13, 14, 15, 16], kb := [] }),
  (5, { ops := [], kt := [6, 7, 8, 10, 11, 12, 13, 14, 15, 16, 17, 18, 19, 20, 21, 22, 23, 24, 25, 26, 27, 28, 29, 30, 31, 32, 33, 34, 35, 36, 37, 38, 39, 40, 41, 42, 43, 44, 45, 46, 47, 48, 49, 50, 51, 52, 53, 54, 55, 56, 57, 58, 59, 60, 61, 62, 63, 64, 65, 66, 67, 68, 69, 70, 71, 72, 73, 74, 75, 76, 77, 78, 79, 80, 81, 82, 83, 84, 85, 86, 87, 88, 89, 90, 91, 92, 93, 94, 95, 96, 97, 98, 99, 100, 101, 102, 103, 104, 105, 106, 107, 108, 109, 110, 111, 112, 113, 114, 115, 116], kb := [6] }),
  (6, { ops := [(5, { mw := [6] })], kt := [20, 21, 22, 23], kb := [] }),
  (7, { ops := [(1, { mr := [6] })], kt := [24, 25, 26], kb := [] }),
  (8, { ops := [], kt := [28], kb := [] }),
  (9, { ops := [(1, { mw := [9], nref := 1 }), (3, { mw := [9], nref := 1 })], kt := [29, 30, 31, 32, 33], kb := [] }),
  (10, { ops := [(1, { mr := [6] })], kt := [34], kb := [] }),
  (11, { ops := [], kt := [37], kb := [] }),
  (12, { ops := [], kt := [38], kb := [] }),
  (13, { ops := [(2, { mr := [6] }), (3, { mw := [9], nref := 1 }), (7, { mw := [9], nref := 1 }), (9, { mw := [9], nref := 1 }), (13, { mr := [6] })], kt := [39, 40, 41, 42, 43, 44, 45, 46, 47, 48, 49, 50, 51, 52, 53, 54], kb := [] }),
  (15, { ops := [], kt := [57], kb := [] }),
  (16, { ops := [(1, { mw := [9], nref := 1 })], kt := [58, 59], kb := [] }),
  (17, { ops := [], kt := [60], kb := [] }),
  (18, { ops := [(1, { mw := [9], nref := 1 }), (6, { mw := [9], nref := 1 })], kt := [61, 62, 63, 64, 65, 66, 67, 68], kb := [] }),
  (20, { ops := [], kt := [71], kb := [] }),
  (21, { ops := [(2, { mr := [6] }), (3, { mw := [9], nref := 1 })], kt := [72, 73, 74, 75], kb := [] }),
  (22, { ops := [(1, { mw := [9], nref := 1 })], kt := [76, 77], kb := [] }),
  (23, { ops := [(15, { mw := [9], nref := 1 })], kt := [78, 79, 80, 81, 82, 83, 84, 85, 86, 87, 88, 89, 90, 91, 92, 93, 94], kb := [] }),
  (25, { ops := [], kt := [96, 97, 98, 99], kb := [] }),
  (27, { ops := [], kt := [101], kb := [] }),
  (28, { ops := [(1, { mw := [9], nref := 1 }), (8, { mw := [9], nref := 1 })], kt := [102, 103, 104, 105, 106, 107, 108, 109, 110, 111, 112, 113, 114, 115], kb := [] }),
  (30, { ops := [], kt := [117], kb := [] })]
def c_plaw20_DiskKeeps (F : Nat → FuncId) : AFun := { nparams := 1, ntmps := 118, results := [.tmp 2], body :=
  (.seq
    (.reg [⟨(some 2), [], [.c (.bool false)], [], [], .cp, none⟩] [] [])
    (.seq
      (.reg [⟨(some 9), [], [.c (.fn (F n_disk_New))], [], [9], .call 0 true, none⟩,
         ⟨(some 3), [9], [.t 9], [], [], .mv, none⟩] [9] [])
      (.seq
        (.reg [⟨(some 4), [], [.c (.str [])], [], [], .cp, none⟩] [] [])
        (.seq
          (.seq
            (.reg [⟨(some 5), [], [.c (.int .i64 0)], [], [], .cp, none⟩] [] [])
            (.block 0
              (.loop
                (.seq
                  (.seq
                    (.reg [⟨(some 10), [], [.t 5], [], [], .cp, none⟩,
                       ⟨(some 11), [], [.t 0], [], [], .cp, none⟩,
                       ⟨(some 12), [], [.t 11], [], [], .len false, none⟩,
                       ⟨(some 13), [], [.t 10, .t 12], [], [], .bini .lss, none⟩,
                       ⟨(some 14), [], [.t 13], [], [], .cp, none⟩,
                       ⟨(some 15), [], [.t 5], [], [], .cp, some (14, true)⟩,
                       ⟨(some 16), [], [.t 15, .c (.int .i64 40)], [], [], .bini .lss, some (14, true)⟩,
                       ⟨(some 17), [], [.t 14, .t 16, .c (.bool false)], [], [], .pick, none⟩] [10, 11, 12, 13, 14, 15, 16] [])
                    (.cond (.t 17)
                      .skip
                      (.exit 0)))
                  (.seq
                    (.block 1
                      (.seq
                        (.reg [⟨(some 20), [], [.t 0], [], [], .cp, none⟩,
                           ⟨(some 21), [], [.t 5], [], [], .cp, none⟩,
                           ⟨(some 22), [], [.t 20, .t 21], [], [], .iaddr none 3, none⟩,
                           ⟨(some 23), [], [.t 22], [], [], .load true 3, none⟩,
                           ⟨(some 6), [], [], [], [6], .alloc [.val (.int .i64 0), .val (.int .i64 0), .val (.str [])], none⟩,
                           ⟨none, [23], [.t 6, .t 23], [], [6], .store true 3, none⟩] [20, 21, 22, 23] [])
                        (.seq
                          (.seq
                            (.reg [⟨(some 24), [], [.t 6], [], [], .faddr 2, none⟩,
                               ⟨(some 25), [], [.t 24], [6], [], .load false 1, none⟩,
                               ⟨(some 26), [], [.t 25], [], [], .len true, none⟩,
                               ⟨(some 27), [], [.t 26, .c (.int .i64 2000)], [], [], .bini .gtr, none⟩] [24, 25, 26] [])
                            (.cond (.t 27)
                              (.seq
                                (.reg [⟨(some 28), [], [.c (.fn (F n_plaw20_awake))], [], [], .call 0 false, none⟩,
                                   ⟨(some 2), [28], [.t 28], [], [], .mv, none⟩] [28] [])
                                .ret)
                              .skip))
                          (.seq
                            (.reg [⟨(some 29), [], [.t 3], [], [], .cp, none⟩,
                               ⟨(some 30), [], [.c (.fn (F n_disk_Disk_Kept)), .t 29], [], [9], .call 1 false, none⟩,
                               ⟨(some 31), [], [.t 3], [], [], .cp, none⟩,
                               ⟨(some 32), [], [.c (.fn (F n_disk_Disk_Waits)), .t 31], [], [9], .call 1 false, none⟩,
                               ⟨(some 33), [], [.t 30, .t 32], [], [], .bins .add, none⟩,
                               ⟨(some 7), [33], [.t 33], [], [], .mv, none⟩] [29, 30, 31, 32, 33] [])
                            (.seq
                              (.seq
                                (.reg [⟨(some 34), [], [.t 6], [], [], .faddr 0, none⟩,
                                   ⟨(some 35), [], [.t 34], [6], [], .load false 1, none⟩] [34] [])
                                (.block 2
                                  (.seq
                                    (.seq
                                      (.reg [⟨(some 37), [], [.t 35, .c (.int .i64 0)], [], [], .bini .eql, none⟩,
                                         ⟨(some 36), [37], [.t 37], [], [], .mv, none⟩] [37] [])
                                      (.cond (.t 36)
                                        .skip
                                        (.reg [⟨(some 38), [], [.t 35, .c (.int .i64 1)], [], [], .bini .eql, none⟩,
                                           ⟨(some 36), [38], [.t 38], [], [], .mv, none⟩] [38] [])))
                                    (.cond (.t 36)
                                      (.seq
                                        (.reg [⟨(some 39), [], [.t 3], [], [], .cp, none⟩,
                                           ⟨(some 40), [], [.t 6], [], [], .faddr 2, none⟩,
                                           ⟨(some 41), [], [.t 40], [6], [], .load false 1, none⟩,
                                           ⟨(some 42), [], [.c (.fn (F n_disk_Disk_Append)), .t 39, .t 41], [], [9], .call 1 false, none⟩,
                                           ⟨(some 43), [], [.t 42, .c (.int .i64 0)], [], [], .bini .neq, none⟩,
                                           ⟨(some 44), [], [.t 43], [], [], .cp, none⟩,
                                           ⟨(some 45), [], [.t 3], [], [], .cp, some (44, false)⟩,
                                           ⟨(some 46), [], [.c (.fn (F n_disk_Disk_Kept)), .t 45], [], [9], .call 1 false, some (44, false)⟩,
                                           ⟨(some 47), [], [.t 3], [], [], .cp, some (44, false)⟩,
                                           ⟨(some 48), [], [.c (.fn (F n_disk_Disk_Waits)), .t 47], [], [9], .call 1 false, some (44, false)⟩,
                                           ⟨(some 49), [], [.t 46, .t 48], [], [], .bins .add, some (44, false)⟩,
                                           ⟨(some 50), [], [.t 7], [], [], .cp, some (44, false)⟩,
                                           ⟨(some 51), [], [.t 6], [], [], .faddr 2, some (44, false)⟩,
                                           ⟨(some 52), [], [.t 51], [6], [], .load false 1, some (44, false)⟩,
                                           ⟨(some 53), [], [.t 50, .t 52], [], [], .bins .add, some (44, false)⟩,
                                           ⟨(some 54), [], [.t 49, .t 53], [], [], .bins .neq, some (44, false)⟩,
                                           ⟨(some 55), [], [.t 44, .c (.bool true), .t 54], [], [], .pick, none⟩] [39, 40, 41, 42, 43, 44, 45, 46, 47, 48, 49, 50, 51, 52, 53, 54] [])
                                        (.cond (.t 55)
                                          (.seq
                                            (.reg [⟨(some 2), [], [.c (.bool false)], [], [], .cp, none⟩] [] [])
                                            .ret)
                                          .skip))
                                      (.seq
                                        (.reg [⟨(some 57), [], [.t 35, .c (.int .i64 2)], [], [], .bini .eql, none⟩,
                                           ⟨(some 56), [57], [.t 57], [], [], .mv, none⟩] [57] [])
                                        (.cond (.t 56)
                                          (.seq
                                            (.reg [⟨(some 58), [], [.t 3], [], [], .cp, none⟩,
                                               ⟨(some 59), [], [.c (.fn (F n_disk_Disk_Sync)), .t 58], [], [9], .call 1 false, none⟩] [58, 59] [])
                                            (.seq
                                              (.reg [⟨(some 60), [], [.t 7], [], [], .cp, none⟩,
                                                 ⟨(some 4), [60], [.t 60], [], [], .mv, none⟩] [60] [])
                                              (.seq
                                                (.reg [⟨(some 61), [], [.t 3], [], [], .cp, none⟩,
                                                   ⟨(some 62), [], [.c (.fn (F n_disk_Disk_Kept)), .t 61], [], [9], .call 1 false, none⟩,
                                                   ⟨(some 63), [], [.t 7], [], [], .cp, none⟩,
                                                   ⟨(some 64), [], [.t 62, .t 63], [], [], .bins .neq, none⟩,
                                                   ⟨(some 65), [], [.t 64], [], [], .cp, none⟩,
                                                   ⟨(some 66), [], [.t 3], [], [], .cp, some (65, false)⟩,
                                                   ⟨(some 67), [], [.c (.fn (F n_disk_Disk_Waits)), .t 66], [], [9], .call 1 false, some (65, false)⟩,
                                                   ⟨(some 68), [], [.t 67, .c (.str [])], [], [], .bins .neq, some (65, false)⟩,
                                                   ⟨(some 69), [], [.t 65, .c (.bool true), .t 68], [], [], .pick, none⟩] [61, 62, 63, 64, 65, 66, 67, 68] [])
                                                (.cond (.t 69)
                                                  (.seq
                                                    (.reg [⟨(some 2), [], [.c (.bool false)], [], [], .cp, none⟩] [] [])
                                                    .ret)
                                                  .skip))))
                                          (.seq
                                            (.reg [⟨(some 71), [], [.t 35, .c (.int .i64 3)], [], [], .bini .eql, none⟩,
                                               ⟨(some 70), [71], [.t 71], [], [], .mv, none⟩] [71] [])
                                            (.cond (.t 70)
                                              (.seq
                                                (.reg [⟨(some 72), [], [.t 3], [], [], .cp, none⟩,
                                                   ⟨(some 73), [], [.t 6], [], [], .faddr 1, none⟩,
                                                   ⟨(some 74), [], [.t 73], [6], [], .load false 1, none⟩,
                                                   ⟨(some 75), [], [.c (.fn (F n_disk_Disk_Crash)), .t 72, .t 74], [], [9], .call 1 false, none⟩] [72, 73, 74, 75] [])
                                                (.seq
                                                  (.reg [⟨(some 76), [], [.t 3], [], [], .cp, none⟩,
                                                     ⟨(some 77), [], [.c (.fn (F n_disk_Disk_Kept)), .t 76], [], [9], .call 1 false, none⟩,
                                                     ⟨(some 8), [77], [.t 77], [], [], .mv, none⟩] [76, 77] [])
                                                  (.seq
                                                    (.seq
                                                      (.reg [⟨(some 78), [], [.t 8], [], [], .cp, none⟩,
                                                         ⟨(some 79), [], [.t 78], [], [], .len true, none⟩,
                                                         ⟨(some 80), [], [.t 7], [], [], .cp, none⟩,
                                                         ⟨(some 81), [], [.t 80], [], [], .len true, none⟩,
                                                         ⟨(some 82), [], [.t 79, .t 81], [], [], .bini .gtr, none⟩,
                                                         ⟨(some 83), [], [.t 82], [], [], .cp, none⟩,
                                                         ⟨(some 84), [], [.t 7], [], [], .cp, some (83, false)⟩,
                                                         ⟨(some 85), [], [.t 8], [], [], .cp, some (83, false)⟩,
                                                         ⟨(some 86), [], [.t 85], [], [], .len true, some (83, false)⟩,
                                                         ⟨(some 87), [], [.t 84, .t 86], [], [], .slices false true, some (83, false)⟩,
                                                         ⟨(some 88), [], [.t 8], [], [], .cp, some (83, false)⟩,
                                                         ⟨(some 89), [], [.t 87, .t 88], [], [], .bins .neq, some (83, false)⟩,
                                                         ⟨(some 90), [], [.t 83, .c (.bool true), .t 89], [], [], .pick, none⟩,
                                                         ⟨(some 91), [], [.t 90], [], [], .cp, none⟩,
                                                         ⟨(some 92), [], [.t 3], [], [], .cp, some (91, false)⟩,
                                                         ⟨(some 93), [], [.c (.fn (F n_disk_Disk_Waits)), .t 92], [], [9], .call 1 false, some (91, false)⟩,
                                                         ⟨(some 94), [], [.t 93, .c (.str [])], [], [], .bins .neq, some (91, false)⟩,
                                                         ⟨(some 95), [], [.t 91, .c (.bool true), .t 94], [], [], .pick, none⟩] [78, 79, 80, 81, 82, 83, 84, 85, 86, 87, 88, 89, 90, 91, 92, 93, 94] [])
                                                      (.cond (.t 95)
                                                        (.seq
                                                          (.reg [⟨(some 2), [], [.c (.bool false)], [], [], .cp, none⟩] [] [])
                                                          .ret)
                                                        .skip))
                                                    (.seq
                                                      (.seq
                                                        (.reg [⟨(some 96), [], [.t 8], [], [], .cp, none⟩,
                                                           ⟨(some 97), [], [.t 96], [], [], .len true, none⟩,
                                                           ⟨(some 98), [], [.t 4], [], [], .cp, none⟩,
                                                           ⟨(some 99), [], [.t 98], [], [], .len true, none⟩,
                                                           ⟨(some 100), [], [.t 97, .t 99], [], [], .bini .lss, none⟩] [96, 97, 98, 99] [])
                                                        (.cond (.t 100)
                                                          (.seq
                                                            (.reg [⟨(some 2), [], [.c (.bool false)], [], [], .cp, none⟩] [] [])
                                                            .ret)
                                                          .skip))
                                                      (.reg [⟨(some 101), [], [.t 8], [], [], .cp, none⟩,
                                                         ⟨(some 4), [101], [.t 101], [], [], .mv, none⟩] [101] [])))))
                                              (.exit 1)))))))))
                              (.seq
                                (.reg [⟨(some 102), [], [.t 3], [], [], .cp, none⟩,
                                   ⟨(some 103), [], [.c (.fn (F n_disk_Disk_Kept)), .t 102], [], [9], .call 1 false, none⟩,
                                   ⟨(some 104), [], [.t 103], [], [], .len true, none⟩,
                                   ⟨(some 105), [], [.t 4], [], [], .cp, none⟩,
                                   ⟨(some 106), [], [.t 105], [], [], .len true, none⟩,
                                   ⟨(some 107), [], [.t 104, .t 106], [], [], .bini .lss, none⟩,
                                   ⟨(some 108), [], [.t 107], [], [], .cp, none⟩,
                                   ⟨(some 109), [], [.t 3], [], [], .cp, some (108, false)⟩,
                                   ⟨(some 110), [], [.c (.fn (F n_disk_Disk_Kept)), .t 109], [], [9], .call 1 false, some (108, false)⟩,
                                   ⟨(some 111), [], [.t 4], [], [], .cp, some (108, false)⟩,
                                   ⟨(some 112), [], [.t 111], [], [], .len true, some (108, false)⟩,
                                   ⟨(some 113), [], [.t 110, .t 112], [], [], .slices false true, some (108, false)⟩,
                                   ⟨(some 114), [], [.t 4], [], [], .cp, some (108, false)⟩,
                                   ⟨(some 115), [], [.t 113, .t 114], [], [], .bins .neq, some (108, false)⟩,
                                   ⟨(some 116), [], [.t 108, .c (.bool true), .t 115], [], [], .pick, none⟩] [102, 103, 104, 105, 106, 107, 108, 109, 110, 111, 112, 113, 114, 115] [])
                                (.cond (.t 116)
                                  (.seq
                                    (.reg [⟨(some 2), [], [.c (.bool false)], [], [], .cp, none⟩] [] [])
                                    .ret)
                                  .skip)))))))
                    (.reg [⟨(some 18), [], [.t 5], [], [], .cp, none⟩,
                       ⟨(some 19), [], [.t 18, .c (.int .i64 1)], [], [], .bini .add, none⟩,
                       ⟨(some 5), [19], [.t 19], [], [], .mv, none⟩] [6, 7, 8, 10, 11, 12, 13, 14, 15, 16, 17, 18, 19, 20, 21, 22, 23, 24, 25, 26, 27, 28, 29, 30, 31, 32, 33, 34, 35, 36, 37, 38, 39, 40, 41, 42, 43, 44, 45, 46, 47, 48, 49, 50, 51, 52, 53, 54, 55, 56, 57, 58, 59, 60, 61, 62, 63, 64, 65, 66, 67, 68, 69, 70, 71, 72, 73, 74, 75, 76, 77, 78, 79, 80, 81, 82, 83, 84, 85, 86, 87, 88, 89, 90, 91, 92, 93, 94, 95, 96, 97, 98, 99, 100, 101, 102, 103, 104, 105, 106, 107, 108, 109, 110, 111, 112, 113, 114, 115, 116] [6]))))))
          (.seq
            (.reg [⟨(some 117), [], [.c (.fn (F n_plaw20_awake))], [], [], .call 0 false, none⟩,
               ⟨(some 2), [117], [.t 117], [], [], .mv, none⟩] [117] [])
            .ret))))) }

def H_plaw20_DiskPlays : Hints := [(1, { ops := [(0, { mw := [6], new := true })], kt := [6], kb := [] }),
  (2, { ops := [], kt := [7, 8], kb := [] }),
  (4, { ops := [], kt := [9, 10, 11, 12, 13, 14, 15], kb := [] }),
  (5, { ops := [], kt := [9, 10, 11, 12, 13, 14, 15, 16, 17, 18, 19, 20, 21, 22, 23, 24, 25, 26, 27, 28, 29, 30, 31, 32, 33, 34, 35, 36, 37, 38, 39, 40, 41, 42, 43, 44, 45, 46, 47, 48, 49, 50, 51, 52, 53, 54, 55, 56, 57, 58, 59, 60, 61], kb := [] }),
  (6, { ops := [], kt := [19, 20, 21, 22, 23, 24], kb := [] }),
  (7, { ops := [], kt := [26], kb := [] }),
  (8, { ops := [(6, { mw := [6, 8], nref := 2 }), (10, { mw := [6], nref := 1 }), (14, { mr := [8] }), (19, { mw := [6], nref := 1 }), (23, { mr := [8] }), (28, { mw := [6], nref := 1 }), (32, { mr := [8] })], kt := [27, 28, 29, 30, 31, 32, 33, 34, 35, 36, 37, 38, 39, 40, 41, 42, 43, 44, 45, 46, 47, 48, 49, 50, 51, 52, 53, 54, 55, 56, 57, 58, 59, 60], kb := [] }),
  (10, { ops := [], kt := [62], kb := [] })]
def c_plaw20_DiskPlays (F : Nat → FuncId) : AFun := { nparams := 1, ntmps := 63, results := [.tmp 2], body :=
  (.seq
    (.reg [⟨(some 2), [], [.c (.bool false)], [], [], .cp, none⟩] [] [])
    (.seq
      (.reg [⟨(some 6), [], [.c (.fn (F n_disk_New))], [], [6], .call 0 true, none⟩,
         ⟨(some 3), [6], [.t 6], [], [], .mv, none⟩] [6] [])
      (.seq
        (.reg [⟨(some 7), [], [], [], [], .build [.str [], .str [], .int .i64 0] [], none⟩,
           ⟨(some 8), [], [.t 7], [], [8], .box, none⟩,
           ⟨(some 4), [8], [.t 8], [], [], .mv, none⟩] [7, 8] [])
        (.seq
          (.seq
            (.reg [⟨(some 5), [], [.c (.int .i64 0)], [], [], .cp, none⟩] [] [])
            (.block 0
              (.loop
                (.seq
                  (.seq
                    (.reg [⟨(some 9), [], [.t 5], [], [], .cp, none⟩,
                       ⟨(some 10), [], [.t 0], [], [], .cp, none⟩,
                       ⟨(some 11), [], [.t 10], [], [], .len false, none⟩,
                       ⟨(some 12), [], [.t 9, .t 11], [], [], .bini .lss, none⟩,
                       ⟨(some 13), [], [.t 12], [], [], .cp, none⟩,
                       ⟨(some 14), [], [.t 5], [], [], .cp, some (13, true)⟩,
                       ⟨(some 15), [], [.t 14, .c (.int .i64 40)], [], [], .bini .lss, some (13, true)⟩,
                       ⟨(some 16), [], [.t 13, .t 15, .c (.bool false)], [], [], .pick, none⟩] [9, 10, 11, 12, 13, 14, 15] [])
                    (.cond (.t 16)
                      .skip
                      (.exit 0)))
                  (.seq
                    (.block 1
                      (.seq
                        (.seq
                          (.reg [⟨(some 19), [], [.t 0], [], [], .cp, none⟩,
                             ⟨(some 20), [], [.t 5], [], [], .cp, none⟩,
                             ⟨(some 21), [], [.t 19, .t 20], [], [], .iaddr none 3, none⟩,
                             ⟨(some 22), [], [.t 21], [], [], .faddr 2, none⟩,
                             ⟨(some 23), [], [.t 22], [], [], .load false 1, none⟩,
                             ⟨(some 24), [], [.t 23], [], [], .len true, none⟩,
                             ⟨(some 25), [], [.t 24, .c (.int .i64 2000)], [], [], .bini .gtr, none⟩] [19, 20, 21, 22, 23, 24] [])
                          (.cond (.t 25)
                            (.seq
                              (.reg [⟨(some 26), [], [.c (.fn (F n_plaw20_awake))], [], [], .call 0 false, none⟩,
                                 ⟨(some 2), [26], [.t 26], [], [], .mv, none⟩] [26] [])
                              .ret)
                            .skip))
                        (.seq
                          (.reg [⟨(some 27), [], [.t 3], [], [], .cp, none⟩,
                             ⟨(some 28), [], [.t 4], [], [], .cp, none⟩,
                             ⟨(some 29), [], [.t 0], [], [], .cp, none⟩,
                             ⟨(some 30), [], [.t 5], [], [], .cp, none⟩,
                             ⟨(some 31), [], [.t 29, .t 30], [], [], .iaddr none 3, none⟩,
                             ⟨(some 32), [], [.t 31], [], [], .load true 3, none⟩,
                             ⟨(some 33), [], [.c (.fn (F n_plaw20_does)), .t 27, .t 28, .t 32], [], [6, 8], .call 2 false, none⟩,
                             ⟨(some 34), [], [.t 33], [], [], .not, none⟩,
                             ⟨(some 35), [], [.t 34], [], [], .cp, none⟩,
                             ⟨(some 36), [], [.t 3], [], [], .cp, some (35, false)⟩,
                             ⟨(some 37), [], [.c (.fn (F n_disk_Disk_Kept)), .t 36], [], [6], .call 1 false, some (35, false)⟩,
                             ⟨(some 38), [], [.t 4], [], [], .cp, some (35, false)⟩,
                             ⟨(some 39), [], [.t 38], [], [], .nilck, some (35, false)⟩,
                             ⟨(some 40), [], [.t 39], [], [], .faddr 0, some (35, false)⟩,
                             ⟨(some 41), [], [.t 40], [8], [], .load false 1, some (35, false)⟩,
                             ⟨(some 42), [], [.t 37, .t 41], [], [], .bins .neq, some (35, false)⟩,
                             ⟨(some 43), [], [.t 35, .c (.bool true), .t 42], [], [], .pick, none⟩,
                             ⟨(some 44), [], [.t 43], [], [], .cp, none⟩,
                             ⟨(some 45), [], [.t 3], [], [], .cp, some (44, false)⟩,
                             ⟨(some 46), [], [.c (.fn (F n_disk_Disk_Waits)), .t 45], [], [6], .call 1 false, some (44, false)⟩,
                             ⟨(some 47), [], [.t 4], [], [], .cp, some (44, false)⟩,
                             ⟨(some 48), [], [.t 47], [], [], .nilck, some (44, false)⟩,
                             ⟨(some 49), [], [.t 48], [], [], .faddr 1, some (44, false)⟩,
                             ⟨(some 50), [], [.t 49], [8], [], .load false 1, some (44, false)⟩,
                             ⟨(some 51), [], [.t 46, .t 50], [], [], .bins .neq, some (44, false)⟩,
                             ⟨(some 52), [], [.t 44, .c (.bool true), .t 51], [], [], .pick, none⟩,
                             ⟨(some 53), [], [.t 52], [], [], .cp, none⟩,
                             ⟨(some 54), [], [.t 3], [], [], .cp, some (53, false)⟩,
                             ⟨(some 55), [], [.c (.fn (F n_disk_Disk_Syncs)), .t 54], [], [6], .call 1 false, some (53, false)⟩,
                             ⟨(some 56), [], [.t 4], [], [], .cp, some (53, false)⟩,
                             ⟨(some 57), [], [.t 56], [], [], .nilck, some (53, false)⟩,
                             ⟨(some 58), [], [.t 57], [], [], .faddr 2, some (53, false)⟩,
                             ⟨(some 59), [], [.t 58], [8], [], .load false 1, some (53, false)⟩,
                             ⟨(some 60), [], [.t 55, .t 59], [], [], .bini .neq, some (53, false)⟩,
                             ⟨(some 61), [], [.t 53, .c (.bool true), .t 60], [], [], .pick, none⟩] [27, 28, 29, 30, 31, 32, 33, 34, 35, 36, 37, 38, 39, 40, 41, 42, 43, 44, 45, 46, 47, 48, 49, 50, 51, 52, 53, 54, 55, 56, 57, 58, 59, 60] [])
                          (.cond (.t 61)
                            (.seq
                              (.reg [⟨(some 2), [], [.c (.bool false)], [], [], .cp, none⟩] [] [])
                              .ret)
                            .skip))))
                    (.reg [⟨(some 17), [], [.t 5], [], [], .cp, none⟩,
                       ⟨(some 18), [], [.t 17, .c (.int .i64 1)], [], [], .bini .add, none⟩,
                       ⟨(some 5), [18], [.t 18], [], [], .mv, none⟩] [9, 10, 11, 12, 13, 14, 15, 16, 17, 18, 19, 20, 21, 22, 23, 24, 25, 26, 27, 28, 29, 30, 31, 32, 33, 34, 35, 36, 37, 38, 39, 40, 41, 42, 43, 44, 45, 46, 47, 48, 49, 50, 51, 52, 53, 54, 55, 56, 57, 58, 59, 60, 61] []))))))
          (.seq
            (.reg [⟨(some 62), [], [.c (.fn (F n_plaw20_awake))], [], [], .call 0 false, none⟩,
               ⟨(some 2), [62], [.t 62], [], [], .mv, none⟩] [62] [])
            .ret))))) }

def H_plaw20_DiskNone : Hints := [(3, { ops := [], kt := [5, 6, 7, 8, 9, 10, 11], kb := [] }),
  (4, { ops := [], kt := [5, 6, 7, 8, 9, 10, 11, 12, 13, 14, 15, 16, 17, 18, 19, 20, 21, 22, 23, 24, 25, 26, 27, 28, 29, 30, 31, 32, 33, 34, 35, 36, 37, 38, 39, 40, 41, 42, 43, 44, 45, 46, 47, 48, 49, 50, 51, 52, 53, 54, 55, 56, 57, 58, 59, 60, 61, 62, 63, 64, 65, 66, 67, 68, 69, 70, 71], kb := [] }),
  (5, { ops := [], kt := [15, 16, 17, 18, 19, 20], kb := [] }),
  (6, { ops := [], kt := [22], kb := [] }),
  (7, { ops := [], kt := [23, 24], kb := [] }),
  (8, { ops := [], kt := [25, 26, 27, 28, 29, 30, 31], kb := [] }),
  (9, { ops := [], kt := [32, 33, 34, 35, 36, 37, 38], kb := [] }),
  (10, { ops := [], kt := [39, 40, 41, 42, 43, 44, 45, 46, 47, 48, 49, 50, 51, 52, 53, 54, 55, 56, 57, 58, 59, 60, 61, 62, 63, 64, 65, 66, 67, 68, 69, 70], kb := [] }),
  (12, { ops := [], kt := [72], kb := [] })]
def c_plaw20_DiskNone (F : Nat → FuncId) : AFun := { nparams := 1, ntmps := 73, results := [.tmp 2], body :=
  (.seq
    (.reg [⟨(some 2), [], [.c (.bool false)], [], [], .cp, none⟩] [] [])
    (.seq
      (.reg [⟨(some 3), [], [.c (.nilp)], [], [], .cp, none⟩] [] [])
      (.seq
        (.seq
          (.reg [⟨(some 4), [], [.c (.int .i64 0)], [], [], .cp, none⟩] [] [])
          (.block 0
            (.loop
              (.seq
                (.seq
                  (.reg [⟨(some 5), [], [.t 4], [], [], .cp, none⟩,
                     ⟨(some 6), [], [.t 0], [], [], .cp, none⟩,
                     ⟨(some 7), [], [.t 6], [], [], .len false, none⟩,
                     ⟨(some 8), [], [.t 5, .t 7], [], [], .bini .lss, none⟩,
                     ⟨(some 9), [], [.t 8], [], [], .cp, none⟩,
                     ⟨(some 10), [], [.t 4], [], [], .cp, some (9, true)⟩,
                     ⟨(some 11), [], [.t 10, .c (.int .i64 40)], [], [], .bini .lss, some (9, true)⟩,
                     ⟨(some 12), [], [.t 9, .t 11, .c (.bool false)], [], [], .pick, none⟩] [5, 6, 7, 8, 9, 10, 11] [])
                  (.cond (.t 12)
                    .skip
                    (.exit 0)))
                (.seq
                  (.block 1
                    (.seq
                      (.seq
                        (.reg [⟨(some 15), [], [.t 0], [], [], .cp, none⟩,
                           ⟨(some 16), [], [.t 4], [], [], .cp, none⟩,
                           ⟨(some 17), [], [.t 15, .t 16], [], [], .iaddr none 3, none⟩,
                           ⟨(some 18), [], [.t 17], [], [], .faddr 2, none⟩,
                           ⟨(some 19), [], [.t 18], [], [], .load false 1, none⟩,
                           ⟨(some 20), [], [.t 19], [], [], .len true, none⟩,
                           ⟨(some 21), [], [.t 20, .c (.int .i64 2000)], [], [], .bini .gtr, none⟩] [15, 16, 17, 18, 19, 20] [])
                        (.cond (.t 21)
                          (.seq
                            (.reg [⟨(some 22), [], [.c (.fn (F n_plaw20_awake))], [], [], .call 0 false, none⟩,
                               ⟨(some 2), [22], [.t 22], [], [], .mv, none⟩] [22] [])
                            .ret)
                          .skip))
                      (.seq
                        (.reg [⟨(some 23), [], [.t 3], [], [], .cp, none⟩,
                           ⟨(some 24), [], [.c (.fn (F n_disk_Disk_Sync)), .t 23], [], [], .call 0 false, none⟩] [23, 24] [])
                        (.seq
                          (.reg [⟨(some 25), [], [.t 3], [], [], .cp, none⟩,
                             ⟨(some 26), [], [.t 0], [], [], .cp, none⟩,
                             ⟨(some 27), [], [.t 4], [], [], .cp, none⟩,
                             ⟨(some 28), [], [.t 26, .t 27], [], [], .iaddr none 3, none⟩,
                             ⟨(some 29), [], [.t 28], [], [], .faddr 1, none⟩,
                             ⟨(some 30), [], [.t 29], [], [], .load false 1, none⟩,
                             ⟨(some 31), [], [.c (.fn (F n_disk_Disk_Crash)), .t 25, .t 30], [], [], .call 0 false, none⟩] [25, 26, 27, 28, 29, 30, 31] [])
                          (.seq
                            (.reg [⟨(some 32), [], [.t 3], [], [], .cp, none⟩,
                               ⟨(some 33), [], [.t 0], [], [], .cp, none⟩,
                               ⟨(some 34), [], [.t 4], [], [], .cp, none⟩,
                               ⟨(some 35), [], [.t 33, .t 34], [], [], .iaddr none 3, none⟩,
                               ⟨(some 36), [], [.t 35], [], [], .faddr 1, none⟩,
                               ⟨(some 37), [], [.t 36], [], [], .load false 1, none⟩,
                               ⟨(some 38), [], [.c (.fn (F n_disk_Disk_Cut)), .t 32, .t 37], [], [], .call 0 false, none⟩] [32, 33, 34, 35, 36, 37, 38] [])
                            (.seq
                              (.reg [⟨(some 39), [], [.t 3], [], [], .cp, none⟩,
                                 ⟨(some 40), [], [.t 0], [], [], .cp, none⟩,
                                 ⟨(some 41), [], [.t 4], [], [], .cp, none⟩,
                                 ⟨(some 42), [], [.t 40, .t 41], [], [], .iaddr none 3, none⟩,
                                 ⟨(some 43), [], [.t 42], [], [], .faddr 2, none⟩,
                                 ⟨(some 44), [], [.t 43], [], [], .load false 1, none⟩,
                                 ⟨(some 45), [], [.c (.fn (F n_disk_Disk_Append)), .t 39, .t 44], [], [], .call 0 false, none⟩,
                                 ⟨(some 46), [], [.t 45, .c (.int .i64 1)], [], [], .bini .neq, none⟩,
                                 ⟨(some 47), [], [.t 46], [], [], .cp, none⟩,
                                 ⟨(some 48), [], [.t 3], [], [], .cp, some (47, false)⟩,
                                 ⟨(some 49), [], [.t 0], [], [], .cp, some (47, false)⟩,
                                 ⟨(some 50), [], [.t 4], [], [], .cp, some (47, false)⟩,
                                 ⟨(some 51), [], [.t 49, .t 50], [], [], .iaddr none 3, some (47, false)⟩,
                                 ⟨(some 52), [], [.t 51], [], [], .faddr 2, some (47, false)⟩,
                                 ⟨(some 53), [], [.t 52], [], [], .load false 1, some (47, false)⟩,
                                 ⟨(some 54), [], [.c (.fn (F n_disk_Disk_Replace)), .t 48, .t 53], [], [], .call 0 false, some (47, false)⟩,
                                 ⟨(some 55), [], [.t 54, .c (.int .i64 1)], [], [], .bini .neq, some (47, false)⟩,
                                 ⟨(some 56), [], [.t 47, .c (.bool true), .t 55], [], [], .pick, none⟩,
                                 ⟨(some 57), [], [.t 56], [], [], .cp, none⟩,
                                 ⟨(some 58), [], [.t 3], [], [], .cp, some (57, false)⟩,
                                 ⟨(some 59), [], [.c (.fn (F n_disk_Disk_Kept)), .t 58], [], [], .call 0 false, some (57, false)⟩,
                                 ⟨(some 60), [], [.t 59, .c (.str [])], [], [], .bins .neq, some (57, false)⟩,
                                 ⟨(some 61), [], [.t 57, .c (.bool true), .t 60], [], [], .pick, none⟩,
                                 ⟨(some 62), [], [.t 61], [], [], .cp, none⟩,
                                 ⟨(some 63), [], [.t 3], [], [], .cp, some (62, false)⟩,
                                 ⟨(some 64), [], [.c (.fn (F n_disk_Disk_Waits)), .t 63], [], [], .call 0 false, some (62, false)⟩,
                                 ⟨(some 65), [], [.t 64, .c (.str [])], [], [], .bins .neq, some (62, false)⟩,
                                 ⟨(some 66), [], [.t 62, .c (.bool true), .t 65], [], [], .pick, none⟩,
                                 ⟨(some 67), [], [.t 66], [], [], .cp, none⟩,
                                 ⟨(some 68), [], [.t 3], [], [], .cp, some (67, false)⟩,
                                 ⟨(some 69), [], [.c (.fn (F n_disk_Disk_Syncs)), .t 68], [], [], .call 0 false, some (67, false)⟩,
                                 ⟨(some 70), [], [.t 69, .c (.int .i64 0)], [], [], .bini .neq, some (67, false)⟩,
                                 ⟨(some 71), [], [.t 67, .c (.bool true), .t 70], [], [], .pick, none⟩] [39, 40, 41, 42, 43, 44, 45, 46, 47, 48, 49, 50, 51, 52, 53, 54, 55, 56, 57, 58, 59, 60, 61, 62, 63, 64, 65, 66, 67, 68, 69, 70] [])
                              (.cond (.t 71)
                                (.seq
                                  (.reg [⟨(some 2), [], [.c (.bool false)], [], [], .cp, none⟩] [] [])
                                  .ret)
                                .skip)))))))
                  (.reg [⟨(some 13), [], [.t 4], [], [], .cp, none⟩,
                     ⟨(some 14), [], [.t 13, .c (.int .i64 1)], [], [], .bini .add, none⟩,
                     ⟨(some 4), [14], [.t 14], [], [], .mv, none⟩] [5, 6, 7, 8, 9, 10, 11, 12, 13, 14, 15, 16, 17, 18, 19, 20, 21, 22, 23, 24, 25, 26, 27, 28, 29, 30, 31, 32, 33, 34, 35, 36, 37, 38, 39, 40, 41, 42, 43, 44, 45, 46, 47, 48, 49, 50, 51, 52, 53, 54, 55, 56, 57, 58, 59, 60, 61, 62, 63, 64, 65, 66, 67, 68, 69, 70, 71] []))))))
        (.seq
          (.reg [⟨(some 72), [], [.c (.fn (F n_plaw20_awake))], [], [], .call 0 false, none⟩,
             ⟨(some 2), [72], [.t 72], [], [], .mv, none⟩] [72] [])
          .ret)))) }

def H_disk_New : Hints := [(1, { ops := [], kt := [1, 2], kb := [] })]
def c_disk_New (F : Nat → FuncId) : AFun := { nparams := 0, ntmps := 3, results := [.tmp 0], body :=
  (.seq
    (.reg [⟨(some 0), [], [.c (.nilp)], [], [], .cp, none⟩] [] [])
    (.seq
      (.reg [⟨(some 1), [], [], [], [], .build [.str [], .str [], .int .i64 0] [], none⟩,
         ⟨(some 2), [], [.t 1], [], [2], .box, none⟩,
         ⟨(some 0), [2], [.t 2], [], [], .mv, none⟩] [1, 2] [])
      .ret)) }

def H_plaw20_awake : Hints := [(1, { ops := [(0, { mw := [4], new := true })], kt := [4], kb := [] }),
  (2, { ops := [(1, { mw := [4], nref := 1 })], kt := [5, 6], kb := [] }),
  (3, { ops := [(1, { mw := [4], nref := 1 })], kt := [7, 8], kb := [] }),
  (4, { ops := [(1, { mw := [4], nref := 1 })], kt := [9, 10], kb := [] }),
  (5, { ops := [(1, { mw := [4], nref := 1 })], kt := [11, 12], kb := [] }),
  (6, { ops := [(8, { mw := [4], nref := 1 }), (13, { mw := [4], nref := 1 }), (18, { mw := [4], nref := 1 })], kt := [13, 14, 15, 16, 17, 18, 19, 20, 21, 22, 23, 24, 25, 26, 27, 28, 29, 30, 31, 32, 33], kb := [] })]
def c_plaw20_awake (F : Nat → FuncId) : AFun := { nparams := 0, ntmps := 34, results := [.tmp 0], body :=
  (.seq
    (.reg [⟨(some 0), [], [.c (.bool false)], [], [], .cp, none⟩] [] [])
    (.seq
      (.reg [⟨(some 4), [], [.c (.fn (F n_disk_New))], [], [4], .call 0 true, none⟩,
         ⟨(some 1), [4], [.t 4], [], [], .mv, none⟩] [4] [])
      (.seq
        (.reg [⟨(some 5), [], [.t 1], [], [], .cp, none⟩,
           ⟨(some 6), [], [.c (.fn (F n_disk_Disk_Append)), .t 5, .c (.str [97, 98])], [], [4], .call 1 false, none⟩,
           ⟨(some 2), [6], [.t 6], [], [], .mv, none⟩] [5, 6] [])
        (.seq
          (.reg [⟨(some 7), [], [.t 1], [], [], .cp, none⟩,
             ⟨(some 8), [], [.c (.fn (F n_disk_Disk_Sync)), .t 7], [], [4], .call 1 false, none⟩] [7, 8] [])
          (.seq
            (.reg [⟨(some 9), [], [.t 1], [], [], .cp, none⟩,
               ⟨(some 10), [], [.c (.fn (F n_disk_Disk_Append)), .t 9, .c (.str [99, 100])], [], [4], .call 1 false, none⟩,
               ⟨(some 3), [10], [.t 10], [], [], .mv, none⟩] [9, 10] [])
            (.seq
              (.reg [⟨(some 11), [], [.t 1], [], [], .cp, none⟩,
                 ⟨(some 12), [], [.c (.fn (F n_disk_Disk_Crash)), .t 11, .c (.int .i64 1)], [], [4], .call 1 false, none⟩] [11, 12] [])
              (.seq
                (.reg [⟨(some 13), [], [.t 2], [], [], .cp, none⟩,
                   ⟨(some 14), [], [.t 13, .c (.int .i64 0)], [], [], .bini .eql, none⟩,
                   ⟨(some 15), [], [.t 14], [], [], .cp, none⟩,
                   ⟨(some 16), [], [.t 3], [], [], .cp, some (15, true)⟩,
                   ⟨(some 17), [], [.t 16, .c (.int .i64 0)], [], [], .bini .eql, some (15, true)⟩,
                   ⟨(some 18), [], [.t 15, .t 17, .c (.bool false)], [], [], .pick, none⟩,
                   ⟨(some 19), [], [.t 18], [], [], .cp, none⟩,
                   ⟨(some 20), [], [.t 1], [], [], .cp, some (19, true)⟩,
                   ⟨(some 21), [], [.c (.fn (F n_disk_Disk_Kept)), .t 20], [], [4], .call 1 false, some (19, true)⟩,
                   ⟨(some 22), [], [.t 21, .c (.str [97, 98, 99])], [], [], .bins .eql, some (19, true)⟩,
                   ⟨(some 23), [], [.t 19, .t 22, .c (.bool false)], [], [], .pick, none⟩,
                   ⟨(some 24), [], [.t 23], [], [], .cp, none⟩,
                   ⟨(some 25), [], [.t 1], [], [], .cp, some (24, true)⟩,
                   ⟨(some 26), [], [.c (.fn (F n_disk_Disk_Waits)), .t 25], [], [4], .call 1 false, some (24, true)⟩,
                   ⟨(some 27), [], [.t 26, .c (.str [])], [], [], .bins .eql, some (24, true)⟩,
                   ⟨(some 28), [], [.t 24, .t 27, .c (.bool false)], [], [], .pick, none⟩,
                   ⟨(some 29), [], [.t 28], [], [], .cp, none⟩,
                   ⟨(some 30), [], [.t 1], [], [], .cp, some (29, true)⟩,
                   ⟨(some 31), [], [.c (.fn (F n_disk_Disk_Syncs)), .t 30], [], [4], .call 1 false, some (29, true)⟩,
                   ⟨(some 32), [], [.t 31, .c (.int .i64 1)], [], [], .bini .eql, some (29, true)⟩,
                   ⟨(some 33), [], [.t 29, .t 32, .c (.bool false)], [], [], .pick, none⟩,
                   ⟨(some 0), [33], [.t 33], [], [], .mv, none⟩] [13, 14, 15, 16, 17, 18, 19, 20, 21, 22, 23, 24, 25, 26, 27, 28, 29, 30, 31, 32, 33] [])
                .ret))))))) }

def H_disk_Disk_Kept : Hints := [(1, { ops := [], kt := [3], kb := [] }),
  (3, { ops := [(3, { mr := [0] })], kt := [5, 6, 7, 8], kb := [] })]
def c_disk_Disk_Kept (F : Nat → FuncId) : AFun := { nparams := 1, ntmps := 9, results := [.tmp 2], body :=
  (.seq
    (.reg [⟨(some 2), [], [.c (.str [])], [], [], .cp, none⟩] [] [])
    (.seq
      (.seq
        (.reg [⟨(some 3), [], [.t 0], [], [], .cp, none⟩,
           ⟨(some 4), [], [.t 3, .c (.nilp)], [], [], .eqn false, none⟩] [3] [])
        (.cond (.t 4)
          (.seq
            (.reg [⟨(some 2), [], [.c (.str [])], [], [], .cp, none⟩] [] [])
            .ret)
          .skip))
      (.seq
        (.reg [⟨(some 5), [], [.t 0], [], [], .cp, none⟩,
           ⟨(some 6), [], [.t 5], [], [], .nilck, none⟩,
           ⟨(some 7), [], [.t 6], [], [], .faddr 0, none⟩,
           ⟨(some 8), [], [.t 7], [0], [], .load false 1, none⟩,
           ⟨(some 2), [8], [.t 8], [], [], .mv, none⟩] [5, 6, 7, 8] [])
        .ret))) }

def H_disk_Disk_Waits : Hints := [(1, { ops := [], kt := [3], kb := [] }),
  (3, { ops := [(3, { mr := [0] })], kt := [5, 6, 7, 8], kb := [] })]
def c_disk_Disk_Waits (F : Nat → FuncId) : AFun := { nparams := 1, ntmps := 9, results := [.tmp 2], body :=
  (.seq
    (.reg [⟨(some 2), [], [.c (.str [])], [], [], .cp, none⟩] [] [])
    (.seq
      (.seq
        (.reg [⟨(some 3), [], [.t 0], [], [], .cp, none⟩,
           ⟨(some 4), [], [.t 3, .c (.nilp)], [], [], .eqn false, none⟩] [3] [])
        (.cond (.t 4)
          (.seq
            (.reg [⟨(some 2), [], [.c (.str [])], [], [], .cp, none⟩] [] [])
            .ret)
          .skip))
      (.seq
        (.reg [⟨(some 5), [], [.t 0], [], [], .cp, none⟩,
           ⟨(some 6), [], [.t 5], [], [], .nilck, none⟩,
           ⟨(some 7), [], [.t 6], [], [], .faddr 1, none⟩,
           ⟨(some 8), [], [.t 7], [0], [], .load false 1, none⟩,
           ⟨(some 2), [8], [.t 8], [], [], .mv, none⟩] [5, 6, 7, 8] [])
        .ret))) }

def H_disk_Disk_Append : Hints := [(1, { ops := [], kt := [6, 7], kb := [] }),
  (3, { ops := [(5, { mr := [0] }), (11, { mr := [0] })], kt := [9, 10, 11, 12, 13, 14, 15, 16, 17, 18, 19, 20, 21, 22, 23], kb := [] }),
  (5, { ops := [(3, { mr := [0] }), (8, { mw := [0] })], kt := [24, 25, 26, 27, 28, 29, 30, 31], kb := [] })]
def c_disk_Disk_Append (F : Nat → FuncId) : AFun := { nparams := 2, ntmps := 32, results := [.tmp 4], body :=
  (.seq
    (.reg [⟨(some 4), [], [.c (.int .i64 0)], [], [], .cp, none⟩] [] [])
    (.seq
      (.block 0
        (.seq
          (.reg [⟨(some 6), [], [.t 0], [], [], .cp, none⟩,
             ⟨(some 7), [], [.t 6, .c (.nilp)], [], [], .eqn false, none⟩,
             ⟨(some 5), [7], [.t 7], [], [], .mv, none⟩] [6, 7] [])
          (.cond (.t 5)
            (.seq
              (.reg [⟨(some 4), [], [.c (.int .i64 1)], [], [], .cp, none⟩] [] [])
              .ret)
            (.seq
              (.reg [⟨(some 9), [], [.t 1], [], [], .cp, none⟩,
                 ⟨(some 10), [], [.t 9], [], [], .len true, none⟩,
                 ⟨(some 11), [], [.t 0], [], [], .cp, none⟩,
                 ⟨(some 12), [], [.t 11], [], [], .nilck, none⟩,
                 ⟨(some 13), [], [.t 12], [], [], .faddr 0, none⟩,
                 ⟨(some 14), [], [.t 13], [0], [], .load false 1, none⟩,
                 ⟨(some 15), [], [.t 14], [], [], .len true, none⟩,
                 ⟨(some 16), [], [.c (.int .i64 4194304), .t 15], [], [], .bini .sub, none⟩,
                 ⟨(some 17), [], [.t 0], [], [], .cp, none⟩,
                 ⟨(some 18), [], [.t 17], [], [], .nilck, none⟩,
                 ⟨(some 19), [], [.t 18], [], [], .faddr 1, none⟩,
                 ⟨(some 20), [], [.t 19], [0], [], .load false 1, none⟩,
                 ⟨(some 21), [], [.t 20], [], [], .len true, none⟩,
                 ⟨(some 22), [], [.t 16, .t 21], [], [], .bini .sub, none⟩,
                 ⟨(some 23), [], [.t 10, .t 22], [], [], .bini .gtr, none⟩,
                 ⟨(some 8), [23], [.t 23], [], [], .mv, none⟩] [9, 10, 11, 12, 13, 14, 15, 16, 17, 18, 19, 20, 21, 22, 23] [])
              (.cond (.t 8)
                (.seq
                  (.reg [⟨(some 4), [], [.c (.int .i64 7)], [], [], .cp, none⟩] [] [])
                  .ret)
                .skip)))))
      (.seq
        (.reg [⟨(some 24), [], [.t 0], [], [], .cp, none⟩,
           ⟨(some 25), [], [.t 24], [], [], .nilck, none⟩,
           ⟨(some 26), [], [.t 25], [], [], .faddr 1, none⟩,
           ⟨(some 27), [], [.t 26], [0], [], .load false 1, none⟩,
           ⟨(some 28), [], [.t 1], [], [], .cp, none⟩,
           ⟨(some 29), [], [.t 27, .t 28], [], [], .bins .add, none⟩,
           ⟨(some 30), [], [.t 24], [], [], .nilck, none⟩,
           ⟨(some 31), [], [.t 30], [], [], .faddr 1, none⟩,
           ⟨none, [29], [.t 31, .t 29], [], [0], .store false 1, none⟩] [24, 25, 26, 27, 28, 29, 30, 31] [])
        (.seq
          (.reg [⟨(some 4), [], [.c (.int .i64 0)], [], [], .cp, none⟩] [] [])
          .ret)))) }

def H_disk_Disk_Sync : Hints := [(0, { ops := [], kt := [2], kb := [] }),
  (1, { ops := [(5, { mr := [0] }), (9, { mr := [0] }), (13, { mw := [0] }), (16, { mw := [0] })], kt := [4, 5, 6, 7, 8, 9, 10, 11, 12, 13, 14, 15, 16, 17, 18], kb := [] }),
  (2, { ops := [(3, { mr := [0] }), (7, { mw := [0] })], kt := [19, 20, 21, 22, 23, 24, 25], kb := [] })]
def c_disk_Disk_Sync (F : Nat → FuncId) : AFun := { nparams := 1, ntmps := 26, results := [], body :=
  (.seq
    (.seq
      (.reg [⟨(some 2), [], [.t 0], [], [], .cp, none⟩,
         ⟨(some 3), [], [.t 2, .c (.nilp)], [], [], .eqn false, none⟩] [2] [])
      (.cond (.t 3)
        .ret
        .skip))
    (.seq
      (.reg [⟨(some 4), [], [.t 0], [], [], .cp, none⟩,
         ⟨(some 5), [], [.t 0], [], [], .cp, none⟩,
         ⟨(some 6), [], [.t 0], [], [], .cp, none⟩,
         ⟨(some 7), [], [.t 6], [], [], .nilck, none⟩,
         ⟨(some 8), [], [.t 7], [], [], .faddr 0, none⟩,
         ⟨(some 9), [], [.t 8], [0], [], .load false 1, none⟩,
         ⟨(some 10), [], [.t 0], [], [], .cp, none⟩,
         ⟨(some 11), [], [.t 10], [], [], .nilck, none⟩,
         ⟨(some 12), [], [.t 11], [], [], .faddr 1, none⟩,
         ⟨(some 13), [], [.t 12], [0], [], .load false 1, none⟩,
         ⟨(some 14), [], [.t 9, .t 13], [], [], .bins .add, none⟩,
         ⟨(some 15), [], [.t 4], [], [], .nilck, none⟩,
         ⟨(some 16), [], [.t 15], [], [], .faddr 0, none⟩,
         ⟨none, [14], [.t 16, .t 14], [], [0], .store false 1, none⟩,
         ⟨(some 17), [], [.t 5], [], [], .nilck, none⟩,
         ⟨(some 18), [], [.t 17], [], [], .faddr 1, none⟩,
         ⟨none, [], [.t 18, .c (.str [])], [], [0], .store false 1, none⟩] [4, 5, 6, 7, 8, 9, 10, 11, 12, 13, 14, 15, 16, 17, 18] [])
      (.reg [⟨(some 19), [], [.t 0], [], [], .cp, none⟩,
         ⟨(some 20), [], [.t 19], [], [], .nilck, none⟩,
         ⟨(some 21), [], [.t 20], [], [], .faddr 2, none⟩,
         ⟨(some 22), [], [.t 21], [0], [], .load false 1, none⟩,
         ⟨(some 23), [], [.t 22, .c (.int .i64 1)], [], [], .bini .add, none⟩,
         ⟨(some 24), [], [.t 19], [], [], .nilck, none⟩,
         ⟨(some 25), [], [.t 24], [], [], .faddr 2, none⟩,
         ⟨none, [23], [.t 25, .t 23], [], [0], .store false 1, none⟩] [19, 20, 21, 22, 23, 24, 25] []))) }

def H_disk_Disk_Crash : Hints := [(0, { ops := [], kt := [4], kb := [] }),
  (1, { ops := [(5, { mr := [0] })], kt := [6, 7, 8, 9, 10, 11, 12, 13], kb := [] }),
  (2, { ops := [(5, { mr := [0] }), (9, { mr := [0] }), (15, { mw := [0] }), (18, { mw := [0] })], kt := [14, 15, 16, 17, 18, 19, 20, 21, 22, 23, 24, 25, 26, 27, 28, 29, 30], kb := [] })]
def c_disk_Disk_Crash (F : Nat → FuncId) : AFun := { nparams := 2, ntmps := 31, results := [], body :=
  (.seq
    (.seq
      (.reg [⟨(some 4), [], [.t 0], [], [], .cp, none⟩,
         ⟨(some 5), [], [.t 4, .c (.nilp)], [], [], .eqn false, none⟩] [4] [])
      (.cond (.t 5)
        .ret
        .skip))
    (.seq
      (.reg [⟨(some 6), [], [.t 1], [], [], .cp, none⟩,
         ⟨(some 7), [], [.t 6, .c (.int .i64 0)], [], [], .maxi, none⟩,
         ⟨(some 8), [], [.t 0], [], [], .cp, none⟩,
         ⟨(some 9), [], [.t 8], [], [], .nilck, none⟩,
         ⟨(some 10), [], [.t 9], [], [], .faddr 1, none⟩,
         ⟨(some 11), [], [.t 10], [0], [], .load false 1, none⟩,
         ⟨(some 12), [], [.t 11], [], [], .len true, none⟩,
         ⟨(some 13), [], [.t 7, .t 12], [], [], .mini, none⟩,
         ⟨(some 1), [13], [.t 13], [], [], .mv, none⟩] [6, 7, 8, 9, 10, 11, 12, 13] [])
      (.reg [⟨(some 14), [], [.t 0], [], [], .cp, none⟩,
         ⟨(some 15), [], [.t 0], [], [], .cp, none⟩,
         ⟨(some 16), [], [.t 0], [], [], .cp, none⟩,
         ⟨(some 17), [], [.t 16], [], [], .nilck, none⟩,
         ⟨(some 18), [], [.t 17], [], [], .faddr 0, none⟩,
         ⟨(some 19), [], [.t 18], [0], [], .load false 1, none⟩,
         ⟨(some 20), [], [.t 0], [], [], .cp, none⟩,
         ⟨(some 21), [], [.t 20], [], [], .nilck, none⟩,
         ⟨(some 22), [], [.t 21], [], [], .faddr 1, none⟩,
         ⟨(some 23), [], [.t 22], [0], [], .load false 1, none⟩,
         ⟨(some 24), [], [.t 1], [], [], .cp, none⟩,
         ⟨(some 25), [], [.t 23, .t 24], [], [], .slices false true, none⟩,
         ⟨(some 26), [], [.t 19, .t 25], [], [], .bins .add, none⟩,
         ⟨(some 27), [], [.t 14], [], [], .nilck, none⟩,
         ⟨(some 28), [], [.t 27], [], [], .faddr 0, none⟩,
         ⟨none, [26], [.t 28, .t 26], [], [0], .store false 1, none⟩,
         ⟨(some 29), [], [.t 15], [], [], .nilck, none⟩,
         ⟨(some 30), [], [.t 29], [], [], .faddr 1, none⟩,
         ⟨none, [], [.t 30, .c (.str [])], [], [0], .store false 1, none⟩] [14, 15, 16, 17, 18, 19, 20, 21, 22, 23, 24, 25, 26, 27, 28, 29, 30] []))) }

def H_plaw20_does : Hints := [(1, { ops := [(1, { mr := [5] })], kt := [7], kb := [] }),
  (3, { ops := [], kt := [10], kb := [] }),
  (4, { ops := [], kt := [11], kb := [] }),
  (5, { ops := [(2, { mr := [5] }), (3, { mw := [0], nref := 1 }), (6, { mr := [5] }), (7, { mw := [1], nref := 1 })], kt := [12, 13, 14, 15, 16, 17, 18, 19, 20], kb := [] }),
  (6, { ops := [], kt := [22], kb := [] }),
  (7, { ops := [(1, { mw := [0], nref := 1 })], kt := [23, 24], kb := [] }),
  (8, { ops := [(1, { mw := [1], nref := 1 })], kt := [25, 26], kb := [] }),
  (9, { ops := [], kt := [28], kb := [] }),
  (10, { ops := [(2, { mr := [5] }), (3, { mw := [0], nref := 1 })], kt := [29, 30, 31, 32], kb := [] }),
  (11, { ops := [(2, { mr := [5] }), (3, { mw := [1], nref := 1 })], kt := [33, 34, 35, 36], kb := [] }),
  (12, { ops := [], kt := [38], kb := [] }),
  (13, { ops := [(2, { mr := [5] }), (3, { mw := [0], nref := 1 }), (6, { mr := [5] }), (7, { mw := [1], nref := 1 })], kt := [39, 40, 41, 42, 43, 44, 45, 46, 47], kb := [] }),
  (14, { ops := [], kt := [49], kb := [] }),
  (15, { ops := [(2, { mr := [5] }), (3, { mw := [0], nref := 1 })], kt := [50, 51, 52, 53], kb := [] }),
  (16, { ops := [(2, { mr := [5] }), (3, { mw := [1], nref := 1 })], kt := [54, 55, 56, 57], kb := [] })]
def c_plaw20_does (F : Nat → FuncId) : AFun := { nparams := 3, ntmps := 58, results := [.tmp 6], body :=
  (.seq
    (.reg [⟨(some 5), [], [.t 2], [], [5], .box, none⟩,
       ⟨(some 6), [], [.c (.bool false)], [], [], .cp, none⟩] [] [])
    (.seq
      (.seq
        (.reg [⟨(some 7), [], [.t 5], [], [], .faddr 0, none⟩,
           ⟨(some 8), [], [.t 7], [5], [], .load false 1, none⟩] [7] [])
        (.block 0
          (.seq
            (.seq
              (.reg [⟨(some 10), [], [.t 8, .c (.int .i64 0)], [], [], .bini .eql, none⟩,
                 ⟨(some 9), [10], [.t 10], [], [], .mv, none⟩] [10] [])
              (.cond (.t 9)
                .skip
                (.reg [⟨(some 11), [], [.t 8, .c (.int .i64 1)], [], [], .bini .eql, none⟩,
                   ⟨(some 9), [11], [.t 11], [], [], .mv, none⟩] [11] [])))
            (.cond (.t 9)
              (.seq
                (.reg [⟨(some 12), [], [.t 0], [], [], .cp, none⟩,
                   ⟨(some 13), [], [.t 5], [], [], .faddr 2, none⟩,
                   ⟨(some 14), [], [.t 13], [5], [], .load false 1, none⟩,
                   ⟨(some 15), [], [.c (.fn (F n_disk_Disk_Append)), .t 12, .t 14], [], [0], .call 1 false, none⟩,
                   ⟨(some 16), [], [.t 1], [], [], .cp, none⟩,
                   ⟨(some 17), [], [.t 5], [], [], .faddr 2, none⟩,
                   ⟨(some 18), [], [.t 17], [5], [], .load false 1, none⟩,
                   ⟨(some 19), [], [.c (.fn (F n_pref20_Disk_Append)), .t 16, .t 18], [], [1], .call 1 false, none⟩,
                   ⟨(some 20), [], [.t 15, .t 19], [], [], .bini .eql, none⟩,
                   ⟨(some 6), [20], [.t 20], [], [], .mv, none⟩] [12, 13, 14, 15, 16, 17, 18, 19, 20] [])
                .ret)
              (.seq
                (.reg [⟨(some 22), [], [.t 8, .c (.int .i64 2)], [], [], .bini .eql, none⟩,
                   ⟨(some 21), [22], [.t 22], [], [], .mv, none⟩] [22] [])
                (.cond (.t 21)
                  (.seq
                    (.reg [⟨(some 23), [], [.t 0], [], [], .cp, none⟩,
                       ⟨(some 24), [], [.c (.fn (F n_disk_Disk_Sync)), .t 23], [], [0], .call 1 false, none⟩] [23, 24] [])
                    (.reg [⟨(some 25), [], [.t 1], [], [], .cp, none⟩,
                       ⟨(some 26), [], [.c (.fn (F n_pref20_Disk_Sync)), .t 25], [], [1], .call 1 false, none⟩] [25, 26] []))
                  (.seq
                    (.reg [⟨(some 28), [], [.t 8, .c (.int .i64 3)], [], [], .bini .eql, none⟩,
                       ⟨(some 27), [28], [.t 28], [], [], .mv, none⟩] [28] [])
                    (.cond (.t 27)
                      (.seq
                        (.reg [⟨(some 29), [], [.t 0], [], [], .cp, none⟩,
                           ⟨(some 30), [], [.t 5], [], [], .faddr 1, none⟩,
                           ⟨(some 31), [], [.t 30], [5], [], .load false 1, none⟩,
                           ⟨(some 32), [], [.c (.fn (F n_disk_Disk_Crash)), .t 29, .t 31], [], [0], .call 1 false, none⟩] [29, 30, 31, 32] [])
                        (.reg [⟨(some 33), [], [.t 1], [], [], .cp, none⟩,
                           ⟨(some 34), [], [.t 5], [], [], .faddr 1, none⟩,
                           ⟨(some 35), [], [.t 34], [5], [], .load false 1, none⟩,
                           ⟨(some 36), [], [.c (.fn (F n_pref20_Disk_Crash)), .t 33, .t 35], [], [1], .call 1 false, none⟩] [33, 34, 35, 36] []))
                      (.seq
                        (.reg [⟨(some 38), [], [.t 8, .c (.int .i64 4)], [], [], .bini .eql, none⟩,
                           ⟨(some 37), [38], [.t 38], [], [], .mv, none⟩] [38] [])
                        (.cond (.t 37)
                          (.seq
                            (.reg [⟨(some 39), [], [.t 0], [], [], .cp, none⟩,
                               ⟨(some 40), [], [.t 5], [], [], .faddr 2, none⟩,
                               ⟨(some 41), [], [.t 40], [5], [], .load false 1, none⟩,
                               ⟨(some 42), [], [.c (.fn (F n_disk_Disk_Replace)), .t 39, .t 41], [], [0], .call 1 false, none⟩,
                               ⟨(some 43), [], [.t 1], [], [], .cp, none⟩,
                               ⟨(some 44), [], [.t 5], [], [], .faddr 2, none⟩,
                               ⟨(some 45), [], [.t 44], [5], [], .load false 1, none⟩,
                               ⟨(some 46), [], [.c (.fn (F n_pref20_Disk_Replace)), .t 43, .t 45], [], [1], .call 1 false, none⟩,
                               ⟨(some 47), [], [.t 42, .t 46], [], [], .bini .eql, none⟩,
                               ⟨(some 6), [47], [.t 47], [], [], .mv, none⟩] [39, 40, 41, 42, 43, 44, 45, 46, 47] [])
                            .ret)
                          (.seq
                            (.reg [⟨(some 49), [], [.t 8, .c (.int .i64 5)], [], [], .bini .eql, none⟩,
                               ⟨(some 48), [49], [.t 49], [], [], .mv, none⟩] [49] [])
                            (.cond (.t 48)
                              (.seq
                                (.reg [⟨(some 50), [], [.t 0], [], [], .cp, none⟩,
                                   ⟨(some 51), [], [.t 5], [], [], .faddr 1, none⟩,
                                   ⟨(some 52), [], [.t 51], [5], [], .load false 1, none⟩,
                                   ⟨(some 53), [], [.c (.fn (F n_disk_Disk_Cut)), .t 50, .t 52], [], [0], .call 1 false, none⟩] [50, 51, 52, 53] [])
                                (.reg [⟨(some 54), [], [.t 1], [], [], .cp, none⟩,
                                   ⟨(some 55), [], [.t 5], [], [], .faddr 1, none⟩,
                                   ⟨(some 56), [], [.t 55], [5], [], .load false 1, none⟩,
                                   ⟨(some 57), [], [.c (.fn (F n_pref20_Disk_Cut)), .t 54, .t 56], [], [1], .call 1 false, none⟩] [54, 55, 56, 57] []))
                              (.seq
                                (.reg [⟨(some 6), [], [.c (.bool true)], [], [], .cp, none⟩] [] [])
                                .ret)))))))))))))
      (.seq
        (.reg [⟨(some 6), [], [.c (.bool true)], [], [], .cp, none⟩] [] [])
        .ret))) }

def H_disk_Disk_Syncs : Hints := [(1, { ops := [], kt := [3], kb := [] }),
  (3, { ops := [(3, { mr := [0] })], kt := [5, 6, 7, 8], kb := [] })]
def c_disk_Disk_Syncs (F : Nat → FuncId) : AFun := { nparams := 1, ntmps := 9, results := [.tmp 2], body :=
  (.seq
    (.reg [⟨(some 2), [], [.c (.int .i64 0)], [], [], .cp, none⟩] [] [])
    (.seq
      (.seq
        (.reg [⟨(some 3), [], [.t 0], [], [], .cp, none⟩,
           ⟨(some 4), [], [.t 3, .c (.nilp)], [], [], .eqn false, none⟩] [3] [])
        (.cond (.t 4)
          (.seq
            (.reg [⟨(some 2), [], [.c (.int .i64 0)], [], [], .cp, none⟩] [] [])
            .ret)
          .skip))
      (.seq
        (.reg [⟨(some 5), [], [.t 0], [], [], .cp, none⟩,
           ⟨(some 6), [], [.t 5], [], [], .nilck, none⟩,
           ⟨(some 7), [], [.t 6], [], [], .faddr 2, none⟩,
           ⟨(some 8), [], [.t 7], [0], [], .load false 1, none⟩,
           ⟨(some 2), [8], [.t 8], [], [], .mv, none⟩] [5, 6, 7, 8] [])
        .ret))) }

def H_disk_Disk_Cut : Hints := [(0, { ops := [(11, { mr := [0] })], kt := [4, 5, 6, 7, 8, 9, 10, 11, 12, 13, 14, 15, 16, 17], kb := [] }),
  (1, { ops := [(4, { mr := [0] }), (9, { mw := [0] })], kt := [19, 20, 21, 22, 23, 24, 25, 26, 27], kb := [] })]
def c_disk_Disk_Cut (F : Nat → FuncId) : AFun := { nparams := 2, ntmps := 28, results := [], body :=
  (.seq
    (.reg [⟨(some 4), [], [.t 0], [], [], .cp, none⟩,
       ⟨(some 5), [], [.t 4, .c (.nilp)], [], [], .eqn true, none⟩,
       ⟨(some 6), [], [.t 5], [], [], .cp, none⟩,
       ⟨(some 7), [], [.t 1], [], [], .cp, some (6, true)⟩,
       ⟨(some 8), [], [.t 7, .c (.int .i64 0)], [], [], .bini .geq, some (6, true)⟩,
       ⟨(some 9), [], [.t 6, .t 8, .c (.bool false)], [], [], .pick, none⟩,
       ⟨(some 10), [], [.t 9], [], [], .cp, none⟩,
       ⟨(some 11), [], [.t 1], [], [], .cp, some (10, true)⟩,
       ⟨(some 12), [], [.t 0], [], [], .cp, some (10, true)⟩,
       ⟨(some 13), [], [.t 12], [], [], .nilck, some (10, true)⟩,
       ⟨(some 14), [], [.t 13], [], [], .faddr 0, some (10, true)⟩,
       ⟨(some 15), [], [.t 14], [0], [], .load false 1, some (10, true)⟩,
       ⟨(some 16), [], [.t 15], [], [], .len true, some (10, true)⟩,
       ⟨(some 17), [], [.t 11, .t 16], [], [], .bini .lss, some (10, true)⟩,
       ⟨(some 18), [], [.t 10, .t 17, .c (.bool false)], [], [], .pick, none⟩] [4, 5, 6, 7, 8, 9, 10, 11, 12, 13, 14, 15, 16, 17] [])
    (.cond (.t 18)
      (.reg [⟨(some 19), [], [.t 0], [], [], .cp, none⟩,
         ⟨(some 20), [], [.t 0], [], [], .cp, none⟩,
         ⟨(some 21), [], [.t 20], [], [], .nilck, none⟩,
         ⟨(some 22), [], [.t 21], [], [], .faddr 0, none⟩,
         ⟨(some 23), [], [.t 22], [0], [], .load false 1, none⟩,
         ⟨(some 24), [], [.t 1], [], [], .cp, none⟩,
         ⟨(some 25), [], [.t 23, .t 24], [], [], .slices false true, none⟩,
         ⟨(some 26), [], [.t 19], [], [], .nilck, none⟩,
         ⟨(some 27), [], [.t 26], [], [], .faddr 0, none⟩,
         ⟨none, [25], [.t 27, .t 25], [], [0], .store false 1, none⟩] [19, 20, 21, 22, 23, 24, 25, 26, 27] [])
      .skip)) }

def H_disk_Disk_Replace : Hints := [(1, { ops := [], kt := [6, 7], kb := [] }),
  (3, { ops := [], kt := [9, 10, 11], kb := [] }),
  (5, { ops := [(5, { mw := [0] }), (8, { mw := [0] })], kt := [12, 13, 14, 15, 16, 17, 18], kb := [] }),
  (6, { ops := [(3, { mr := [0] }), (7, { mw := [0] })], kt := [19, 20, 21, 22, 23, 24, 25], kb := [] })]
def c_disk_Disk_Replace (F : Nat → FuncId) : AFun := { nparams := 2, ntmps := 26, results := [.tmp 4], body :=
  (.seq
    (.reg [⟨(some 4), [], [.c (.int .i64 0)], [], [], .cp, none⟩] [] [])
    (.seq
      (.block 0
        (.seq
          (.reg [⟨(some 6), [], [.t 0], [], [], .cp, none⟩,
             ⟨(some 7), [], [.t 6, .c (.nilp)], [], [], .eqn false, none⟩,
             ⟨(some 5), [7], [.t 7], [], [], .mv, none⟩] [6, 7] [])
          (.cond (.t 5)
            (.seq
              (.reg [⟨(some 4), [], [.c (.int .i64 1)], [], [], .cp, none⟩] [] [])
              .ret)
            (.seq
              (.reg [⟨(some 9), [], [.t 1], [], [], .cp, none⟩,
                 ⟨(some 10), [], [.t 9], [], [], .len true, none⟩,
                 ⟨(some 11), [], [.t 10, .c (.int .i64 4194304)], [], [], .bini .gtr, none⟩,
                 ⟨(some 8), [11], [.t 11], [], [], .mv, none⟩] [9, 10, 11] [])
              (.cond (.t 8)
                (.seq
                  (.reg [⟨(some 4), [], [.c (.int .i64 7)], [], [], .cp, none⟩] [] [])
                  .ret)
                .skip)))))
      (.seq
        (.reg [⟨(some 12), [], [.t 0], [], [], .cp, none⟩,
           ⟨(some 13), [], [.t 0], [], [], .cp, none⟩,
           ⟨(some 14), [], [.t 1], [], [], .cp, none⟩,
           ⟨(some 15), [], [.t 12], [], [], .nilck, none⟩,
           ⟨(some 16), [], [.t 15], [], [], .faddr 0, none⟩,
           ⟨none, [14], [.t 16, .t 14], [], [0], .store false 1, none⟩,
           ⟨(some 17), [], [.t 13], [], [], .nilck, none⟩,
           ⟨(some 18), [], [.t 17], [], [], .faddr 1, none⟩,
           ⟨none, [], [.t 18, .c (.str [])], [], [0], .store false 1, none⟩] [12, 13, 14, 15, 16, 17, 18] [])
        (.seq
          (.reg [⟨(some 19), [], [.t 0], [], [], .cp, none⟩,
             ⟨(some 20), [], [.t 19], [], [], .nilck, none⟩,
             ⟨(some 21), [], [.t 20], [], [], .faddr 2, none⟩,
             ⟨(some 22), [], [.t 21], [0], [], .load false 1, none⟩,
             ⟨(some 23), [], [.t 22, .c (.int .i64 1)], [], [], .bini .add, none⟩,
             ⟨(some 24), [], [.t 19], [], [], .nilck, none⟩,
             ⟨(some 25), [], [.t 24], [], [], .faddr 2, none⟩,
             ⟨none, [23], [.t 25, .t 23], [], [0], .store false 1, none⟩] [19, 20, 21, 22, 23, 24, 25] [])
          (.seq
            (.reg [⟨(some 4), [], [.c (.int .i64 0)], [], [], .cp, none⟩] [] [])
            .ret))))) }

def H_pref20_Disk_Append : Hints := [(1, { ops := [(3, { mr := [0] }), (8, { mr := [0] })], kt := [5, 6, 7, 8, 9, 10, 11, 12, 13, 14, 15, 16, 17, 18], kb := [] }),
  (3, { ops := [(4, { mr := [0] }), (9, { mw := [0] })], kt := [20, 21, 22, 23, 24, 25, 26, 27, 28], kb := [] })]
def c_pref20_Disk_Append (F : Nat → FuncId) : AFun := { nparams := 2, ntmps := 29, results := [.tmp 4], body :=
  (.seq
    (.reg [⟨(some 4), [], [.c (.int .i64 0)], [], [], .cp, none⟩] [] [])
    (.seq
      (.seq
        (.reg [⟨(some 5), [], [.t 0], [], [], .cp, none⟩,
           ⟨(some 6), [], [.t 5], [], [], .nilck, none⟩,
           ⟨(some 7), [], [.t 6], [], [], .faddr 0, none⟩,
           ⟨(some 8), [], [.t 7], [0], [], .load false 1, none⟩,
           ⟨(some 9), [], [.t 8], [], [], .len true, none⟩,
           ⟨(some 10), [], [.t 0], [], [], .cp, none⟩,
           ⟨(some 11), [], [.t 10], [], [], .nilck, none⟩,
           ⟨(some 12), [], [.t 11], [], [], .faddr 1, none⟩,
           ⟨(some 13), [], [.t 12], [0], [], .load false 1, none⟩,
           ⟨(some 14), [], [.t 13], [], [], .len true, none⟩,
           ⟨(some 15), [], [.t 9, .t 14], [], [], .bini .add, none⟩,
           ⟨(some 16), [], [.t 1], [], [], .cp, none⟩,
           ⟨(some 17), [], [.t 16], [], [], .len true, none⟩,
           ⟨(some 18), [], [.t 15, .t 17], [], [], .bini .add, none⟩,
           ⟨(some 19), [], [.t 18, .c (.int .i64 4194304)], [], [], .bini .gtr, none⟩] [5, 6, 7, 8, 9, 10, 11, 12, 13, 14, 15, 16, 17, 18] [])
        (.cond (.t 19)
          (.seq
            (.reg [⟨(some 4), [], [.c (.int .i64 7)], [], [], .cp, none⟩] [] [])
            .ret)
          .skip))
      (.seq
        (.reg [⟨(some 20), [], [.t 0], [], [], .cp, none⟩,
           ⟨(some 21), [], [.t 0], [], [], .cp, none⟩,
           ⟨(some 22), [], [.t 21], [], [], .nilck, none⟩,
           ⟨(some 23), [], [.t 22], [], [], .faddr 1, none⟩,
           ⟨(some 24), [], [.t 23], [0], [], .load false 1, none⟩,
           ⟨(some 25), [], [.t 1], [], [], .cp, none⟩,
           ⟨(some 26), [], [.t 24, .t 25], [], [], .bins .add, none⟩,
           ⟨(some 27), [], [.t 20], [], [], .nilck, none⟩,
           ⟨(some 28), [], [.t 27], [], [], .faddr 1, none⟩,
           ⟨none, [26], [.t 28, .t 26], [], [0], .store false 1, none⟩] [20, 21, 22, 23, 24, 25, 26, 27, 28] [])
        (.seq
          (.reg [⟨(some 4), [], [.c (.int .i64 0)], [], [], .cp, none⟩] [] [])
          .ret)))) }

def H_pref20_Disk_Sync : Hints := [(0, { ops := [(4, { mr := [0] }), (8, { mr := [0] }), (12, { mw := [0] })], kt := [2, 3, 4, 5, 6, 7, 8, 9, 10, 11, 12, 13], kb := [] }),
  (1, { ops := [(3, { mw := [0] })], kt := [14, 15, 16], kb := [] }),
  (2, { ops := [(3, { mr := [0] }), (7, { mw := [0] })], kt := [17, 18, 19, 20, 21, 22, 23], kb := [] })]
def c_pref20_Disk_Sync (F : Nat → FuncId) : AFun := { nparams := 1, ntmps := 24, results := [], body :=
  (.seq
    (.reg [⟨(some 2), [], [.t 0], [], [], .cp, none⟩,
       ⟨(some 3), [], [.t 0], [], [], .cp, none⟩,
       ⟨(some 4), [], [.t 3], [], [], .nilck, none⟩,
       ⟨(some 5), [], [.t 4], [], [], .faddr 0, none⟩,
       ⟨(some 6), [], [.t 5], [0], [], .load false 1, none⟩,
       ⟨(some 7), [], [.t 0], [], [], .cp, none⟩,
       ⟨(some 8), [], [.t 7], [], [], .nilck, none⟩,
       ⟨(some 9), [], [.t 8], [], [], .faddr 1, none⟩,
       ⟨(some 10), [], [.t 9], [0], [], .load false 1, none⟩,
       ⟨(some 11), [], [.t 6, .t 10], [], [], .bins .add, none⟩,
       ⟨(some 12), [], [.t 2], [], [], .nilck, none⟩,
       ⟨(some 13), [], [.t 12], [], [], .faddr 0, none⟩,
       ⟨none, [11], [.t 13, .t 11], [], [0], .store false 1, none⟩] [2, 3, 4, 5, 6, 7, 8, 9, 10, 11, 12, 13] [])
    (.seq
      (.reg [⟨(some 14), [], [.t 0], [], [], .cp, none⟩,
         ⟨(some 15), [], [.t 14], [], [], .nilck, none⟩,
         ⟨(some 16), [], [.t 15], [], [], .faddr 1, none⟩,
         ⟨none, [], [.t 16, .c (.str [])], [], [0], .store false 1, none⟩] [14, 15, 16] [])
      (.reg [⟨(some 17), [], [.t 0], [], [], .cp, none⟩,
         ⟨(some 18), [], [.t 17], [], [], .nilck, none⟩,
         ⟨(some 19), [], [.t 18], [], [], .faddr 2, none⟩,
         ⟨(some 20), [], [.t 19], [0], [], .load false 1, none⟩,
         ⟨(some 21), [], [.t 20, .c (.int .i64 1)], [], [], .bini .add, none⟩,
         ⟨(some 22), [], [.t 17], [], [], .nilck, none⟩,
         ⟨(some 23), [], [.t 22], [], [], .faddr 2, none⟩,
         ⟨none, [21], [.t 23, .t 21], [], [0], .store false 1, none⟩] [17, 18, 19, 20, 21, 22, 23] []))) }

def H_pref20_Disk_Crash : Hints := [(0, { ops := [(4, { mr := [0] })], kt := [4, 5, 6, 7, 8, 9], kb := [] }),
  (1, { ops := [(3, { mr := [0] })], kt := [11, 12, 13, 14, 15], kb := [] }),
  (2, { ops := [], kt := [16], kb := [] }),
  (3, { ops := [(4, { mr := [0] }), (8, { mr := [0] }), (14, { mw := [0] })], kt := [18, 19, 20, 21, 22, 23, 24, 25, 26, 27, 28, 29, 30, 31], kb := [] }),
  (4, { ops := [(3, { mw := [0] })], kt := [32, 33, 34], kb := [] })]
def c_pref20_Disk_Crash (F : Nat → FuncId) : AFun := { nparams := 2, ntmps := 35, results := [], body :=
  (.seq
    (.seq
      (.reg [⟨(some 4), [], [.t 1], [], [], .cp, none⟩,
         ⟨(some 5), [], [.t 0], [], [], .cp, none⟩,
         ⟨(some 6), [], [.t 5], [], [], .nilck, none⟩,
         ⟨(some 7), [], [.t 6], [], [], .faddr 1, none⟩,
         ⟨(some 8), [], [.t 7], [0], [], .load false 1, none⟩,
         ⟨(some 9), [], [.t 8], [], [], .len true, none⟩,
         ⟨(some 10), [], [.t 4, .t 9], [], [], .bini .gtr, none⟩] [4, 5, 6, 7, 8, 9] [])
      (.cond (.t 10)
        (.reg [⟨(some 11), [], [.t 0], [], [], .cp, none⟩,
           ⟨(some 12), [], [.t 11], [], [], .nilck, none⟩,
           ⟨(some 13), [], [.t 12], [], [], .faddr 1, none⟩,
           ⟨(some 14), [], [.t 13], [0], [], .load false 1, none⟩,
           ⟨(some 15), [], [.t 14], [], [], .len true, none⟩,
           ⟨(some 1), [15], [.t 15], [], [], .mv, none⟩] [11, 12, 13, 14, 15] [])
        .skip))
    (.seq
      (.seq
        (.reg [⟨(some 16), [], [.t 1], [], [], .cp, none⟩,
           ⟨(some 17), [], [.t 16, .c (.int .i64 0)], [], [], .bini .gtr, none⟩] [16] [])
        (.cond (.t 17)
          (.reg [⟨(some 18), [], [.t 0], [], [], .cp, none⟩,
             ⟨(some 19), [], [.t 0], [], [], .cp, none⟩,
             ⟨(some 20), [], [.t 19], [], [], .nilck, none⟩,
             ⟨(some 21), [], [.t 20], [], [], .faddr 0, none⟩,
             ⟨(some 22), [], [.t 21], [0], [], .load false 1, none⟩,
             ⟨(some 23), [], [.t 0], [], [], .cp, none⟩,
             ⟨(some 24), [], [.t 23], [], [], .nilck, none⟩,
             ⟨(some 25), [], [.t 24], [], [], .faddr 1, none⟩,
             ⟨(some 26), [], [.t 25], [0], [], .load false 1, none⟩,
             ⟨(some 27), [], [.t 1], [], [], .cp, none⟩,
             ⟨(some 28), [], [.t 26, .t 27], [], [], .slices false true, none⟩,
             ⟨(some 29), [], [.t 22, .t 28], [], [], .bins .add, none⟩,
             ⟨(some 30), [], [.t 18], [], [], .nilck, none⟩,
             ⟨(some 31), [], [.t 30], [], [], .faddr 0, none⟩,
             ⟨none, [29], [.t 31, .t 29], [], [0], .store false 1, none⟩] [18, 19, 20, 21, 22, 23, 24, 25, 26, 27, 28, 29, 30, 31] [])
          .skip))
      (.reg [⟨(some 32), [], [.t 0], [], [], .cp, none⟩,
         ⟨(some 33), [], [.t 32], [], [], .nilck, none⟩,
         ⟨(some 34), [], [.t 33], [], [], .faddr 1, none⟩,
         ⟨none, [], [.t 34, .c (.str [])], [], [0], .store false 1, none⟩] [32, 33, 34] []))) }

def H_pref20_Disk_Replace : Hints := [(1, { ops := [], kt := [5, 6], kb := [] }),
  (3, { ops := [(4, { mw := [0] })], kt := [8, 9, 10, 11], kb := [] }),
  (4, { ops := [(3, { mw := [0] })], kt := [12, 13, 14], kb := [] }),
  (5, { ops := [(3, { mr := [0] }), (7, { mw := [0] })], kt := [15, 16, 17, 18, 19, 20, 21], kb := [] })]
def c_pref20_Disk_Replace (F : Nat → FuncId) : AFun := { nparams := 2, ntmps := 22, results := [.tmp 4], body :=
  (.seq
    (.reg [⟨(some 4), [], [.c (.int .i64 0)], [], [], .cp, none⟩] [] [])
    (.seq
      (.seq
        (.reg [⟨(some 5), [], [.t 1], [], [], .cp, none⟩,
           ⟨(some 6), [], [.t 5], [], [], .len true, none⟩,
           ⟨(some 7), [], [.t 6, .c (.int .i64 4194304)], [], [], .bini .gtr, none⟩] [5, 6] [])
        (.cond (.t 7)
          (.seq
            (.reg [⟨(some 4), [], [.c (.int .i64 7)], [], [], .cp, none⟩] [] [])
            .ret)
          .skip))
      (.seq
        (.reg [⟨(some 8), [], [.t 0], [], [], .cp, none⟩,
           ⟨(some 9), [], [.t 1], [], [], .cp, none⟩,
           ⟨(some 10), [], [.t 8], [], [], .nilck, none⟩,
           ⟨(some 11), [], [.t 10], [], [], .faddr 0, none⟩,
           ⟨none, [9], [.t 11, .t 9], [], [0], .store false 1, none⟩] [8, 9, 10, 11] [])
        (.seq
          (.reg [⟨(some 12), [], [.t 0], [], [], .cp, none⟩,
             ⟨(some 13), [], [.t 12], [], [], .nilck, none⟩,
             ⟨(some 14), [], [.t 13], [], [], .faddr 1, none⟩,
             ⟨none, [], [.t 14, .c (.str [])], [], [0], .store false 1, none⟩] [12, 13, 14] [])
          (.seq
            (.reg [⟨(some 15), [], [.t 0], [], [], .cp, none⟩,
               ⟨(some 16), [], [.t 15], [], [], .nilck, none⟩,
               ⟨(some 17), [], [.t 16], [], [], .faddr 2, none⟩,
               ⟨(some 18), [], [.t 17], [0], [], .load false 1, none⟩,
               ⟨(some 19), [], [.t 18, .c (.int .i64 1)], [], [], .bini .add, none⟩,
               ⟨(some 20), [], [.t 15], [], [], .nilck, none⟩,
               ⟨(some 21), [], [.t 20], [], [], .faddr 2, none⟩,
               ⟨none, [19], [.t 21, .t 19], [], [0], .store false 1, none⟩] [15, 16, 17, 18, 19, 20, 21] [])
            (.seq
              (.reg [⟨(some 4), [], [.c (.int .i64 0)], [], [], .cp, none⟩] [] [])
              .ret)))))) }

def H_pref20_Disk_Cut : Hints := [(0, { ops := [(7, { mr := [0] })], kt := [4, 5, 6, 7, 8, 9, 10, 11, 12, 13], kb := [] }),
  (1, { ops := [(4, { mr := [0] }), (9, { mw := [0] })], kt := [15, 16, 17, 18, 19, 20, 21, 22, 23], kb := [] })]
def c_pref20_Disk_Cut (F : Nat → FuncId) : AFun := { nparams := 2, ntmps := 24, results := [], body :=
  (.seq
    (.reg [⟨(some 4), [], [.t 1], [], [], .cp, none⟩,
       ⟨(some 5), [], [.t 4, .c (.int .i64 0)], [], [], .bini .geq, none⟩,
       ⟨(some 6), [], [.t 5], [], [], .cp, none⟩,
       ⟨(some 7), [], [.t 1], [], [], .cp, some (6, true)⟩,
       ⟨(some 8), [], [.t 0], [], [], .cp, some (6, true)⟩,
       ⟨(some 9), [], [.t 8], [], [], .nilck, some (6, true)⟩,
       ⟨(some 10), [], [.t 9], [], [], .faddr 0, some (6, true)⟩,
       ⟨(some 11), [], [.t 10], [0], [], .load false 1, some (6, true)⟩,
       ⟨(some 12), [], [.t 11], [], [], .len true, some (6, true)⟩,
       ⟨(some 13), [], [.t 7, .t 12], [], [], .bini .lss, some (6, true)⟩,
       ⟨(some 14), [], [.t 6, .t 13, .c (.bool false)], [], [], .pick, none⟩] [4, 5, 6, 7, 8, 9, 10, 11, 12, 13] [])
    (.cond (.t 14)
      (.reg [⟨(some 15), [], [.t 0], [], [], .cp, none⟩,
         ⟨(some 16), [], [.t 0], [], [], .cp, none⟩,
         ⟨(some 17), [], [.t 16], [], [], .nilck, none⟩,
         ⟨(some 18), [], [.t 17], [], [], .faddr 0, none⟩,
         ⟨(some 19), [], [.t 18], [0], [], .load false 1, none⟩,
         ⟨(some 20), [], [.t 1], [], [], .cp, none⟩,
         ⟨(some 21), [], [.t 19, .t 20], [], [], .slices false true, none⟩,
         ⟨(some 22), [], [.t 15], [], [], .nilck, none⟩,
         ⟨(some 23), [], [.t 22], [], [], .faddr 0, none⟩,
         ⟨none, [21], [.t 23, .t 21], [], [0], .store false 1, none⟩] [15, 16, 17, 18, 19, 20, 21, 22, 23] [])
      .skip)) }

end Go.AR

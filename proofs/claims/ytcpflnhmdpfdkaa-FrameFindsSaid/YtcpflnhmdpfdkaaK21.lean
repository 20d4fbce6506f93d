import Derived.Test.YtcpflnhmdpfdkaaComp
import Derived.Test.YtcpflnhmdpfdkaaNames
set_option linter.all false
/-! Codes, printed by program. -/
namespace Go.AR
def H_plaw21_FrameTells : Hints := [(1, { ops := [], kt := [15, 16, 17, 18, 19, 20, 21], kb := [] }),
  (2, { ops := [], kt := [23], kb := [] }),
  (3, { ops := [], kt := [24, 25, 26, 27, 28, 29], kb := [] }),
  (4, { ops := [], kt := [30, 31, 32, 33, 34, 35], kb := [] }),
  (5, { ops := [], kt := [36, 37, 38, 39, 40], kb := [] }),
  (6, { ops := [], kt := [41, 42, 43, 44, 45], kb := [] }),
  (7, { ops := [], kt := [46, 47, 48, 49, 50, 51, 52, 53, 54, 55, 56, 57, 58, 59, 60, 61, 62, 63, 64, 65, 66, 67, 68, 69, 70, 71, 72, 73, 74, 75, 76, 77, 78], kb := [] })]
def c_plaw21_FrameTells (F : Nat → FuncId) : AFun := { nparams := 2, ntmps := 79, results := [.tmp 4], body :=
  (.seq
    (.reg [⟨(some 4), [], [.c (.bool false)], [], [], .cp, none⟩] [] [])
    (.seq
      (.seq
        (.reg [⟨(some 15), [], [.t 0], [], [], .cp, none⟩,
           ⟨(some 16), [], [.t 15], [], [], .len true, none⟩,
           ⟨(some 17), [], [.t 16, .c (.int .i64 2000)], [], [], .bini .gtr, none⟩,
           ⟨(some 18), [], [.t 17], [], [], .cp, none⟩,
           ⟨(some 19), [], [.t 1], [], [], .cp, some (18, false)⟩,
           ⟨(some 20), [], [.t 19], [], [], .len true, some (18, false)⟩,
           ⟨(some 21), [], [.t 20, .c (.int .i64 2000)], [], [], .bini .gtr, some (18, false)⟩,
           ⟨(some 22), [], [.t 18, .c (.bool true), .t 21], [], [], .pick, none⟩] [15, 16, 17, 18, 19, 20, 21] [])
        (.cond (.t 22)
          (.seq
            (.reg [⟨(some 23), [], [.c (.fn (F n_plaw21_awake))], [], [], .call 0 false, none⟩,
               ⟨(some 4), [23], [.t 23], [], [], .mv, none⟩] [23] [])
            .ret)
          .skip))
      (.seq
        (.reg [⟨(some 25), [], [.t 1], [], [], .cp, none⟩,
           ⟨(some 26), [], [.c (.fn (F n_frame_Cut)), .t 25], [], [], .call 0 false, none⟩,
           ⟨(some 24), [], [.t 26], [], [], .cp, none⟩,
           ⟨(some 27), [], [.t 24], [], [], .extract 0, none⟩,
           ⟨(some 28), [], [.t 24], [], [], .extract 1, none⟩,
           ⟨(some 29), [], [.t 24], [], [], .extract 2, none⟩,
           ⟨(some 5), [27], [.t 27], [], [], .mv, none⟩,
           ⟨(some 6), [28], [.t 28], [], [], .mv, none⟩,
           ⟨(some 7), [29], [.t 29], [], [], .mv, none⟩] [24, 25, 26, 27, 28, 29] [])
        (.seq
          (.reg [⟨(some 31), [], [.t 1], [], [], .cp, none⟩,
             ⟨(some 32), [], [.c (.fn (F n_pref21_Cut)), .t 31], [], [], .call 0 false, none⟩,
             ⟨(some 30), [], [.t 32], [], [], .cp, none⟩,
             ⟨(some 33), [], [.t 30], [], [], .extract 0, none⟩,
             ⟨(some 34), [], [.t 30], [], [], .extract 1, none⟩,
             ⟨(some 35), [], [.t 30], [], [], .extract 2, none⟩,
             ⟨(some 8), [33], [.t 33], [], [], .mv, none⟩,
             ⟨(some 9), [34], [.t 34], [], [], .mv, none⟩,
             ⟨(some 10), [35], [.t 35], [], [], .mv, none⟩] [30, 31, 32, 33, 34, 35] [])
          (.seq
            (.reg [⟨(some 37), [], [.t 1], [], [], .cp, none⟩,
               ⟨(some 38), [], [.c (.fn (F n_frame_Scan)), .t 37], [], [], .call 0 false, none⟩,
               ⟨(some 36), [], [.t 38], [], [], .cp, none⟩,
               ⟨(some 39), [], [.t 36], [], [], .extract 0, none⟩,
               ⟨(some 40), [], [.t 36], [], [], .extract 1, none⟩,
               ⟨(some 11), [39], [.t 39], [], [], .mv, none⟩,
               ⟨(some 12), [40], [.t 40], [], [], .mv, none⟩] [36, 37, 38, 39, 40] [])
            (.seq
              (.reg [⟨(some 42), [], [.t 1], [], [], .cp, none⟩,
                 ⟨(some 43), [], [.c (.fn (F n_pref21_Scan)), .t 42], [], [], .call 0 false, none⟩,
                 ⟨(some 41), [], [.t 43], [], [], .cp, none⟩,
                 ⟨(some 44), [], [.t 41], [], [], .extract 0, none⟩,
                 ⟨(some 45), [], [.t 41], [], [], .extract 1, none⟩,
                 ⟨(some 13), [44], [.t 44], [], [], .mv, none⟩,
                 ⟨(some 14), [45], [.t 45], [], [], .mv, none⟩] [41, 42, 43, 44, 45] [])
              (.seq
                (.reg [⟨(some 46), [], [.t 0], [], [], .cp, none⟩,
                   ⟨(some 47), [], [.c (.fn (F n_frame_Of)), .t 46], [], [], .call 0 false, none⟩,
                   ⟨(some 48), [], [.t 0], [], [], .cp, none⟩,
                   ⟨(some 49), [], [.c (.fn (F n_pref21_Of)), .t 48], [], [], .call 0 false, none⟩,
                   ⟨(some 50), [], [.t 47, .t 49], [], [], .bins .eql, none⟩,
                   ⟨(some 51), [], [.t 50], [], [], .cp, none⟩,
                   ⟨(some 52), [], [.t 5], [], [], .cp, some (51, true)⟩,
                   ⟨(some 53), [], [.t 8], [], [], .cp, some (51, true)⟩,
                   ⟨(some 54), [], [.t 52, .t 53], [], [], .bins .eql, some (51, true)⟩,
                   ⟨(some 55), [], [.t 51, .t 54, .c (.bool false)], [], [], .pick, none⟩,
                   ⟨(some 56), [], [.t 55], [], [], .cp, none⟩,
                   ⟨(some 57), [], [.t 6], [], [], .cp, some (56, true)⟩,
                   ⟨(some 58), [], [.t 9], [], [], .cp, some (56, true)⟩,
                   ⟨(some 59), [], [.t 57, .t 58], [], [], .bins .eql, some (56, true)⟩,
                   ⟨(some 60), [], [.t 56, .t 59, .c (.bool false)], [], [], .pick, none⟩,
                   ⟨(some 61), [], [.t 60], [], [], .cp, none⟩,
                   ⟨(some 62), [], [.t 7], [], [], .cp, some (61, true)⟩,
                   ⟨(some 63), [], [.t 10], [], [], .cp, some (61, true)⟩,
                   ⟨(some 64), [], [.t 62, .t 63], [], [], .bini .eql, some (61, true)⟩,
                   ⟨(some 65), [], [.t 61, .t 64, .c (.bool false)], [], [], .pick, none⟩,
                   ⟨(some 66), [], [.t 65], [], [], .cp, none⟩,
                   ⟨(some 67), [], [.t 11], [], [], .cp, some (66, true)⟩,
                   ⟨(some 68), [], [.t 13], [], [], .cp, some (66, true)⟩,
                   ⟨(some 69), [], [.c (.fn (F n_pref03_Same)), .t 67, .t 68], [], [], .call 0 false, some (66, true)⟩,
                   ⟨(some 70), [], [.t 66, .t 69, .c (.bool false)], [], [], .pick, none⟩,
                   ⟨(some 71), [], [.t 70], [], [], .cp, none⟩,
                   ⟨(some 72), [], [.t 12], [], [], .cp, some (71, true)⟩,
                   ⟨(some 73), [], [.t 14], [], [], .cp, some (71, true)⟩,
                   ⟨(some 74), [], [.t 72, .t 73], [], [], .bini .eql, some (71, true)⟩,
                   ⟨(some 75), [], [.t 71, .t 74, .c (.bool false)], [], [], .pick, none⟩,
                   ⟨(some 76), [], [.t 75], [], [], .cp, none⟩,
                   ⟨(some 77), [], [.c (.fn (F n_plaw21_awake))], [], [], .call 0 false, some (76, true)⟩,
                   ⟨(some 78), [], [.t 76, .t 77, .c (.bool false)], [], [], .pick, none⟩,
                   ⟨(some 4), [78], [.t 78], [], [], .mv, none⟩] [46, 47, 48, 49, 50, 51, 52, 53, 54, 55, 56, 57, 58, 59, 60, 61, 62, 63, 64, 65, 66, 67, 68, 69, 70, 71, 72, 73, 74, 75, 76, 77, 78] [])
                .ret))))))) }

def H_plaw21_FrameBack : Hints := [(1, { ops := [], kt := [7, 8, 9, 10, 11], kb := [] }),
  (2, { ops := [], kt := [12], kb := [] }),
  (3, { ops := [], kt := [14], kb := [] }),
  (4, { ops := [], kt := [15, 16, 17, 18, 19], kb := [] }),
  (5, { ops := [], kt := [20, 21, 22, 23, 24, 25, 26, 27, 28, 29, 30, 31], kb := [] })]
def c_plaw21_FrameBack (F : Nat → FuncId) : AFun := { nparams := 1, ntmps := 32, results := [.tmp 2], body :=
  (.seq
    (.reg [⟨(some 2), [], [.c (.bool false)], [], [], .cp, none⟩] [] [])
    (.seq
      (.reg [⟨(some 8), [], [.t 0], [], [], .cp, none⟩,
         ⟨(some 9), [], [.c (.fn (F n_plaw21_joined)), .t 8], [], [], .call 0 false, none⟩,
         ⟨(some 7), [], [.t 9], [], [], .cp, none⟩,
         ⟨(some 10), [], [.t 7], [], [], .extract 0, none⟩,
         ⟨(some 11), [], [.t 7], [], [], .extract 1, none⟩,
         ⟨(some 3), [10], [.t 10], [], [], .mv, none⟩,
         ⟨(some 4), [11], [.t 11], [], [], .mv, none⟩] [7, 8, 9, 10, 11] [])
      (.seq
        (.seq
          (.reg [⟨(some 12), [], [.t 4], [], [], .cp, none⟩,
             ⟨(some 13), [], [.t 12], [], [], .not, none⟩] [12] [])
          (.cond (.t 13)
            (.seq
              (.reg [⟨(some 14), [], [.c (.fn (F n_plaw21_awake))], [], [], .call 0 false, none⟩,
                 ⟨(some 2), [14], [.t 14], [], [], .mv, none⟩] [14] [])
              .ret)
            .skip))
        (.seq
          (.reg [⟨(some 16), [], [.t 3], [], [], .cp, none⟩,
             ⟨(some 17), [], [.c (.fn (F n_frame_Scan)), .t 16], [], [], .call 0 false, none⟩,
             ⟨(some 15), [], [.t 17], [], [], .cp, none⟩,
             ⟨(some 18), [], [.t 15], [], [], .extract 0, none⟩,
             ⟨(some 19), [], [.t 15], [], [], .extract 1, none⟩,
             ⟨(some 5), [18], [.t 18], [], [], .mv, none⟩,
             ⟨(some 6), [19], [.t 19], [], [], .mv, none⟩] [15, 16, 17, 18, 19] [])
          (.seq
            (.reg [⟨(some 20), [], [.t 0], [], [], .cp, none⟩,
               ⟨(some 21), [], [.t 5], [], [], .cp, none⟩,
               ⟨(some 22), [], [.c (.fn (F n_pref03_Same)), .t 20, .t 21], [], [], .call 0 false, none⟩,
               ⟨(some 23), [], [.t 22], [], [], .cp, none⟩,
               ⟨(some 24), [], [.t 6], [], [], .cp, some (23, true)⟩,
               ⟨(some 25), [], [.t 3], [], [], .cp, some (23, true)⟩,
               ⟨(some 26), [], [.t 25], [], [], .len true, some (23, true)⟩,
               ⟨(some 27), [], [.t 24, .t 26], [], [], .bini .eql, some (23, true)⟩,
               ⟨(some 28), [], [.t 23, .t 27, .c (.bool false)], [], [], .pick, none⟩,
               ⟨(some 29), [], [.t 28], [], [], .cp, none⟩,
               ⟨(some 30), [], [.c (.fn (F n_plaw21_awake))], [], [], .call 0 false, some (29, true)⟩,
               ⟨(some 31), [], [.t 29, .t 30, .c (.bool false)], [], [], .pick, none⟩,
               ⟨(some 2), [31], [.t 31], [], [], .mv, none⟩] [20, 21, 22, 23, 24, 25, 26, 27, 28, 29, 30, 31] [])
            .ret))))) }

def H_plaw21_FrameTorn : Hints := [(1, { ops := [], kt := [11, 12, 13, 14, 15], kb := [] }),
  (2, { ops := [], kt := [16, 17, 18, 19, 20, 21, 22, 23, 24, 25, 26], kb := [] }),
  (3, { ops := [], kt := [28], kb := [] }),
  (4, { ops := [], kt := [29, 30, 31, 32, 33, 34, 35], kb := [] }),
  (6, { ops := [], kt := [36, 37, 38, 39, 40, 41, 42, 43, 44, 45, 46, 47, 48, 49, 50], kb := [] }),
  (7, { ops := [], kt := [52, 53, 54, 55, 56, 57, 58, 59], kb := [] }),
  (8, { ops := [], kt := [60, 61], kb := [] }),
  (9, { ops := [], kt := [62, 63, 64, 65, 66, 67, 68, 69, 70, 71, 72, 73, 74], kb := [] }),
  (1000001, { ops := [], kt := [36, 37, 38, 39, 40, 41, 42, 43, 44, 45, 46, 47, 48, 49, 50, 51, 52, 53, 54, 55, 56, 57, 58, 59, 60, 61], kb := [] })]
def c_plaw21_FrameTorn (F : Nat → FuncId) : AFun := { nparams := 2, ntmps := 75, results := [.tmp 4], body :=
  (.seq
    (.reg [⟨(some 4), [], [.c (.bool false)], [], [], .cp, none⟩] [] [])
    (.seq
      (.reg [⟨(some 12), [], [.t 0], [], [], .cp, none⟩,
         ⟨(some 13), [], [.c (.fn (F n_plaw21_joined)), .t 12], [], [], .call 0 false, none⟩,
         ⟨(some 11), [], [.t 13], [], [], .cp, none⟩,
         ⟨(some 14), [], [.t 11], [], [], .extract 0, none⟩,
         ⟨(some 15), [], [.t 11], [], [], .extract 1, none⟩,
         ⟨(some 5), [14], [.t 14], [], [], .mv, none⟩,
         ⟨(some 6), [15], [.t 15], [], [], .mv, none⟩] [11, 12, 13, 14, 15] [])
      (.seq
        (.seq
          (.reg [⟨(some 16), [], [.t 6], [], [], .cp, none⟩,
             ⟨(some 17), [], [.t 16], [], [], .not, none⟩,
             ⟨(some 18), [], [.t 17], [], [], .cp, none⟩,
             ⟨(some 19), [], [.t 1], [], [], .cp, some (18, false)⟩,
             ⟨(some 20), [], [.t 19, .c (.int .i64 0)], [], [], .bini .lss, some (18, false)⟩,
             ⟨(some 21), [], [.t 18, .c (.bool true), .t 20], [], [], .pick, none⟩,
             ⟨(some 22), [], [.t 21], [], [], .cp, none⟩,
             ⟨(some 23), [], [.t 1], [], [], .cp, some (22, false)⟩,
             ⟨(some 24), [], [.t 5], [], [], .cp, some (22, false)⟩,
             ⟨(some 25), [], [.t 24], [], [], .len true, some (22, false)⟩,
             ⟨(some 26), [], [.t 23, .t 25], [], [], .bini .gtr, some (22, false)⟩,
             ⟨(some 27), [], [.t 22, .c (.bool true), .t 26], [], [], .pick, none⟩] [16, 17, 18, 19, 20, 21, 22, 23, 24, 25, 26] [])
          (.cond (.t 27)
            (.seq
              (.reg [⟨(some 28), [], [.c (.fn (F n_plaw21_awake))], [], [], .call 0 false, none⟩,
                 ⟨(some 4), [28], [.t 28], [], [], .mv, none⟩] [28] [])
              .ret)
            .skip))
        (.seq
          (.reg [⟨(some 30), [], [.t 5], [], [], .cp, none⟩,
             ⟨(some 31), [], [.t 1], [], [], .cp, none⟩,
             ⟨(some 32), [], [.t 30, .t 31], [], [], .slices false true, none⟩,
             ⟨(some 33), [], [.c (.fn (F n_frame_Scan)), .t 32], [], [], .call 0 false, none⟩,
             ⟨(some 29), [], [.t 33], [], [], .cp, none⟩,
             ⟨(some 34), [], [.t 29], [], [], .extract 0, none⟩,
             ⟨(some 35), [], [.t 29], [], [], .extract 1, none⟩,
             ⟨(some 7), [34], [.t 34], [], [], .mv, none⟩,
             ⟨(some 8), [35], [.t 35], [], [], .mv, none⟩] [29, 30, 31, 32, 33, 34, 35] [])
          (.seq
            (.reg [⟨(some 9), [], [.c (.int .i64 0)], [], [], .cp, none⟩,
               ⟨(some 10), [], [.c (.int .i64 0)], [], [], .cp, none⟩] [] [])
            (.seq
              (.block 0
                (.loop
                  (.seq
                    (.seq
                      (.reg [⟨(some 36), [], [.t 9], [], [], .cp, none⟩,
                         ⟨(some 37), [], [.t 0], [], [], .cp, none⟩,
                         ⟨(some 38), [], [.t 37], [], [], .len false, none⟩,
                         ⟨(some 39), [], [.t 36, .t 38], [], [], .bini .lss, none⟩,
                         ⟨(some 40), [], [.t 39], [], [], .cp, none⟩,
                         ⟨(some 41), [], [.t 10], [], [], .cp, some (40, true)⟩,
                         ⟨(some 42), [], [.t 0], [], [], .cp, some (40, true)⟩,
                         ⟨(some 43), [], [.t 9], [], [], .cp, some (40, true)⟩,
                         ⟨(some 44), [], [.t 42, .t 43], [], [], .iaddr none 1, some (40, true)⟩,
                         ⟨(some 45), [], [.t 44], [], [], .load false 1, some (40, true)⟩,
                         ⟨(some 46), [], [.c (.fn (F n_frame_Of)), .t 45], [], [], .call 0 false, some (40, true)⟩,
                         ⟨(some 47), [], [.t 46], [], [], .len true, some (40, true)⟩,
                         ⟨(some 48), [], [.t 41, .t 47], [], [], .bini .add, some (40, true)⟩,
                         ⟨(some 49), [], [.t 1], [], [], .cp, some (40, true)⟩,
                         ⟨(some 50), [], [.t 48, .t 49], [], [], .bini .leq, some (40, true)⟩,
                         ⟨(some 51), [], [.t 40, .t 50, .c (.bool false)], [], [], .pick, none⟩] [36, 37, 38, 39, 40, 41, 42, 43, 44, 45, 46, 47, 48, 49, 50] [])
                      (.cond (.t 51)
                        .skip
                        (.exit 0)))
                    (.seq
                      (.block 1
                        (.seq
                          (.reg [⟨(some 52), [], [.t 10], [], [], .cp, none⟩,
                             ⟨(some 53), [], [.t 0], [], [], .cp, none⟩,
                             ⟨(some 54), [], [.t 9], [], [], .cp, none⟩,
                             ⟨(some 55), [], [.t 53, .t 54], [], [], .iaddr none 1, none⟩,
                             ⟨(some 56), [], [.t 55], [], [], .load false 1, none⟩,
                             ⟨(some 57), [], [.c (.fn (F n_frame_Of)), .t 56], [], [], .call 0 false, none⟩,
                             ⟨(some 58), [], [.t 57], [], [], .len true, none⟩,
                             ⟨(some 59), [], [.t 52, .t 58], [], [], .bini .add, none⟩,
                             ⟨(some 10), [59], [.t 59], [], [], .mv, none⟩] [52, 53, 54, 55, 56, 57, 58, 59] [])
                          (.reg [⟨(some 60), [], [.t 9], [], [], .cp, none⟩,
                             ⟨(some 61), [], [.t 60, .c (.int .i64 1)], [], [], .bini .add, none⟩,
                             ⟨(some 9), [61], [.t 61], [], [], .mv, none⟩] [60, 61] [])))
                      (.reg [] [36, 37, 38, 39, 40, 41, 42, 43, 44, 45, 46, 47, 48, 49, 50, 51, 52, 53, 54, 55, 56, 57, 58, 59, 60, 61] [])))))
              (.seq
                (.reg [⟨(some 62), [], [.t 7], [], [], .cp, none⟩,
                   ⟨(some 63), [], [.t 0], [], [], .cp, none⟩,
                   ⟨(some 64), [], [.t 9], [], [], .cp, none⟩,
                   ⟨(some 65), [], [.t 63, .t 64], [], [], .slice 1 false true false, none⟩,
                   ⟨(some 66), [], [.c (.fn (F n_pref03_Same)), .t 62, .t 65], [], [], .call 0 false, none⟩,
                   ⟨(some 67), [], [.t 66], [], [], .cp, none⟩,
                   ⟨(some 68), [], [.t 8], [], [], .cp, some (67, true)⟩,
                   ⟨(some 69), [], [.t 10], [], [], .cp, some (67, true)⟩,
                   ⟨(some 70), [], [.t 68, .t 69], [], [], .bini .eql, some (67, true)⟩,
                   ⟨(some 71), [], [.t 67, .t 70, .c (.bool false)], [], [], .pick, none⟩,
                   ⟨(some 72), [], [.t 71], [], [], .cp, none⟩,
                   ⟨(some 73), [], [.c (.fn (F n_plaw21_awake))], [], [], .call 0 false, some (72, true)⟩,
                   ⟨(some 74), [], [.t 72, .t 73, .c (.bool false)], [], [], .pick, none⟩,
                   ⟨(some 4), [74], [.t 74], [], [], .mv, none⟩] [62, 63, 64, 65, 66, 67, 68, 69, 70, 71, 72, 73, 74] [])
                .ret))))))) }

def H_plaw21_FrameFinds : Hints := [(1, { ops := [], kt := [19, 20, 21, 22, 23], kb := [] }),
  (2, { ops := [], kt := [24, 25, 26, 27, 28, 29, 30, 31, 32, 33], kb := [] }),
  (3, { ops := [], kt := [35], kb := [] }),
  (4, { ops := [], kt := [36, 37], kb := [] }),
  (5, { ops := [], kt := [38, 39, 40, 41, 42, 43], kb := [] }),
  (6, { ops := [], kt := [44, 45, 46, 47, 48, 49, 50, 51], kb := [] }),
  (7, { ops := [], kt := [53], kb := [] }),
  (8, { ops := [], kt := [54, 55, 56, 57], kb := [] }),
  (9, { ops := [], kt := [14, 15, 58, 59, 60, 61, 62, 63], kb := [] }),
  (10, { ops := [], kt := [64, 65, 66, 67, 68, 69, 70], kb := [] }),
  (11, { ops := [], kt := [71, 72, 73, 74, 75, 76, 77, 78, 79, 80, 81, 82, 83, 84, 85, 86], kb := [] })]
def c_plaw21_FrameFinds (F : Nat → FuncId) : AFun := { nparams := 4, ntmps := 87, results := [.tmp 8], body :=
  (.seq
    (.reg [⟨(some 8), [], [.c (.bool false)], [], [], .cp, none⟩] [] [])
    (.seq
      (.reg [⟨(some 20), [], [.t 0], [], [], .cp, none⟩,
         ⟨(some 21), [], [.c (.fn (F n_plaw21_joined)), .t 20], [], [], .call 0 false, none⟩,
         ⟨(some 19), [], [.t 21], [], [], .cp, none⟩,
         ⟨(some 22), [], [.t 19], [], [], .extract 0, none⟩,
         ⟨(some 23), [], [.t 19], [], [], .extract 1, none⟩,
         ⟨(some 9), [22], [.t 22], [], [], .mv, none⟩,
         ⟨(some 10), [23], [.t 23], [], [], .mv, none⟩] [19, 20, 21, 22, 23] [])
      (.seq
        (.seq
          (.reg [⟨(some 24), [], [.t 10], [], [], .cp, none⟩,
             ⟨(some 25), [], [.t 24], [], [], .not, none⟩,
             ⟨(some 26), [], [.t 25], [], [], .cp, none⟩,
             ⟨(some 27), [], [.t 1], [], [], .cp, some (26, false)⟩,
             ⟨(some 28), [], [.t 27], [], [], .len true, some (26, false)⟩,
             ⟨(some 29), [], [.t 28, .c (.int .i64 500)], [], [], .bini .gtr, some (26, false)⟩,
             ⟨(some 30), [], [.t 26, .c (.bool true), .t 29], [], [], .pick, none⟩,
             ⟨(some 31), [], [.t 30], [], [], .cp, none⟩,
             ⟨(some 32), [], [.t 3], [], [], .cp, some (31, false)⟩,
             ⟨(some 33), [], [.t 32, .c (.int .u8 0)], [], [], .bini .eql, some (31, false)⟩,
             ⟨(some 34), [], [.t 31, .c (.bool true), .t 33], [], [], .pick, none⟩] [24, 25, 26, 27, 28, 29, 30, 31, 32, 33] [])
          (.cond (.t 34)
            (.seq
              (.reg [⟨(some 35), [], [.c (.fn (F n_plaw21_awake))], [], [], .call 0 false, none⟩,
                 ⟨(some 8), [35], [.t 35], [], [], .mv, none⟩] [35] [])
              .ret)
            .skip))
        (.seq
          (.reg [⟨(some 36), [], [.t 1], [], [], .cp, none⟩,
             ⟨(some 37), [], [.c (.fn (F n_frame_Of)), .t 36], [], [], .call 0 false, none⟩,
             ⟨(some 11), [37], [.t 37], [], [], .mv, none⟩] [36, 37] [])
          (.seq
            (.reg [⟨(some 38), [], [.t 11], [], [], .cp, none⟩,
               ⟨(some 39), [], [.t 38], [], [], .len true, none⟩,
               ⟨(some 40), [], [.t 39, .c (.int .i64 4)], [], [], .bini .sub, none⟩,
               ⟨(some 41), [], [.t 1], [], [], .cp, none⟩,
               ⟨(some 42), [], [.t 41], [], [], .len true, none⟩,
               ⟨(some 43), [], [.t 40, .t 42], [], [], .bini .sub, none⟩,
               ⟨(some 12), [43], [.t 43], [], [], .mv, none⟩] [38, 39, 40, 41, 42, 43] [])
            (.seq
              (.seq
                (.reg [⟨(some 44), [], [.t 2], [], [], .cp, none⟩,
                   ⟨(some 45), [], [.t 12], [], [], .cp, none⟩,
                   ⟨(some 46), [], [.t 44, .t 45], [], [], .bini .lss, none⟩,
                   ⟨(some 47), [], [.t 46], [], [], .cp, none⟩,
                   ⟨(some 48), [], [.t 2], [], [], .cp, some (47, false)⟩,
                   ⟨(some 49), [], [.t 11], [], [], .cp, some (47, false)⟩,
                   ⟨(some 50), [], [.t 49], [], [], .len true, some (47, false)⟩,
                   ⟨(some 51), [], [.t 48, .t 50], [], [], .bini .geq, some (47, false)⟩,
                   ⟨(some 52), [], [.t 47, .c (.bool true), .t 51], [], [], .pick, none⟩] [44, 45, 46, 47, 48, 49, 50, 51] [])
                (.cond (.t 52)
                  (.seq
                    (.reg [⟨(some 53), [], [.c (.fn (F n_plaw21_awake))], [], [], .call 0 false, none⟩,
                       ⟨(some 8), [53], [.t 53], [], [], .mv, none⟩] [53] [])
                    .ret)
                  .skip))
              (.seq
                (.reg [⟨(some 54), [], [.t 11], [], [], .cp, none⟩,
                   ⟨(some 55), [], [.t 2], [], [], .cp, none⟩,
                   ⟨(some 56), [], [.t 3], [], [], .cp, none⟩,
                   ⟨(some 57), [], [.c (.fn (F n_pref01_Changed)), .t 54, .t 55, .t 56], [], [], .call 0 false, none⟩,
                   ⟨(some 13), [57], [.t 57], [], [], .mv, none⟩] [54, 55, 56, 57] [])
                (.seq
                  (.reg [⟨(some 59), [], [.t 13], [], [], .cp, none⟩,
                     ⟨(some 60), [], [.c (.fn (F n_frame_Cut)), .t 59], [], [], .call 0 false, none⟩,
                     ⟨(some 58), [], [.t 60], [], [], .cp, none⟩,
                     ⟨(some 61), [], [.t 58], [], [], .extract 0, none⟩,
                     ⟨(some 62), [], [.t 58], [], [], .extract 1, none⟩,
                     ⟨(some 63), [], [.t 58], [], [], .extract 2, none⟩,
                     ⟨(some 14), [61], [.t 61], [], [], .mv, none⟩,
                     ⟨(some 15), [62], [.t 62], [], [], .mv, none⟩,
                     ⟨(some 16), [63], [.t 63], [], [], .mv, none⟩] [14, 15, 58, 59, 60, 61, 62, 63] [])
                  (.seq
                    (.reg [⟨(some 65), [], [.t 9], [], [], .cp, none⟩,
                       ⟨(some 66), [], [.t 13], [], [], .cp, none⟩,
                       ⟨(some 67), [], [.t 65, .t 66], [], [], .bins .add, none⟩,
                       ⟨(some 68), [], [.c (.fn (F n_frame_Scan)), .t 67], [], [], .call 0 false, none⟩,
                       ⟨(some 64), [], [.t 68], [], [], .cp, none⟩,
                       ⟨(some 69), [], [.t 64], [], [], .extract 0, none⟩,
                       ⟨(some 70), [], [.t 64], [], [], .extract 1, none⟩,
                       ⟨(some 17), [69], [.t 69], [], [], .mv, none⟩,
                       ⟨(some 18), [70], [.t 70], [], [], .mv, none⟩] [64, 65, 66, 67, 68, 69, 70] [])
                    (.seq
                      (.reg [⟨(some 71), [], [.t 16], [], [], .cp, none⟩,
                         ⟨(some 72), [], [.t 71, .c (.int .i64 5)], [], [], .bini .eql, none⟩,
                         ⟨(some 73), [], [.t 72], [], [], .cp, none⟩,
                         ⟨(some 74), [], [.t 17], [], [], .cp, some (73, true)⟩,
                         ⟨(some 75), [], [.t 0], [], [], .cp, some (73, true)⟩,
                         ⟨(some 76), [], [.c (.fn (F n_pref03_Same)), .t 74, .t 75], [], [], .call 0 false, some (73, true)⟩,
                         ⟨(some 77), [], [.t 73, .t 76, .c (.bool false)], [], [], .pick, none⟩,
                         ⟨(some 78), [], [.t 77], [], [], .cp, none⟩,
                         ⟨(some 79), [], [.t 18], [], [], .cp, some (78, true)⟩,
                         ⟨(some 80), [], [.t 9], [], [], .cp, some (78, true)⟩,
                         ⟨(some 81), [], [.t 80], [], [], .len true, some (78, true)⟩,
                         ⟨(some 82), [], [.t 79, .t 81], [], [], .bini .eql, some (78, true)⟩,
                         ⟨(some 83), [], [.t 78, .t 82, .c (.bool false)], [], [], .pick, none⟩,
                         ⟨(some 84), [], [.t 83], [], [], .cp, none⟩,
                         ⟨(some 85), [], [.c (.fn (F n_plaw21_awake))], [], [], .call 0 false, some (84, true)⟩,
                         ⟨(some 86), [], [.t 84, .t 85, .c (.bool false)], [], [], .pick, none⟩,
                         ⟨(some 8), [86], [.t 86], [], [], .mv, none⟩] [71, 72, 73, 74, 75, 76, 77, 78, 79, 80, 81, 82, 83, 84, 85, 86] [])
                      .ret)))))))))) }

def H_plaw21_awake : Hints := [(1, { ops := [], kt := [4, 5, 6, 7, 8, 9, 10], kb := [] }),
  (2, { ops := [], kt := [11, 12, 13, 14, 15, 16, 17, 18, 19, 20, 21, 22, 23, 24, 25], kb := [] })]
def c_plaw21_awake (F : Nat → FuncId) : AFun := { nparams := 0, ntmps := 26, results := [.tmp 0], body :=
  (.seq
    (.reg [⟨(some 0), [], [.c (.bool false)], [], [], .cp, none⟩] [] [])
    (.seq
      (.reg [⟨(some 5), [], [.c (.fn (F n_frame_Of)), .c (.str [97, 98])], [], [], .call 0 false, none⟩,
         ⟨(some 6), [], [.t 5, .c (.str [120])], [], [], .bins .add, none⟩,
         ⟨(some 7), [], [.c (.fn (F n_frame_Cut)), .t 6], [], [], .call 0 false, none⟩,
         ⟨(some 4), [], [.t 7], [], [], .cp, none⟩,
         ⟨(some 8), [], [.t 4], [], [], .extract 0, none⟩,
         ⟨(some 9), [], [.t 4], [], [], .extract 1, none⟩,
         ⟨(some 10), [], [.t 4], [], [], .extract 2, none⟩,
         ⟨(some 1), [8], [.t 8], [], [], .mv, none⟩,
         ⟨(some 2), [9], [.t 9], [], [], .mv, none⟩,
         ⟨(some 3), [10], [.t 10], [], [], .mv, none⟩] [4, 5, 6, 7, 8, 9, 10] [])
      (.seq
        (.reg [⟨(some 11), [], [.c (.fn (F n_frame_Of)), .c (.str [])], [], [], .call 0 false, none⟩,
           ⟨(some 12), [], [.t 11], [], [], .len true, none⟩,
           ⟨(some 13), [], [.t 12, .c (.int .i64 5)], [], [], .bini .eql, none⟩,
           ⟨(some 14), [], [.t 13], [], [], .cp, none⟩,
           ⟨(some 15), [], [.t 3], [], [], .cp, some (14, true)⟩,
           ⟨(some 16), [], [.t 15, .c (.int .i64 0)], [], [], .bini .eql, some (14, true)⟩,
           ⟨(some 17), [], [.t 14, .t 16, .c (.bool false)], [], [], .pick, none⟩,
           ⟨(some 18), [], [.t 17], [], [], .cp, none⟩,
           ⟨(some 19), [], [.t 1], [], [], .cp, some (18, true)⟩,
           ⟨(some 20), [], [.t 19, .c (.str [97, 98])], [], [], .bins .eql, some (18, true)⟩,
           ⟨(some 21), [], [.t 18, .t 20, .c (.bool false)], [], [], .pick, none⟩,
           ⟨(some 22), [], [.t 21], [], [], .cp, none⟩,
           ⟨(some 23), [], [.t 2], [], [], .cp, some (22, true)⟩,
           ⟨(some 24), [], [.t 23, .c (.str [120])], [], [], .bins .eql, some (22, true)⟩,
           ⟨(some 25), [], [.t 22, .t 24, .c (.bool false)], [], [], .pick, none⟩,
           ⟨(some 0), [25], [.t 25], [], [], .mv, none⟩] [11, 12, 13, 14, 15, 16, 17, 18, 19, 20, 21, 22, 23, 24, 25] [])
        .ret))) }

def H_frame_Cut : Hints := [(1, { ops := [(1, { mw := [11], new := true })], kt := [10, 11], kb := [] }),
  (2, { ops := [(1, { mw := [11], nref := 1 })], kt := [12, 13], kb := [] }),
  (3, { ops := [(3, { mw := [11], nref := 1 })], kt := [14, 15, 16, 17, 18], kb := [] }),
  (4, { ops := [(1, { mw := [11], nref := 1 })], kt := [20, 21, 22], kb := [] }),
  (5, { ops := [(1, { mw := [11], nref := 1 })], kt := [23, 24], kb := [] }),
  (6, { ops := [], kt := [26, 27], kb := [] }),
  (8, { ops := [(3, { mw := [11], nref := 1 })], kt := [29, 30, 31, 32, 33], kb := [] }),
  (10, { ops := [], kt := [34, 35, 36, 37, 38, 39, 40, 41, 42, 43], kb := [] }),
  (11, { ops := [], kt := [44], kb := [] }),
  (13, { ops := [], kt := [46, 47, 48, 49, 50, 51, 52, 53, 54], kb := [] })]
def c_frame_Cut (F : Nat → FuncId) : AFun := { nparams := 1, ntmps := 55, results := [.tmp 2, .tmp 3, .tmp 4], body :=
  (.seq
    (.reg [⟨(some 2), [], [.c (.str [])], [], [], .cp, none⟩,
       ⟨(some 3), [], [.c (.str [])], [], [], .cp, none⟩,
       ⟨(some 4), [], [.c (.int .i64 0)], [], [], .cp, none⟩] [] [])
    (.seq
      (.reg [⟨(some 10), [], [.t 0], [], [], .cp, none⟩,
         ⟨(some 11), [], [.c (.fn (F n_pack_Open)), .t 10], [], [11], .call 0 true, none⟩,
         ⟨(some 5), [11], [.t 11], [], [], .mv, none⟩] [10, 11] [])
      (.seq
        (.reg [⟨(some 12), [], [.t 5], [], [], .cp, none⟩,
           ⟨(some 13), [], [.c (.fn (F n_pack_Reader_Int)), .t 12], [], [11], .call 1 false, none⟩,
           ⟨(some 6), [13], [.t 13], [], [], .mv, none⟩] [12, 13] [])
        (.seq
          (.reg [⟨(some 14), [], [.t 0], [], [], .cp, none⟩,
             ⟨(some 15), [], [.t 14], [], [], .len true, none⟩,
             ⟨(some 16), [], [.t 5], [], [], .cp, none⟩,
             ⟨(some 17), [], [.c (.fn (F n_pack_Reader_Left)), .t 16], [], [11], .call 1 false, none⟩,
             ⟨(some 18), [], [.t 15, .t 17], [], [], .bini .sub, none⟩,
             ⟨(some 7), [18], [.t 18], [], [], .mv, none⟩] [14, 15, 16, 17, 18] [])
          (.seq
            (.block 0
              (.seq
                (.reg [⟨(some 20), [], [.t 5], [], [], .cp, none⟩,
                   ⟨(some 21), [], [.c (.fn (F n_pack_Reader_Fault)), .t 20], [], [11], .call 1 false, none⟩,
                   ⟨(some 22), [], [.t 21, .c (.int .i64 0)], [], [], .bini .neq, none⟩,
                   ⟨(some 19), [22], [.t 22], [], [], .mv, none⟩] [20, 21, 22] [])
                (.cond (.t 19)
                  (.seq
                    (.reg [⟨(some 23), [], [.t 5], [], [], .cp, none⟩,
                       ⟨(some 24), [], [.c (.fn (F n_pack_Reader_Fault)), .t 23], [], [11], .call 1 false, none⟩,
                       ⟨(some 2), [], [.c (.str [])], [], [], .cp, none⟩,
                       ⟨(some 3), [], [.c (.str [])], [], [], .cp, none⟩,
                       ⟨(some 4), [24], [.t 24], [], [], .mv, none⟩] [23, 24] [])
                    .ret)
                  (.seq
                    (.reg [⟨(some 26), [], [.t 6], [], [], .cp, none⟩,
                       ⟨(some 27), [], [.t 26, .c (.int .i64 1048576)], [], [], .bini .gtr, none⟩,
                       ⟨(some 25), [27], [.t 27], [], [], .mv, none⟩] [26, 27] [])
                    (.cond (.t 25)
                      (.seq
                        (.reg [⟨(some 2), [], [.c (.str [])], [], [], .cp, none⟩,
                           ⟨(some 3), [], [.c (.str [])], [], [], .cp, none⟩,
                           ⟨(some 4), [], [.c (.int .i64 6)], [], [], .cp, none⟩] [] [])
                        .ret)
                      (.seq
                        (.reg [⟨(some 29), [], [.t 6], [], [], .cp, none⟩,
                           ⟨(some 30), [], [.t 29, .c (.int .i64 4)], [], [], .bini .add, none⟩,
                           ⟨(some 31), [], [.t 5], [], [], .cp, none⟩,
                           ⟨(some 32), [], [.c (.fn (F n_pack_Reader_Left)), .t 31], [], [11], .call 1 false, none⟩,
                           ⟨(some 33), [], [.t 30, .t 32], [], [], .bini .gtr, none⟩,
                           ⟨(some 28), [33], [.t 33], [], [], .mv, none⟩] [29, 30, 31, 32, 33] [])
                        (.cond (.t 28)
                          (.seq
                            (.reg [⟨(some 2), [], [.c (.str [])], [], [], .cp, none⟩,
                               ⟨(some 3), [], [.c (.str [])], [], [], .cp, none⟩,
                               ⟨(some 4), [], [.c (.int .i64 4)], [], [], .cp, none⟩] [] [])
                            .ret)
                          .skip)))))))
            (.seq
              (.reg [⟨(some 35), [], [.t 0], [], [], .cp, none⟩,
                 ⟨(some 36), [], [.t 7], [], [], .cp, none⟩,
                 ⟨(some 37), [], [.t 6], [], [], .cp, none⟩,
                 ⟨(some 38), [], [.t 36, .t 37], [], [], .bini .add, none⟩,
                 ⟨(some 39), [], [.t 38, .c (.int .i64 4)], [], [], .bini .add, none⟩,
                 ⟨(some 40), [], [.t 35, .t 39], [], [], .slices false true, none⟩,
                 ⟨(some 41), [], [.c (.fn (F n_sum_Open)), .t 40], [], [], .call 0 false, none⟩,
                 ⟨(some 34), [], [.t 41], [], [], .cp, none⟩,
                 ⟨(some 42), [], [.t 34], [], [], .extract 0, none⟩,
                 ⟨(some 43), [], [.t 34], [], [], .extract 1, none⟩,
                 ⟨(some 8), [42], [.t 42], [], [], .mv, none⟩,
                 ⟨(some 9), [43], [.t 43], [], [], .mv, none⟩] [34, 35, 36, 37, 38, 39, 40, 41, 42, 43] [])
              (.seq
                (.seq
                  (.reg [⟨(some 44), [], [.t 9], [], [], .cp, none⟩,
                     ⟨(some 45), [], [.t 44], [], [], .not, none⟩] [44] [])
                  (.cond (.t 45)
                    (.seq
                      (.reg [⟨(some 2), [], [.c (.str [])], [], [], .cp, none⟩,
                         ⟨(some 3), [], [.c (.str [])], [], [], .cp, none⟩,
                         ⟨(some 4), [], [.c (.int .i64 5)], [], [], .cp, none⟩] [] [])
                      .ret)
                    .skip))
                (.seq
                  (.reg [⟨(some 46), [], [.t 8], [], [], .cp, none⟩,
                     ⟨(some 47), [], [.t 7], [], [], .cp, none⟩,
                     ⟨(some 48), [], [.t 46, .t 47], [], [], .slices true false, none⟩,
                     ⟨(some 49), [], [.t 0], [], [], .cp, none⟩,
                     ⟨(some 50), [], [.t 7], [], [], .cp, none⟩,
                     ⟨(some 51), [], [.t 6], [], [], .cp, none⟩,
                     ⟨(some 52), [], [.t 50, .t 51], [], [], .bini .add, none⟩,
                     ⟨(some 53), [], [.t 52, .c (.int .i64 4)], [], [], .bini .add, none⟩,
                     ⟨(some 54), [], [.t 49, .t 53], [], [], .slices true false, none⟩,
                     ⟨(some 2), [48], [.t 48], [], [], .mv, none⟩,
                     ⟨(some 3), [54], [.t 54], [], [], .mv, none⟩,
                     ⟨(some 4), [], [.c (.int .i64 0)], [], [], .cp, none⟩] [46, 47, 48, 49, 50, 51, 52, 53, 54] [])
                  .ret)))))))) }

def H_pref21_Cut : Hints := [(1, { ops := [], kt := [8, 9, 10], kb := [] }),
  (2, { ops := [(1, { mw := [10], nref := 1 })], kt := [11, 12], kb := [] }),
  (3, { ops := [(3, { mr := [10] })], kt := [13, 14, 15, 16], kb := [] }),
  (4, { ops := [(3, { mr := [10] })], kt := [18, 19, 20, 21], kb := [] }),
  (5, { ops := [], kt := [22], kb := [] }),
  (7, { ops := [(5, { mr := [10] })], kt := [24, 25, 26, 27, 28, 29, 30, 31, 32], kb := [] }),
  (9, { ops := [(3, { mr := [10] })], kt := [34, 35, 36, 37, 38, 39], kb := [] }),
  (10, { ops := [], kt := [40, 41, 42, 43, 44, 45, 46, 47, 48, 49], kb := [] }),
  (12, { ops := [(4, { mr := [10] })], kt := [51, 52, 53, 54, 55, 56, 57, 58, 59, 60, 61], kb := [] })]
def c_pref21_Cut (F : Nat → FuncId) : AFun := { nparams := 1, ntmps := 62, results := [.tmp 2, .tmp 3, .tmp 4], body :=
  (.seq
    (.reg [⟨(some 2), [], [.c (.str [])], [], [], .cp, none⟩,
       ⟨(some 3), [], [.c (.str [])], [], [], .cp, none⟩,
       ⟨(some 4), [], [.c (.int .i64 0)], [], [], .cp, none⟩] [] [])
    (.seq
      (.reg [⟨(some 8), [], [.t 0], [], [], .cp, none⟩,
         ⟨(some 9), [], [.t 8], [], [], .build [.str [], .int .i64 0, .int .i64 0] [(0, 1)], none⟩,
         ⟨(some 10), [], [.t 9], [], [10], .box, none⟩,
         ⟨(some 5), [10], [.t 10], [], [], .mv, none⟩] [8, 9, 10] [])
      (.seq
        (.reg [⟨(some 11), [], [.t 5], [], [], .cp, none⟩,
           ⟨(some 12), [], [.c (.fn (F n_pref02_Reader_Int)), .t 11], [], [10], .call 1 false, none⟩,
           ⟨(some 6), [12], [.t 12], [], [], .mv, none⟩] [11, 12] [])
        (.seq
          (.seq
            (.reg [⟨(some 13), [], [.t 5], [], [], .cp, none⟩,
               ⟨(some 14), [], [.t 13], [], [], .nilck, none⟩,
               ⟨(some 15), [], [.t 14], [], [], .faddr 2, none⟩,
               ⟨(some 16), [], [.t 15], [10], [], .load false 1, none⟩,
               ⟨(some 17), [], [.t 16, .c (.int .i64 0)], [], [], .bini .neq, none⟩] [13, 14, 15, 16] [])
            (.cond (.t 17)
              (.seq
                (.reg [⟨(some 18), [], [.t 5], [], [], .cp, none⟩,
                   ⟨(some 19), [], [.t 18], [], [], .nilck, none⟩,
                   ⟨(some 20), [], [.t 19], [], [], .faddr 2, none⟩,
                   ⟨(some 21), [], [.t 20], [10], [], .load false 1, none⟩,
                   ⟨(some 2), [], [.c (.str [])], [], [], .cp, none⟩,
                   ⟨(some 3), [], [.c (.str [])], [], [], .cp, none⟩,
                   ⟨(some 4), [21], [.t 21], [], [], .mv, none⟩] [18, 19, 20, 21] [])
                .ret)
              .skip))
          (.seq
            (.seq
              (.reg [⟨(some 22), [], [.t 6], [], [], .cp, none⟩,
                 ⟨(some 23), [], [.t 22, .c (.int .i64 1048576)], [], [], .bini .gtr, none⟩] [22] [])
              (.cond (.t 23)
                (.seq
                  (.reg [⟨(some 2), [], [.c (.str [])], [], [], .cp, none⟩,
                     ⟨(some 3), [], [.c (.str [])], [], [], .cp, none⟩,
                     ⟨(some 4), [], [.c (.int .i64 6)], [], [], .cp, none⟩] [] [])
                  .ret)
                .skip))
            (.seq
              (.seq
                (.reg [⟨(some 24), [], [.t 0], [], [], .cp, none⟩,
                   ⟨(some 25), [], [.t 24], [], [], .len true, none⟩,
                   ⟨(some 26), [], [.t 5], [], [], .cp, none⟩,
                   ⟨(some 27), [], [.t 26], [], [], .nilck, none⟩,
                   ⟨(some 28), [], [.t 27], [], [], .faddr 1, none⟩,
                   ⟨(some 29), [], [.t 28], [10], [], .load false 1, none⟩,
                   ⟨(some 30), [], [.t 25, .t 29], [], [], .bini .sub, none⟩,
                   ⟨(some 31), [], [.t 30, .c (.int .i64 4)], [], [], .bini .sub, none⟩,
                   ⟨(some 32), [], [.t 6], [], [], .cp, none⟩,
                   ⟨(some 33), [], [.t 31, .t 32], [], [], .bini .lss, none⟩] [24, 25, 26, 27, 28, 29, 30, 31, 32] [])
                (.cond (.t 33)
                  (.seq
                    (.reg [⟨(some 2), [], [.c (.str [])], [], [], .cp, none⟩,
                       ⟨(some 3), [], [.c (.str [])], [], [], .cp, none⟩,
                       ⟨(some 4), [], [.c (.int .i64 4)], [], [], .cp, none⟩] [] [])
                    .ret)
                  .skip))
              (.seq
                (.reg [⟨(some 34), [], [.t 5], [], [], .cp, none⟩,
                   ⟨(some 35), [], [.t 34], [], [], .nilck, none⟩,
                   ⟨(some 36), [], [.t 35], [], [], .faddr 1, none⟩,
                   ⟨(some 37), [], [.t 36], [10], [], .load false 1, none⟩,
                   ⟨(some 38), [], [.t 6], [], [], .cp, none⟩,
                   ⟨(some 39), [], [.t 37, .t 38], [], [], .bini .add, none⟩,
                   ⟨(some 7), [39], [.t 39], [], [], .mv, none⟩] [34, 35, 36, 37, 38, 39] [])
                (.seq
                  (.seq
                    (.reg [⟨(some 40), [], [.t 0], [], [], .cp, none⟩,
                       ⟨(some 41), [], [.t 7], [], [], .cp, none⟩,
                       ⟨(some 42), [], [.t 40, .t 41], [], [], .slices false true, none⟩,
                       ⟨(some 43), [], [.c (.fn (F n_pref01_Of)), .t 42], [], [], .call 0 false, none⟩,
                       ⟨(some 44), [], [.c (.fn (F n_pref01_Bytes)), .t 43], [], [], .call 0 false, none⟩,
                       ⟨(some 45), [], [.t 0], [], [], .cp, none⟩,
                       ⟨(some 46), [], [.t 7], [], [], .cp, none⟩,
                       ⟨(some 47), [], [.t 7], [], [], .cp, none⟩,
                       ⟨(some 48), [], [.t 47, .c (.int .i64 4)], [], [], .bini .add, none⟩,
                       ⟨(some 49), [], [.t 45, .t 46, .t 48], [], [], .slices true true, none⟩,
                       ⟨(some 50), [], [.t 44, .t 49], [], [], .bins .neq, none⟩] [40, 41, 42, 43, 44, 45, 46, 47, 48, 49] [])
                    (.cond (.t 50)
                      (.seq
                        (.reg [⟨(some 2), [], [.c (.str [])], [], [], .cp, none⟩,
                           ⟨(some 3), [], [.c (.str [])], [], [], .cp, none⟩,
                           ⟨(some 4), [], [.c (.int .i64 5)], [], [], .cp, none⟩] [] [])
                        .ret)
                      .skip))
                  (.seq
                    (.reg [⟨(some 51), [], [.t 0], [], [], .cp, none⟩,
                       ⟨(some 52), [], [.t 5], [], [], .cp, none⟩,
                       ⟨(some 53), [], [.t 52], [], [], .nilck, none⟩,
                       ⟨(some 54), [], [.t 53], [], [], .faddr 1, none⟩,
                       ⟨(some 55), [], [.t 54], [10], [], .load false 1, none⟩,
                       ⟨(some 56), [], [.t 7], [], [], .cp, none⟩,
                       ⟨(some 57), [], [.t 51, .t 55, .t 56], [], [], .slices true true, none⟩,
                       ⟨(some 58), [], [.t 0], [], [], .cp, none⟩,
                       ⟨(some 59), [], [.t 7], [], [], .cp, none⟩,
                       ⟨(some 60), [], [.t 59, .c (.int .i64 4)], [], [], .bini .add, none⟩,
                       ⟨(some 61), [], [.t 58, .t 60], [], [], .slices true false, none⟩,
                       ⟨(some 2), [57], [.t 57], [], [], .mv, none⟩,
                       ⟨(some 3), [61], [.t 61], [], [], .mv, none⟩,
                       ⟨(some 4), [], [.c (.int .i64 0)], [], [], .cp, none⟩] [51, 52, 53, 54, 55, 56, 57, 58, 59, 60, 61] [])
                    .ret))))))))) }

def H_frame_Scan : Hints := [(2, { ops := [], kt := [9], kb := [] }),
  (3, { ops := [], kt := [10], kb := [] }),
  (4, { ops := [], kt := [12, 13, 14, 15, 16, 17], kb := [] }),
  (5, { ops := [], kt := [18], kb := [] }),
  (6, { ops := [(0, { take := true })], kt := [20, 21, 22, 23], kb := [] }),
  (7, { ops := [], kt := [24], kb := [] }),
  (8, { ops := [], kt := [25, 26, 27, 28, 29, 30], kb := [] }),
  (1000001, { ops := [], kt := [6, 7, 8, 10, 11, 12, 13, 14, 15, 16, 17, 18, 19, 20, 21, 22, 23, 24], kb := [] })]
def c_frame_Scan (F : Nat → FuncId) : AFun := { nparams := 1, ntmps := 31, results := [.tmp 2, .tmp 3], body :=
  (.seq
    (.reg [⟨(some 2), [], [], [], [], .nils 1, none⟩,
       ⟨(some 3), [], [.c (.int .i64 0)], [], [], .cp, none⟩] [] [])
    (.seq
      (.reg [⟨(some 4), [], [], [], [], .nils 1, none⟩] [] [])
      (.seq
        (.reg [⟨(some 9), [], [.t 0], [], [], .cp, none⟩,
           ⟨(some 5), [9], [.t 9], [], [], .mv, none⟩] [9] [])
        (.seq
          (.block 0
            (.loop
              (.seq
                (.seq
                  (.reg [⟨(some 10), [], [.t 5], [], [], .cp, none⟩,
                     ⟨(some 11), [], [.t 10, .c (.str [])], [], [], .bins .neq, none⟩] [10] [])
                  (.cond (.t 11)
                    .skip
                    (.exit 0)))
                (.seq
                  (.block 1
                    (.seq
                      (.reg [⟨(some 13), [], [.t 5], [], [], .cp, none⟩,
                         ⟨(some 14), [], [.c (.fn (F n_frame_Cut)), .t 13], [], [], .call 0 false, none⟩,
                         ⟨(some 12), [], [.t 14], [], [], .cp, none⟩,
                         ⟨(some 15), [], [.t 12], [], [], .extract 0, none⟩,
                         ⟨(some 16), [], [.t 12], [], [], .extract 1, none⟩,
                         ⟨(some 17), [], [.t 12], [], [], .extract 2, none⟩,
                         ⟨(some 6), [15], [.t 15], [], [], .mv, none⟩,
                         ⟨(some 7), [16], [.t 16], [], [], .mv, none⟩,
                         ⟨(some 8), [17], [.t 17], [], [], .mv, none⟩] [12, 13, 14, 15, 16, 17] [])
                      (.seq
                        (.seq
                          (.reg [⟨(some 18), [], [.t 8], [], [], .cp, none⟩,
                             ⟨(some 19), [], [.t 18, .c (.int .i64 0)], [], [], .bini .neq, none⟩] [18] [])
                          (.cond (.t 19)
                            (.exit 0)
                            .skip))
                        (.seq
                          (.reg [⟨(some 20), [4], [.t 4], [], [], .mv, none⟩,
                             ⟨(some 21), [], [.t 6], [], [], .cp, none⟩,
                             ⟨(some 22), [], [.t 21], [], [], .bslice 1 [.str []] [(0, 1)], none⟩,
                             ⟨(some 23), [20], [.t 20, .t 22], [], [], .append 1 16, none⟩,
                             ⟨(some 4), [23], [.t 23], [], [], .mv, none⟩] [20, 21, 22, 23] [])
                          (.reg [⟨(some 24), [], [.t 7], [], [], .cp, none⟩,
                             ⟨(some 5), [24], [.t 24], [], [], .mv, none⟩] [24] [])))))
                  (.reg [] [6, 7, 8, 10, 11, 12, 13, 14, 15, 16, 17, 18, 19, 20, 21, 22, 23, 24] [])))))
          (.seq
            (.reg [⟨(some 25), [], [.t 4], [], [], .cp, none⟩,
               ⟨(some 26), [], [.t 0], [], [], .cp, none⟩,
               ⟨(some 27), [], [.t 26], [], [], .len true, none⟩,
               ⟨(some 28), [], [.t 5], [], [], .cp, none⟩,
               ⟨(some 29), [], [.t 28], [], [], .len true, none⟩,
               ⟨(some 30), [], [.t 27, .t 29], [], [], .bini .sub, none⟩,
               ⟨(some 2), [25], [.t 25], [], [], .mv, none⟩,
               ⟨(some 3), [30], [.t 30], [], [], .mv, none⟩] [25, 26, 27, 28, 29, 30] [])
            .ret))))) }

def H_pref21_Scan : Hints := [(3, { ops := [], kt := [9, 10, 11], kb := [] }),
  (4, { ops := [], kt := [13, 14, 15, 16, 17, 18, 19, 20], kb := [] }),
  (5, { ops := [], kt := [21], kb := [] }),
  (6, { ops := [], kt := [23, 24], kb := [] }),
  (7, { ops := [(0, { take := true })], kt := [25, 26, 27, 28], kb := [] }),
  (8, { ops := [], kt := [29, 30, 31, 32, 33], kb := [] }),
  (9, { ops := [], kt := [34, 35], kb := [] }),
  (1000001, { ops := [], kt := [6, 7, 8, 9, 10, 11, 12, 13, 14, 15, 16, 17, 18, 19, 20, 21, 22, 23, 24, 25, 26, 27, 28, 29, 30, 31, 32, 33], kb := [] })]
def c_pref21_Scan (F : Nat → FuncId) : AFun := { nparams := 1, ntmps := 36, results := [.tmp 2, .tmp 3], body :=
  (.seq
    (.reg [⟨(some 2), [], [], [], [], .nils 1, none⟩,
       ⟨(some 3), [], [.c (.int .i64 0)], [], [], .cp, none⟩] [] [])
    (.seq
      (.reg [⟨(some 4), [], [], [], [], .nils 1, none⟩] [] [])
      (.seq
        (.reg [⟨(some 5), [], [.c (.int .i64 0)], [], [], .cp, none⟩] [] [])
        (.seq
          (.block 0
            (.loop
              (.seq
                (.seq
                  (.reg [⟨(some 9), [], [.t 5], [], [], .cp, none⟩,
                     ⟨(some 10), [], [.t 0], [], [], .cp, none⟩,
                     ⟨(some 11), [], [.t 10], [], [], .len true, none⟩,
                     ⟨(some 12), [], [.t 9, .t 11], [], [], .bini .lss, none⟩] [9, 10, 11] [])
                  (.cond (.t 12)
                    .skip
                    (.exit 0)))
                (.seq
                  (.block 1
                    (.seq
                      (.reg [⟨(some 14), [], [.t 0], [], [], .cp, none⟩,
                         ⟨(some 15), [], [.t 5], [], [], .cp, none⟩,
                         ⟨(some 16), [], [.t 14, .t 15], [], [], .slices true false, none⟩,
                         ⟨(some 17), [], [.c (.fn (F n_pref21_Cut)), .t 16], [], [], .call 0 false, none⟩,
                         ⟨(some 13), [], [.t 17], [], [], .cp, none⟩,
                         ⟨(some 18), [], [.t 13], [], [], .extract 0, none⟩,
                         ⟨(some 19), [], [.t 13], [], [], .extract 1, none⟩,
                         ⟨(some 20), [], [.t 13], [], [], .extract 2, none⟩,
                         ⟨(some 6), [18], [.t 18], [], [], .mv, none⟩,
                         ⟨(some 7), [19], [.t 19], [], [], .mv, none⟩,
                         ⟨(some 8), [20], [.t 20], [], [], .mv, none⟩] [13, 14, 15, 16, 17, 18, 19, 20] [])
                      (.seq
                        (.seq
                          (.reg [⟨(some 21), [], [.t 8], [], [], .cp, none⟩,
                             ⟨(some 22), [], [.t 21, .c (.int .i64 0)], [], [], .bini .neq, none⟩] [21] [])
                          (.cond (.t 22)
                            (.seq
                              (.reg [⟨(some 23), [], [.t 4], [], [], .cp, none⟩,
                                 ⟨(some 24), [], [.t 5], [], [], .cp, none⟩,
                                 ⟨(some 2), [23], [.t 23], [], [], .mv, none⟩,
                                 ⟨(some 3), [24], [.t 24], [], [], .mv, none⟩] [23, 24] [])
                              .ret)
                            .skip))
                        (.seq
                          (.reg [⟨(some 25), [4], [.t 4], [], [], .mv, none⟩,
                             ⟨(some 26), [], [.t 6], [], [], .cp, none⟩,
                             ⟨(some 27), [], [.t 26], [], [], .bslice 1 [.str []] [(0, 1)], none⟩,
                             ⟨(some 28), [25], [.t 25, .t 27], [], [], .append 1 16, none⟩,
                             ⟨(some 4), [28], [.t 28], [], [], .mv, none⟩] [25, 26, 27, 28] [])
                          (.reg [⟨(some 29), [], [.t 0], [], [], .cp, none⟩,
                             ⟨(some 30), [], [.t 29], [], [], .len true, none⟩,
                             ⟨(some 31), [], [.t 7], [], [], .cp, none⟩,
                             ⟨(some 32), [], [.t 31], [], [], .len true, none⟩,
                             ⟨(some 33), [], [.t 30, .t 32], [], [], .bini .sub, none⟩,
                             ⟨(some 5), [33], [.t 33], [], [], .mv, none⟩] [29, 30, 31, 32, 33] [])))))
                  (.reg [] [6, 7, 8, 9, 10, 11, 12, 13, 14, 15, 16, 17, 18, 19, 20, 21, 22, 23, 24, 25, 26, 27, 28, 29, 30, 31, 32, 33] [])))))
          (.seq
            (.reg [⟨(some 34), [], [.t 4], [], [], .cp, none⟩,
               ⟨(some 35), [], [.t 5], [], [], .cp, none⟩,
               ⟨(some 2), [34], [.t 34], [], [], .mv, none⟩,
               ⟨(some 3), [35], [.t 35], [], [], .mv, none⟩] [34, 35] [])
            .ret))))) }

def H_frame_Of : Hints := [(1, { ops := [], kt := [3, 4, 5], kb := [] })]
def c_frame_Of (F : Nat → FuncId) : AFun := { nparams := 1, ntmps := 6, results := [.tmp 2], body :=
  (.seq
    (.reg [⟨(some 2), [], [.c (.str [])], [], [], .cp, none⟩] [] [])
    (.seq
      (.reg [⟨(some 3), [], [.t 0], [], [], .cp, none⟩,
         ⟨(some 4), [], [.c (.fn (F n_pack_Text)), .t 3], [], [], .call 0 false, none⟩,
         ⟨(some 5), [], [.c (.fn (F n_sum_Sealed)), .t 4], [], [], .call 0 false, none⟩,
         ⟨(some 2), [5], [.t 5], [], [], .mv, none⟩] [3, 4, 5] [])
      .ret)) }

def H_pref21_Of : Hints := [(1, { ops := [], kt := [4, 5], kb := [] }),
  (2, { ops := [], kt := [6, 7, 8, 9, 10], kb := [] })]
def c_pref21_Of (F : Nat → FuncId) : AFun := { nparams := 1, ntmps := 11, results := [.tmp 2], body :=
  (.seq
    (.reg [⟨(some 2), [], [.c (.str [])], [], [], .cp, none⟩] [] [])
    (.seq
      (.reg [⟨(some 4), [], [.t 0], [], [], .cp, none⟩,
         ⟨(some 5), [], [.c (.fn (F n_pref02_Text)), .t 4], [], [], .call 0 false, none⟩,
         ⟨(some 3), [5], [.t 5], [], [], .mv, none⟩] [4, 5] [])
      (.seq
        (.reg [⟨(some 6), [], [.t 3], [], [], .cp, none⟩,
           ⟨(some 7), [], [.t 3], [], [], .cp, none⟩,
           ⟨(some 8), [], [.c (.fn (F n_pref01_Of)), .t 7], [], [], .call 0 false, none⟩,
           ⟨(some 9), [], [.c (.fn (F n_pref01_Bytes)), .t 8], [], [], .call 0 false, none⟩,
           ⟨(some 10), [], [.t 6, .t 9], [], [], .bins .add, none⟩,
           ⟨(some 2), [10], [.t 10], [], [], .mv, none⟩] [6, 7, 8, 9, 10] [])
        .ret))) }

def H_pref03_Same : Hints := [(1, { ops := [], kt := [6, 7, 8, 9], kb := [] }),
  (4, { ops := [], kt := [11, 12, 13], kb := [] }),
  (5, { ops := [], kt := [11, 12, 13, 14, 15, 16, 17, 18, 19, 20, 21, 22, 23, 24, 25], kb := [] }),
  (6, { ops := [], kt := [17, 18, 19, 20, 21, 22, 23, 24], kb := [] })]
def c_pref03_Same (F : Nat → FuncId) : AFun := { nparams := 2, ntmps := 26, results := [.tmp 4], body :=
  (.seq
    (.reg [⟨(some 4), [], [.c (.bool false)], [], [], .cp, none⟩] [] [])
    (.seq
      (.seq
        (.reg [⟨(some 6), [], [.t 0], [], [], .cp, none⟩,
           ⟨(some 7), [], [.t 6], [], [], .len false, none⟩,
           ⟨(some 8), [], [.t 1], [], [], .cp, none⟩,
           ⟨(some 9), [], [.t 8], [], [], .len false, none⟩,
           ⟨(some 10), [], [.t 7, .t 9], [], [], .bini .neq, none⟩] [6, 7, 8, 9] [])
        (.cond (.t 10)
          (.seq
            (.reg [⟨(some 4), [], [.c (.bool false)], [], [], .cp, none⟩] [] [])
            .ret)
          .skip))
      (.seq
        (.seq
          (.reg [⟨(some 5), [], [.c (.int .i64 0)], [], [], .cp, none⟩] [] [])
          (.block 0
            (.loop
              (.seq
                (.seq
                  (.reg [⟨(some 11), [], [.t 5], [], [], .cp, none⟩,
                     ⟨(some 12), [], [.t 0], [], [], .cp, none⟩,
                     ⟨(some 13), [], [.t 12], [], [], .len false, none⟩,
                     ⟨(some 14), [], [.t 11, .t 13], [], [], .bini .lss, none⟩] [11, 12, 13] [])
                  (.cond (.t 14)
                    .skip
                    (.exit 0)))
                (.seq
                  (.block 1
                    (.seq
                      (.reg [⟨(some 17), [], [.t 0], [], [], .cp, none⟩,
                         ⟨(some 18), [], [.t 5], [], [], .cp, none⟩,
                         ⟨(some 19), [], [.t 17, .t 18], [], [], .iaddr none 1, none⟩,
                         ⟨(some 20), [], [.t 19], [], [], .load false 1, none⟩,
                         ⟨(some 21), [], [.t 1], [], [], .cp, none⟩,
                         ⟨(some 22), [], [.t 5], [], [], .cp, none⟩,
                         ⟨(some 23), [], [.t 21, .t 22], [], [], .iaddr none 1, none⟩,
                         ⟨(some 24), [], [.t 23], [], [], .load false 1, none⟩,
                         ⟨(some 25), [], [.t 20, .t 24], [], [], .bins .neq, none⟩] [17, 18, 19, 20, 21, 22, 23, 24] [])
                      (.cond (.t 25)
                        (.seq
                          (.reg [⟨(some 4), [], [.c (.bool false)], [], [], .cp, none⟩] [] [])
                          .ret)
                        .skip)))
                  (.reg [⟨(some 15), [], [.t 5], [], [], .cp, none⟩,
                     ⟨(some 16), [], [.t 15, .c (.int .i64 1)], [], [], .bini .add, none⟩,
                     ⟨(some 5), [16], [.t 16], [], [], .mv, none⟩] [11, 12, 13, 14, 15, 16, 17, 18, 19, 20, 21, 22, 23, 24, 25] []))))))
        (.seq
          (.reg [⟨(some 4), [], [.c (.bool true)], [], [], .cp, none⟩] [] [])
          .ret)))) }

def H_plaw21_joined : Hints := [(2, { ops := [], kt := [6, 7], kb := [] }),
  (5, { ops := [], kt := [9, 10, 11], kb := [] }),
  (6, { ops := [], kt := [9, 10, 11, 12, 13, 14, 15, 16, 17, 18, 19, 20, 21, 22, 23, 24, 25, 26, 27], kb := [] }),
  (7, { ops := [], kt := [15, 16, 17, 18, 19], kb := [] }),
  (9, { ops := [], kt := [21, 22, 23, 24, 25, 26, 27], kb := [] }),
  (10, { ops := [], kt := [28], kb := [] })]
def c_plaw21_joined (F : Nat → FuncId) : AFun := { nparams := 1, ntmps := 29, results := [.tmp 2, .tmp 3], body :=
  (.seq
    (.reg [⟨(some 2), [], [.c (.str [])], [], [], .cp, none⟩,
       ⟨(some 3), [], [.c (.bool false)], [], [], .cp, none⟩] [] [])
    (.seq
      (.reg [⟨(some 4), [], [.c (.str [])], [], [], .cp, none⟩] [] [])
      (.seq
        (.seq
          (.reg [⟨(some 6), [], [.t 0], [], [], .cp, none⟩,
             ⟨(some 7), [], [.t 6], [], [], .len false, none⟩,
             ⟨(some 8), [], [.t 7, .c (.int .i64 20)], [], [], .bini .gtr, none⟩] [6, 7] [])
          (.cond (.t 8)
            (.seq
              (.reg [⟨(some 2), [], [.c (.str [])], [], [], .cp, none⟩,
                 ⟨(some 3), [], [.c (.bool false)], [], [], .cp, none⟩] [] [])
              .ret)
            .skip))
        (.seq
          (.seq
            (.reg [⟨(some 5), [], [.c (.int .i64 0)], [], [], .cp, none⟩] [] [])
            (.block 0
              (.loop
                (.seq
                  (.seq
                    (.reg [⟨(some 9), [], [.t 5], [], [], .cp, none⟩,
                       ⟨(some 10), [], [.t 0], [], [], .cp, none⟩,
                       ⟨(some 11), [], [.t 10], [], [], .len false, none⟩,
                       ⟨(some 12), [], [.t 9, .t 11], [], [], .bini .lss, none⟩] [9, 10, 11] [])
                    (.cond (.t 12)
                      .skip
                      (.exit 0)))
                  (.seq
                    (.block 1
                      (.seq
                        (.seq
                          (.reg [⟨(some 15), [], [.t 0], [], [], .cp, none⟩,
                             ⟨(some 16), [], [.t 5], [], [], .cp, none⟩,
                             ⟨(some 17), [], [.t 15, .t 16], [], [], .iaddr none 1, none⟩,
                             ⟨(some 18), [], [.t 17], [], [], .load false 1, none⟩,
                             ⟨(some 19), [], [.t 18], [], [], .len true, none⟩,
                             ⟨(some 20), [], [.t 19, .c (.int .i64 500)], [], [], .bini .gtr, none⟩] [15, 16, 17, 18, 19] [])
                          (.cond (.t 20)
                            (.seq
                              (.reg [⟨(some 2), [], [.c (.str [])], [], [], .cp, none⟩,
                                 ⟨(some 3), [], [.c (.bool false)], [], [], .cp, none⟩] [] [])
                              .ret)
                            .skip))
                        (.reg [⟨(some 21), [], [.t 4], [], [], .cp, none⟩,
                           ⟨(some 22), [], [.t 0], [], [], .cp, none⟩,
                           ⟨(some 23), [], [.t 5], [], [], .cp, none⟩,
                           ⟨(some 24), [], [.t 22, .t 23], [], [], .iaddr none 1, none⟩,
                           ⟨(some 25), [], [.t 24], [], [], .load false 1, none⟩,
                           ⟨(some 26), [], [.c (.fn (F n_frame_Of)), .t 25], [], [], .call 0 false, none⟩,
                           ⟨(some 27), [], [.t 21, .t 26], [], [], .bins .add, none⟩,
                           ⟨(some 4), [27], [.t 27], [], [], .mv, none⟩] [21, 22, 23, 24, 25, 26, 27] [])))
                    (.reg [⟨(some 13), [], [.t 5], [], [], .cp, none⟩,
                       ⟨(some 14), [], [.t 13, .c (.int .i64 1)], [], [], .bini .add, none⟩,
                       ⟨(some 5), [14], [.t 14], [], [], .mv, none⟩] [9, 10, 11, 12, 13, 14, 15, 16, 17, 18, 19, 20, 21, 22, 23, 24, 25, 26, 27] []))))))
          (.seq
            (.reg [⟨(some 28), [], [.t 4], [], [], .cp, none⟩,
               ⟨(some 2), [28], [.t 28], [], [], .mv, none⟩,
               ⟨(some 3), [], [.c (.bool true)], [], [], .cp, none⟩] [28] [])
            .ret))))) }

end Go.AR

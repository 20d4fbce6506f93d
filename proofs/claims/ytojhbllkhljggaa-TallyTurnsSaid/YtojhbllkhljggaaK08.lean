import Derived.Test.YtojhbllkhljggaaComp
import Derived.Test.YtojhbllkhljggaaNames
set_option linter.all false
/-! Codes, printed by program. -/
namespace Go.AR
def H_plaw08_TallyTurns : Hints := [(1, { ops := [(4, { mr := [4] })], kt := [10, 11, 12, 13, 14, 15, 16], kb := [] }),
  (2, { ops := [], kt := [18], kb := [] }),
  (3, { ops := [(1, { mr := [4] }), (7, { mw := [7] })], kt := [19, 20, 21, 22, 23, 24], kb := [] }),
  (4, { ops := [], kt := [25], kb := [] }),
  (5, { ops := [(4, { mr := [4] }), (9, { mr := [7] })], kt := [27, 28, 29, 30, 31, 32, 33, 34, 35, 36, 37, 38, 39, 40, 41, 42], kb := [] }),
  (6, { ops := [(1, { mr := [7] })], kt := [43, 44, 45], kb := [] }),
  (7, { ops := [(1, { mr := [4] }), (4, { mr := [4] }), (8, { mr := [5] }), (9, { mr := [4] }), (13, { mr := [5] }), (16, { mr := [5] }), (23, { mr := [4] }), (26, { mr := [4] })], kt := [46, 47, 48, 49, 50, 51, 52, 53, 54, 55, 56, 57, 58, 59, 60, 61, 62, 63, 64, 65, 66, 67, 68, 69, 70, 71, 72, 73, 74, 75, 76, 77, 78, 79], kb := [] })]
def c_plaw08_TallyTurns (F : Nat → FuncId) : AFun := { nparams := 3, ntmps := 80, results := [.tmp 6], body :=
  (.seq
    (.reg [⟨(some 4), [], [.t 1], [], [4], .box, none⟩,
       ⟨(some 5), [], [.t 2], [], [5], .box, none⟩,
       ⟨(some 6), [], [.c (.bool false)], [], [], .cp, none⟩] [] [])
    (.seq
      (.seq
        (.reg [⟨(some 10), [], [.t 0], [], [], .cp, none⟩,
           ⟨(some 11), [], [.c (.fn (F n_pref08_Good)), .t 10], [], [], .call 0 false, none⟩,
           ⟨(some 12), [], [.t 11], [], [], .not, none⟩,
           ⟨(some 13), [], [.t 12], [], [], .cp, none⟩,
           ⟨(some 14), [], [.t 4], [4], [], .load true 2, some (13, false)⟩,
           ⟨(some 15), [], [.c (.fn (F n_pref04_Right)), .t 14], [], [], .call 0 false, some (13, false)⟩,
           ⟨(some 16), [], [.t 15], [], [], .not, some (13, false)⟩,
           ⟨(some 17), [], [.t 13, .c (.bool true), .t 16], [], [], .pick, none⟩] [10, 11, 12, 13, 14, 15, 16] [])
        (.cond (.t 17)
          (.seq
            (.reg [⟨(some 18), [], [.c (.fn (F n_plaw08_awake))], [], [], .call 0 false, none⟩,
               ⟨(some 6), [18], [.t 18], [], [], .mv, none⟩] [18] [])
            .ret)
          .skip))
      (.seq
        (.reg [⟨(some 20), [], [.t 0], [], [], .cp, none⟩,
           ⟨(some 21), [], [.t 4], [4], [], .load true 2, none⟩,
           ⟨(some 22), [], [.c (.fn (F n_tally_Raise)), .t 20, .t 21], [], [], .call 0 false, none⟩,
           ⟨(some 19), [], [.t 22], [], [], .cp, none⟩,
           ⟨(some 23), [], [.t 19], [], [], .extract 0, none⟩,
           ⟨(some 24), [], [.t 19], [], [], .extract 1, none⟩,
           ⟨(some 7), [], [], [], [7], .alloc [.val (.int .i64 0), .val (.int .i64 0), .val (.int .i64 0)], none⟩,
           ⟨none, [23], [.t 7, .t 23], [], [7], .store true 3, none⟩,
           ⟨(some 8), [24], [.t 24], [], [], .mv, none⟩] [19, 20, 21, 22, 23, 24] [])
        (.seq
          (.seq
            (.reg [⟨(some 25), [], [.t 8], [], [], .cp, none⟩,
               ⟨(some 26), [], [.t 25, .c (.int .i64 0)], [], [], .bini .neq, none⟩] [25] [])
            (.cond (.t 26)
              (.seq
                (.reg [⟨(some 27), [], [.t 8], [], [], .cp, none⟩,
                   ⟨(some 28), [], [.t 27, .c (.int .i64 14)], [], [], .bini .eql, none⟩,
                   ⟨(some 29), [], [.t 28], [], [], .cp, none⟩,
                   ⟨(some 30), [], [.t 0], [], [], .cp, some (29, true)⟩,
                   ⟨(some 31), [], [.t 4], [4], [], .load true 2, some (29, true)⟩,
                   ⟨(some 32), [], [.c (.fn (F n_tally_Get)), .t 30, .t 31], [], [], .call 0 false, some (29, true)⟩,
                   ⟨(some 33), [], [.t 32, .c (.int .i64 64)], [], [], .bini .eql, some (29, true)⟩,
                   ⟨(some 34), [], [.t 29, .t 33, .c (.bool false)], [], [], .pick, none⟩,
                   ⟨(some 35), [], [.t 34], [], [], .cp, none⟩,
                   ⟨(some 36), [], [.t 7], [7], [], .load true 3, some (35, true)⟩,
                   ⟨(some 37), [], [], [], [], .build [.int .i64 0, .int .i64 0, .int .i64 0] [], some (35, true)⟩,
                   ⟨(some 38), [], [.t 36, .t 37], [], [], .eqa [.i, .i, .i] false, some (35, true)⟩,
                   ⟨(some 39), [], [.t 35, .t 38, .c (.bool false)], [], [], .pick, none⟩,
                   ⟨(some 40), [], [.t 39], [], [], .cp, none⟩,
                   ⟨(some 41), [], [.c (.fn (F n_plaw08_awake))], [], [], .call 0 false, some (40, true)⟩,
                   ⟨(some 42), [], [.t 40, .t 41, .c (.bool false)], [], [], .pick, none⟩,
                   ⟨(some 6), [42], [.t 42], [], [], .mv, none⟩] [27, 28, 29, 30, 31, 32, 33, 34, 35, 36, 37, 38, 39, 40, 41, 42] [])
                .ret)
              .skip))
          (.seq
            (.reg [⟨(some 43), [], [.t 0], [], [], .cp, none⟩,
               ⟨(some 44), [], [.t 7], [7], [], .load true 3, none⟩,
               ⟨(some 45), [], [.c (.fn (F n_tally_Put)), .t 43, .t 44], [], [], .call 0 false, none⟩,
               ⟨(some 9), [45], [.t 45], [], [], .mv, none⟩] [43, 44, 45] [])
            (.seq
              (.reg [⟨(some 46), [], [.t 9], [], [], .cp, none⟩,
                 ⟨(some 47), [], [.t 4], [4], [], .load true 2, none⟩,
                 ⟨(some 48), [], [.c (.fn (F n_tally_Seen)), .t 46, .t 47], [], [], .call 0 false, none⟩,
                 ⟨(some 49), [], [.t 0], [], [], .cp, none⟩,
                 ⟨(some 50), [], [.t 4], [4], [], .load true 2, none⟩,
                 ⟨(some 51), [], [.c (.fn (F n_tally_Seen)), .t 49, .t 50], [], [], .call 0 false, none⟩,
                 ⟨(some 52), [], [.t 48, .t 51], [], [], .binb true, none⟩,
                 ⟨(some 53), [], [.t 52], [], [], .cp, none⟩,
                 ⟨(some 54), [], [.t 5], [5], [], .load true 2, some (53, true)⟩,
                 ⟨(some 55), [], [.t 4], [4], [], .load true 2, some (53, true)⟩,
                 ⟨(some 56), [], [.t 54, .t 55], [], [], .eqa [.i, .i] false, some (53, true)⟩,
                 ⟨(some 57), [], [.t 56], [], [], .cp, some (53, true)⟩,
                 ⟨(some 58), [], [.t 9], [], [], .cp, some (57, false)⟩,
                 ⟨(some 59), [], [.t 5], [5], [], .load true 2, some (57, false)⟩,
                 ⟨(some 60), [], [.c (.fn (F n_tally_Get)), .t 58, .t 59], [], [], .call 0 false, some (57, false)⟩,
                 ⟨(some 61), [], [.t 0], [], [], .cp, some (57, false)⟩,
                 ⟨(some 62), [], [.t 5], [5], [], .load true 2, some (57, false)⟩,
                 ⟨(some 63), [], [.c (.fn (F n_tally_Get)), .t 61, .t 62], [], [], .call 0 false, some (57, false)⟩,
                 ⟨(some 64), [], [.t 60, .t 63], [], [], .bini .eql, some (57, false)⟩,
                 ⟨(some 65), [], [.t 57, .c (.bool true), .t 64], [], [], .pick, some (53, true)⟩,
                 ⟨(some 66), [], [.t 53, .t 65, .c (.bool false)], [], [], .pick, none⟩,
                 ⟨(some 67), [], [.t 66], [], [], .cp, none⟩,
                 ⟨(some 68), [], [.t 9], [], [], .cp, some (67, true)⟩,
                 ⟨(some 69), [], [.t 4], [4], [], .load true 2, some (67, true)⟩,
                 ⟨(some 70), [], [.c (.fn (F n_tally_Get)), .t 68, .t 69], [], [], .call 0 false, some (67, true)⟩,
                 ⟨(some 71), [], [.t 0], [], [], .cp, some (67, true)⟩,
                 ⟨(some 72), [], [.t 4], [4], [], .load true 2, some (67, true)⟩,
                 ⟨(some 73), [], [.c (.fn (F n_tally_Get)), .t 71, .t 72], [], [], .call 0 false, some (67, true)⟩,
                 ⟨(some 74), [], [.t 73, .c (.int .i64 1)], [], [], .bini .add, some (67, true)⟩,
                 ⟨(some 75), [], [.t 70, .t 74], [], [], .bini .eql, some (67, true)⟩,
                 ⟨(some 76), [], [.t 67, .t 75, .c (.bool false)], [], [], .pick, none⟩,
                 ⟨(some 77), [], [.t 76], [], [], .cp, none⟩,
                 ⟨(some 78), [], [.c (.fn (F n_plaw08_awake))], [], [], .call 0 false, some (77, true)⟩,
                 ⟨(some 79), [], [.t 77, .t 78, .c (.bool false)], [], [], .pick, none⟩,
                 ⟨(some 6), [79], [.t 79], [], [], .mv, none⟩] [46, 47, 48, 49, 50, 51, 52, 53, 54, 55, 56, 57, 58, 59, 60, 61, 62, 63, 64, 65, 66, 67, 68, 69, 70, 71, 72, 73, 74, 75, 76, 77, 78, 79] [])
              .ret)))))) }

def H_plaw08_TallyTells : Hints := [(1, { ops := [], kt := [9, 10], kb := [] }),
  (2, { ops := [], kt := [12], kb := [] }),
  (3, { ops := [], kt := [13, 14, 15, 16], kb := [] }),
  (5, { ops := [], kt := [18, 19], kb := [] }),
  (6, { ops := [], kt := [21], kb := [] }),
  (7, { ops := [(2, { mr := [3] }), (8, { mw := [5] })], kt := [22, 23, 24, 25, 26, 27, 28], kb := [] }),
  (8, { ops := [(2, { mr := [3] }), (8, { mw := [7] })], kt := [29, 30, 31, 32, 33, 34, 35], kb := [] }),
  (9, { ops := [(2, { mr := [3] }), (6, { mr := [3] }), (12, { mr := [3] }), (16, { mr := [3] }), (22, { mr := [3] }), (25, { mr := [3] }), (30, { mr := [5] }), (31, { mr := [7] })], kt := [36, 37, 38, 39, 40, 41, 42, 43, 44, 45, 46, 47, 48, 49, 50, 51, 52, 53, 54, 55, 56, 57, 58, 59, 60, 61, 62, 63, 64, 65, 66, 67, 68, 69, 70, 71, 72, 73, 74, 75, 76, 77], kb := [] })]
def c_plaw08_TallyTells (F : Nat → FuncId) : AFun := { nparams := 2, ntmps := 78, results := [.tmp 4], body :=
  (.seq
    (.reg [⟨(some 3), [], [.t 1], [], [3], .box, none⟩,
       ⟨(some 4), [], [.c (.bool false)], [], [], .cp, none⟩] [] [])
    (.seq
      (.seq
        (.reg [⟨(some 9), [], [.t 0], [], [], .cp, none⟩,
           ⟨(some 10), [], [.t 9], [], [], .len false, none⟩,
           ⟨(some 11), [], [.t 10, .c (.int .i64 100)], [], [], .bini .gtr, none⟩] [9, 10] [])
        (.cond (.t 11)
          (.seq
            (.reg [⟨(some 12), [], [.c (.fn (F n_plaw08_awake))], [], [], .call 0 false, none⟩,
               ⟨(some 4), [12], [.t 12], [], [], .mv, none⟩] [12] [])
            .ret)
          .skip))
      (.seq
        (.seq
          (.reg [⟨(some 13), [], [.t 0], [], [], .cp, none⟩,
             ⟨(some 14), [], [.c (.fn (F n_tally_Right)), .t 13], [], [], .call 0 false, none⟩,
             ⟨(some 15), [], [.t 0], [], [], .cp, none⟩,
             ⟨(some 16), [], [.c (.fn (F n_pref08_Right)), .t 15], [], [], .call 0 false, none⟩,
             ⟨(some 17), [], [.t 14, .t 16], [], [], .binb true, none⟩] [13, 14, 15, 16] [])
          (.cond (.t 17)
            (.seq
              (.reg [⟨(some 4), [], [.c (.bool false)], [], [], .cp, none⟩] [] [])
              .ret)
            .skip))
        (.seq
          (.seq
            (.reg [⟨(some 18), [], [.t 0], [], [], .cp, none⟩,
               ⟨(some 19), [], [.c (.fn (F n_pref08_Right)), .t 18], [], [], .call 0 false, none⟩,
               ⟨(some 20), [], [.t 19], [], [], .not, none⟩] [18, 19] [])
            (.cond (.t 20)
              (.seq
                (.reg [⟨(some 21), [], [.c (.fn (F n_plaw08_awake))], [], [], .call 0 false, none⟩,
                   ⟨(some 4), [21], [.t 21], [], [], .mv, none⟩] [21] [])
                .ret)
              .skip))
          (.seq
            (.reg [⟨(some 23), [], [.t 0], [], [], .cp, none⟩,
               ⟨(some 24), [], [.t 3], [], [], .faddr 0, none⟩,
               ⟨(some 25), [], [.t 24], [3], [], .load true 2, none⟩,
               ⟨(some 26), [], [.c (.fn (F n_tally_Raise)), .t 23, .t 25], [], [], .call 0 false, none⟩,
               ⟨(some 22), [], [.t 26], [], [], .cp, none⟩,
               ⟨(some 27), [], [.t 22], [], [], .extract 0, none⟩,
               ⟨(some 28), [], [.t 22], [], [], .extract 1, none⟩,
               ⟨(some 5), [], [], [], [5], .alloc [.val (.int .i64 0), .val (.int .i64 0), .val (.int .i64 0)], none⟩,
               ⟨none, [27], [.t 5, .t 27], [], [5], .store true 3, none⟩,
               ⟨(some 6), [28], [.t 28], [], [], .mv, none⟩] [22, 23, 24, 25, 26, 27, 28] [])
            (.seq
              (.reg [⟨(some 30), [], [.t 0], [], [], .cp, none⟩,
                 ⟨(some 31), [], [.t 3], [], [], .faddr 0, none⟩,
                 ⟨(some 32), [], [.t 31], [3], [], .load true 2, none⟩,
                 ⟨(some 33), [], [.c (.fn (F n_pref08_Raise)), .t 30, .t 32], [], [], .call 0 false, none⟩,
                 ⟨(some 29), [], [.t 33], [], [], .cp, none⟩,
                 ⟨(some 34), [], [.t 29], [], [], .extract 0, none⟩,
                 ⟨(some 35), [], [.t 29], [], [], .extract 1, none⟩,
                 ⟨(some 7), [], [], [], [7], .alloc [.val (.int .i64 0), .val (.int .i64 0), .val (.int .i64 0)], none⟩,
                 ⟨none, [34], [.t 7, .t 34], [], [7], .store true 3, none⟩,
                 ⟨(some 8), [35], [.t 35], [], [], .mv, none⟩] [29, 30, 31, 32, 33, 34, 35] [])
              (.seq
                (.reg [⟨(some 36), [], [.t 0], [], [], .cp, none⟩,
                   ⟨(some 37), [], [.t 3], [], [], .faddr 0, none⟩,
                   ⟨(some 38), [], [.t 37], [3], [], .load true 2, none⟩,
                   ⟨(some 39), [], [.c (.fn (F n_tally_Get)), .t 36, .t 38], [], [], .call 0 false, none⟩,
                   ⟨(some 40), [], [.t 0], [], [], .cp, none⟩,
                   ⟨(some 41), [], [.t 3], [], [], .faddr 0, none⟩,
                   ⟨(some 42), [], [.t 41], [3], [], .load true 2, none⟩,
                   ⟨(some 43), [], [.c (.fn (F n_pref08_Get)), .t 40, .t 42], [], [], .call 0 false, none⟩,
                   ⟨(some 44), [], [.t 39, .t 43], [], [], .bini .eql, none⟩,
                   ⟨(some 45), [], [.t 44], [], [], .cp, none⟩,
                   ⟨(some 46), [], [.t 0], [], [], .cp, some (45, true)⟩,
                   ⟨(some 47), [], [.t 3], [], [], .faddr 0, some (45, true)⟩,
                   ⟨(some 48), [], [.t 47], [3], [], .load true 2, some (45, true)⟩,
                   ⟨(some 49), [], [.c (.fn (F n_tally_Seen)), .t 46, .t 48], [], [], .call 0 false, some (45, true)⟩,
                   ⟨(some 50), [], [.t 0], [], [], .cp, some (45, true)⟩,
                   ⟨(some 51), [], [.t 3], [], [], .faddr 0, some (45, true)⟩,
                   ⟨(some 52), [], [.t 51], [3], [], .load true 2, some (45, true)⟩,
                   ⟨(some 53), [], [.c (.fn (F n_pref08_Seen)), .t 50, .t 52], [], [], .call 0 false, some (45, true)⟩,
                   ⟨(some 54), [], [.t 49, .t 53], [], [], .binb false, some (45, true)⟩,
                   ⟨(some 55), [], [.t 45, .t 54, .c (.bool false)], [], [], .pick, none⟩,
                   ⟨(some 56), [], [.t 55], [], [], .cp, none⟩,
                   ⟨(some 57), [], [.t 0], [], [], .cp, some (56, true)⟩,
                   ⟨(some 58), [], [.t 3], [3], [], .load true 3, some (56, true)⟩,
                   ⟨(some 59), [], [.c (.fn (F n_tally_Put)), .t 57, .t 58], [], [], .call 0 false, some (56, true)⟩,
                   ⟨(some 60), [], [.t 0], [], [], .cp, some (56, true)⟩,
                   ⟨(some 61), [], [.t 3], [3], [], .load true 3, some (56, true)⟩,
                   ⟨(some 62), [], [.c (.fn (F n_pref08_Put)), .t 60, .t 61], [], [], .call 0 false, some (56, true)⟩,
                   ⟨(some 63), [], [.c (.fn (F n_pref08_Same)), .t 59, .t 62], [], [], .call 0 false, some (56, true)⟩,
                   ⟨(some 64), [], [.t 56, .t 63, .c (.bool false)], [], [], .pick, none⟩,
                   ⟨(some 65), [], [.t 64], [], [], .cp, none⟩,
                   ⟨(some 66), [], [.t 5], [5], [], .load true 3, some (65, true)⟩,
                   ⟨(some 67), [], [.t 7], [7], [], .load true 3, some (65, true)⟩,
                   ⟨(some 68), [], [.t 66, .t 67], [], [], .eqa [.i, .i, .i] false, some (65, true)⟩,
                   ⟨(some 69), [], [.t 65, .t 68, .c (.bool false)], [], [], .pick, none⟩,
                   ⟨(some 70), [], [.t 69], [], [], .cp, none⟩,
                   ⟨(some 71), [], [.t 6], [], [], .cp, some (70, true)⟩,
                   ⟨(some 72), [], [.t 8], [], [], .cp, some (70, true)⟩,
                   ⟨(some 73), [], [.t 71, .t 72], [], [], .bini .eql, some (70, true)⟩,
                   ⟨(some 74), [], [.t 70, .t 73, .c (.bool false)], [], [], .pick, none⟩,
                   ⟨(some 75), [], [.t 74], [], [], .cp, none⟩,
                   ⟨(some 76), [], [.c (.fn (F n_plaw08_awake))], [], [], .call 0 false, some (75, true)⟩,
                   ⟨(some 77), [], [.t 75, .t 76, .c (.bool false)], [], [], .pick, none⟩,
                   ⟨(some 4), [77], [.t 77], [], [], .mv, none⟩] [36, 37, 38, 39, 40, 41, 42, 43, 44, 45, 46, 47, 48, 49, 50, 51, 52, 53, 54, 55, 56, 57, 58, 59, 60, 61, 62, 63, 64, 65, 66, 67, 68, 69, 70, 71, 72, 73, 74, 75, 76, 77] [])
                .ret))))))) }

def H_plaw08_TallyLattice : Hints := [(1, { ops := [], kt := [8, 9, 10, 11, 12, 13, 14, 15, 16, 17, 18, 19], kb := [] }),
  (2, { ops := [], kt := [21], kb := [] }),
  (3, { ops := [], kt := [22, 23, 24], kb := [] }),
  (4, { ops := [], kt := [25, 26, 27, 28, 29, 30, 31, 32, 33, 34, 35, 36, 37, 38, 39, 40, 41, 42, 43, 44, 45, 46, 47, 48, 49, 50], kb := [] })]
def c_plaw08_TallyLattice (F : Nat → FuncId) : AFun := { nparams := 3, ntmps := 51, results := [.tmp 6], body :=
  (.seq
    (.reg [⟨(some 6), [], [.c (.bool false)], [], [], .cp, none⟩] [] [])
    (.seq
      (.seq
        (.reg [⟨(some 8), [], [.t 0], [], [], .cp, none⟩,
           ⟨(some 9), [], [.c (.fn (F n_pref08_Good)), .t 8], [], [], .call 0 false, none⟩,
           ⟨(some 10), [], [.t 9], [], [], .not, none⟩,
           ⟨(some 11), [], [.t 10], [], [], .cp, none⟩,
           ⟨(some 12), [], [.t 1], [], [], .cp, some (11, false)⟩,
           ⟨(some 13), [], [.c (.fn (F n_pref08_Good)), .t 12], [], [], .call 0 false, some (11, false)⟩,
           ⟨(some 14), [], [.t 13], [], [], .not, some (11, false)⟩,
           ⟨(some 15), [], [.t 11, .c (.bool true), .t 14], [], [], .pick, none⟩,
           ⟨(some 16), [], [.t 15], [], [], .cp, none⟩,
           ⟨(some 17), [], [.t 2], [], [], .cp, some (16, false)⟩,
           ⟨(some 18), [], [.c (.fn (F n_pref08_Good)), .t 17], [], [], .call 0 false, some (16, false)⟩,
           ⟨(some 19), [], [.t 18], [], [], .not, some (16, false)⟩,
           ⟨(some 20), [], [.t 16, .c (.bool true), .t 19], [], [], .pick, none⟩] [8, 9, 10, 11, 12, 13, 14, 15, 16, 17, 18, 19] [])
        (.cond (.t 20)
          (.seq
            (.reg [⟨(some 21), [], [.c (.fn (F n_plaw08_awake))], [], [], .call 0 false, none⟩,
               ⟨(some 6), [21], [.t 21], [], [], .mv, none⟩] [21] [])
            .ret)
          .skip))
      (.seq
        (.reg [⟨(some 22), [], [.t 0], [], [], .cp, none⟩,
           ⟨(some 23), [], [.t 1], [], [], .cp, none⟩,
           ⟨(some 24), [], [.c (.fn (F n_tally_Join)), .t 22, .t 23], [], [], .call 0 false, none⟩,
           ⟨(some 7), [24], [.t 24], [], [], .mv, none⟩] [22, 23, 24] [])
        (.seq
          (.reg [⟨(some 25), [], [.t 7], [], [], .cp, none⟩,
             ⟨(some 26), [], [.t 1], [], [], .cp, none⟩,
             ⟨(some 27), [], [.t 0], [], [], .cp, none⟩,
             ⟨(some 28), [], [.c (.fn (F n_tally_Join)), .t 26, .t 27], [], [], .call 0 false, none⟩,
             ⟨(some 29), [], [.c (.fn (F n_tally_Same)), .t 25, .t 28], [], [], .call 0 false, none⟩,
             ⟨(some 30), [], [.t 29], [], [], .cp, none⟩,
             ⟨(some 31), [], [.t 7], [], [], .cp, some (30, true)⟩,
             ⟨(some 32), [], [.t 2], [], [], .cp, some (30, true)⟩,
             ⟨(some 33), [], [.c (.fn (F n_tally_Join)), .t 31, .t 32], [], [], .call 0 false, some (30, true)⟩,
             ⟨(some 34), [], [.t 0], [], [], .cp, some (30, true)⟩,
             ⟨(some 35), [], [.t 1], [], [], .cp, some (30, true)⟩,
             ⟨(some 36), [], [.t 2], [], [], .cp, some (30, true)⟩,
             ⟨(some 37), [], [.c (.fn (F n_tally_Join)), .t 35, .t 36], [], [], .call 0 false, some (30, true)⟩,
             ⟨(some 38), [], [.c (.fn (F n_tally_Join)), .t 34, .t 37], [], [], .call 0 false, some (30, true)⟩,
             ⟨(some 39), [], [.c (.fn (F n_tally_Same)), .t 33, .t 38], [], [], .call 0 false, some (30, true)⟩,
             ⟨(some 40), [], [.t 30, .t 39, .c (.bool false)], [], [], .pick, none⟩,
             ⟨(some 41), [], [.t 40], [], [], .cp, none⟩,
             ⟨(some 42), [], [.t 0], [], [], .cp, some (41, true)⟩,
             ⟨(some 43), [], [.t 0], [], [], .cp, some (41, true)⟩,
             ⟨(some 44), [], [.c (.fn (F n_tally_Join)), .t 42, .t 43], [], [], .call 0 false, some (41, true)⟩,
             ⟨(some 45), [], [.t 0], [], [], .cp, some (41, true)⟩,
             ⟨(some 46), [], [.c (.fn (F n_tally_Same)), .t 44, .t 45], [], [], .call 0 false, some (41, true)⟩,
             ⟨(some 47), [], [.t 41, .t 46, .c (.bool false)], [], [], .pick, none⟩,
             ⟨(some 48), [], [.t 47], [], [], .cp, none⟩,
             ⟨(some 49), [], [.c (.fn (F n_plaw08_awake))], [], [], .call 0 false, some (48, true)⟩,
             ⟨(some 50), [], [.t 48, .t 49, .c (.bool false)], [], [], .pick, none⟩,
             ⟨(some 6), [50], [.t 50], [], [], .mv, none⟩] [25, 26, 27, 28, 29, 30, 31, 32, 33, 34, 35, 36, 37, 38, 39, 40, 41, 42, 43, 44, 45, 46, 47, 48, 49, 50] [])
          .ret)))) }

def H_plaw08_TallyJoins : Hints := [(1, { ops := [], kt := [7, 8, 9, 10, 11, 12, 13], kb := [] }),
  (2, { ops := [], kt := [15], kb := [] }),
  (3, { ops := [], kt := [16, 17, 18, 19, 20, 21], kb := [] }),
  (4, { ops := [], kt := [22, 23, 24, 25, 26, 27, 28, 29, 30, 31, 32, 33, 34, 35, 36, 37, 38, 39, 40, 41, 42, 43, 44, 45, 46, 47, 48, 49, 50, 51, 52, 53], kb := [] })]
def c_plaw08_TallyJoins (F : Nat → FuncId) : AFun := { nparams := 2, ntmps := 54, results := [.tmp 4], body :=
  (.seq
    (.reg [⟨(some 4), [], [.c (.bool false)], [], [], .cp, none⟩] [] [])
    (.seq
      (.seq
        (.reg [⟨(some 7), [], [.t 0], [], [], .cp, none⟩,
           ⟨(some 8), [], [.c (.fn (F n_pref08_Good)), .t 7], [], [], .call 0 false, none⟩,
           ⟨(some 9), [], [.t 8], [], [], .not, none⟩,
           ⟨(some 10), [], [.t 9], [], [], .cp, none⟩,
           ⟨(some 11), [], [.t 1], [], [], .cp, some (10, false)⟩,
           ⟨(some 12), [], [.c (.fn (F n_pref08_Good)), .t 11], [], [], .call 0 false, some (10, false)⟩,
           ⟨(some 13), [], [.t 12], [], [], .not, some (10, false)⟩,
           ⟨(some 14), [], [.t 10, .c (.bool true), .t 13], [], [], .pick, none⟩] [7, 8, 9, 10, 11, 12, 13] [])
        (.cond (.t 14)
          (.seq
            (.reg [⟨(some 15), [], [.c (.fn (F n_plaw08_awake))], [], [], .call 0 false, none⟩,
               ⟨(some 4), [15], [.t 15], [], [], .mv, none⟩] [15] [])
            .ret)
          .skip))
      (.seq
        (.reg [⟨(some 16), [], [.t 0], [], [], .cp, none⟩,
           ⟨(some 17), [], [.t 1], [], [], .cp, none⟩,
           ⟨(some 18), [], [.c (.fn (F n_tally_Join)), .t 16, .t 17], [], [], .call 0 false, none⟩,
           ⟨(some 19), [], [.t 0], [], [], .cp, none⟩,
           ⟨(some 20), [], [.t 1], [], [], .cp, none⟩,
           ⟨(some 21), [], [.c (.fn (F n_tally_Over)), .t 19, .t 20], [], [], .call 0 false, none⟩,
           ⟨(some 5), [18], [.t 18], [], [], .mv, none⟩,
           ⟨(some 6), [21], [.t 21], [], [], .mv, none⟩] [16, 17, 18, 19, 20, 21] [])
        (.seq
          (.reg [⟨(some 22), [], [.t 5], [], [], .cp, none⟩,
             ⟨(some 23), [], [.t 0], [], [], .cp, none⟩,
             ⟨(some 24), [], [.t 1], [], [], .cp, none⟩,
             ⟨(some 25), [], [.c (.fn (F n_pref08_Join)), .t 23, .t 24], [], [], .call 0 false, none⟩,
             ⟨(some 26), [], [.c (.fn (F n_pref08_Same)), .t 22, .t 25], [], [], .call 0 false, none⟩,
             ⟨(some 27), [], [.t 26], [], [], .cp, none⟩,
             ⟨(some 28), [], [.t 6], [], [], .cp, some (27, true)⟩,
             ⟨(some 29), [], [.t 0], [], [], .cp, some (27, true)⟩,
             ⟨(some 30), [], [.t 1], [], [], .cp, some (27, true)⟩,
             ⟨(some 31), [], [.c (.fn (F n_pref08_Over)), .t 29, .t 30], [], [], .call 0 false, some (27, true)⟩,
             ⟨(some 32), [], [.c (.fn (F n_pref08_Same)), .t 28, .t 31], [], [], .call 0 false, some (27, true)⟩,
             ⟨(some 33), [], [.t 27, .t 32, .c (.bool false)], [], [], .pick, none⟩,
             ⟨(some 34), [], [.t 33], [], [], .cp, none⟩,
             ⟨(some 35), [], [.t 5], [], [], .cp, some (34, true)⟩,
             ⟨(some 36), [], [.c (.fn (F n_pref08_Right)), .t 35], [], [], .call 0 false, some (34, true)⟩,
             ⟨(some 37), [], [.t 34, .t 36, .c (.bool false)], [], [], .pick, none⟩,
             ⟨(some 38), [], [.t 37], [], [], .cp, none⟩,
             ⟨(some 39), [], [.t 6], [], [], .cp, some (38, true)⟩,
             ⟨(some 40), [], [.c (.fn (F n_pref08_Right)), .t 39], [], [], .call 0 false, some (38, true)⟩,
             ⟨(some 41), [], [.t 38, .t 40, .c (.bool false)], [], [], .pick, none⟩,
             ⟨(some 42), [], [.t 41], [], [], .cp, none⟩,
             ⟨(some 43), [], [.t 0], [], [], .cp, some (42, true)⟩,
             ⟨(some 44), [], [.t 1], [], [], .cp, some (42, true)⟩,
             ⟨(some 45), [], [.c (.fn (F n_tally_Same)), .t 43, .t 44], [], [], .call 0 false, some (42, true)⟩,
             ⟨(some 46), [], [.t 0], [], [], .cp, some (42, true)⟩,
             ⟨(some 47), [], [.t 1], [], [], .cp, some (42, true)⟩,
             ⟨(some 48), [], [.c (.fn (F n_pref08_Same)), .t 46, .t 47], [], [], .call 0 false, some (42, true)⟩,
             ⟨(some 49), [], [.t 45, .t 48], [], [], .binb false, some (42, true)⟩,
             ⟨(some 50), [], [.t 42, .t 49, .c (.bool false)], [], [], .pick, none⟩,
             ⟨(some 51), [], [.t 50], [], [], .cp, none⟩,
             ⟨(some 52), [], [.c (.fn (F n_plaw08_awake))], [], [], .call 0 false, some (51, true)⟩,
             ⟨(some 53), [], [.t 51, .t 52, .c (.bool false)], [], [], .pick, none⟩,
             ⟨(some 4), [53], [.t 53], [], [], .mv, none⟩] [22, 23, 24, 25, 26, 27, 28, 29, 30, 31, 32, 33, 34, 35, 36, 37, 38, 39, 40, 41, 42, 43, 44, 45, 46, 47, 48, 49, 50, 51, 52, 53] [])
          .ret)))) }

def H_plaw08_TallyDeltas : Hints := [(1, { ops := [], kt := [9, 10, 11, 12, 13, 14, 15], kb := [] }),
  (2, { ops := [], kt := [17], kb := [] }),
  (3, { ops := [], kt := [18, 19, 20, 21, 22, 23], kb := [] }),
  (4, { ops := [(14, { mr := [5] }), (18, { mr := [5] }), (21, { mr := [5] }), (28, { mr := [5] }), (31, { mr := [5] }), (34, { mr := [5] })], kt := [24, 25, 26, 27, 28, 29, 30, 31, 32, 33, 34, 35, 36, 37, 38, 39, 40, 41, 42, 43, 44, 45, 46, 47, 48, 49, 50, 51, 52, 53, 54, 55, 56, 57, 58, 59, 60, 61, 62, 63, 64, 65], kb := [] })]
def c_plaw08_TallyDeltas (F : Nat → FuncId) : AFun := { nparams := 3, ntmps := 66, results := [.tmp 6], body :=
  (.seq
    (.reg [⟨(some 5), [], [.t 2], [], [5], .box, none⟩,
       ⟨(some 6), [], [.c (.bool false)], [], [], .cp, none⟩] [] [])
    (.seq
      (.seq
        (.reg [⟨(some 9), [], [.t 0], [], [], .cp, none⟩,
           ⟨(some 10), [], [.c (.fn (F n_pref08_Good)), .t 9], [], [], .call 0 false, none⟩,
           ⟨(some 11), [], [.t 10], [], [], .not, none⟩,
           ⟨(some 12), [], [.t 11], [], [], .cp, none⟩,
           ⟨(some 13), [], [.t 1], [], [], .cp, some (12, false)⟩,
           ⟨(some 14), [], [.c (.fn (F n_pref08_Good)), .t 13], [], [], .call 0 false, some (12, false)⟩,
           ⟨(some 15), [], [.t 14], [], [], .not, some (12, false)⟩,
           ⟨(some 16), [], [.t 12, .c (.bool true), .t 15], [], [], .pick, none⟩] [9, 10, 11, 12, 13, 14, 15] [])
        (.cond (.t 16)
          (.seq
            (.reg [⟨(some 17), [], [.c (.fn (F n_plaw08_awake))], [], [], .call 0 false, none⟩,
               ⟨(some 6), [17], [.t 17], [], [], .mv, none⟩] [17] [])
            .ret)
          .skip))
      (.seq
        (.reg [⟨(some 18), [], [.t 0], [], [], .cp, none⟩,
           ⟨(some 19), [], [.t 1], [], [], .cp, none⟩,
           ⟨(some 20), [], [.c (.fn (F n_tally_Over)), .t 18, .t 19], [], [], .call 0 false, none⟩,
           ⟨(some 21), [], [.t 0], [], [], .cp, none⟩,
           ⟨(some 22), [], [.t 1], [], [], .cp, none⟩,
           ⟨(some 23), [], [.c (.fn (F n_tally_Join)), .t 21, .t 22], [], [], .call 0 false, none⟩,
           ⟨(some 7), [20], [.t 20], [], [], .mv, none⟩,
           ⟨(some 8), [23], [.t 23], [], [], .mv, none⟩] [18, 19, 20, 21, 22, 23] [])
        (.seq
          (.reg [⟨(some 24), [], [.t 1], [], [], .cp, none⟩,
             ⟨(some 25), [], [.t 7], [], [], .cp, none⟩,
             ⟨(some 26), [], [.c (.fn (F n_tally_Join)), .t 24, .t 25], [], [], .call 0 false, none⟩,
             ⟨(some 27), [], [.t 8], [], [], .cp, none⟩,
             ⟨(some 28), [], [.c (.fn (F n_tally_Same)), .t 26, .t 27], [], [], .call 0 false, none⟩,
             ⟨(some 29), [], [.t 28], [], [], .cp, none⟩,
             ⟨(some 30), [], [.t 0], [], [], .cp, some (29, true)⟩,
             ⟨(some 31), [], [.t 8], [], [], .cp, some (29, true)⟩,
             ⟨(some 32), [], [.c (.fn (F n_tally_Over)), .t 30, .t 31], [], [], .call 0 false, some (29, true)⟩,
             ⟨(some 33), [], [.t 32], [], [], .len false, some (29, true)⟩,
             ⟨(some 34), [], [.t 33, .c (.int .i64 0)], [], [], .bini .eql, some (29, true)⟩,
             ⟨(some 35), [], [.t 29, .t 34, .c (.bool false)], [], [], .pick, none⟩,
             ⟨(some 36), [], [.t 35], [], [], .cp, none⟩,
             ⟨(some 37), [], [.t 7], [], [], .cp, some (36, true)⟩,
             ⟨(some 38), [], [.t 5], [5], [], .load true 2, some (36, true)⟩,
             ⟨(some 39), [], [.c (.fn (F n_tally_Get)), .t 37, .t 38], [], [], .call 0 false, some (36, true)⟩,
             ⟨(some 40), [], [.t 39, .c (.int .i64 0)], [], [], .bini .gtr, some (36, true)⟩,
             ⟨(some 41), [], [.t 0], [], [], .cp, some (36, true)⟩,
             ⟨(some 42), [], [.t 5], [5], [], .load true 2, some (36, true)⟩,
             ⟨(some 43), [], [.c (.fn (F n_tally_Get)), .t 41, .t 42], [], [], .call 0 false, some (36, true)⟩,
             ⟨(some 44), [], [.t 1], [], [], .cp, some (36, true)⟩,
             ⟨(some 45), [], [.t 5], [5], [], .load true 2, some (36, true)⟩,
             ⟨(some 46), [], [.c (.fn (F n_tally_Get)), .t 44, .t 45], [], [], .call 0 false, some (36, true)⟩,
             ⟨(some 47), [], [.t 43, .t 46], [], [], .bini .gtr, some (36, true)⟩,
             ⟨(some 48), [], [.t 40, .t 47], [], [], .binb false, some (36, true)⟩,
             ⟨(some 49), [], [.t 36, .t 48, .c (.bool false)], [], [], .pick, none⟩,
             ⟨(some 50), [], [.t 49], [], [], .cp, none⟩,
             ⟨(some 51), [], [.t 8], [], [], .cp, some (50, true)⟩,
             ⟨(some 52), [], [.t 5], [5], [], .load true 2, some (50, true)⟩,
             ⟨(some 53), [], [.c (.fn (F n_tally_Get)), .t 51, .t 52], [], [], .call 0 false, some (50, true)⟩,
             ⟨(some 54), [], [.t 0], [], [], .cp, some (50, true)⟩,
             ⟨(some 55), [], [.t 5], [5], [], .load true 2, some (50, true)⟩,
             ⟨(some 56), [], [.c (.fn (F n_tally_Get)), .t 54, .t 55], [], [], .call 0 false, some (50, true)⟩,
             ⟨(some 57), [], [.t 1], [], [], .cp, some (50, true)⟩,
             ⟨(some 58), [], [.t 5], [5], [], .load true 2, some (50, true)⟩,
             ⟨(some 59), [], [.c (.fn (F n_tally_Get)), .t 57, .t 58], [], [], .call 0 false, some (50, true)⟩,
             ⟨(some 60), [], [.t 56, .t 59], [], [], .maxi, some (50, true)⟩,
             ⟨(some 61), [], [.t 53, .t 60], [], [], .bini .eql, some (50, true)⟩,
             ⟨(some 62), [], [.t 50, .t 61, .c (.bool false)], [], [], .pick, none⟩,
             ⟨(some 63), [], [.t 62], [], [], .cp, none⟩,
             ⟨(some 64), [], [.c (.fn (F n_plaw08_awake))], [], [], .call 0 false, some (63, true)⟩,
             ⟨(some 65), [], [.t 63, .t 64, .c (.bool false)], [], [], .pick, none⟩,
             ⟨(some 6), [65], [.t 65], [], [], .mv, none⟩] [24, 25, 26, 27, 28, 29, 30, 31, 32, 33, 34, 35, 36, 37, 38, 39, 40, 41, 42, 43, 44, 45, 46, 47, 48, 49, 50, 51, 52, 53, 54, 55, 56, 57, 58, 59, 60, 61, 62, 63, 64, 65] [])
          .ret)))) }

def H_pref08_Good : Hints := [(1, { ops := [], kt := [3, 4, 5, 6, 7, 8, 9], kb := [] })]
def c_pref08_Good (F : Nat → FuncId) : AFun := { nparams := 1, ntmps := 10, results := [.tmp 2], body :=
  (.seq
    (.reg [⟨(some 2), [], [.c (.bool false)], [], [], .cp, none⟩] [] [])
    (.seq
      (.reg [⟨(some 3), [], [.t 0], [], [], .cp, none⟩,
         ⟨(some 4), [], [.t 3], [], [], .len false, none⟩,
         ⟨(some 5), [], [.t 4, .c (.int .i64 100)], [], [], .bini .leq, none⟩,
         ⟨(some 6), [], [.t 5], [], [], .cp, none⟩,
         ⟨(some 7), [], [.t 0], [], [], .cp, some (6, true)⟩,
         ⟨(some 8), [], [.c (.fn (F n_pref08_Right)), .t 7], [], [], .call 0 false, some (6, true)⟩,
         ⟨(some 9), [], [.t 6, .t 8, .c (.bool false)], [], [], .pick, none⟩,
         ⟨(some 2), [9], [.t 9], [], [], .mv, none⟩] [3, 4, 5, 6, 7, 8, 9] [])
      .ret)) }

def H_pref04_Right : Hints := [(1, { ops := [(1, { mr := [1] }), (5, { mr := [1] }), (10, { mr := [1] }), (15, { mr := [1] })], kt := [3, 4, 5, 6, 7, 8, 9, 10, 11, 12, 13, 14, 15, 16, 17, 18, 19, 20], kb := [] })]
def c_pref04_Right (F : Nat → FuncId) : AFun := { nparams := 1, ntmps := 21, results := [.tmp 2], body :=
  (.seq
    (.reg [⟨(some 1), [], [.t 0], [], [1], .box, none⟩,
       ⟨(some 2), [], [.c (.bool false)], [], [], .cp, none⟩] [] [])
    (.seq
      (.reg [⟨(some 3), [], [.t 1], [], [], .faddr 0, none⟩,
         ⟨(some 4), [], [.t 3], [1], [], .load false 1, none⟩,
         ⟨(some 5), [], [.t 4, .c (.int .i64 0)], [], [], .bini .geq, none⟩,
         ⟨(some 6), [], [.t 5], [], [], .cp, none⟩,
         ⟨(some 7), [], [.t 1], [], [], .faddr 0, some (6, true)⟩,
         ⟨(some 8), [], [.t 7], [1], [], .load false 1, some (6, true)⟩,
         ⟨(some 9), [], [.t 8, .c (.int .i64 15)], [], [], .bini .leq, some (6, true)⟩,
         ⟨(some 10), [], [.t 6, .t 9, .c (.bool false)], [], [], .pick, none⟩,
         ⟨(some 11), [], [.t 10], [], [], .cp, none⟩,
         ⟨(some 12), [], [.t 1], [], [], .faddr 1, some (11, true)⟩,
         ⟨(some 13), [], [.t 12], [1], [], .load false 1, some (11, true)⟩,
         ⟨(some 14), [], [.t 13, .c (.int .i64 1)], [], [], .bini .geq, some (11, true)⟩,
         ⟨(some 15), [], [.t 11, .t 14, .c (.bool false)], [], [], .pick, none⟩,
         ⟨(some 16), [], [.t 15], [], [], .cp, none⟩,
         ⟨(some 17), [], [.t 1], [], [], .faddr 1, some (16, true)⟩,
         ⟨(some 18), [], [.t 17], [1], [], .load false 1, some (16, true)⟩,
         ⟨(some 19), [], [.t 18, .c (.int .i64 1048576)], [], [], .bini .leq, some (16, true)⟩,
         ⟨(some 20), [], [.t 16, .t 19, .c (.bool false)], [], [], .pick, none⟩,
         ⟨(some 2), [20], [.t 20], [], [], .mv, none⟩] [3, 4, 5, 6, 7, 8, 9, 10, 11, 12, 13, 14, 15, 16, 17, 18, 19, 20] [])
      .ret)) }

def H_plaw08_awake : Hints := [(1, { ops := [(2, { mw := [1] })], kt := [5], kb := [] }),
  (2, { ops := [(0, { mr := [1] })], kt := [6, 7, 8], kb := [] }),
  (3, { ops := [(1, { mr := [1] }), (7, { mw := [3] })], kt := [9, 10, 11, 12, 13, 14], kb := [] }),
  (4, { ops := [(1, { mr := [1] }), (10, { mr := [3] }), (12, { mr := [1] }), (17, { mr := [3] }), (19, { mr := [1] })], kt := [15, 16, 17, 18, 19, 20, 21, 22, 23, 24, 25, 26, 27, 28, 29, 30, 31, 32, 33, 34, 35, 36, 37], kb := [] })]
def c_plaw08_awake (F : Nat → FuncId) : AFun := { nparams := 0, ntmps := 38, results := [.tmp 0], body :=
  (.seq
    (.reg [⟨(some 0), [], [.c (.bool false)], [], [], .cp, none⟩] [] [])
    (.seq
      (.reg [⟨(some 5), [], [.c (.int .i64 1)], [], [], .build [.int .i64 0, .int .i64 0] [(1, 1)], none⟩,
         ⟨(some 1), [], [], [], [1], .alloc [.val (.int .i64 0), .val (.int .i64 0)], none⟩,
         ⟨none, [5], [.t 1, .t 5], [], [1], .store true 2, none⟩] [5] [])
      (.seq
        (.reg [⟨(some 6), [], [.t 1], [1], [], .load true 2, none⟩,
           ⟨(some 7), [], [.t 6, .c (.int .i64 1)], [], [], .build [.int .i64 0, .int .i64 0, .int .i64 0] [(0, 2), (2, 1)], none⟩,
           ⟨(some 8), [], [.c (.fn (F n_tally_Put)), .c (.sl 3 []), .t 7], [], [], .call 0 false, none⟩,
           ⟨(some 2), [8], [.t 8], [], [], .mv, none⟩] [6, 7, 8] [])
        (.seq
          (.reg [⟨(some 10), [], [.t 2], [], [], .cp, none⟩,
             ⟨(some 11), [], [.t 1], [1], [], .load true 2, none⟩,
             ⟨(some 12), [], [.c (.fn (F n_tally_Raise)), .t 10, .t 11], [], [], .call 0 false, none⟩,
             ⟨(some 9), [], [.t 12], [], [], .cp, none⟩,
             ⟨(some 13), [], [.t 9], [], [], .extract 0, none⟩,
             ⟨(some 14), [], [.t 9], [], [], .extract 1, none⟩,
             ⟨(some 3), [], [], [], [3], .alloc [.val (.int .i64 0), .val (.int .i64 0), .val (.int .i64 0)], none⟩,
             ⟨none, [13], [.t 3, .t 13], [], [3], .store true 3, none⟩,
             ⟨(some 4), [14], [.t 14], [], [], .mv, none⟩] [9, 10, 11, 12, 13, 14] [])
          (.seq
            (.reg [⟨(some 15), [], [.t 2], [], [], .cp, none⟩,
               ⟨(some 16), [], [.t 1], [1], [], .load true 2, none⟩,
               ⟨(some 17), [], [.c (.fn (F n_tally_Seen)), .t 15, .t 16], [], [], .call 0 false, none⟩,
               ⟨(some 18), [], [.t 17], [], [], .not, none⟩,
               ⟨(some 19), [], [.t 18], [], [], .cp, none⟩,
               ⟨(some 20), [], [.t 4], [], [], .cp, some (19, true)⟩,
               ⟨(some 21), [], [.t 20, .c (.int .i64 0)], [], [], .bini .eql, some (19, true)⟩,
               ⟨(some 22), [], [.t 19, .t 21, .c (.bool false)], [], [], .pick, none⟩,
               ⟨(some 23), [], [.t 22], [], [], .cp, none⟩,
               ⟨(some 24), [], [.t 2], [], [], .cp, some (23, true)⟩,
               ⟨(some 25), [], [.t 3], [3], [], .load true 3, some (23, true)⟩,
               ⟨(some 26), [], [.c (.fn (F n_tally_Put)), .t 24, .t 25], [], [], .call 0 false, some (23, true)⟩,
               ⟨(some 27), [], [.t 1], [1], [], .load true 2, some (23, true)⟩,
               ⟨(some 28), [], [.c (.fn (F n_tally_Seen)), .t 26, .t 27], [], [], .call 0 false, some (23, true)⟩,
               ⟨(some 29), [], [.t 23, .t 28, .c (.bool false)], [], [], .pick, none⟩,
               ⟨(some 30), [], [.t 29], [], [], .cp, none⟩,
               ⟨(some 31), [], [.t 2], [], [], .cp, some (30, true)⟩,
               ⟨(some 32), [], [.t 3], [3], [], .load true 3, some (30, true)⟩,
               ⟨(some 33), [], [.c (.fn (F n_tally_Put)), .t 31, .t 32], [], [], .call 0 false, some (30, true)⟩,
               ⟨(some 34), [], [.t 1], [1], [], .load true 2, some (30, true)⟩,
               ⟨(some 35), [], [.c (.fn (F n_tally_Get)), .t 33, .t 34], [], [], .call 0 false, some (30, true)⟩,
               ⟨(some 36), [], [.t 35, .c (.int .i64 2)], [], [], .bini .eql, some (30, true)⟩,
               ⟨(some 37), [], [.t 30, .t 36, .c (.bool false)], [], [], .pick, none⟩,
               ⟨(some 0), [37], [.t 37], [], [], .mv, none⟩] [15, 16, 17, 18, 19, 20, 21, 22, 23, 24, 25, 26, 27, 28, 29, 30, 31, 32, 33, 34, 35, 36, 37] [])
            .ret))))) }

def H_tally_Raise : Hints := [(1, { ops := [(1, { mr := [3] })], kt := [7, 8, 9], kb := [] }),
  (2, { ops := [(0, { mr := [3] })], kt := [11, 12, 13], kb := [] }),
  (3, { ops := [(1, { mw := [4] })], kt := [14], kb := [] }),
  (4, { ops := [], kt := [16, 17], kb := [] }),
  (5, { ops := [(1, { mw := [4] })], kt := [18], kb := [] }),
  (6, { ops := [(0, { mr := [3] }), (4, { mw := [4] })], kt := [19, 20, 21, 22], kb := [] })]
def c_tally_Raise (F : Nat → FuncId) : AFun := { nparams := 2, ntmps := 23, results := [.cell 4 true 3, .tmp 5], body :=
  (.seq
    (.reg [⟨(some 3), [], [.t 1], [], [3], .box, none⟩,
       ⟨(some 4), [], [], [], [4], .alloc [.val (.int .i64 0), .val (.int .i64 0), .val (.int .i64 0)], none⟩,
       ⟨(some 5), [], [.c (.int .i64 0)], [], [], .cp, none⟩] [] [])
    (.seq
      (.reg [⟨(some 7), [], [.t 0], [], [], .cp, none⟩,
         ⟨(some 8), [], [.t 3], [3], [], .load true 2, none⟩,
         ⟨(some 9), [], [.c (.fn (F n_tally_Get)), .t 7, .t 8], [], [], .call 0 false, none⟩,
         ⟨(some 6), [9], [.t 9], [], [], .mv, none⟩] [7, 8, 9] [])
      (.seq
        (.block 0
          (.seq
            (.reg [⟨(some 11), [], [.t 3], [3], [], .load true 2, none⟩,
               ⟨(some 12), [], [.c (.fn (F n_dot_Right)), .t 11], [], [], .call 0 false, none⟩,
               ⟨(some 13), [], [.t 12], [], [], .not, none⟩,
               ⟨(some 10), [13], [.t 13], [], [], .mv, none⟩] [11, 12, 13] [])
            (.cond (.t 10)
              (.seq
                (.reg [⟨(some 14), [], [], [], [], .build [.int .i64 0, .int .i64 0, .int .i64 0] [], none⟩,
                   ⟨none, [14], [.t 4, .t 14], [], [4], .store true 3, none⟩,
                   ⟨(some 5), [], [.c (.int .i64 2)], [], [], .cp, none⟩] [14] [])
                .ret)
              (.seq
                (.reg [⟨(some 16), [], [.t 6], [], [], .cp, none⟩,
                   ⟨(some 17), [], [.t 16, .c (.int .i64 64)], [], [], .bini .geq, none⟩,
                   ⟨(some 15), [17], [.t 17], [], [], .mv, none⟩] [16, 17] [])
                (.cond (.t 15)
                  (.seq
                    (.reg [⟨(some 18), [], [], [], [], .build [.int .i64 0, .int .i64 0, .int .i64 0] [], none⟩,
                       ⟨none, [18], [.t 4, .t 18], [], [4], .store true 3, none⟩,
                       ⟨(some 5), [], [.c (.int .i64 14)], [], [], .cp, none⟩] [18] [])
                    .ret)
                  .skip)))))
        (.seq
          (.reg [⟨(some 19), [], [.t 3], [3], [], .load true 2, none⟩,
             ⟨(some 20), [], [.t 6], [], [], .cp, none⟩,
             ⟨(some 21), [], [.t 20, .c (.int .i64 1)], [], [], .bini .add, none⟩,
             ⟨(some 22), [], [.t 19, .t 21], [], [], .build [.int .i64 0, .int .i64 0, .int .i64 0] [(0, 2), (2, 1)], none⟩,
             ⟨none, [22], [.t 4, .t 22], [], [4], .store true 3, none⟩,
             ⟨(some 5), [], [.c (.int .i64 0)], [], [], .cp, none⟩] [19, 20, 21, 22] [])
          .ret)))) }

def H_tally_Get : Hints := [(1, { ops := [(1, { mr := [3] })], kt := [7, 8, 9, 10, 11, 12], kb := [] }),
  (3, { ops := [], kt := [14, 15, 16, 17, 18], kb := [] })]
def c_tally_Get (F : Nat → FuncId) : AFun := { nparams := 2, ntmps := 19, results := [.tmp 4], body :=
  (.seq
    (.reg [⟨(some 3), [], [.t 1], [], [3], .box, none⟩,
       ⟨(some 4), [], [.c (.int .i64 0)], [], [], .cp, none⟩] [] [])
    (.seq
      (.seq
        (.reg [⟨(some 8), [], [.t 0], [], [], .cp, none⟩,
           ⟨(some 9), [], [.t 3], [3], [], .load true 2, none⟩,
           ⟨(some 10), [], [.c (.fn (F n_tally_at)), .t 8, .t 9], [], [], .call 0 false, none⟩,
           ⟨(some 7), [], [.t 10], [], [], .cp, none⟩,
           ⟨(some 11), [], [.t 7], [], [], .extract 0, none⟩,
           ⟨(some 12), [], [.t 7], [], [], .extract 1, none⟩,
           ⟨(some 5), [11], [.t 11], [], [], .mv, none⟩,
           ⟨(some 6), [12], [.t 12], [], [], .mv, none⟩] [7, 8, 9, 10, 11, 12] [])
        (.seq
          (.reg [⟨(some 13), [], [.t 6], [], [], .cp, none⟩] [] [])
          (.cond (.t 13)
            (.seq
              (.reg [⟨(some 14), [], [.t 0], [], [], .cp, none⟩,
                 ⟨(some 15), [], [.t 5], [], [], .cp, none⟩,
                 ⟨(some 16), [], [.t 14, .t 15], [], [], .iaddr none 3, none⟩,
                 ⟨(some 17), [], [.t 16], [], [], .faddr 2, none⟩,
                 ⟨(some 18), [], [.t 17], [], [], .load false 1, none⟩,
                 ⟨(some 4), [18], [.t 18], [], [], .mv, none⟩] [14, 15, 16, 17, 18] [])
              .ret)
            .skip)))
      (.seq
        (.reg [⟨(some 4), [], [.c (.int .i64 0)], [], [], .cp, none⟩] [] [])
        .ret))) }

def H_tally_Put : Hints := [(1, { ops := [(1, { mr := [3] }), (6, { mr := [3] }), (11, { mr := [3] })], kt := [7, 8, 9, 10, 11, 12, 13, 14, 15, 16, 17, 18, 19], kb := [] }),
  (2, { ops := [], kt := [21], kb := [] }),
  (3, { ops := [(2, { mr := [3] })], kt := [22, 23, 24, 25, 26, 27, 28], kb := [] }),
  (4, { ops := [], kt := [30, 31], kb := [] }),
  (5, { ops := [(3, { mr := [3] }), (4, { x := 1 }), (5, { x := 1, wb := [33, 36] }), (6, { x := 3 })], kt := [32, 33, 34, 35, 36, 37], kb := [] }),
  (6, { ops := [(6, { mr := [3] })], kt := [39, 40, 41, 42, 43, 44, 45, 46], kb := [] }),
  (7, { ops := [], kt := [47], kb := [] }),
  (8, { ops := [], kt := [48, 49], kb := [] }),
  (9, { ops := [(0, { x := 2 }), (2, { mr := [3] }), (4, { mw := [50] })], kt := [50, 51, 52, 53], kb := [], cl := [(0, 50, 3)] }),
  (10, { ops := [(0, { x := 3 })], kt := [54], kb := [] })]
def c_tally_Put (F : Nat → FuncId) : AFun := { nparams := 2, ntmps := 55, results := [.tmp 4], body :=
  (.seq
    (.reg [⟨(some 3), [], [.t 1], [], [3], .box, none⟩,
       ⟨(some 4), [], [], [], [], .nils 3, none⟩] [] [])
    (.seq
      (.seq
        (.reg [⟨(some 7), [], [.t 3], [], [], .faddr 0, none⟩,
           ⟨(some 8), [], [.t 7], [3], [], .load true 2, none⟩,
           ⟨(some 9), [], [.c (.fn (F n_dot_Right)), .t 8], [], [], .call 0 false, none⟩,
           ⟨(some 10), [], [.t 9], [], [], .not, none⟩,
           ⟨(some 11), [], [.t 10], [], [], .cp, none⟩,
           ⟨(some 12), [], [.t 3], [], [], .faddr 2, some (11, false)⟩,
           ⟨(some 13), [], [.t 12], [3], [], .load false 1, some (11, false)⟩,
           ⟨(some 14), [], [.t 13, .c (.int .i64 1)], [], [], .bini .lss, some (11, false)⟩,
           ⟨(some 15), [], [.t 11, .c (.bool true), .t 14], [], [], .pick, none⟩,
           ⟨(some 16), [], [.t 15], [], [], .cp, none⟩,
           ⟨(some 17), [], [.t 3], [], [], .faddr 2, some (16, false)⟩,
           ⟨(some 18), [], [.t 17], [3], [], .load false 1, some (16, false)⟩,
           ⟨(some 19), [], [.t 18, .c (.int .i64 64)], [], [], .bini .gtr, some (16, false)⟩,
           ⟨(some 20), [], [.t 16, .c (.bool true), .t 19], [], [], .pick, none⟩] [7, 8, 9, 10, 11, 12, 13, 14, 15, 16, 17, 18, 19] [])
        (.cond (.t 20)
          (.seq
            (.reg [⟨(some 21), [], [.t 0], [], [], .cp, none⟩,
               ⟨(some 4), [21], [.t 21], [], [], .mv, none⟩] [21] [])
            .ret)
          .skip))
      (.seq
        (.reg [⟨(some 23), [], [.t 0], [], [], .cp, none⟩,
           ⟨(some 24), [], [.t 3], [], [], .faddr 0, none⟩,
           ⟨(some 25), [], [.t 24], [3], [], .load true 2, none⟩,
           ⟨(some 26), [], [.c (.fn (F n_tally_at)), .t 23, .t 25], [], [], .call 0 false, none⟩,
           ⟨(some 22), [], [.t 26], [], [], .cp, none⟩,
           ⟨(some 27), [], [.t 22], [], [], .extract 0, none⟩,
           ⟨(some 28), [], [.t 22], [], [], .extract 1, none⟩,
           ⟨(some 5), [27], [.t 27], [], [], .mv, none⟩,
           ⟨(some 6), [28], [.t 28], [], [], .mv, none⟩] [22, 23, 24, 25, 26, 27, 28] [])
        (.seq
          (.block 0
            (.seq
              (.reg [⟨(some 30), [], [.t 6], [], [], .cp, none⟩,
                 ⟨(some 31), [], [.t 30], [], [], .not, none⟩,
                 ⟨(some 29), [31], [.t 31], [], [], .mv, none⟩] [30, 31] [])
              (.cond (.t 29)
                (.seq
                  (.reg [⟨(some 32), [], [.t 0], [], [], .cp, none⟩,
                     ⟨(some 33), [], [.c (.fn (F n_slices_Clone_api_Undo_api_Undo)), .t 32], [], [], .call 0 false, none⟩,
                     ⟨(some 34), [], [.t 5], [], [], .cp, none⟩,
                     ⟨(some 35), [], [.t 3], [3], [], .load true 3, none⟩,
                     ⟨(some 36), [], [.t 35], [], [], .bslicex 3 [.int .i64 0, .int .i64 0, .int .i64 0] [(0, 3)], none⟩,
                     ⟨(some 37), [33, 36], [.c (.fn (F n_slices_Insert_api_Undo_api_Undo)), .t 33, .t 34, .t 36], [], [], .callx 0 false, none⟩,
                     ⟨(some 4), [37], [.t 37], [], [], .pubv, none⟩] [32, 33, 34, 35, 36, 37] [])
                  .ret)
                (.seq
                  (.reg [⟨(some 39), [], [.t 0], [], [], .cp, none⟩,
                     ⟨(some 40), [], [.t 5], [], [], .cp, none⟩,
                     ⟨(some 41), [], [.t 39, .t 40], [], [], .iaddr none 3, none⟩,
                     ⟨(some 42), [], [.t 41], [], [], .faddr 2, none⟩,
                     ⟨(some 43), [], [.t 42], [], [], .load false 1, none⟩,
                     ⟨(some 44), [], [.t 3], [], [], .faddr 2, none⟩,
                     ⟨(some 45), [], [.t 44], [3], [], .load false 1, none⟩,
                     ⟨(some 46), [], [.t 43, .t 45], [], [], .bini .geq, none⟩,
                     ⟨(some 38), [46], [.t 46], [], [], .mv, none⟩] [39, 40, 41, 42, 43, 44, 45, 46] [])
                  (.cond (.t 38)
                    (.seq
                      (.reg [⟨(some 47), [], [.t 0], [], [], .cp, none⟩,
                         ⟨(some 4), [47], [.t 47], [], [], .mv, none⟩] [47] [])
                      .ret)
                    .skip)))))
          (.seq
            (.reg [⟨(some 48), [], [.t 0], [], [], .cp, none⟩,
               ⟨(some 49), [], [.c (.fn (F n_slices_Clone_api_Undo_api_Undo)), .t 48], [], [], .call 0 false, none⟩,
               ⟨(some 0), [49], [.t 49], [], [], .mv, none⟩] [48, 49] [])
            (.seq
              (.seq (.reg [⟨(some 50), [0], [.t 0], [], [50], .openx, none⟩,
                 ⟨(some 51), [], [.t 5], [], [], .cp, none⟩,
                 ⟨(some 52), [], [.t 3], [3], [], .load true 3, none⟩,
                 ⟨(some 53), [], [.t 50, .t 51], [], [], .iaddr none 3, none⟩,
                 ⟨none, [52], [.t 53, .t 52], [], [50], .store true 3, none⟩] [50, 51, 52, 53] []) (.close 0 50 3))
              (.seq
                (.reg [⟨(some 54), [0], [.t 0], [], [], .pubv, none⟩,
                   ⟨(some 4), [54], [.t 54], [], [], .mv, none⟩] [54] [])
                .ret))))))) }

def H_tally_Seen : Hints := [(1, { ops := [(1, { mr := [3] })], kt := [5, 6, 7, 8, 9], kb := [] })]
def c_tally_Seen (F : Nat → FuncId) : AFun := { nparams := 2, ntmps := 10, results := [.tmp 4], body :=
  (.seq
    (.reg [⟨(some 3), [], [.t 1], [], [3], .box, none⟩,
       ⟨(some 4), [], [.c (.bool false)], [], [], .cp, none⟩] [] [])
    (.seq
      (.reg [⟨(some 5), [], [.t 0], [], [], .cp, none⟩,
         ⟨(some 6), [], [.t 3], [3], [], .load true 2, none⟩,
         ⟨(some 7), [], [.c (.fn (F n_tally_Get)), .t 5, .t 6], [], [], .call 0 false, none⟩,
         ⟨(some 8), [], [.t 7, .c (.int .i64 2)], [], [], .bini .rem, none⟩,
         ⟨(some 9), [], [.t 8, .c (.int .i64 0)], [], [], .bini .eql, none⟩,
         ⟨(some 4), [9], [.t 9], [], [], .mv, none⟩] [5, 6, 7, 8, 9] [])
      .ret)) }

def H_tally_Right : Hints := [(3, { ops := [(5, { mw := [4] })], kt := [9, 10, 11], kb := [] }),
  (4, { ops := [(1, { mr := [4] }), (6, { mr := [4] }), (11, { mr := [4] }), (23, { mr := [4] })], kt := [12, 13, 14, 15, 16, 17, 18, 19, 20, 21, 22, 23, 24, 25, 26, 27, 28, 29, 30, 31, 32, 33, 34, 35, 36, 37, 38], kb := [] }),
  (6, { ops := [], kt := [3, 4, 8, 9, 10, 11, 12, 13, 14, 15, 16, 17, 18, 19, 20, 21, 22, 23, 24, 25, 26, 27, 28, 29, 30, 31, 32, 33, 34, 35, 36, 37, 38, 39, 40], kb := [4] })]
def c_tally_Right (F : Nat → FuncId) : AFun := { nparams := 1, ntmps := 41, results := [.tmp 2], body :=
  (.seq
    (.reg [⟨(some 2), [], [.c (.bool false)], [], [], .cp, none⟩] [] [])
    (.seq
      (.seq
        (.reg [⟨(some 5), [], [.t 0], [], [], .cp, none⟩,
           ⟨(some 6), [], [.t 5], [], [], .len false, none⟩,
           ⟨(some 7), [], [.c (.int .i64 0)], [], [], .cp, none⟩] [] [])
        (.block 0
          (.loop
            (.seq
              (.reg [⟨(some 8), [], [.t 7, .t 6], [], [], .bini .lss, none⟩] [] [])
              (.seq
                (.cond (.t 8)
                  .skip
                  (.exit 0))
                (.seq
                  (.block 1
                    (.seq
                      (.reg [⟨(some 9), [], [.t 7], [], [], .cp, none⟩,
                         ⟨(some 10), [], [.t 5, .t 7], [], [], .iaddr none 3, none⟩,
                         ⟨(some 11), [], [.t 10], [], [], .load true 3, none⟩,
                         ⟨(some 4), [], [], [], [4], .alloc [.val (.int .i64 0), .val (.int .i64 0), .val (.int .i64 0)], none⟩,
                         ⟨(some 3), [9], [.t 9], [], [], .mv, none⟩,
                         ⟨none, [11], [.t 4, .t 11], [], [4], .store true 3, none⟩] [9, 10, 11] [])
                      (.seq
                        (.reg [⟨(some 12), [], [.t 4], [], [], .faddr 0, none⟩,
                           ⟨(some 13), [], [.t 12], [4], [], .load true 2, none⟩,
                           ⟨(some 14), [], [.c (.fn (F n_dot_Right)), .t 13], [], [], .call 0 false, none⟩,
                           ⟨(some 15), [], [.t 14], [], [], .not, none⟩,
                           ⟨(some 16), [], [.t 15], [], [], .cp, none⟩,
                           ⟨(some 17), [], [.t 4], [], [], .faddr 2, some (16, false)⟩,
                           ⟨(some 18), [], [.t 17], [4], [], .load false 1, some (16, false)⟩,
                           ⟨(some 19), [], [.t 18, .c (.int .i64 1)], [], [], .bini .lss, some (16, false)⟩,
                           ⟨(some 20), [], [.t 16, .c (.bool true), .t 19], [], [], .pick, none⟩,
                           ⟨(some 21), [], [.t 20], [], [], .cp, none⟩,
                           ⟨(some 22), [], [.t 4], [], [], .faddr 2, some (21, false)⟩,
                           ⟨(some 23), [], [.t 22], [4], [], .load false 1, some (21, false)⟩,
                           ⟨(some 24), [], [.t 23, .c (.int .i64 64)], [], [], .bini .gtr, some (21, false)⟩,
                           ⟨(some 25), [], [.t 21, .c (.bool true), .t 24], [], [], .pick, none⟩,
                           ⟨(some 26), [], [.t 25], [], [], .cp, none⟩,
                           ⟨(some 27), [], [.t 3], [], [], .cp, some (26, false)⟩,
                           ⟨(some 28), [], [.t 27, .c (.int .i64 0)], [], [], .bini .gtr, some (26, false)⟩,
                           ⟨(some 29), [], [.t 28], [], [], .cp, some (26, false)⟩,
                           ⟨(some 30), [], [.t 0], [], [], .cp, some (29, true)⟩,
                           ⟨(some 31), [], [.t 3], [], [], .cp, some (29, true)⟩,
                           ⟨(some 32), [], [.t 31, .c (.int .i64 1)], [], [], .bini .sub, some (29, true)⟩,
                           ⟨(some 33), [], [.t 30, .t 32], [], [], .iaddr none 3, some (29, true)⟩,
                           ⟨(some 34), [], [.t 33], [], [], .load true 3, some (29, true)⟩,
                           ⟨(some 35), [], [.t 4], [4], [], .load true 3, some (29, true)⟩,
                           ⟨(some 36), [], [.c (.fn (F n_tally_compare)), .t 34, .t 35], [], [], .call 0 false, some (29, true)⟩,
                           ⟨(some 37), [], [.t 36, .c (.int .i64 0)], [], [], .bini .geq, some (29, true)⟩,
                           ⟨(some 38), [], [.t 29, .t 37, .c (.bool false)], [], [], .pick, some (26, false)⟩,
                           ⟨(some 39), [], [.t 26, .c (.bool true), .t 38], [], [], .pick, none⟩] [12, 13, 14, 15, 16, 17, 18, 19, 20, 21, 22, 23, 24, 25, 26, 27, 28, 29, 30, 31, 32, 33, 34, 35, 36, 37, 38] [])
                        (.cond (.t 39)
                          (.seq
                            (.reg [⟨(some 2), [], [.c (.bool false)], [], [], .cp, none⟩] [] [])
                            .ret)
                          .skip))))
                  (.reg [⟨(some 40), [], [.t 7, .c (.int .i64 1)], [], [], .bini .add, none⟩,
                     ⟨(some 7), [], [.t 40], [], [], .cp, none⟩] [3, 4, 8, 9, 10, 11, 12, 13, 14, 15, 16, 17, 18, 19, 20, 21, 22, 23, 24, 25, 26, 27, 28, 29, 30, 31, 32, 33, 34, 35, 36, 37, 38, 39, 40] [4])))))))
      (.seq
        (.reg [⟨(some 2), [], [.c (.bool true)], [], [], .cp, none⟩] [] [])
        .ret))) }

def H_pref08_Right : Hints := [(2, { ops := [], kt := [4, 5, 6], kb := [] }),
  (3, { ops := [], kt := [4, 5, 6, 7, 8, 9, 10, 11, 12, 13, 14, 15, 16, 17, 18, 19, 20, 21, 22, 23, 24, 25, 26, 27, 28, 29, 30, 31, 32, 33, 34], kb := [] }),
  (4, { ops := [], kt := [10, 11, 12, 13, 14, 15, 16, 17, 18, 19, 20, 21, 22, 23, 24, 25, 26, 27, 28, 29, 30, 31, 32, 33], kb := [] })]
def c_pref08_Right (F : Nat → FuncId) : AFun := { nparams := 1, ntmps := 35, results := [.tmp 2], body :=
  (.seq
    (.reg [⟨(some 2), [], [.c (.bool false)], [], [], .cp, none⟩] [] [])
    (.seq
      (.seq
        (.reg [⟨(some 3), [], [.c (.int .i64 0)], [], [], .cp, none⟩] [] [])
        (.block 0
          (.loop
            (.seq
              (.seq
                (.reg [⟨(some 4), [], [.t 3], [], [], .cp, none⟩,
                   ⟨(some 5), [], [.t 0], [], [], .cp, none⟩,
                   ⟨(some 6), [], [.t 5], [], [], .len false, none⟩,
                   ⟨(some 7), [], [.t 4, .t 6], [], [], .bini .lss, none⟩] [4, 5, 6] [])
                (.cond (.t 7)
                  .skip
                  (.exit 0)))
              (.seq
                (.block 1
                  (.seq
                    (.reg [⟨(some 10), [], [.t 0], [], [], .cp, none⟩,
                       ⟨(some 11), [], [.t 3], [], [], .cp, none⟩,
                       ⟨(some 12), [], [.t 10, .t 11], [], [], .iaddr none 3, none⟩,
                       ⟨(some 13), [], [.t 12], [], [], .load true 3, none⟩,
                       ⟨(some 14), [], [.c (.fn (F n_pref08_one)), .t 13], [], [], .call 0 false, none⟩,
                       ⟨(some 15), [], [.t 14], [], [], .not, none⟩,
                       ⟨(some 16), [], [.t 15], [], [], .cp, none⟩,
                       ⟨(some 17), [], [.t 3], [], [], .cp, some (16, false)⟩,
                       ⟨(some 18), [], [.t 17, .c (.int .i64 0)], [], [], .bini .gtr, some (16, false)⟩,
                       ⟨(some 19), [], [.t 18], [], [], .cp, some (16, false)⟩,
                       ⟨(some 20), [], [.t 0], [], [], .cp, some (19, true)⟩,
                       ⟨(some 21), [], [.t 3], [], [], .cp, some (19, true)⟩,
                       ⟨(some 22), [], [.t 21, .c (.int .i64 1)], [], [], .bini .sub, some (19, true)⟩,
                       ⟨(some 23), [], [.t 20, .t 22], [], [], .iaddr none 3, some (19, true)⟩,
                       ⟨(some 24), [], [.t 23], [], [], .faddr 0, some (19, true)⟩,
                       ⟨(some 25), [], [.t 24], [], [], .load true 2, some (19, true)⟩,
                       ⟨(some 26), [], [.t 0], [], [], .cp, some (19, true)⟩,
                       ⟨(some 27), [], [.t 3], [], [], .cp, some (19, true)⟩,
                       ⟨(some 28), [], [.t 26, .t 27], [], [], .iaddr none 3, some (19, true)⟩,
                       ⟨(some 29), [], [.t 28], [], [], .faddr 0, some (19, true)⟩,
                       ⟨(some 30), [], [.t 29], [], [], .load true 2, some (19, true)⟩,
                       ⟨(some 31), [], [.c (.fn (F n_pref04_Compare)), .t 25, .t 30], [], [], .call 0 false, some (19, true)⟩,
                       ⟨(some 32), [], [.t 31, .c (.int .i64 (-1))], [], [], .bini .neq, some (19, true)⟩,
                       ⟨(some 33), [], [.t 19, .t 32, .c (.bool false)], [], [], .pick, some (16, false)⟩,
                       ⟨(some 34), [], [.t 16, .c (.bool true), .t 33], [], [], .pick, none⟩] [10, 11, 12, 13, 14, 15, 16, 17, 18, 19, 20, 21, 22, 23, 24, 25, 26, 27, 28, 29, 30, 31, 32, 33] [])
                    (.cond (.t 34)
                      (.seq
                        (.reg [⟨(some 2), [], [.c (.bool false)], [], [], .cp, none⟩] [] [])
                        .ret)
                      .skip)))
                (.reg [⟨(some 8), [], [.t 3], [], [], .cp, none⟩,
                   ⟨(some 9), [], [.t 8, .c (.int .i64 1)], [], [], .bini .add, none⟩,
                   ⟨(some 3), [9], [.t 9], [], [], .mv, none⟩] [4, 5, 6, 7, 8, 9, 10, 11, 12, 13, 14, 15, 16, 17, 18, 19, 20, 21, 22, 23, 24, 25, 26, 27, 28, 29, 30, 31, 32, 33, 34] []))))))
      (.seq
        (.reg [⟨(some 2), [], [.c (.bool true)], [], [], .cp, none⟩] [] [])
        .ret))) }

def H_pref08_Raise : Hints := [(1, { ops := [(0, { mr := [3] })], kt := [6, 7], kb := [] }),
  (2, { ops := [(1, { mw := [4] })], kt := [9], kb := [] }),
  (3, { ops := [(1, { mr := [3] })], kt := [10, 11, 12], kb := [] }),
  (4, { ops := [(1, { mw := [4] })], kt := [14], kb := [] }),
  (5, { ops := [(0, { mr := [3] }), (2, { mr := [3] }), (6, { mw := [4] })], kt := [15, 16, 17, 18, 19, 20], kb := [] })]
def c_pref08_Raise (F : Nat → FuncId) : AFun := { nparams := 2, ntmps := 21, results := [.cell 4 true 3, .tmp 5], body :=
  (.seq
    (.reg [⟨(some 3), [], [.t 1], [], [3], .box, none⟩,
       ⟨(some 4), [], [], [], [4], .alloc [.val (.int .i64 0), .val (.int .i64 0), .val (.int .i64 0)], none⟩,
       ⟨(some 5), [], [.c (.int .i64 0)], [], [], .cp, none⟩] [] [])
    (.seq
      (.seq
        (.reg [⟨(some 6), [], [.t 3], [3], [], .load true 2, none⟩,
           ⟨(some 7), [], [.c (.fn (F n_pref04_Right)), .t 6], [], [], .call 0 false, none⟩,
           ⟨(some 8), [], [.t 7], [], [], .not, none⟩] [6, 7] [])
        (.cond (.t 8)
          (.seq
            (.reg [⟨(some 9), [], [], [], [], .build [.int .i64 0, .int .i64 0, .int .i64 0] [], none⟩,
               ⟨none, [9], [.t 4, .t 9], [], [4], .store true 3, none⟩,
               ⟨(some 5), [], [.c (.int .i64 2)], [], [], .cp, none⟩] [9] [])
            .ret)
          .skip))
      (.seq
        (.seq
          (.reg [⟨(some 10), [], [.t 0], [], [], .cp, none⟩,
             ⟨(some 11), [], [.t 3], [3], [], .load true 2, none⟩,
             ⟨(some 12), [], [.c (.fn (F n_pref08_Get)), .t 10, .t 11], [], [], .call 0 false, none⟩,
             ⟨(some 13), [], [.t 12, .c (.int .i64 64)], [], [], .bini .geq, none⟩] [10, 11, 12] [])
          (.cond (.t 13)
            (.seq
              (.reg [⟨(some 14), [], [], [], [], .build [.int .i64 0, .int .i64 0, .int .i64 0] [], none⟩,
                 ⟨none, [14], [.t 4, .t 14], [], [4], .store true 3, none⟩,
                 ⟨(some 5), [], [.c (.int .i64 14)], [], [], .cp, none⟩] [14] [])
              .ret)
            .skip))
        (.seq
          (.reg [⟨(some 15), [], [.t 3], [3], [], .load true 2, none⟩,
             ⟨(some 16), [], [.t 0], [], [], .cp, none⟩,
             ⟨(some 17), [], [.t 3], [3], [], .load true 2, none⟩,
             ⟨(some 18), [], [.c (.fn (F n_pref08_Get)), .t 16, .t 17], [], [], .call 0 false, none⟩,
             ⟨(some 19), [], [.t 18, .c (.int .i64 1)], [], [], .bini .add, none⟩,
             ⟨(some 20), [], [.t 15, .t 19], [], [], .build [.int .i64 0, .int .i64 0, .int .i64 0] [(0, 2), (2, 1)], none⟩,
             ⟨none, [20], [.t 4, .t 20], [], [4], .store true 3, none⟩,
             ⟨(some 5), [], [.c (.int .i64 0)], [], [], .cp, none⟩] [15, 16, 17, 18, 19, 20] [])
          .ret)))) }

def H_pref08_Get : Hints := [(2, { ops := [], kt := [6, 7, 8], kb := [] }),
  (3, { ops := [], kt := [6, 7, 8, 9, 10, 11, 12, 13, 14, 15, 16, 17, 18, 19, 20, 21, 22, 23], kb := [] }),
  (4, { ops := [(5, { mr := [3] })], kt := [12, 13, 14, 15, 16, 17], kb := [] }),
  (5, { ops := [], kt := [19, 20, 21, 22, 23], kb := [] })]
def c_pref08_Get (F : Nat → FuncId) : AFun := { nparams := 2, ntmps := 24, results := [.tmp 4], body :=
  (.seq
    (.reg [⟨(some 3), [], [.t 1], [], [3], .box, none⟩,
       ⟨(some 4), [], [.c (.int .i64 0)], [], [], .cp, none⟩] [] [])
    (.seq
      (.seq
        (.reg [⟨(some 5), [], [.c (.int .i64 0)], [], [], .cp, none⟩] [] [])
        (.block 0
          (.loop
            (.seq
              (.seq
                (.reg [⟨(some 6), [], [.t 5], [], [], .cp, none⟩,
                   ⟨(some 7), [], [.t 0], [], [], .cp, none⟩,
                   ⟨(some 8), [], [.t 7], [], [], .len false, none⟩,
                   ⟨(some 9), [], [.t 6, .t 8], [], [], .bini .lss, none⟩] [6, 7, 8] [])
                (.cond (.t 9)
                  .skip
                  (.exit 0)))
              (.seq
                (.block 1
                  (.seq
                    (.reg [⟨(some 12), [], [.t 0], [], [], .cp, none⟩,
                       ⟨(some 13), [], [.t 5], [], [], .cp, none⟩,
                       ⟨(some 14), [], [.t 12, .t 13], [], [], .iaddr none 3, none⟩,
                       ⟨(some 15), [], [.t 14], [], [], .faddr 0, none⟩,
                       ⟨(some 16), [], [.t 15], [], [], .load true 2, none⟩,
                       ⟨(some 17), [], [.t 3], [3], [], .load true 2, none⟩,
                       ⟨(some 18), [], [.t 16, .t 17], [], [], .eqa [.i, .i] false, none⟩] [12, 13, 14, 15, 16, 17] [])
                    (.cond (.t 18)
                      (.seq
                        (.reg [⟨(some 19), [], [.t 0], [], [], .cp, none⟩,
                           ⟨(some 20), [], [.t 5], [], [], .cp, none⟩,
                           ⟨(some 21), [], [.t 19, .t 20], [], [], .iaddr none 3, none⟩,
                           ⟨(some 22), [], [.t 21], [], [], .faddr 2, none⟩,
                           ⟨(some 23), [], [.t 22], [], [], .load false 1, none⟩,
                           ⟨(some 4), [23], [.t 23], [], [], .mv, none⟩] [19, 20, 21, 22, 23] [])
                        .ret)
                      .skip)))
                (.reg [⟨(some 10), [], [.t 5], [], [], .cp, none⟩,
                   ⟨(some 11), [], [.t 10, .c (.int .i64 1)], [], [], .bini .add, none⟩,
                   ⟨(some 5), [11], [.t 11], [], [], .mv, none⟩] [6, 7, 8, 9, 10, 11, 12, 13, 14, 15, 16, 17, 18, 19, 20, 21, 22, 23] []))))))
      (.seq
        (.reg [⟨(some 4), [], [.c (.int .i64 0)], [], [], .cp, none⟩] [] [])
        .ret))) }

def H_pref08_Seen : Hints := [(1, { ops := [(1, { mr := [3] })], kt := [5, 6, 7, 8, 9], kb := [] })]
def c_pref08_Seen (F : Nat → FuncId) : AFun := { nparams := 2, ntmps := 10, results := [.tmp 4], body :=
  (.seq
    (.reg [⟨(some 3), [], [.t 1], [], [3], .box, none⟩,
       ⟨(some 4), [], [.c (.bool false)], [], [], .cp, none⟩] [] [])
    (.seq
      (.reg [⟨(some 5), [], [.t 0], [], [], .cp, none⟩,
         ⟨(some 6), [], [.t 3], [3], [], .load true 2, none⟩,
         ⟨(some 7), [], [.c (.fn (F n_pref08_Get)), .t 5, .t 6], [], [], .call 0 false, none⟩,
         ⟨(some 8), [], [.t 7, .c (.int .i64 2)], [], [], .bini .rem, none⟩,
         ⟨(some 9), [], [.t 8, .c (.int .i64 0)], [], [], .bini .eql, none⟩,
         ⟨(some 4), [9], [.t 9], [], [], .mv, none⟩] [5, 6, 7, 8, 9] [])
      .ret)) }

def H_pref08_Same : Hints := [(1, { ops := [], kt := [6, 7, 8, 9], kb := [] }),
  (4, { ops := [], kt := [11, 12, 13], kb := [] }),
  (5, { ops := [], kt := [11, 12, 13, 14, 15, 16, 17, 18, 19, 20, 21, 22, 23, 24, 25], kb := [] }),
  (6, { ops := [], kt := [17, 18, 19, 20, 21, 22, 23, 24], kb := [] })]
def c_pref08_Same (F : Nat → FuncId) : AFun := { nparams := 2, ntmps := 26, results := [.tmp 4], body :=
  (.seq
    (.reg [⟨(some 4), [], [.c (.bool false)], [], [], .cp, none⟩] [] [])
    (.seq
      (.seq
        (.reg [⟨(some 6), [], [.t 0], [], [], .cp, none⟩,
           ⟨(some 7), [], [.t 6], [], [], .len false, none⟩,
           ⟨(some 8), [], [.t 1], [], [], .cp, none⟩,
           ⟨(some 9), [], [.t 8], [], [], .len false, none⟩,
           ⟨(some 10), [], [.t 7, .t 9], [], [], .bini .neq, none⟩] [6, 7, 8, 9] [])
        (.cond (.t 10)
          (.seq
            (.reg [⟨(some 4), [], [.c (.bool false)], [], [], .cp, none⟩] [] [])
            .ret)
          .skip))
      (.seq
        (.seq
          (.reg [⟨(some 5), [], [.c (.int .i64 0)], [], [], .cp, none⟩] [] [])
          (.block 0
            (.loop
              (.seq
                (.seq
                  (.reg [⟨(some 11), [], [.t 5], [], [], .cp, none⟩,
                     ⟨(some 12), [], [.t 0], [], [], .cp, none⟩,
                     ⟨(some 13), [], [.t 12], [], [], .len false, none⟩,
                     ⟨(some 14), [], [.t 11, .t 13], [], [], .bini .lss, none⟩] [11, 12, 13] [])
                  (.cond (.t 14)
                    .skip
                    (.exit 0)))
                (.seq
                  (.block 1
                    (.seq
                      (.reg [⟨(some 17), [], [.t 0], [], [], .cp, none⟩,
                         ⟨(some 18), [], [.t 5], [], [], .cp, none⟩,
                         ⟨(some 19), [], [.t 17, .t 18], [], [], .iaddr none 3, none⟩,
                         ⟨(some 20), [], [.t 19], [], [], .load true 3, none⟩,
                         ⟨(some 21), [], [.t 1], [], [], .cp, none⟩,
                         ⟨(some 22), [], [.t 5], [], [], .cp, none⟩,
                         ⟨(some 23), [], [.t 21, .t 22], [], [], .iaddr none 3, none⟩,
                         ⟨(some 24), [], [.t 23], [], [], .load true 3, none⟩,
                         ⟨(some 25), [], [.t 20, .t 24], [], [], .eqa [.i, .i, .i] true, none⟩] [17, 18, 19, 20, 21, 22, 23, 24] [])
                      (.cond (.t 25)
                        (.seq
                          (.reg [⟨(some 4), [], [.c (.bool false)], [], [], .cp, none⟩] [] [])
                          .ret)
                        .skip)))
                  (.reg [⟨(some 15), [], [.t 5], [], [], .cp, none⟩,
                     ⟨(some 16), [], [.t 15, .c (.int .i64 1)], [], [], .bini .add, none⟩,
                     ⟨(some 5), [16], [.t 16], [], [], .mv, none⟩] [11, 12, 13, 14, 15, 16, 17, 18, 19, 20, 21, 22, 23, 24, 25] []))))))
        (.seq
          (.reg [⟨(some 4), [], [.c (.bool true)], [], [], .cp, none⟩] [] [])
          .ret)))) }

def H_pref08_Put : Hints := [(1, { ops := [(0, { mr := [3] }), (6, { mr := [3] }), (9, { mr := [3] })], kt := [9, 10, 11, 12, 13, 14, 15, 16, 17, 18, 19], kb := [] }),
  (2, { ops := [], kt := [21], kb := [] }),
  (6, { ops := [], kt := [22, 23, 24], kb := [] }),
  (7, { ops := [], kt := [8, 22, 23, 24, 25, 26, 27, 28, 29, 30, 31, 32, 33, 34, 35, 36, 37, 38, 39, 40, 41, 42, 43, 44, 45, 46, 47, 48, 49, 50, 51, 52, 53, 54], kb := [] }),
  (8, { ops := [(1, { mr := [3] })], kt := [28, 29, 30, 31, 32, 33, 34, 35], kb := [] }),
  (9, { ops := [], kt := [36, 37, 38, 39, 40], kb := [] }),
  (10, { ops := [(0, { take := true }), (1, { mr := [3] })], kt := [42, 43, 44, 45], kb := [] }),
  (12, { ops := [], kt := [46], kb := [] }),
  (13, { ops := [(0, { take := true })], kt := [48, 49, 50, 51, 52, 53, 54], kb := [] }),
  (14, { ops := [], kt := [55], kb := [] }),
  (15, { ops := [(0, { take := true }), (1, { mr := [3] })], kt := [57, 58, 59, 60], kb := [] }),
  (16, { ops := [], kt := [61], kb := [] })]
def c_pref08_Put (F : Nat → FuncId) : AFun := { nparams := 2, ntmps := 62, results := [.tmp 4], body :=
  (.seq
    (.reg [⟨(some 3), [], [.t 1], [], [3], .box, none⟩,
       ⟨(some 4), [], [], [], [], .nils 3, none⟩] [] [])
    (.seq
      (.seq
        (.reg [⟨(some 9), [], [.t 3], [3], [], .load true 3, none⟩,
           ⟨(some 10), [], [.c (.fn (F n_pref08_one)), .t 9], [], [], .call 0 false, none⟩,
           ⟨(some 11), [], [.t 10], [], [], .not, none⟩,
           ⟨(some 12), [], [.t 11], [], [], .cp, none⟩,
           ⟨(some 13), [], [.t 0], [], [], .cp, some (12, false)⟩,
           ⟨(some 14), [], [.t 3], [], [], .faddr 0, some (12, false)⟩,
           ⟨(some 15), [], [.t 14], [3], [], .load true 2, some (12, false)⟩,
           ⟨(some 16), [], [.c (.fn (F n_pref08_Get)), .t 13, .t 15], [], [], .call 0 false, some (12, false)⟩,
           ⟨(some 17), [], [.t 3], [], [], .faddr 2, some (12, false)⟩,
           ⟨(some 18), [], [.t 17], [3], [], .load false 1, some (12, false)⟩,
           ⟨(some 19), [], [.t 16, .t 18], [], [], .bini .geq, some (12, false)⟩,
           ⟨(some 20), [], [.t 12, .c (.bool true), .t 19], [], [], .pick, none⟩] [9, 10, 11, 12, 13, 14, 15, 16, 17, 18, 19] [])
        (.cond (.t 20)
          (.seq
            (.reg [⟨(some 21), [], [.t 0], [], [], .cp, none⟩,
               ⟨(some 4), [21], [.t 21], [], [], .mv, none⟩] [21] [])
            .ret)
          .skip))
      (.seq
        (.reg [⟨(some 5), [], [], [], [], .nils 3, none⟩] [] [])
        (.seq
          (.reg [⟨(some 6), [], [.c (.bool false)], [], [], .cp, none⟩] [] [])
          (.seq
            (.seq
              (.reg [⟨(some 7), [], [.c (.int .i64 0)], [], [], .cp, none⟩] [] [])
              (.block 0
                (.loop
                  (.seq
                    (.seq
                      (.reg [⟨(some 22), [], [.t 7], [], [], .cp, none⟩,
                         ⟨(some 23), [], [.t 0], [], [], .cp, none⟩,
                         ⟨(some 24), [], [.t 23], [], [], .len false, none⟩,
                         ⟨(some 25), [], [.t 22, .t 24], [], [], .bini .lss, none⟩] [22, 23, 24] [])
                      (.cond (.t 25)
                        .skip
                        (.exit 0)))
                    (.seq
                      (.block 1
                        (.seq
                          (.reg [⟨(some 28), [], [.t 3], [], [], .faddr 0, none⟩,
                             ⟨(some 29), [], [.t 28], [3], [], .load true 2, none⟩,
                             ⟨(some 30), [], [.t 0], [], [], .cp, none⟩,
                             ⟨(some 31), [], [.t 7], [], [], .cp, none⟩,
                             ⟨(some 32), [], [.t 30, .t 31], [], [], .iaddr none 3, none⟩,
                             ⟨(some 33), [], [.t 32], [], [], .faddr 0, none⟩,
                             ⟨(some 34), [], [.t 33], [], [], .load true 2, none⟩,
                             ⟨(some 35), [], [.c (.fn (F n_pref04_Compare)), .t 29, .t 34], [], [], .call 0 false, none⟩,
                             ⟨(some 8), [35], [.t 35], [], [], .mv, none⟩] [28, 29, 30, 31, 32, 33, 34, 35] [])
                          (.seq
                            (.seq
                              (.reg [⟨(some 36), [], [.t 6], [], [], .cp, none⟩,
                                 ⟨(some 37), [], [.t 36], [], [], .not, none⟩,
                                 ⟨(some 38), [], [.t 37], [], [], .cp, none⟩,
                                 ⟨(some 39), [], [.t 8], [], [], .cp, some (38, true)⟩,
                                 ⟨(some 40), [], [.t 39, .c (.int .i64 0)], [], [], .bini .leq, some (38, true)⟩,
                                 ⟨(some 41), [], [.t 38, .t 40, .c (.bool false)], [], [], .pick, none⟩] [36, 37, 38, 39, 40] [])
                              (.cond (.t 41)
                                (.seq
                                  (.reg [⟨(some 42), [5], [.t 5], [], [], .mv, none⟩,
                                     ⟨(some 43), [], [.t 3], [3], [], .load true 3, none⟩,
                                     ⟨(some 44), [], [.t 43], [], [], .bslice 3 [.int .i64 0, .int .i64 0, .int .i64 0] [(0, 3)], none⟩,
                                     ⟨(some 45), [42], [.t 42, .t 44], [], [], .append 3 24, none⟩,
                                     ⟨(some 5), [45], [.t 45], [], [], .mv, none⟩] [42, 43, 44, 45] [])
                                  (.reg [⟨(some 6), [], [.c (.bool true)], [], [], .cp, none⟩] [] []))
                                .skip))
                            (.seq
                              (.reg [⟨(some 46), [], [.t 8], [], [], .cp, none⟩,
                                 ⟨(some 47), [], [.t 46, .c (.int .i64 0)], [], [], .bini .neq, none⟩] [46] [])
                              (.cond (.t 47)
                                (.reg [⟨(some 48), [5], [.t 5], [], [], .mv, none⟩,
                                   ⟨(some 49), [], [.t 0], [], [], .cp, none⟩,
                                   ⟨(some 50), [], [.t 7], [], [], .cp, none⟩,
                                   ⟨(some 51), [], [.t 49, .t 50], [], [], .iaddr none 3, none⟩,
                                   ⟨(some 52), [], [.t 51], [], [], .load true 3, none⟩,
                                   ⟨(some 53), [], [.t 52], [], [], .bslice 3 [.int .i64 0, .int .i64 0, .int .i64 0] [(0, 3)], none⟩,
                                   ⟨(some 54), [48], [.t 48, .t 53], [], [], .append 3 24, none⟩,
                                   ⟨(some 5), [54], [.t 54], [], [], .mv, none⟩] [48, 49, 50, 51, 52, 53, 54] [])
                                .skip)))))
                      (.reg [⟨(some 26), [], [.t 7], [], [], .cp, none⟩,
                         ⟨(some 27), [], [.t 26, .c (.int .i64 1)], [], [], .bini .add, none⟩,
                         ⟨(some 7), [27], [.t 27], [], [], .mv, none⟩] [8, 22, 23, 24, 25, 26, 27, 28, 29, 30, 31, 32, 33, 34, 35, 36, 37, 38, 39, 40, 41, 42, 43, 44, 45, 46, 47, 48, 49, 50, 51, 52, 53, 54] []))))))
            (.seq
              (.seq
                (.reg [⟨(some 55), [], [.t 6], [], [], .cp, none⟩,
                   ⟨(some 56), [], [.t 55], [], [], .not, none⟩] [55] [])
                (.cond (.t 56)
                  (.reg [⟨(some 57), [5], [.t 5], [], [], .mv, none⟩,
                     ⟨(some 58), [], [.t 3], [3], [], .load true 3, none⟩,
                     ⟨(some 59), [], [.t 58], [], [], .bslice 3 [.int .i64 0, .int .i64 0, .int .i64 0] [(0, 3)], none⟩,
                     ⟨(some 60), [57], [.t 57, .t 59], [], [], .append 3 24, none⟩,
                     ⟨(some 5), [60], [.t 60], [], [], .mv, none⟩] [57, 58, 59, 60] [])
                  .skip))
              (.seq
                (.reg [⟨(some 61), [], [.t 5], [], [], .cp, none⟩,
                   ⟨(some 4), [61], [.t 61], [], [], .mv, none⟩] [61] [])
                .ret))))))) }

def H_tally_Join : Hints := [(2, { ops := [], kt := [7, 8, 9, 10, 11, 12, 13], kb := [] }),
  (4, { ops := [], kt := [16, 17, 18], kb := [] }),
  (6, { ops := [], kt := [20, 21, 22], kb := [] }),
  (7, { ops := [], kt := [23, 24, 25, 26, 27, 28, 29], kb := [] }),
  (8, { ops := [(0, { take := true })], kt := [30, 31, 32, 33, 34, 35, 36, 37, 38, 39, 40, 41, 42, 43, 44, 45, 46], kb := [] }),
  (9, { ops := [], kt := [47, 48, 49, 50], kb := [] }),
  (10, { ops := [], kt := [52, 53], kb := [] }),
  (11, { ops := [(0, { take := true })], kt := [54, 55, 56, 57, 58, 59, 60, 61], kb := [] }),
  (12, { ops := [], kt := [63, 64], kb := [] }),
  (13, { ops := [(0, { take := true })], kt := [65, 66, 67, 68, 69, 70, 71, 72], kb := [] }),
  (14, { ops := [], kt := [73], kb := [] }),
  (1000001, { ops := [], kt := [6, 7, 8, 9, 10, 11, 12, 13, 14, 15, 16, 17, 18, 19, 20, 21, 22, 23, 24, 25, 26, 27, 28, 29, 30, 31, 32, 33, 34, 35, 36, 37, 38, 39, 40, 41, 42, 43, 44, 45, 46, 47, 48, 49, 50, 51, 52, 53, 54, 55, 56, 57, 58, 59, 60, 61, 62, 63, 64, 65, 66, 67, 68, 69, 70, 71, 72], kb := [] })]
def c_tally_Join (F : Nat → FuncId) : AFun := { nparams := 2, ntmps := 74, results := [.tmp 4], body :=
  (.seq
    (.reg [⟨(some 4), [], [], [], [], .nils 3, none⟩] [] [])
    (.seq
      (.reg [⟨(some 5), [], [], [], [], .nils 3, none⟩] [] [])
      (.seq
        (.block 0
          (.loop
            (.seq
              (.seq
                (.reg [⟨(some 7), [], [.t 0], [], [], .cp, none⟩,
                   ⟨(some 8), [], [.t 7], [], [], .len false, none⟩,
                   ⟨(some 9), [], [.t 8, .c (.int .i64 0)], [], [], .bini .gtr, none⟩,
                   ⟨(some 10), [], [.t 9], [], [], .cp, none⟩,
                   ⟨(some 11), [], [.t 1], [], [], .cp, some (10, false)⟩,
                   ⟨(some 12), [], [.t 11], [], [], .len false, some (10, false)⟩,
                   ⟨(some 13), [], [.t 12, .c (.int .i64 0)], [], [], .bini .gtr, some (10, false)⟩,
                   ⟨(some 14), [], [.t 10, .c (.bool true), .t 13], [], [], .pick, none⟩] [7, 8, 9, 10, 11, 12, 13] [])
                (.cond (.t 14)
                  .skip
                  (.exit 0)))
              (.seq
                (.block 1
                  (.seq
                    (.reg [⟨(some 6), [], [.c (.int .i64 (-1))], [], [], .cp, none⟩] [] [])
                    (.seq
                      (.block 2
                        (.seq
                          (.reg [⟨(some 16), [], [.t 0], [], [], .cp, none⟩,
                             ⟨(some 17), [], [.t 16], [], [], .len false, none⟩,
                             ⟨(some 18), [], [.t 17, .c (.int .i64 0)], [], [], .bini .eql, none⟩,
                             ⟨(some 15), [18], [.t 18], [], [], .mv, none⟩] [16, 17, 18] [])
                          (.cond (.t 15)
                            (.reg [⟨(some 6), [], [.c (.int .i64 1)], [], [], .cp, none⟩] [] [])
                            (.seq
                              (.reg [⟨(some 20), [], [.t 1], [], [], .cp, none⟩,
                                 ⟨(some 21), [], [.t 20], [], [], .len false, none⟩,
                                 ⟨(some 22), [], [.t 21, .c (.int .i64 0)], [], [], .bini .gtr, none⟩,
                                 ⟨(some 19), [22], [.t 22], [], [], .mv, none⟩] [20, 21, 22] [])
                              (.cond (.t 19)
                                (.reg [⟨(some 23), [], [.t 0], [], [], .cp, none⟩,
                                   ⟨(some 24), [], [.t 23, .c (.int .i64 0)], [], [], .iaddr none 3, none⟩,
                                   ⟨(some 25), [], [.t 24], [], [], .load true 3, none⟩,
                                   ⟨(some 26), [], [.t 1], [], [], .cp, none⟩,
                                   ⟨(some 27), [], [.t 26, .c (.int .i64 0)], [], [], .iaddr none 3, none⟩,
                                   ⟨(some 28), [], [.t 27], [], [], .load true 3, none⟩,
                                   ⟨(some 29), [], [.c (.fn (F n_tally_compare)), .t 25, .t 28], [], [], .call 0 false, none⟩,
                                   ⟨(some 6), [29], [.t 29], [], [], .mv, none⟩] [23, 24, 25, 26, 27, 28, 29] [])
                                .skip)))))
                      (.block 3
                        (.seq
                          (.reg [⟨(some 52), [], [.t 6], [], [], .cp, none⟩,
                             ⟨(some 53), [], [.t 52, .c (.int .i64 0)], [], [], .bini .lss, none⟩,
                             ⟨(some 51), [53], [.t 53], [], [], .mv, none⟩] [52, 53] [])
                          (.cond (.t 51)
                            (.reg [⟨(some 54), [5], [.t 5], [], [], .mv, none⟩,
                               ⟨(some 55), [], [.t 0], [], [], .cp, none⟩,
                               ⟨(some 56), [], [.t 55, .c (.int .i64 0)], [], [], .iaddr none 3, none⟩,
                               ⟨(some 57), [], [.t 56], [], [], .load true 3, none⟩,
                               ⟨(some 58), [], [.t 57], [], [], .bslice 3 [.int .i64 0, .int .i64 0, .int .i64 0] [(0, 3)], none⟩,
                               ⟨(some 59), [54], [.t 54, .t 58], [], [], .append 3 24, none⟩,
                               ⟨(some 60), [], [.t 0], [], [], .cp, none⟩,
                               ⟨(some 61), [], [.t 60, .c (.int .i64 1)], [], [], .slice 3 true false false, none⟩,
                               ⟨(some 5), [59], [.t 59], [], [], .mv, none⟩,
                               ⟨(some 0), [61], [.t 61], [], [], .mv, none⟩] [54, 55, 56, 57, 58, 59, 60, 61] [])
                            (.seq
                              (.reg [⟨(some 63), [], [.t 6], [], [], .cp, none⟩,
                                 ⟨(some 64), [], [.t 63, .c (.int .i64 0)], [], [], .bini .gtr, none⟩,
                                 ⟨(some 62), [64], [.t 64], [], [], .mv, none⟩] [63, 64] [])
                              (.cond (.t 62)
                                (.reg [⟨(some 65), [5], [.t 5], [], [], .mv, none⟩,
                                   ⟨(some 66), [], [.t 1], [], [], .cp, none⟩,
                                   ⟨(some 67), [], [.t 66, .c (.int .i64 0)], [], [], .iaddr none 3, none⟩,
                                   ⟨(some 68), [], [.t 67], [], [], .load true 3, none⟩,
                                   ⟨(some 69), [], [.t 68], [], [], .bslice 3 [.int .i64 0, .int .i64 0, .int .i64 0] [(0, 3)], none⟩,
                                   ⟨(some 70), [65], [.t 65, .t 69], [], [], .append 3 24, none⟩,
                                   ⟨(some 71), [], [.t 1], [], [], .cp, none⟩,
                                   ⟨(some 72), [], [.t 71, .c (.int .i64 1)], [], [], .slice 3 true false false, none⟩,
                                   ⟨(some 5), [70], [.t 70], [], [], .mv, none⟩,
                                   ⟨(some 1), [72], [.t 72], [], [], .mv, none⟩] [65, 66, 67, 68, 69, 70, 71, 72] [])
                                (.seq
                                  (.reg [⟨(some 30), [5], [.t 5], [], [], .mv, none⟩,
                                     ⟨(some 31), [], [.t 0], [], [], .cp, none⟩,
                                     ⟨(some 32), [], [.t 31, .c (.int .i64 0)], [], [], .iaddr none 3, none⟩,
                                     ⟨(some 33), [], [.t 32], [], [], .faddr 0, none⟩,
                                     ⟨(some 34), [], [.t 33], [], [], .load true 2, none⟩,
                                     ⟨(some 35), [], [.t 0], [], [], .cp, none⟩,
                                     ⟨(some 36), [], [.t 35, .c (.int .i64 0)], [], [], .iaddr none 3, none⟩,
                                     ⟨(some 37), [], [.t 36], [], [], .faddr 2, none⟩,
                                     ⟨(some 38), [], [.t 37], [], [], .load false 1, none⟩,
                                     ⟨(some 39), [], [.t 1], [], [], .cp, none⟩,
                                     ⟨(some 40), [], [.t 39, .c (.int .i64 0)], [], [], .iaddr none 3, none⟩,
                                     ⟨(some 41), [], [.t 40], [], [], .faddr 2, none⟩,
                                     ⟨(some 42), [], [.t 41], [], [], .load false 1, none⟩,
                                     ⟨(some 43), [], [.t 38, .t 42], [], [], .maxi, none⟩,
                                     ⟨(some 44), [], [.t 34, .t 43], [], [], .build [.int .i64 0, .int .i64 0, .int .i64 0] [(0, 2), (2, 1)], none⟩,
                                     ⟨(some 45), [], [.t 44], [], [], .bslice 3 [.int .i64 0, .int .i64 0, .int .i64 0] [(0, 3)], none⟩,
                                     ⟨(some 46), [30], [.t 30, .t 45], [], [], .append 3 24, none⟩,
                                     ⟨(some 5), [46], [.t 46], [], [], .mv, none⟩] [30, 31, 32, 33, 34, 35, 36, 37, 38, 39, 40, 41, 42, 43, 44, 45, 46] [])
                                  (.reg [⟨(some 47), [], [.t 0], [], [], .cp, none⟩,
                                     ⟨(some 48), [], [.t 47, .c (.int .i64 1)], [], [], .slice 3 true false false, none⟩,
                                     ⟨(some 49), [], [.t 1], [], [], .cp, none⟩,
                                     ⟨(some 50), [], [.t 49, .c (.int .i64 1)], [], [], .slice 3 true false false, none⟩,
                                     ⟨(some 0), [48], [.t 48], [], [], .mv, none⟩,
                                     ⟨(some 1), [50], [.t 50], [], [], .mv, none⟩] [47, 48, 49, 50] []))))))))))
                (.reg [] [6, 7, 8, 9, 10, 11, 12, 13, 14, 15, 16, 17, 18, 19, 20, 21, 22, 23, 24, 25, 26, 27, 28, 29, 30, 31, 32, 33, 34, 35, 36, 37, 38, 39, 40, 41, 42, 43, 44, 45, 46, 47, 48, 49, 50, 51, 52, 53, 54, 55, 56, 57, 58, 59, 60, 61, 62, 63, 64, 65, 66, 67, 68, 69, 70, 71, 72] [])))))
        (.seq
          (.reg [⟨(some 73), [], [.t 5], [], [], .cp, none⟩,
             ⟨(some 4), [73], [.t 73], [], [], .mv, none⟩] [73] [])
          .ret)))) }

def H_tally_Same : Hints := [(1, { ops := [], kt := [5, 6, 7], kb := [] })]
def c_tally_Same (F : Nat → FuncId) : AFun := { nparams := 2, ntmps := 8, results := [.tmp 4], body :=
  (.seq
    (.reg [⟨(some 4), [], [.c (.bool false)], [], [], .cp, none⟩] [] [])
    (.seq
      (.reg [⟨(some 5), [], [.t 0], [], [], .cp, none⟩,
         ⟨(some 6), [], [.t 1], [], [], .cp, none⟩,
         ⟨(some 7), [], [.c (.fn (F n_slices_Equal_api_Undo_api_Undo)), .t 5, .t 6], [], [], .call 0 false, none⟩,
         ⟨(some 4), [7], [.t 7], [], [], .mv, none⟩] [5, 6, 7] [])
      .ret)) }

def H_tally_Over : Hints := [(4, { ops := [(3, { mw := [7] })], kt := [12, 13], kb := [] }),
  (5, { ops := [(1, { mr := [7] }), (4, { mr := [7] })], kt := [14, 15, 16, 17, 18, 19], kb := [] }),
  (6, { ops := [(0, { take := true }), (1, { mr := [7] })], kt := [21, 22, 23, 24], kb := [] }),
  (7, { ops := [], kt := [7, 11, 12, 13, 14, 15, 16, 17, 18, 19, 20, 21, 22, 23, 24, 25], kb := [7] }),
  (8, { ops := [], kt := [26], kb := [] })]
def c_tally_Over (F : Nat → FuncId) : AFun := { nparams := 2, ntmps := 27, results := [.tmp 4], body :=
  (.seq
    (.reg [⟨(some 4), [], [], [], [], .nils 3, none⟩] [] [])
    (.seq
      (.reg [⟨(some 5), [], [], [], [], .nils 3, none⟩] [] [])
      (.seq
        (.seq
          (.reg [⟨(some 8), [], [.t 0], [], [], .cp, none⟩,
             ⟨(some 9), [], [.t 8], [], [], .len false, none⟩,
             ⟨(some 10), [], [.c (.int .i64 0)], [], [], .cp, none⟩] [] [])
          (.block 0
            (.loop
              (.seq
                (.reg [⟨(some 11), [], [.t 10, .t 9], [], [], .bini .lss, none⟩] [] [])
                (.seq
                  (.cond (.t 11)
                    .skip
                    (.exit 0))
                  (.seq
                    (.block 1
                      (.seq
                        (.reg [⟨(some 12), [], [.t 8, .t 10], [], [], .iaddr none 3, none⟩,
                           ⟨(some 13), [], [.t 12], [], [], .load true 3, none⟩,
                           ⟨(some 7), [], [], [], [7], .alloc [.val (.int .i64 0), .val (.int .i64 0), .val (.int .i64 0)], none⟩,
                           ⟨none, [13], [.t 7, .t 13], [], [7], .store true 3, none⟩] [12, 13] [])
                        (.seq
                          (.reg [⟨(some 14), [], [.t 7], [], [], .faddr 2, none⟩,
                             ⟨(some 15), [], [.t 14], [7], [], .load false 1, none⟩,
                             ⟨(some 16), [], [.t 1], [], [], .cp, none⟩,
                             ⟨(some 17), [], [.t 7], [], [], .faddr 0, none⟩,
                             ⟨(some 18), [], [.t 17], [7], [], .load true 2, none⟩,
                             ⟨(some 19), [], [.c (.fn (F n_tally_Get)), .t 16, .t 18], [], [], .call 0 false, none⟩,
                             ⟨(some 20), [], [.t 15, .t 19], [], [], .bini .gtr, none⟩] [14, 15, 16, 17, 18, 19] [])
                          (.cond (.t 20)
                            (.reg [⟨(some 21), [5], [.t 5], [], [], .mv, none⟩,
                               ⟨(some 22), [], [.t 7], [7], [], .load true 3, none⟩,
                               ⟨(some 23), [], [.t 22], [], [], .bslice 3 [.int .i64 0, .int .i64 0, .int .i64 0] [(0, 3)], none⟩,
                               ⟨(some 24), [21], [.t 21, .t 23], [], [], .append 3 24, none⟩,
                               ⟨(some 5), [24], [.t 24], [], [], .mv, none⟩] [21, 22, 23, 24] [])
                            .skip))))
                    (.reg [⟨(some 25), [], [.t 10, .c (.int .i64 1)], [], [], .bini .add, none⟩,
                       ⟨(some 10), [], [.t 25], [], [], .cp, none⟩] [7, 11, 12, 13, 14, 15, 16, 17, 18, 19, 20, 21, 22, 23, 24, 25] [7])))))))
        (.seq
          (.reg [⟨(some 26), [], [.t 5], [], [], .cp, none⟩,
             ⟨(some 4), [26], [.t 26], [], [], .mv, none⟩] [26] [])
          .ret)))) }

def H_pref08_Join : Hints := [(1, { ops := [], kt := [7], kb := [] }),
  (3, { ops := [], kt := [8, 9, 10], kb := [] }),
  (4, { ops := [], kt := [8, 9, 10, 11, 12, 13, 14, 15, 16, 17, 18, 19], kb := [] }),
  (5, { ops := [], kt := [14, 15, 16, 17, 18, 19], kb := [] }),
  (6, { ops := [], kt := [20], kb := [] })]
def c_pref08_Join (F : Nat → FuncId) : AFun := { nparams := 2, ntmps := 21, results := [.tmp 4], body :=
  (.seq
    (.reg [⟨(some 4), [], [], [], [], .nils 3, none⟩] [] [])
    (.seq
      (.reg [⟨(some 7), [], [.t 0], [], [], .cp, none⟩,
         ⟨(some 5), [7], [.t 7], [], [], .mv, none⟩] [7] [])
      (.seq
        (.seq
          (.reg [⟨(some 6), [], [.c (.int .i64 0)], [], [], .cp, none⟩] [] [])
          (.block 0
            (.loop
              (.seq
                (.seq
                  (.reg [⟨(some 8), [], [.t 6], [], [], .cp, none⟩,
                     ⟨(some 9), [], [.t 1], [], [], .cp, none⟩,
                     ⟨(some 10), [], [.t 9], [], [], .len false, none⟩,
                     ⟨(some 11), [], [.t 8, .t 10], [], [], .bini .lss, none⟩] [8, 9, 10] [])
                  (.cond (.t 11)
                    .skip
                    (.exit 0)))
                (.seq
                  (.block 1
                    (.reg [⟨(some 14), [], [.t 5], [], [], .cp, none⟩,
                       ⟨(some 15), [], [.t 1], [], [], .cp, none⟩,
                       ⟨(some 16), [], [.t 6], [], [], .cp, none⟩,
                       ⟨(some 17), [], [.t 15, .t 16], [], [], .iaddr none 3, none⟩,
                       ⟨(some 18), [], [.t 17], [], [], .load true 3, none⟩,
                       ⟨(some 19), [], [.c (.fn (F n_pref08_Put)), .t 14, .t 18], [], [], .call 0 false, none⟩,
                       ⟨(some 5), [19], [.t 19], [], [], .mv, none⟩] [14, 15, 16, 17, 18, 19] []))
                  (.reg [⟨(some 12), [], [.t 6], [], [], .cp, none⟩,
                     ⟨(some 13), [], [.t 12, .c (.int .i64 1)], [], [], .bini .add, none⟩,
                     ⟨(some 6), [13], [.t 13], [], [], .mv, none⟩] [8, 9, 10, 11, 12, 13, 14, 15, 16, 17, 18, 19] []))))))
        (.seq
          (.reg [⟨(some 20), [], [.t 5], [], [], .cp, none⟩,
             ⟨(some 4), [20], [.t 20], [], [], .mv, none⟩] [20] [])
          .ret)))) }

def H_pref08_Over : Hints := [(3, { ops := [], kt := [7, 8, 9], kb := [] }),
  (4, { ops := [], kt := [7, 8, 9, 10, 11, 12, 13, 14, 15, 16, 17, 18, 19, 20, 21, 22, 23, 24, 25, 26, 27, 28, 29, 30, 31, 32], kb := [] }),
  (5, { ops := [], kt := [13, 14, 15, 16, 17, 18, 19, 20, 21, 22, 23, 24], kb := [] }),
  (6, { ops := [(0, { take := true })], kt := [26, 27, 28, 29, 30, 31, 32], kb := [] }),
  (7, { ops := [], kt := [33], kb := [] })]
def c_pref08_Over (F : Nat → FuncId) : AFun := { nparams := 2, ntmps := 34, results := [.tmp 4], body :=
  (.seq
    (.reg [⟨(some 4), [], [], [], [], .nils 3, none⟩] [] [])
    (.seq
      (.reg [⟨(some 5), [], [], [], [], .nils 3, none⟩] [] [])
      (.seq
        (.seq
          (.reg [⟨(some 6), [], [.c (.int .i64 0)], [], [], .cp, none⟩] [] [])
          (.block 0
            (.loop
              (.seq
                (.seq
                  (.reg [⟨(some 7), [], [.t 6], [], [], .cp, none⟩,
                     ⟨(some 8), [], [.t 0], [], [], .cp, none⟩,
                     ⟨(some 9), [], [.t 8], [], [], .len false, none⟩,
                     ⟨(some 10), [], [.t 7, .t 9], [], [], .bini .lss, none⟩] [7, 8, 9] [])
                  (.cond (.t 10)
                    .skip
                    (.exit 0)))
                (.seq
                  (.block 1
                    (.seq
                      (.reg [⟨(some 13), [], [.t 0], [], [], .cp, none⟩,
                         ⟨(some 14), [], [.t 6], [], [], .cp, none⟩,
                         ⟨(some 15), [], [.t 13, .t 14], [], [], .iaddr none 3, none⟩,
                         ⟨(some 16), [], [.t 15], [], [], .faddr 2, none⟩,
                         ⟨(some 17), [], [.t 16], [], [], .load false 1, none⟩,
                         ⟨(some 18), [], [.t 1], [], [], .cp, none⟩,
                         ⟨(some 19), [], [.t 0], [], [], .cp, none⟩,
                         ⟨(some 20), [], [.t 6], [], [], .cp, none⟩,
                         ⟨(some 21), [], [.t 19, .t 20], [], [], .iaddr none 3, none⟩,
                         ⟨(some 22), [], [.t 21], [], [], .faddr 0, none⟩,
                         ⟨(some 23), [], [.t 22], [], [], .load true 2, none⟩,
                         ⟨(some 24), [], [.c (.fn (F n_pref08_Get)), .t 18, .t 23], [], [], .call 0 false, none⟩,
                         ⟨(some 25), [], [.t 17, .t 24], [], [], .bini .gtr, none⟩] [13, 14, 15, 16, 17, 18, 19, 20, 21, 22, 23, 24] [])
                      (.cond (.t 25)
                        (.reg [⟨(some 26), [5], [.t 5], [], [], .mv, none⟩,
                           ⟨(some 27), [], [.t 0], [], [], .cp, none⟩,
                           ⟨(some 28), [], [.t 6], [], [], .cp, none⟩,
                           ⟨(some 29), [], [.t 27, .t 28], [], [], .iaddr none 3, none⟩,
                           ⟨(some 30), [], [.t 29], [], [], .load true 3, none⟩,
                           ⟨(some 31), [], [.t 30], [], [], .bslice 3 [.int .i64 0, .int .i64 0, .int .i64 0] [(0, 3)], none⟩,
                           ⟨(some 32), [26], [.t 26, .t 31], [], [], .append 3 24, none⟩,
                           ⟨(some 5), [32], [.t 32], [], [], .mv, none⟩] [26, 27, 28, 29, 30, 31, 32] [])
                        .skip)))
                  (.reg [⟨(some 11), [], [.t 6], [], [], .cp, none⟩,
                     ⟨(some 12), [], [.t 11, .c (.int .i64 1)], [], [], .bini .add, none⟩,
                     ⟨(some 6), [12], [.t 12], [], [], .mv, none⟩] [7, 8, 9, 10, 11, 12, 13, 14, 15, 16, 17, 18, 19, 20, 21, 22, 23, 24, 25, 26, 27, 28, 29, 30, 31, 32] []))))))
        (.seq
          (.reg [⟨(some 33), [], [.t 5], [], [], .cp, none⟩,
             ⟨(some 4), [33], [.t 33], [], [], .mv, none⟩] [33] [])
          .ret)))) }

def H_dot_Right : Hints := [(1, { ops := [(1, { mr := [1] }), (5, { mr := [1] }), (10, { mr := [1] }), (15, { mr := [1] })], kt := [3, 4, 5, 6, 7, 8, 9, 10, 11, 12, 13, 14, 15, 16, 17, 18, 19, 20], kb := [] })]
def c_dot_Right (F : Nat → FuncId) : AFun := { nparams := 1, ntmps := 21, results := [.tmp 2], body :=
  (.seq
    (.reg [⟨(some 1), [], [.t 0], [], [1], .box, none⟩,
       ⟨(some 2), [], [.c (.bool false)], [], [], .cp, none⟩] [] [])
    (.seq
      (.reg [⟨(some 3), [], [.t 1], [], [], .faddr 0, none⟩,
         ⟨(some 4), [], [.t 3], [1], [], .load false 1, none⟩,
         ⟨(some 5), [], [.t 4, .c (.int .i64 0)], [], [], .bini .geq, none⟩,
         ⟨(some 6), [], [.t 5], [], [], .cp, none⟩,
         ⟨(some 7), [], [.t 1], [], [], .faddr 0, some (6, true)⟩,
         ⟨(some 8), [], [.t 7], [1], [], .load false 1, some (6, true)⟩,
         ⟨(some 9), [], [.t 8, .c (.int .i64 16)], [], [], .bini .lss, some (6, true)⟩,
         ⟨(some 10), [], [.t 6, .t 9, .c (.bool false)], [], [], .pick, none⟩,
         ⟨(some 11), [], [.t 10], [], [], .cp, none⟩,
         ⟨(some 12), [], [.t 1], [], [], .faddr 1, some (11, true)⟩,
         ⟨(some 13), [], [.t 12], [1], [], .load false 1, some (11, true)⟩,
         ⟨(some 14), [], [.t 13, .c (.int .i64 1)], [], [], .bini .geq, some (11, true)⟩,
         ⟨(some 15), [], [.t 11, .t 14, .c (.bool false)], [], [], .pick, none⟩,
         ⟨(some 16), [], [.t 15], [], [], .cp, none⟩,
         ⟨(some 17), [], [.t 1], [], [], .faddr 1, some (16, true)⟩,
         ⟨(some 18), [], [.t 17], [1], [], .load false 1, some (16, true)⟩,
         ⟨(some 19), [], [.t 18, .c (.int .i64 1048576)], [], [], .bini .leq, some (16, true)⟩,
         ⟨(some 20), [], [.t 16, .t 19, .c (.bool false)], [], [], .pick, none⟩,
         ⟨(some 2), [20], [.t 20], [], [], .mv, none⟩] [3, 4, 5, 6, 7, 8, 9, 10, 11, 12, 13, 14, 15, 16, 17, 18, 19, 20] [])
      .ret)) }

def H_tally_at : Hints := [(1, { ops := [(1, { mr := [3] })], kt := [6, 7, 8, 9, 10, 11], kb := [] })]
def c_tally_at (F : Nat → FuncId) : AFun := { nparams := 2, ntmps := 12, results := [.tmp 4, .tmp 5], body :=
  (.seq
    (.reg [⟨(some 3), [], [.t 1], [], [3], .box, none⟩,
       ⟨(some 4), [], [.c (.int .i64 0)], [], [], .cp, none⟩,
       ⟨(some 5), [], [.c (.bool false)], [], [], .cp, none⟩] [] [])
    (.seq
      (.reg [⟨(some 6), [], [.t 0], [], [], .cp, none⟩,
         ⟨(some 7), [], [.t 3], [3], [], .load true 2, none⟩,
         ⟨(some 8), [], [.t 7], [], [], .build [.int .i64 0, .int .i64 0, .int .i64 0] [(0, 2)], none⟩,
         ⟨(some 9), [], [.c (.fn (F n_slices_BinarySearchFunc_api_Undo_api_Undo_api_Undo)), .t 6, .t 8, .c (.fn (F n_tally_compare))], [], [], .call 0 false, none⟩,
         ⟨(some 10), [], [.t 9], [], [], .extract 0, none⟩,
         ⟨(some 11), [], [.t 9], [], [], .extract 1, none⟩,
         ⟨(some 4), [10], [.t 10], [], [], .mv, none⟩,
         ⟨(some 5), [11], [.t 11], [], [], .mv, none⟩] [6, 7, 8, 9, 10, 11] [])
      .ret)) }

def H_slices_Clone_api_Undo_api_Undo : Hints := [(1, { ops := [], kt := [3], kb := [] }),
  (2, { ops := [(0, { x := 1 })], kt := [], kb := [] }),
  (3, { ops := [(0, { x := 2 }), (2, { x := 1 })], kt := [5, 6, 7], kb := [] })]
def c_slices_Clone_api_Undo_api_Undo (F : Nat → FuncId) : AFun := { nparams := 1, ntmps := 8, results := [.tmp 2], body :=
  (.seq
    (.reg [⟨(some 2), [], [], [], [], .nils 3, none⟩] [] [])
    (.seq
      (.seq
        (.reg [⟨(some 3), [], [.t 0], [], [], .cp, none⟩,
           ⟨(some 4), [], [.t 3], [], [], .eqsl false, none⟩] [3] [])
        (.cond (.t 4)
          (.seq
            (.reg [⟨(some 2), [], [], [], [], .nilsx 3, none⟩] [] [])
            .ret)
          .skip))
      (.seq
        (.reg [⟨(some 5), [], [], [], [], .nilsx 3, none⟩,
           ⟨(some 6), [], [.t 0], [], [], .cp, none⟩,
           ⟨(some 7), [5], [.t 5, .t 6], [], [], .appendx 3 24, none⟩,
           ⟨(some 2), [7], [.t 7], [], [], .mv, none⟩] [5, 6, 7] [])
        .ret))) }

def H_tally_compare : Hints := [(1, { ops := [(1, { mr := [2] }), (3, { mr := [3] })], kt := [5, 6, 7, 8, 9], kb := [] })]
def c_tally_compare (F : Nat → FuncId) : AFun := { nparams := 2, ntmps := 10, results := [.tmp 4], body :=
  (.seq
    (.reg [⟨(some 2), [], [.t 0], [], [2], .box, none⟩,
       ⟨(some 3), [], [.t 1], [], [3], .box, none⟩,
       ⟨(some 4), [], [.c (.int .i64 0)], [], [], .cp, none⟩] [] [])
    (.seq
      (.reg [⟨(some 5), [], [.t 2], [], [], .faddr 0, none⟩,
         ⟨(some 6), [], [.t 5], [2], [], .load true 2, none⟩,
         ⟨(some 7), [], [.t 3], [], [], .faddr 0, none⟩,
         ⟨(some 8), [], [.t 7], [3], [], .load true 2, none⟩,
         ⟨(some 9), [], [.c (.fn (F n_dot_Compare)), .t 6, .t 8], [], [], .call 0 false, none⟩,
         ⟨(some 4), [9], [.t 9], [], [], .mv, none⟩] [5, 6, 7, 8, 9] [])
      .ret)) }

def H_pref08_one : Hints := [(1, { ops := [(1, { mr := [1] }), (5, { mr := [1] }), (10, { mr := [1] })], kt := [3, 4, 5, 6, 7, 8, 9, 10, 11, 12, 13, 14, 15], kb := [] })]
def c_pref08_one (F : Nat → FuncId) : AFun := { nparams := 1, ntmps := 16, results := [.tmp 2], body :=
  (.seq
    (.reg [⟨(some 1), [], [.t 0], [], [1], .box, none⟩,
       ⟨(some 2), [], [.c (.bool false)], [], [], .cp, none⟩] [] [])
    (.seq
      (.reg [⟨(some 3), [], [.t 1], [], [], .faddr 0, none⟩,
         ⟨(some 4), [], [.t 3], [1], [], .load true 2, none⟩,
         ⟨(some 5), [], [.c (.fn (F n_pref04_Right)), .t 4], [], [], .call 0 false, none⟩,
         ⟨(some 6), [], [.t 5], [], [], .cp, none⟩,
         ⟨(some 7), [], [.t 1], [], [], .faddr 2, some (6, true)⟩,
         ⟨(some 8), [], [.t 7], [1], [], .load false 1, some (6, true)⟩,
         ⟨(some 9), [], [.t 8, .c (.int .i64 1)], [], [], .bini .geq, some (6, true)⟩,
         ⟨(some 10), [], [.t 6, .t 9, .c (.bool false)], [], [], .pick, none⟩,
         ⟨(some 11), [], [.t 10], [], [], .cp, none⟩,
         ⟨(some 12), [], [.t 1], [], [], .faddr 2, some (11, true)⟩,
         ⟨(some 13), [], [.t 12], [1], [], .load false 1, some (11, true)⟩,
         ⟨(some 14), [], [.t 13, .c (.int .i64 64)], [], [], .bini .leq, some (11, true)⟩,
         ⟨(some 15), [], [.t 11, .t 14, .c (.bool false)], [], [], .pick, none⟩,
         ⟨(some 2), [15], [.t 15], [], [], .mv, none⟩] [3, 4, 5, 6, 7, 8, 9, 10, 11, 12, 13, 14, 15] [])
      .ret)) }

def H_pref04_Compare : Hints := [(1, { ops := [(1, { mr := [2] }), (3, { mr := [3] })], kt := [5, 6, 7, 8], kb := [] }),
  (2, { ops := [(1, { mr := [2] }), (3, { mr := [3] })], kt := [10, 11, 12, 13, 14], kb := [] }),
  (3, { ops := [(1, { mr := [2] }), (3, { mr := [3] })], kt := [15, 16, 17, 18, 19], kb := [] })]
def c_pref04_Compare (F : Nat → FuncId) : AFun := { nparams := 2, ntmps := 20, results := [.tmp 4], body :=
  (.seq
    (.reg [⟨(some 2), [], [.t 0], [], [2], .box, none⟩,
       ⟨(some 3), [], [.t 1], [], [3], .box, none⟩,
       ⟨(some 4), [], [.c (.int .i64 0)], [], [], .cp, none⟩] [] [])
    (.seq
      (.seq
        (.reg [⟨(some 5), [], [.t 2], [], [], .faddr 0, none⟩,
           ⟨(some 6), [], [.t 5], [2], [], .load false 1, none⟩,
           ⟨(some 7), [], [.t 3], [], [], .faddr 0, none⟩,
           ⟨(some 8), [], [.t 7], [3], [], .load false 1, none⟩,
           ⟨(some 9), [], [.t 6, .t 8], [], [], .bini .neq, none⟩] [5, 6, 7, 8] [])
        (.cond (.t 9)
          (.seq
            (.reg [⟨(some 10), [], [.t 2], [], [], .faddr 0, none⟩,
               ⟨(some 11), [], [.t 10], [2], [], .load false 1, none⟩,
               ⟨(some 12), [], [.t 3], [], [], .faddr 0, none⟩,
               ⟨(some 13), [], [.t 12], [3], [], .load false 1, none⟩,
               ⟨(some 14), [], [.c (.fn (F n_pref04_ints)), .t 11, .t 13], [], [], .call 0 false, none⟩,
               ⟨(some 4), [14], [.t 14], [], [], .mv, none⟩] [10, 11, 12, 13, 14] [])
            .ret)
          .skip))
      (.seq
        (.reg [⟨(some 15), [], [.t 2], [], [], .faddr 1, none⟩,
           ⟨(some 16), [], [.t 15], [2], [], .load false 1, none⟩,
           ⟨(some 17), [], [.t 3], [], [], .faddr 1, none⟩,
           ⟨(some 18), [], [.t 17], [3], [], .load false 1, none⟩,
           ⟨(some 19), [], [.c (.fn (F n_pref04_ints)), .t 16, .t 18], [], [], .call 0 false, none⟩,
           ⟨(some 4), [19], [.t 19], [], [], .mv, none⟩] [15, 16, 17, 18, 19] [])
        .ret))) }

def H_slices_Equal_api_Undo_api_Undo : Hints := [(1, { ops := [], kt := [6, 7, 8, 9], kb := [] }),
  (3, { ops := [], kt := [11], kb := [] }),
  (5, { ops := [], kt := [15], kb := [] }),
  (6, { ops := [], kt := [16, 17, 18, 19, 20, 21, 22, 23], kb := [] }),
  (8, { ops := [], kt := [5, 14, 15, 16, 17, 18, 19, 20, 21, 22, 23, 24, 25], kb := [] })]
def c_slices_Equal_api_Undo_api_Undo (F : Nat → FuncId) : AFun := { nparams := 2, ntmps := 26, results := [.tmp 4], body :=
  (.seq
    (.reg [⟨(some 4), [], [.c (.bool false)], [], [], .cp, none⟩] [] [])
    (.seq
      (.seq
        (.reg [⟨(some 6), [], [.t 0], [], [], .cp, none⟩,
           ⟨(some 7), [], [.t 6], [], [], .len false, none⟩,
           ⟨(some 8), [], [.t 1], [], [], .cp, none⟩,
           ⟨(some 9), [], [.t 8], [], [], .len false, none⟩,
           ⟨(some 10), [], [.t 7, .t 9], [], [], .bini .neq, none⟩] [6, 7, 8, 9] [])
        (.cond (.t 10)
          (.seq
            (.reg [⟨(some 4), [], [.c (.bool false)], [], [], .cp, none⟩] [] [])
            .ret)
          .skip))
      (.seq
        (.seq
          (.reg [⟨(some 11), [], [.t 0], [], [], .cp, none⟩,
             ⟨(some 12), [], [.t 11], [], [], .len false, none⟩,
             ⟨(some 13), [], [.c (.int .i64 0)], [], [], .cp, none⟩] [11] [])
          (.block 0
            (.loop
              (.seq
                (.reg [⟨(some 14), [], [.t 13, .t 12], [], [], .bini .lss, none⟩] [] [])
                (.seq
                  (.cond (.t 14)
                    .skip
                    (.exit 0))
                  (.seq
                    (.block 1
                      (.seq
                        (.reg [⟨(some 15), [], [.t 13], [], [], .cp, none⟩,
                           ⟨(some 5), [15], [.t 15], [], [], .mv, none⟩] [15] [])
                        (.seq
                          (.reg [⟨(some 16), [], [.t 0], [], [], .cp, none⟩,
                             ⟨(some 17), [], [.t 5], [], [], .cp, none⟩,
                             ⟨(some 18), [], [.t 16, .t 17], [], [], .iaddr none 3, none⟩,
                             ⟨(some 19), [], [.t 18], [], [], .load true 3, none⟩,
                             ⟨(some 20), [], [.t 1], [], [], .cp, none⟩,
                             ⟨(some 21), [], [.t 5], [], [], .cp, none⟩,
                             ⟨(some 22), [], [.t 20, .t 21], [], [], .iaddr none 3, none⟩,
                             ⟨(some 23), [], [.t 22], [], [], .load true 3, none⟩,
                             ⟨(some 24), [], [.t 19, .t 23], [], [], .eqa [.i, .i, .i] true, none⟩] [16, 17, 18, 19, 20, 21, 22, 23] [])
                          (.cond (.t 24)
                            (.seq
                              (.reg [⟨(some 4), [], [.c (.bool false)], [], [], .cp, none⟩] [] [])
                              .ret)
                            .skip))))
                    (.reg [⟨(some 25), [], [.t 13, .c (.int .i64 1)], [], [], .bini .add, none⟩,
                       ⟨(some 13), [], [.t 25], [], [], .cp, none⟩] [5, 14, 15, 16, 17, 18, 19, 20, 21, 22, 23, 24, 25] [])))))))
        (.seq
          (.reg [⟨(some 4), [], [.c (.bool true)], [], [], .cp, none⟩] [] [])
          .ret)))) }

def H_slices_BinarySearchFunc_api_Undo_api_Undo_api_Undo : Hints := [(1, { ops := [], kt := [12, 13], kb := [] }),
  (2, { ops := [], kt := [14], kb := [] }),
  (3, { ops := [], kt := [15, 16], kb := [] }),
  (4, { ops := [], kt := [18, 19, 20, 21, 22, 23], kb := [] }),
  (5, { ops := [(5, { mr := [4] })], kt := [24, 25, 26, 27, 28, 29, 30], kb := [] }),
  (6, { ops := [], kt := [32, 33], kb := [] }),
  (7, { ops := [], kt := [34], kb := [] }),
  (8, { ops := [(10, { mr := [4] })], kt := [35, 36, 37, 38, 39, 40, 41, 42, 43, 44, 45, 46, 47, 48], kb := [] }),
  (1000001, { ops := [], kt := [11, 15, 16, 17, 18, 19, 20, 21, 22, 23, 24, 25, 26, 27, 28, 29, 30, 31, 32, 33, 34], kb := [] })]
def c_slices_BinarySearchFunc_api_Undo_api_Undo_api_Undo (F : Nat → FuncId) : AFun := { nparams := 3, ntmps := 49, results := [.tmp 6, .tmp 7], body :=
  (.seq
    (.reg [⟨(some 4), [], [.t 1], [], [4], .box, none⟩,
       ⟨(some 6), [], [.c (.int .i64 0)], [], [], .cp, none⟩,
       ⟨(some 7), [], [.c (.bool false)], [], [], .cp, none⟩] [] [])
    (.seq
      (.reg [⟨(some 12), [], [.t 0], [], [], .cp, none⟩,
         ⟨(some 13), [], [.t 12], [], [], .len false, none⟩,
         ⟨(some 8), [13], [.t 13], [], [], .mv, none⟩] [12, 13] [])
      (.seq
        (.reg [⟨(some 14), [], [.t 8], [], [], .cp, none⟩,
           ⟨(some 9), [], [.c (.int .i64 0)], [], [], .cp, none⟩,
           ⟨(some 10), [14], [.t 14], [], [], .mv, none⟩] [14] [])
        (.seq
          (.block 0
            (.loop
              (.seq
                (.seq
                  (.reg [⟨(some 15), [], [.t 9], [], [], .cp, none⟩,
                     ⟨(some 16), [], [.t 10], [], [], .cp, none⟩,
                     ⟨(some 17), [], [.t 15, .t 16], [], [], .bini .lss, none⟩] [15, 16] [])
                  (.cond (.t 17)
                    .skip
                    (.exit 0)))
                (.seq
                  (.block 1
                    (.seq
                      (.reg [⟨(some 18), [], [.t 9], [], [], .cp, none⟩,
                         ⟨(some 19), [], [.t 10], [], [], .cp, none⟩,
                         ⟨(some 20), [], [.t 18, .t 19], [], [], .bini .add, none⟩,
                         ⟨(some 21), [], [.t 20], [], [], .conv .u64, none⟩,
                         ⟨(some 22), [], [.t 21, .c (.int .u64 1)], [], [], .bini .shr, none⟩,
                         ⟨(some 23), [], [.t 22], [], [], .conv .i64, none⟩,
                         ⟨(some 11), [23], [.t 23], [], [], .mv, none⟩] [18, 19, 20, 21, 22, 23] [])
                      (.seq
                        (.reg [⟨(some 24), [], [.t 2], [], [], .cp, none⟩,
                           ⟨(some 25), [], [.t 0], [], [], .cp, none⟩,
                           ⟨(some 26), [], [.t 11], [], [], .cp, none⟩,
                           ⟨(some 27), [], [.t 25, .t 26], [], [], .iaddr none 3, none⟩,
                           ⟨(some 28), [], [.t 27], [], [], .load true 3, none⟩,
                           ⟨(some 29), [], [.t 4], [4], [], .load true 3, none⟩,
                           ⟨(some 30), [], [.t 24, .t 28, .t 29], [], [], .call 0 false, none⟩,
                           ⟨(some 31), [], [.t 30, .c (.int .i64 0)], [], [], .bini .lss, none⟩] [24, 25, 26, 27, 28, 29, 30] [])
                        (.cond (.t 31)
                          (.reg [⟨(some 32), [], [.t 11], [], [], .cp, none⟩,
                             ⟨(some 33), [], [.t 32, .c (.int .i64 1)], [], [], .bini .add, none⟩,
                             ⟨(some 9), [33], [.t 33], [], [], .mv, none⟩] [32, 33] [])
                          (.reg [⟨(some 34), [], [.t 11], [], [], .cp, none⟩,
                             ⟨(some 10), [34], [.t 34], [], [], .mv, none⟩] [34] [])))))
                  (.reg [] [11, 15, 16, 17, 18, 19, 20, 21, 22, 23, 24, 25, 26, 27, 28, 29, 30, 31, 32, 33, 34] [])))))
          (.seq
            (.reg [⟨(some 35), [], [.t 9], [], [], .cp, none⟩,
               ⟨(some 36), [], [.t 9], [], [], .cp, none⟩,
               ⟨(some 37), [], [.t 8], [], [], .cp, none⟩,
               ⟨(some 38), [], [.t 36, .t 37], [], [], .bini .lss, none⟩,
               ⟨(some 39), [], [.t 38], [], [], .cp, none⟩,
               ⟨(some 40), [], [.t 2], [], [], .cp, some (39, true)⟩,
               ⟨(some 41), [], [.t 0], [], [], .cp, some (39, true)⟩,
               ⟨(some 42), [], [.t 9], [], [], .cp, some (39, true)⟩,
               ⟨(some 43), [], [.t 41, .t 42], [], [], .iaddr none 3, some (39, true)⟩,
               ⟨(some 44), [], [.t 43], [], [], .load true 3, some (39, true)⟩,
               ⟨(some 45), [], [.t 4], [4], [], .load true 3, some (39, true)⟩,
               ⟨(some 46), [], [.t 40, .t 44, .t 45], [], [], .call 0 false, some (39, true)⟩,
               ⟨(some 47), [], [.t 46, .c (.int .i64 0)], [], [], .bini .eql, some (39, true)⟩,
               ⟨(some 48), [], [.t 39, .t 47, .c (.bool false)], [], [], .pick, none⟩,
               ⟨(some 6), [35], [.t 35], [], [], .mv, none⟩,
               ⟨(some 7), [48], [.t 48], [], [], .mv, none⟩] [35, 36, 37, 38, 39, 40, 41, 42, 43, 44, 45, 46, 47, 48] [])
            .ret))))) }

def H_dot_Compare : Hints := [(1, { ops := [(1, { mr := [2] }), (3, { mr := [3] }), (6, { mr := [2] }), (8, { mr := [3] })], kt := [5, 6, 7, 8, 9, 10, 11, 12, 13, 14, 15, 16], kb := [] })]
def c_dot_Compare (F : Nat → FuncId) : AFun := { nparams := 2, ntmps := 17, results := [.tmp 4], body :=
  (.seq
    (.reg [⟨(some 2), [], [.t 0], [], [2], .box, none⟩,
       ⟨(some 3), [], [.t 1], [], [3], .box, none⟩,
       ⟨(some 4), [], [.c (.int .i64 0)], [], [], .cp, none⟩] [] [])
    (.seq
      (.reg [⟨(some 5), [], [.t 2], [], [], .faddr 0, none⟩,
         ⟨(some 6), [], [.t 5], [2], [], .load false 1, none⟩,
         ⟨(some 7), [], [.t 3], [], [], .faddr 0, none⟩,
         ⟨(some 8), [], [.t 7], [3], [], .load false 1, none⟩,
         ⟨(some 9), [], [.c (.fn (F n_cmp_Compare_int)), .t 6, .t 8], [], [], .call 0 false, none⟩,
         ⟨(some 10), [], [.t 2], [], [], .faddr 1, none⟩,
         ⟨(some 11), [], [.t 10], [2], [], .load false 1, none⟩,
         ⟨(some 12), [], [.t 3], [], [], .faddr 1, none⟩,
         ⟨(some 13), [], [.t 12], [3], [], .load false 1, none⟩,
         ⟨(some 14), [], [.c (.fn (F n_cmp_Compare_int)), .t 11, .t 13], [], [], .call 0 false, none⟩,
         ⟨(some 15), [], [.t 9, .t 14], [], [], .bslice 1 [.int .i64 0, .int .i64 0] [(0, 1), (1, 1)], none⟩,
         ⟨(some 16), [], [.c (.fn (F n_cmp_Or_int)), .t 15], [], [], .call 0 false, none⟩,
         ⟨(some 4), [16], [.t 16], [], [], .mv, none⟩] [5, 6, 7, 8, 9, 10, 11, 12, 13, 14, 15, 16] [])
      .ret)) }

def H_pref04_ints : Hints := [(1, { ops := [], kt := [5, 6], kb := [] }),
  (3, { ops := [], kt := [8, 9], kb := [] })]
def c_pref04_ints (F : Nat → FuncId) : AFun := { nparams := 2, ntmps := 11, results := [.tmp 4], body :=
  (.seq
    (.reg [⟨(some 4), [], [.c (.int .i64 0)], [], [], .cp, none⟩] [] [])
    (.seq
      (.seq
        (.reg [⟨(some 5), [], [.t 0], [], [], .cp, none⟩,
           ⟨(some 6), [], [.t 1], [], [], .cp, none⟩,
           ⟨(some 7), [], [.t 5, .t 6], [], [], .bini .lss, none⟩] [5, 6] [])
        (.cond (.t 7)
          (.seq
            (.reg [⟨(some 4), [], [.c (.int .i64 (-1))], [], [], .cp, none⟩] [] [])
            .ret)
          .skip))
      (.seq
        (.seq
          (.reg [⟨(some 8), [], [.t 0], [], [], .cp, none⟩,
             ⟨(some 9), [], [.t 1], [], [], .cp, none⟩,
             ⟨(some 10), [], [.t 8, .t 9], [], [], .bini .gtr, none⟩] [8, 9] [])
          (.cond (.t 10)
            (.seq
              (.reg [⟨(some 4), [], [.c (.int .i64 1)], [], [], .cp, none⟩] [] [])
              .ret)
            .skip))
        (.seq
          (.reg [⟨(some 4), [], [.c (.int .i64 0)], [], [], .cp, none⟩] [] [])
          .ret)))) }

def H_cmp_Or_int : Hints := [(4, { ops := [], kt := [10, 11], kb := [] }),
  (5, { ops := [], kt := [12, 13], kb := [] }),
  (6, { ops := [], kt := [15], kb := [] }),
  (7, { ops := [], kt := [5, 9, 10, 11, 12, 13, 14, 15, 16], kb := [] }),
  (8, { ops := [], kt := [17], kb := [] })]
def c_cmp_Or_int (F : Nat → FuncId) : AFun := { nparams := 1, ntmps := 18, results := [.tmp 2], body :=
  (.seq
    (.reg [⟨(some 2), [], [.c (.int .i64 0)], [], [], .cp, none⟩] [] [])
    (.seq
      (.reg [⟨(some 3), [], [.c (.int .i64 0)], [], [], .cp, none⟩] [] [])
      (.seq
        (.seq
          (.reg [⟨(some 6), [], [.t 0], [], [], .cp, none⟩,
             ⟨(some 7), [], [.t 6], [], [], .len false, none⟩,
             ⟨(some 8), [], [.c (.int .i64 0)], [], [], .cp, none⟩] [] [])
          (.block 0
            (.loop
              (.seq
                (.reg [⟨(some 9), [], [.t 8, .t 7], [], [], .bini .lss, none⟩] [] [])
                (.seq
                  (.cond (.t 9)
                    .skip
                    (.exit 0))
                  (.seq
                    (.block 1
                      (.seq
                        (.reg [⟨(some 10), [], [.t 6, .t 8], [], [], .iaddr none 1, none⟩,
                           ⟨(some 11), [], [.t 10], [], [], .load false 1, none⟩,
                           ⟨(some 5), [11], [.t 11], [], [], .mv, none⟩] [10, 11] [])
                        (.seq
                          (.reg [⟨(some 12), [], [.t 5], [], [], .cp, none⟩,
                             ⟨(some 13), [], [.t 3], [], [], .cp, none⟩,
                             ⟨(some 14), [], [.t 12, .t 13], [], [], .bini .neq, none⟩] [12, 13] [])
                          (.cond (.t 14)
                            (.seq
                              (.reg [⟨(some 15), [], [.t 5], [], [], .cp, none⟩,
                                 ⟨(some 2), [15], [.t 15], [], [], .mv, none⟩] [15] [])
                              .ret)
                            .skip))))
                    (.reg [⟨(some 16), [], [.t 8, .c (.int .i64 1)], [], [], .bini .add, none⟩,
                       ⟨(some 8), [], [.t 16], [], [], .cp, none⟩] [5, 9, 10, 11, 12, 13, 14, 15, 16] [])))))))
        (.seq
          (.reg [⟨(some 17), [], [.t 3], [], [], .cp, none⟩,
             ⟨(some 2), [17], [.t 17], [], [], .mv, none⟩] [17] [])
          .ret)))) }

def H_cmp_Compare_int : Hints := [(1, { ops := [], kt := [7, 8], kb := [] }),
  (2, { ops := [], kt := [9, 10], kb := [] }),
  (9, { ops := [], kt := [14, 15], kb := [] }),
  (11, { ops := [], kt := [17, 18], kb := [] })]
def c_cmp_Compare_int (F : Nat → FuncId) : AFun := { nparams := 2, ntmps := 20, results := [.tmp 4], body :=
  (.seq
    (.reg [⟨(some 4), [], [.c (.int .i64 0)], [], [], .cp, none⟩] [] [])
    (.seq
      (.reg [⟨(some 7), [], [.t 0], [], [], .cp, none⟩,
         ⟨(some 8), [], [.c (.fn (F n_cmp_isNaN_int)), .t 7], [], [], .call 0 false, none⟩,
         ⟨(some 5), [8], [.t 8], [], [], .mv, none⟩] [7, 8] [])
      (.seq
        (.reg [⟨(some 9), [], [.t 1], [], [], .cp, none⟩,
           ⟨(some 10), [], [.c (.fn (F n_cmp_isNaN_int)), .t 9], [], [], .call 0 false, none⟩,
           ⟨(some 6), [10], [.t 10], [], [], .mv, none⟩] [9, 10] [])
        (.seq
          (.seq
            (.reg [⟨(some 11), [], [.t 5], [], [], .cp, none⟩] [] [])
            (.cond (.t 11)
              (.seq
                (.seq
                  (.reg [⟨(some 12), [], [.t 6], [], [], .cp, none⟩] [] [])
                  (.cond (.t 12)
                    (.seq
                      (.reg [⟨(some 4), [], [.c (.int .i64 0)], [], [], .cp, none⟩] [] [])
                      .ret)
                    .skip))
                (.seq
                  (.reg [⟨(some 4), [], [.c (.int .i64 (-1))], [], [], .cp, none⟩] [] [])
                  .ret))
              .skip))
          (.seq
            (.seq
              (.reg [⟨(some 13), [], [.t 6], [], [], .cp, none⟩] [] [])
              (.cond (.t 13)
                (.seq
                  (.reg [⟨(some 4), [], [.c (.int .i64 1)], [], [], .cp, none⟩] [] [])
                  .ret)
                .skip))
            (.seq
              (.seq
                (.reg [⟨(some 14), [], [.t 0], [], [], .cp, none⟩,
                   ⟨(some 15), [], [.t 1], [], [], .cp, none⟩,
                   ⟨(some 16), [], [.t 14, .t 15], [], [], .bini .lss, none⟩] [14, 15] [])
                (.cond (.t 16)
                  (.seq
                    (.reg [⟨(some 4), [], [.c (.int .i64 (-1))], [], [], .cp, none⟩] [] [])
                    .ret)
                  .skip))
              (.seq
                (.seq
                  (.reg [⟨(some 17), [], [.t 0], [], [], .cp, none⟩,
                     ⟨(some 18), [], [.t 1], [], [], .cp, none⟩,
                     ⟨(some 19), [], [.t 17, .t 18], [], [], .bini .gtr, none⟩] [17, 18] [])
                  (.cond (.t 19)
                    (.seq
                      (.reg [⟨(some 4), [], [.c (.int .i64 1)], [], [], .cp, none⟩] [] [])
                      .ret)
                    .skip))
                (.seq
                  (.reg [⟨(some 4), [], [.c (.int .i64 0)], [], [], .cp, none⟩] [] [])
                  .ret)))))))) }

def H_cmp_isNaN_int : Hints := [(1, { ops := [], kt := [3, 4, 5], kb := [] })]
def c_cmp_isNaN_int (F : Nat → FuncId) : AFun := { nparams := 1, ntmps := 6, results := [.tmp 2], body :=
  (.seq
    (.reg [⟨(some 2), [], [.c (.bool false)], [], [], .cp, none⟩] [] [])
    (.seq
      (.reg [⟨(some 3), [], [.t 0], [], [], .cp, none⟩,
         ⟨(some 4), [], [.t 0], [], [], .cp, none⟩,
         ⟨(some 5), [], [.t 3, .t 4], [], [], .bini .neq, none⟩,
         ⟨(some 2), [5], [.t 5], [], [], .mv, none⟩] [3, 4, 5] [])
      .ret)) }

end Go.AR

import Derived.Test.YtillphnjhefioaaG02
import Derived.Test.YtillphnjhefioaaG03
set_option linter.all false
/-! Codes, printed by program. -/
namespace Go.AR
def H_pref08_Good : Hints := [(1, { ops := [], kt := [3, 4, 5, 6, 7, 8, 9], kb := [] })]
def c_pref08_Good (F : Nat → FuncId) : AFun := { nparams := 1, ntmps := 10, results := [.tmp 2], body :=
 (.seq
 (.reg [⟨(some 2), [], [.c (.bool false)], [], [], .cp, none⟩] [] [])
 (.seq
 (.reg [⟨(some 3), [], [.t 0], [], [], .cp, none⟩,
 ⟨(some 4), [], [.t 3], [], [], .len false, none⟩,
 ⟨(some 5), [], [.t 4, .c (.int .i64 100)], [], [], .bini .leq, none⟩,
 ⟨(some 6), [], [.t 5], [], [], .cp, none⟩,
 ⟨(some 7), [], [.t 0], [], [], .cp, some (6, true)⟩,
 ⟨(some 8), [], [.c (.fn (F n_pref08_Right)), .t 7], [], [], .call 0 false, some (6, true)⟩,
 ⟨(some 9), [], [.t 6, .t 8, .c (.bool false)], [], [], .pick, none⟩,
 ⟨(some 2), [9], [.t 9], [], [], .mv, none⟩] [3, 4, 5, 6, 7, 8, 9] [])
 .ret)) }

def H_pref04_Right : Hints := [(1, { ops := [(1, { mr := [1] }), (5, { mr := [1] }), (10, { mr := [1] }), (15, { mr := [1] })], kt := [3, 4, 5, 6, 7, 8, 9, 10, 11, 12, 13, 14, 15, 16, 17, 18, 19, 20], kb := [] })]
def c_pref04_Right (F : Nat → FuncId) : AFun := { nparams := 1, ntmps := 21, results := [.tmp 2], body :=
 (.seq
 (.reg [⟨(some 1), [], [.t 0], [], [1], .box, none⟩,
 ⟨(some 2), [], [.c (.bool false)], [], [], .cp, none⟩] [] [])
 (.seq
 (.reg [⟨(some 3), [], [.t 1], [], [], .faddr 0, none⟩,
 ⟨(some 4), [], [.t 3], [1], [], .load false 1, none⟩,
 ⟨(some 5), [], [.t 4, .c (.int .i64 0)], [], [], .bini .geq, none⟩,
 ⟨(some 6), [], [.t 5], [], [], .cp, none⟩,
 ⟨(some 7), [], [.t 1], [], [], .faddr 0, some (6, true)⟩,
 ⟨(some 8), [], [.t 7], [1], [], .load false 1, some (6, true)⟩,
 ⟨(some 9), [], [.t 8, .c (.int .i64 15)], [], [], .bini .leq, some (6, true)⟩,
 ⟨(some 10), [], [.t 6, .t 9, .c (.bool false)], [], [], .pick, none⟩,
 ⟨(some 11), [], [.t 10], [], [], .cp, none⟩,
 ⟨(some 12), [], [.t 1], [], [], .faddr 1, some (11, true)⟩,
 ⟨(some 13), [], [.t 12], [1], [], .load false 1, some (11, true)⟩,
 ⟨(some 14), [], [.t 13, .c (.int .i64 1)], [], [], .bini .geq, some (11, true)⟩,
 ⟨(some 15), [], [.t 11, .t 14, .c (.bool false)], [], [], .pick, none⟩,
 ⟨(some 16), [], [.t 15], [], [], .cp, none⟩,
 ⟨(some 17), [], [.t 1], [], [], .faddr 1, some (16, true)⟩,
 ⟨(some 18), [], [.t 17], [1], [], .load false 1, some (16, true)⟩,
 ⟨(some 19), [], [.t 18, .c (.int .i64 1048576)], [], [], .bini .leq, some (16, true)⟩,
 ⟨(some 20), [], [.t 16, .t 19, .c (.bool false)], [], [], .pick, none⟩,
 ⟨(some 2), [20], [.t 20], [], [], .mv, none⟩] [3, 4, 5, 6, 7, 8, 9, 10, 11, 12, 13, 14, 15, 16, 17, 18, 19, 20] [])
 .ret)) }

def H_tally_Raise : Hints := [(1, { ops := [(1, { mr := [3] })], kt := [7, 8, 9], kb := [] }),
 (2, { ops := [(0, { mr := [3] })], kt := [11, 12, 13], kb := [] }),
 (3, { ops := [(1, { mw := [4] })], kt := [14], kb := [] }),
 (4, { ops := [], kt := [16, 17], kb := [] }),
 (5, { ops := [(1, { mw := [4] })], kt := [18], kb := [] }),
 (6, { ops := [(0, { mr := [3] }), (4, { mw := [4] })], kt := [19, 20, 21, 22], kb := [] })]
def c_tally_Raise (F : Nat → FuncId) : AFun := { nparams := 2, ntmps := 23, results := [.cell 4 true 3, .tmp 5], body :=
 (.seq
 (.reg [⟨(some 3), [], [.t 1], [], [3], .box, none⟩,
 ⟨(some 4), [], [], [], [4], .alloc [.val (.int .i64 0), .val (.int .i64 0), .val (.int .i64 0)], none⟩,
 ⟨(some 5), [], [.c (.int .i64 0)], [], [], .cp, none⟩] [] [])
 (.seq
 (.reg [⟨(some 7), [], [.t 0], [], [], .cp, none⟩,
 ⟨(some 8), [], [.t 3], [3], [], .load true 2, none⟩,
 ⟨(some 9), [], [.c (.fn (F n_tally_Get)), .t 7, .t 8], [], [], .call 0 false, none⟩,
 ⟨(some 6), [9], [.t 9], [], [], .mv, none⟩] [7, 8, 9] [])
 (.seq
 (.block 0
 (.seq
 (.reg [⟨(some 11), [], [.t 3], [3], [], .load true 2, none⟩,
 ⟨(some 12), [], [.c (.fn (F n_dot_Right)), .t 11], [], [], .call 0 false, none⟩,
 ⟨(some 13), [], [.t 12], [], [], .not, none⟩,
 ⟨(some 10), [13], [.t 13], [], [], .mv, none⟩] [11, 12, 13] [])
 (.cond (.t 10)
 (.seq
 (.reg [⟨(some 14), [], [], [], [], .build [.int .i64 0, .int .i64 0, .int .i64 0] [], none⟩,
 ⟨none, [14], [.t 4, .t 14], [], [4], .store true 3, none⟩,
 ⟨(some 5), [], [.c (.int .i64 2)], [], [], .cp, none⟩] [14] [])
 .ret)
 (.seq
 (.reg [⟨(some 16), [], [.t 6], [], [], .cp, none⟩,
 ⟨(some 17), [], [.t 16, .c (.int .i64 64)], [], [], .bini .geq, none⟩,
 ⟨(some 15), [17], [.t 17], [], [], .mv, none⟩] [16, 17] [])
 (.cond (.t 15)
 (.seq
 (.reg [⟨(some 18), [], [], [], [], .build [.int .i64 0, .int .i64 0, .int .i64 0] [], none⟩,
 ⟨none, [18], [.t 4, .t 18], [], [4], .store true 3, none⟩,
 ⟨(some 5), [], [.c (.int .i64 14)], [], [], .cp, none⟩] [18] [])
 .ret)
 .skip)))))
 (.seq
 (.reg [⟨(some 19), [], [.t 3], [3], [], .load true 2, none⟩,
 ⟨(some 20), [], [.t 6], [], [], .cp, none⟩,
 ⟨(some 21), [], [.t 20, .c (.int .i64 1)], [], [], .bini .add, none⟩,
 ⟨(some 22), [], [.t 19, .t 21], [], [], .build [.int .i64 0, .int .i64 0, .int .i64 0] [(0, 2), (2, 1)], none⟩,
 ⟨none, [22], [.t 4, .t 22], [], [4], .store true 3, none⟩,
 ⟨(some 5), [], [.c (.int .i64 0)], [], [], .cp, none⟩] [19, 20, 21, 22] [])
 .ret)))) }

def H_tally_Get : Hints := [(1, { ops := [(1, { mr := [3] })], kt := [7, 8, 9, 10, 11, 12], kb := [] }),
 (3, { ops := [], kt := [14, 15, 16, 17, 18], kb := [] })]
def c_tally_Get (F : Nat → FuncId) : AFun := { nparams := 2, ntmps := 19, results := [.tmp 4], body :=
 (.seq
 (.reg [⟨(some 3), [], [.t 1], [], [3], .box, none⟩,
 ⟨(some 4), [], [.c (.int .i64 0)], [], [], .cp, none⟩] [] [])
 (.seq
 (.seq
 (.reg [⟨(some 8), [], [.t 0], [], [], .cp, none⟩,
 ⟨(some 9), [], [.t 3], [3], [], .load true 2, none⟩,
 ⟨(some 10), [], [.c (.fn (F n_tally_at)), .t 8, .t 9], [], [], .call 0 false, none⟩,
 ⟨(some 7), [], [.t 10], [], [], .cp, none⟩,
 ⟨(some 11), [], [.t 7], [], [], .extract 0, none⟩,
 ⟨(some 12), [], [.t 7], [], [], .extract 1, none⟩,
 ⟨(some 5), [11], [.t 11], [], [], .mv, none⟩,
 ⟨(some 6), [12], [.t 12], [], [], .mv, none⟩] [7, 8, 9, 10, 11, 12] [])
 (.seq
 (.reg [⟨(some 13), [], [.t 6], [], [], .cp, none⟩] [] [])
 (.cond (.t 13)
 (.seq
 (.reg [⟨(some 14), [], [.t 0], [], [], .cp, none⟩,
 ⟨(some 15), [], [.t 5], [], [], .cp, none⟩,
 ⟨(some 16), [], [.t 14, .t 15], [], [], .iaddr none 3, none⟩,
 ⟨(some 17), [], [.t 16], [], [], .faddr 2, none⟩,
 ⟨(some 18), [], [.t 17], [], [], .load false 1, none⟩,
 ⟨(some 4), [18], [.t 18], [], [], .mv, none⟩] [14, 15, 16, 17, 18] [])
 .ret)
 .skip)))
 (.seq
 (.reg [⟨(some 4), [], [.c (.int .i64 0)], [], [], .cp, none⟩] [] [])
 .ret))) }

def H_tally_Put : Hints := [(1, { ops := [(1, { mr := [3] }), (6, { mr := [3] }), (11, { mr := [3] })], kt := [7, 8, 9, 10, 11, 12, 13, 14, 15, 16, 17, 18, 19], kb := [] }),
 (2, { ops := [], kt := [21], kb := [] }),
 (3, { ops := [(2, { mr := [3] })], kt := [22, 23, 24, 25, 26, 27, 28], kb := [] }),
 (4, { ops := [], kt := [30, 31], kb := [] }),
 (5, { ops := [(3, { mr := [3] }), (4, { x := 1 }), (5, { x := 1, wb := [33, 36] }), (6, { x := 3 })], kt := [32, 33, 34, 35, 36, 37], kb := [] }),
 (6, { ops := [(6, { mr := [3] })], kt := [39, 40, 41, 42, 43, 44, 45, 46], kb := [] }),
 (7, { ops := [], kt := [47], kb := [] }),
 (8, { ops := [], kt := [48, 49], kb := [] }),
 (9, { ops := [(0, { x := 2 }), (2, { mr := [3] }), (4, { mw := [50] })], kt := [50, 51, 52, 53], kb := [], cl := [(0, 50, 3)] }),
 (10, { ops := [(0, { x := 3 })], kt := [54], kb := [] })]
def c_tally_Put (F : Nat → FuncId) : AFun := { nparams := 2, ntmps := 55, results := [.tmp 4], body :=
 (.seq
 (.reg [⟨(some 3), [], [.t 1], [], [3], .box, none⟩,
 ⟨(some 4), [], [], [], [], .nils 3, none⟩] [] [])
 (.seq
 (.seq
 (.reg [⟨(some 7), [], [.t 3], [], [], .faddr 0, none⟩,
 ⟨(some 8), [], [.t 7], [3], [], .load true 2, none⟩,
 ⟨(some 9), [], [.c (.fn (F n_dot_Right)), .t 8], [], [], .call 0 false, none⟩,
 ⟨(some 10), [], [.t 9], [], [], .not, none⟩,
 ⟨(some 11), [], [.t 10], [], [], .cp, none⟩,
 ⟨(some 12), [], [.t 3], [], [], .faddr 2, some (11, false)⟩,
 ⟨(some 13), [], [.t 12], [3], [], .load false 1, some (11, false)⟩,
 ⟨(some 14), [], [.t 13, .c (.int .i64 1)], [], [], .bini .lss, some (11, false)⟩,
 ⟨(some 15), [], [.t 11, .c (.bool true), .t 14], [], [], .pick, none⟩,
 ⟨(some 16), [], [.t 15], [], [], .cp, none⟩,
 ⟨(some 17), [], [.t 3], [], [], .faddr 2, some (16, false)⟩,
 ⟨(some 18), [], [.t 17], [3], [], .load false 1, some (16, false)⟩,
 ⟨(some 19), [], [.t 18, .c (.int .i64 64)], [], [], .bini .gtr, some (16, false)⟩,
 ⟨(some 20), [], [.t 16, .c (.bool true), .t 19], [], [], .pick, none⟩] [7, 8, 9, 10, 11, 12, 13, 14, 15, 16, 17, 18, 19] [])
 (.cond (.t 20)
 (.seq
 (.reg [⟨(some 21), [], [.t 0], [], [], .cp, none⟩,
 ⟨(some 4), [21], [.t 21], [], [], .mv, none⟩] [21] [])
 .ret)
 .skip))
 (.seq
 (.reg [⟨(some 23), [], [.t 0], [], [], .cp, none⟩,
 ⟨(some 24), [], [.t 3], [], [], .faddr 0, none⟩,
 ⟨(some 25), [], [.t 24], [3], [], .load true 2, none⟩,
 ⟨(some 26), [], [.c (.fn (F n_tally_at)), .t 23, .t 25], [], [], .call 0 false, none⟩,
 ⟨(some 22), [], [.t 26], [], [], .cp, none⟩,
 ⟨(some 27), [], [.t 22], [], [], .extract 0, none⟩,
 ⟨(some 28), [], [.t 22], [], [], .extract 1, none⟩,
 ⟨(some 5), [27], [.t 27], [], [], .mv, none⟩,
 ⟨(some 6), [28], [.t 28], [], [], .mv, none⟩] [22, 23, 24, 25, 26, 27, 28] [])
 (.seq
 (.block 0
 (.seq
 (.reg [⟨(some 30), [], [.t 6], [], [], .cp, none⟩,
 ⟨(some 31), [], [.t 30], [], [], .not, none⟩,
 ⟨(some 29), [31], [.t 31], [], [], .mv, none⟩] [30, 31] [])
 (.cond (.t 29)
 (.seq
 (.reg [⟨(some 32), [], [.t 0], [], [], .cp, none⟩,
 ⟨(some 33), [], [.c (.fn (F n_slices_Clone_api_Undo_api_Undo)), .t 32], [], [], .call 0 false, none⟩,
 ⟨(some 34), [], [.t 5], [], [], .cp, none⟩,
 ⟨(some 35), [], [.t 3], [3], [], .load true 3, none⟩,
 ⟨(some 36), [], [.t 35], [], [], .bslicex 3 [.int .i64 0, .int .i64 0, .int .i64 0] [(0, 3)], none⟩,
 ⟨(some 37), [33, 36], [.c (.fn (F n_slices_Insert_api_Undo_api_Undo)), .t 33, .t 34, .t 36], [], [], .callx 0 false, none⟩,
 ⟨(some 4), [37], [.t 37], [], [], .pubv, none⟩] [32, 33, 34, 35, 36, 37] [])
 .ret)
 (.seq
 (.reg [⟨(some 39), [], [.t 0], [], [], .cp, none⟩,
 ⟨(some 40), [], [.t 5], [], [], .cp, none⟩,
 ⟨(some 41), [], [.t 39, .t 40], [], [], .iaddr none 3, none⟩,
 ⟨(some 42), [], [.t 41], [], [], .faddr 2, none⟩,
 ⟨(some 43), [], [.t 42], [], [], .load false 1, none⟩,
 ⟨(some 44), [], [.t 3], [], [], .faddr 2, none⟩,
 ⟨(some 45), [], [.t 44], [3], [], .load false 1, none⟩,
 ⟨(some 46), [], [.t 43, .t 45], [], [], .bini .geq, none⟩,
 ⟨(some 38), [46], [.t 46], [], [], .mv, none⟩] [39, 40, 41, 42, 43, 44, 45, 46] [])
 (.cond (.t 38)
 (.seq
 (.reg [⟨(some 47), [], [.t 0], [], [], .cp, none⟩,
 ⟨(some 4), [47], [.t 47], [], [], .mv, none⟩] [47] [])
 .ret)
 .skip)))))
 (.seq
 (.reg [⟨(some 48), [], [.t 0], [], [], .cp, none⟩,
 ⟨(some 49), [], [.c (.fn (F n_slices_Clone_api_Undo_api_Undo)), .t 48], [], [], .call 0 false, none⟩,
 ⟨(some 0), [49], [.t 49], [], [], .mv, none⟩] [48, 49] [])
 (.seq
 (.seq (.reg [⟨(some 50), [0], [.t 0], [], [50], .openx, none⟩,
 ⟨(some 51), [], [.t 5], [], [], .cp, none⟩,
 ⟨(some 52), [], [.t 3], [3], [], .load true 3, none⟩,
 ⟨(some 53), [], [.t 50, .t 51], [], [], .iaddr none 3, none⟩,
 ⟨none, [52], [.t 53, .t 52], [], [50], .store true 3, none⟩] [50, 51, 52, 53] []) (.close 0 50 3))
 (.seq
 (.reg [⟨(some 54), [0], [.t 0], [], [], .pubv, none⟩,
 ⟨(some 4), [54], [.t 54], [], [], .mv, none⟩] [54] [])
 .ret))))))) }

def H_tally_Seen : Hints := [(1, { ops := [(1, { mr := [3] })], kt := [5, 6, 7, 8, 9], kb := [] })]
def c_tally_Seen (F : Nat → FuncId) : AFun := { nparams := 2, ntmps := 10, results := [.tmp 4], body :=
 (.seq
 (.reg [⟨(some 3), [], [.t 1], [], [3], .box, none⟩,
 ⟨(some 4), [], [.c (.bool false)], [], [], .cp, none⟩] [] [])
 (.seq
 (.reg [⟨(some 5), [], [.t 0], [], [], .cp, none⟩,
 ⟨(some 6), [], [.t 3], [3], [], .load true 2, none⟩,
 ⟨(some 7), [], [.c (.fn (F n_tally_Get)), .t 5, .t 6], [], [], .call 0 false, none⟩,
 ⟨(some 8), [], [.t 7, .c (.int .i64 2)], [], [], .bini .rem, none⟩,
 ⟨(some 9), [], [.t 8, .c (.int .i64 0)], [], [], .bini .eql, none⟩,
 ⟨(some 4), [9], [.t 9], [], [], .mv, none⟩] [5, 6, 7, 8, 9] [])
 .ret)) }

def H_pref08_Right : Hints := [(2, { ops := [], kt := [4, 5, 6], kb := [] }),
 (3, { ops := [], kt := [4, 5, 6, 7, 8, 9, 10, 11, 12, 13, 14, 15, 16, 17, 18, 19, 20, 21, 22, 23, 24, 25, 26, 27, 28, 29, 30, 31, 32, 33, 34], kb := [] }),
 (4, { ops := [], kt := [10, 11, 12, 13, 14, 15, 16, 17, 18, 19, 20, 21, 22, 23, 24, 25, 26, 27, 28, 29, 30, 31, 32, 33], kb := [] })]
def c_pref08_Right (F : Nat → FuncId) : AFun := { nparams := 1, ntmps := 35, results := [.tmp 2], body :=
 (.seq
 (.reg [⟨(some 2), [], [.c (.bool false)], [], [], .cp, none⟩] [] [])
 (.seq
 (.seq
 (.reg [⟨(some 3), [], [.c (.int .i64 0)], [], [], .cp, none⟩] [] [])
 (.block 0
 (.loop
 (.seq
 (.seq
 (.reg [⟨(some 4), [], [.t 3], [], [], .cp, none⟩,
 ⟨(some 5), [], [.t 0], [], [], .cp, none⟩,
 ⟨(some 6), [], [.t 5], [], [], .len false, none⟩,
 ⟨(some 7), [], [.t 4, .t 6], [], [], .bini .lss, none⟩] [4, 5, 6] [])
 (.cond (.t 7)
 .skip
 (.exit 0)))
 (.seq
 (.block 1
 (.seq
 (.reg [⟨(some 10), [], [.t 0], [], [], .cp, none⟩,
 ⟨(some 11), [], [.t 3], [], [], .cp, none⟩,
 ⟨(some 12), [], [.t 10, .t 11], [], [], .iaddr none 3, none⟩,
 ⟨(some 13), [], [.t 12], [], [], .load true 3, none⟩,
 ⟨(some 14), [], [.c (.fn (F n_pref08_one)), .t 13], [], [], .call 0 false, none⟩,
 ⟨(some 15), [], [.t 14], [], [], .not, none⟩,
 ⟨(some 16), [], [.t 15], [], [], .cp, none⟩,
 ⟨(some 17), [], [.t 3], [], [], .cp, some (16, false)⟩,
 ⟨(some 18), [], [.t 17, .c (.int .i64 0)], [], [], .bini .gtr, some (16, false)⟩,
 ⟨(some 19), [], [.t 18], [], [], .cp, some (16, false)⟩,
 ⟨(some 20), [], [.t 0], [], [], .cp, some (19, true)⟩,
 ⟨(some 21), [], [.t 3], [], [], .cp, some (19, true)⟩,
 ⟨(some 22), [], [.t 21, .c (.int .i64 1)], [], [], .bini .sub, some (19, true)⟩,
 ⟨(some 23), [], [.t 20, .t 22], [], [], .iaddr none 3, some (19, true)⟩,
 ⟨(some 24), [], [.t 23], [], [], .faddr 0, some (19, true)⟩,
 ⟨(some 25), [], [.t 24], [], [], .load true 2, some (19, true)⟩,
 ⟨(some 26), [], [.t 0], [], [], .cp, some (19, true)⟩,
 ⟨(some 27), [], [.t 3], [], [], .cp, some (19, true)⟩,
 ⟨(some 28), [], [.t 26, .t 27], [], [], .iaddr none 3, some (19, true)⟩,
 ⟨(some 29), [], [.t 28], [], [], .faddr 0, some (19, true)⟩,
 ⟨(some 30), [], [.t 29], [], [], .load true 2, some (19, true)⟩,
 ⟨(some 31), [], [.c (.fn (F n_pref04_Compare)), .t 25, .t 30], [], [], .call 0 false, some (19, true)⟩,
 ⟨(some 32), [], [.t 31, .c (.int .i64 (-1))], [], [], .bini .neq, some (19, true)⟩,
 ⟨(some 33), [], [.t 19, .t 32, .c (.bool false)], [], [], .pick, some (16, false)⟩,
 ⟨(some 34), [], [.t 16, .c (.bool true), .t 33], [], [], .pick, none⟩] [10, 11, 12, 13, 14, 15, 16, 17, 18, 19, 20, 21, 22, 23, 24, 25, 26, 27, 28, 29, 30, 31, 32, 33] [])
 (.cond (.t 34)
 (.seq
 (.reg [⟨(some 2), [], [.c (.bool false)], [], [], .cp, none⟩] [] [])
 .ret)
 .skip)))
 (.reg [⟨(some 8), [], [.t 3], [], [], .cp, none⟩,
 ⟨(some 9), [], [.t 8, .c (.int .i64 1)], [], [], .bini .add, none⟩,
 ⟨(some 3), [9], [.t 9], [], [], .mv, none⟩] [4, 5, 6, 7, 8, 9, 10, 11, 12, 13, 14, 15, 16, 17, 18, 19, 20, 21, 22, 23, 24, 25, 26, 27, 28, 29, 30, 31, 32, 33, 34] []))))))
 (.seq
 (.reg [⟨(some 2), [], [.c (.bool true)], [], [], .cp, none⟩] [] [])
 .ret))) }

def H_pref08_Get : Hints := [(2, { ops := [], kt := [6, 7, 8], kb := [] }),
 (3, { ops := [], kt := [6, 7, 8, 9, 10, 11, 12, 13, 14, 15, 16, 17, 18, 19, 20, 21, 22, 23], kb := [] }),
 (4, { ops := [(5, { mr := [3] })], kt := [12, 13, 14, 15, 16, 17], kb := [] }),
 (5, { ops := [], kt := [19, 20, 21, 22, 23], kb := [] })]
def c_pref08_Get (F : Nat → FuncId) : AFun := { nparams := 2, ntmps := 24, results := [.tmp 4], body :=
 (.seq
 (.reg [⟨(some 3), [], [.t 1], [], [3], .box, none⟩,
 ⟨(some 4), [], [.c (.int .i64 0)], [], [], .cp, none⟩] [] [])
 (.seq
 (.seq
 (.reg [⟨(some 5), [], [.c (.int .i64 0)], [], [], .cp, none⟩] [] [])
 (.block 0
 (.loop
 (.seq
 (.seq
 (.reg [⟨(some 6), [], [.t 5], [], [], .cp, none⟩,
 ⟨(some 7), [], [.t 0], [], [], .cp, none⟩,
 ⟨(some 8), [], [.t 7], [], [], .len false, none⟩,
 ⟨(some 9), [], [.t 6, .t 8], [], [], .bini .lss, none⟩] [6, 7, 8] [])
 (.cond (.t 9)
 .skip
 (.exit 0)))
 (.seq
 (.block 1
 (.seq
 (.reg [⟨(some 12), [], [.t 0], [], [], .cp, none⟩,
 ⟨(some 13), [], [.t 5], [], [], .cp, none⟩,
 ⟨(some 14), [], [.t 12, .t 13], [], [], .iaddr none 3, none⟩,
 ⟨(some 15), [], [.t 14], [], [], .faddr 0, none⟩,
 ⟨(some 16), [], [.t 15], [], [], .load true 2, none⟩,
 ⟨(some 17), [], [.t 3], [3], [], .load true 2, none⟩,
 ⟨(some 18), [], [.t 16, .t 17], [], [], .eqa [.i, .i] false, none⟩] [12, 13, 14, 15, 16, 17] [])
 (.cond (.t 18)
 (.seq
 (.reg [⟨(some 19), [], [.t 0], [], [], .cp, none⟩,
 ⟨(some 20), [], [.t 5], [], [], .cp, none⟩,
 ⟨(some 21), [], [.t 19, .t 20], [], [], .iaddr none 3, none⟩,
 ⟨(some 22), [], [.t 21], [], [], .faddr 2, none⟩,
 ⟨(some 23), [], [.t 22], [], [], .load false 1, none⟩,
 ⟨(some 4), [23], [.t 23], [], [], .mv, none⟩] [19, 20, 21, 22, 23] [])
 .ret)
 .skip)))
 (.reg [⟨(some 10), [], [.t 5], [], [], .cp, none⟩,
 ⟨(some 11), [], [.t 10, .c (.int .i64 1)], [], [], .bini .add, none⟩,
 ⟨(some 5), [11], [.t 11], [], [], .mv, none⟩] [6, 7, 8, 9, 10, 11, 12, 13, 14, 15, 16, 17, 18, 19, 20, 21, 22, 23] []))))))
 (.seq
 (.reg [⟨(some 4), [], [.c (.int .i64 0)], [], [], .cp, none⟩] [] [])
 .ret))) }

def H_pref08_Seen : Hints := [(1, { ops := [(1, { mr := [3] })], kt := [5, 6, 7, 8, 9], kb := [] })]
def c_pref08_Seen (F : Nat → FuncId) : AFun := { nparams := 2, ntmps := 10, results := [.tmp 4], body :=
 (.seq
 (.reg [⟨(some 3), [], [.t 1], [], [3], .box, none⟩,
 ⟨(some 4), [], [.c (.bool false)], [], [], .cp, none⟩] [] [])
 (.seq
 (.reg [⟨(some 5), [], [.t 0], [], [], .cp, none⟩,
 ⟨(some 6), [], [.t 3], [3], [], .load true 2, none⟩,
 ⟨(some 7), [], [.c (.fn (F n_pref08_Get)), .t 5, .t 6], [], [], .call 0 false, none⟩,
 ⟨(some 8), [], [.t 7, .c (.int .i64 2)], [], [], .bini .rem, none⟩,
 ⟨(some 9), [], [.t 8, .c (.int .i64 0)], [], [], .bini .eql, none⟩,
 ⟨(some 4), [9], [.t 9], [], [], .mv, none⟩] [5, 6, 7, 8, 9] [])
 .ret)) }

def H_dot_Right : Hints := [(1, { ops := [(1, { mr := [1] }), (5, { mr := [1] }), (10, { mr := [1] }), (15, { mr := [1] })], kt := [3, 4, 5, 6, 7, 8, 9, 10, 11, 12, 13, 14, 15, 16, 17, 18, 19, 20], kb := [] })]
def c_dot_Right (F : Nat → FuncId) : AFun := { nparams := 1, ntmps := 21, results := [.tmp 2], body :=
 (.seq
 (.reg [⟨(some 1), [], [.t 0], [], [1], .box, none⟩,
 ⟨(some 2), [], [.c (.bool false)], [], [], .cp, none⟩] [] [])
 (.seq
 (.reg [⟨(some 3), [], [.t 1], [], [], .faddr 0, none⟩,
 ⟨(some 4), [], [.t 3], [1], [], .load false 1, none⟩,
 ⟨(some 5), [], [.t 4, .c (.int .i64 0)], [], [], .bini .geq, none⟩,
 ⟨(some 6), [], [.t 5], [], [], .cp, none⟩,
 ⟨(some 7), [], [.t 1], [], [], .faddr 0, some (6, true)⟩,
 ⟨(some 8), [], [.t 7], [1], [], .load false 1, some (6, true)⟩,
 ⟨(some 9), [], [.t 8, .c (.int .i64 16)], [], [], .bini .lss, some (6, true)⟩,
 ⟨(some 10), [], [.t 6, .t 9, .c (.bool false)], [], [], .pick, none⟩,
 ⟨(some 11), [], [.t 10], [], [], .cp, none⟩,
 ⟨(some 12), [], [.t 1], [], [], .faddr 1, some (11, true)⟩,
 ⟨(some 13), [], [.t 12], [1], [], .load false 1, some (11, true)⟩,
 ⟨(some 14), [], [.t 13, .c (.int .i64 1)], [], [], .bini .geq, some (11, true)⟩,
 ⟨(some 15), [], [.t 11, .t 14, .c (.bool false)], [], [], .pick, none⟩,
 ⟨(some 16), [], [.t 15], [], [], .cp, none⟩,
 ⟨(some 17), [], [.t 1], [], [], .faddr 1, some (16, true)⟩,
 ⟨(some 18), [], [.t 17], [1], [], .load false 1, some (16, true)⟩,
 ⟨(some 19), [], [.t 18, .c (.int .i64 1048576)], [], [], .bini .leq, some (16, true)⟩,
 ⟨(some 20), [], [.t 16, .t 19, .c (.bool false)], [], [], .pick, none⟩,
 ⟨(some 2), [20], [.t 20], [], [], .mv, none⟩] [3, 4, 5, 6, 7, 8, 9, 10, 11, 12, 13, 14, 15, 16, 17, 18, 19, 20] [])
 .ret)) }

def H_tally_at : Hints := [(1, { ops := [(1, { mr := [3] })], kt := [6, 7, 8, 9, 10, 11], kb := [] })]
def c_tally_at (F : Nat → FuncId) : AFun := { nparams := 2, ntmps := 12, results := [.tmp 4, .tmp 5], body :=
 (.seq
 (.reg [⟨(some 3), [], [.t 1], [], [3], .box, none⟩,
 ⟨(some 4), [], [.c (.int .i64 0)], [], [], .cp, none⟩,
 ⟨(some 5), [], [.c (.bool false)], [], [], .cp, none⟩] [] [])
 (.seq
 (.reg [⟨(some 6), [], [.t 0], [], [], .cp, none⟩,
 ⟨(some 7), [], [.t 3], [3], [], .load true 2, none⟩,
 ⟨(some 8), [], [.t 7], [], [], .build [.int .i64 0, .int .i64 0, .int .i64 0] [(0, 2)], none⟩,
 ⟨(some 9), [], [.c (.fn (F n_slices_BinarySearchFunc_api_Undo_api_Undo_api_Undo)), .t 6, .t 8, .c (.fn (F n_tally_compare))], [], [], .call 0 false, none⟩,
 ⟨(some 10), [], [.t 9], [], [], .extract 0, none⟩,
 ⟨(some 11), [], [.t 9], [], [], .extract 1, none⟩,
 ⟨(some 4), [10], [.t 10], [], [], .mv, none⟩,
 ⟨(some 5), [11], [.t 11], [], [], .mv, none⟩] [6, 7, 8, 9, 10, 11] [])
 .ret)) }

def H_slices_Clone_api_Undo_api_Undo : Hints := [(1, { ops := [], kt := [3], kb := [] }),
 (2, { ops := [(0, { x := 1 })], kt := [], kb := [] }),
 (3, { ops := [(0, { x := 2 }), (2, { x := 1 })], kt := [5, 6, 7], kb := [] })]
def c_slices_Clone_api_Undo_api_Undo (F : Nat → FuncId) : AFun := { nparams := 1, ntmps := 8, results := [.tmp 2], body :=
 (.seq
 (.reg [⟨(some 2), [], [], [], [], .nils 3, none⟩] [] [])
 (.seq
 (.seq
 (.reg [⟨(some 3), [], [.t 0], [], [], .cp, none⟩,
 ⟨(some 4), [], [.t 3], [], [], .eqsl false, none⟩] [3] [])
 (.cond (.t 4)
 (.seq
 (.reg [⟨(some 2), [], [], [], [], .nilsx 3, none⟩] [] [])
 .ret)
 .skip))
 (.seq
 (.reg [⟨(some 5), [], [], [], [], .nilsx 3, none⟩,
 ⟨(some 6), [], [.t 0], [], [], .cp, none⟩,
 ⟨(some 7), [5], [.t 5, .t 6], [], [], .appendx 3 24, none⟩,
 ⟨(some 2), [7], [.t 7], [], [], .mv, none⟩] [5, 6, 7] [])
 .ret))) }

def H_tally_compare : Hints := [(1, { ops := [(1, { mr := [2] }), (3, { mr := [3] })], kt := [5, 6, 7, 8, 9], kb := [] })]
def c_tally_compare (F : Nat → FuncId) : AFun := { nparams := 2, ntmps := 10, results := [.tmp 4], body :=
 (.seq
 (.reg [⟨(some 2), [], [.t 0], [], [2], .box, none⟩,
 ⟨(some 3), [], [.t 1], [], [3], .box, none⟩,
 ⟨(some 4), [], [.c (.int .i64 0)], [], [], .cp, none⟩] [] [])
 (.seq
 (.reg [⟨(some 5), [], [.t 2], [], [], .faddr 0, none⟩,
 ⟨(some 6), [], [.t 5], [2], [], .load true 2, none⟩,
 ⟨(some 7), [], [.t 3], [], [], .faddr 0, none⟩,
 ⟨(some 8), [], [.t 7], [3], [], .load true 2, none⟩,
 ⟨(some 9), [], [.c (.fn (F n_dot_Compare)), .t 6, .t 8], [], [], .call 0 false, none⟩,
 ⟨(some 4), [9], [.t 9], [], [], .mv, none⟩] [5, 6, 7, 8, 9] [])
 .ret)) }

def H_pref08_one : Hints := [(1, { ops := [(1, { mr := [1] }), (5, { mr := [1] }), (10, { mr := [1] })], kt := [3, 4, 5, 6, 7, 8, 9, 10, 11, 12, 13, 14, 15], kb := [] })]
def c_pref08_one (F : Nat → FuncId) : AFun := { nparams := 1, ntmps := 16, results := [.tmp 2], body :=
 (.seq
 (.reg [⟨(some 1), [], [.t 0], [], [1], .box, none⟩,
 ⟨(some 2), [], [.c (.bool false)], [], [], .cp, none⟩] [] [])
 (.seq
 (.reg [⟨(some 3), [], [.t 1], [], [], .faddr 0, none⟩,
 ⟨(some 4), [], [.t 3], [1], [], .load true 2, none⟩,
 ⟨(some 5), [], [.c (.fn (F n_pref04_Right)), .t 4], [], [], .call 0 false, none⟩,
 ⟨(some 6), [], [.t 5], [], [], .cp, none⟩,
 ⟨(some 7), [], [.t 1], [], [], .faddr 2, some (6, true)⟩,
 ⟨(some 8), [], [.t 7], [1], [], .load false 1, some (6, true)⟩,
 ⟨(some 9), [], [.t 8, .c (.int .i64 1)], [], [], .bini .geq, some (6, true)⟩,
 ⟨(some 10), [], [.t 6, .t 9, .c (.bool false)], [], [], .pick, none⟩,
 ⟨(some 11), [], [.t 10], [], [], .cp, none⟩,
 ⟨(some 12), [], [.t 1], [], [], .faddr 2, some (11, true)⟩,
 ⟨(some 13), [], [.t 12], [1], [], .load false 1, some (11, true)⟩,
 ⟨(some 14), [], [.t 13, .c (.int .i64 64)], [], [], .bini .leq, some (11, true)⟩,
 ⟨(some 15), [], [.t 11, .t 14, .c (.bool false)], [], [], .pick, none⟩,
 ⟨(some 2), [15], [.t 15], [], [], .mv, none⟩] [3, 4, 5, 6, 7, 8, 9, 10, 11, 12, 13, 14, 15] [])
 .ret)) }

def H_pref04_Compare : Hints := [(1, { ops := [(1, { mr := [2] }), (3, { mr := [3] })], kt := [5, 6, 7, 8], kb := [] }),
 (2, { ops := [(1, { mr := [2] }), (3, { mr := [3] })], kt := [10, 11, 12, 13, 14], kb := [] }),
 (3, { ops := [(1, { mr := [2] }), (3, { mr := [3] })], kt := [15, 16, 17, 18, 19], kb := [] })]
def c_pref04_Compare (F : Nat → FuncId) : AFun := { nparams := 2, ntmps := 20, results := [.tmp 4], body :=
 (.seq
 (.reg [⟨(some 2), [], [.t 0], [], [2], .box, none⟩,
 ⟨(some 3), [], [.t 1], [], [3], .box, none⟩,
 ⟨(some 4), [], [.c (.int .i64 0)], [], [], .cp, none⟩] [] [])
 (.seq
 (.seq
 (.reg [⟨(some 5), [], [.t 2], [], [], .faddr 0, none⟩,
 ⟨(some 6), [], [.t 5], [2], [], .load false 1, none⟩,
 ⟨(some 7), [], [.t 3], [], [], .faddr 0, none⟩,
 ⟨(some 8), [], [.t 7], [3], [], .load false 1, none⟩,
 ⟨(some 9), [], [.t 6, .t 8], [], [], .bini .neq, none⟩] [5, 6, 7, 8] [])
 (.cond (.t 9)
 (.seq
 (.reg [⟨(some 10), [], [.t 2], [], [], .faddr 0, none⟩,
 ⟨(some 11), [], [.t 10], [2], [], .load false 1, none⟩,
 ⟨(some 12), [], [.t 3], [], [], .faddr 0, none⟩,
 ⟨(some 13), [], [.t 12], [3], [], .load false 1, none⟩,
 ⟨(some 14), [], [.c (.fn (F n_pref04_ints)), .t 11, .t 13], [], [], .call 0 false, none⟩,
 ⟨(some 4), [14], [.t 14], [], [], .mv, none⟩] [10, 11, 12, 13, 14] [])
 .ret)
 .skip))
 (.seq
 (.reg [⟨(some 15), [], [.t 2], [], [], .faddr 1, none⟩,
 ⟨(some 16), [], [.t 15], [2], [], .load false 1, none⟩,
 ⟨(some 17), [], [.t 3], [], [], .faddr 1, none⟩,
 ⟨(some 18), [], [.t 17], [3], [], .load false 1, none⟩,
 ⟨(some 19), [], [.c (.fn (F n_pref04_ints)), .t 16, .t 18], [], [], .call 0 false, none⟩,
 ⟨(some 4), [19], [.t 19], [], [], .mv, none⟩] [15, 16, 17, 18, 19] [])
 .ret))) }

def H_slices_BinarySearchFunc_api_Undo_api_Undo_api_Undo : Hints := [(1, { ops := [], kt := [12, 13], kb := [] }),
 (2, { ops := [], kt := [14], kb := [] }),
 (3, { ops := [], kt := [15, 16], kb := [] }),
 (4, { ops := [], kt := [18, 19, 20, 21, 22, 23], kb := [] }),
 (5, { ops := [(5, { mr := [4] })], kt := [24, 25, 26, 27, 28, 29, 30], kb := [] }),
 (6, { ops := [], kt := [32, 33], kb := [] }),
 (7, { ops := [], kt := [34], kb := [] }),
 (8, { ops := [(10, { mr := [4] })], kt := [35, 36, 37, 38, 39, 40, 41, 42, 43, 44, 45, 46, 47, 48], kb := [] }),
 (1000001, { ops := [], kt := [11, 15, 16, 17, 18, 19, 20, 21, 22, 23, 24, 25, 26, 27, 28, 29, 30, 31, 32, 33, 34], kb := [] })]
def c_slices_BinarySearchFunc_api_Undo_api_Undo_api_Undo (F : Nat → FuncId) : AFun := { nparams := 3, ntmps := 49, results := [.tmp 6, .tmp 7], body :=
 (.seq
 (.reg [⟨(some 4), [], [.t 1], [], [4], .box, none⟩,
 ⟨(some 6), [], [.c (.int .i64 0)], [], [], .cp, none⟩,
 ⟨(some 7), [], [.c (.bool false)], [], [], .cp, none⟩] [] [])
 (.seq
 (.reg [⟨(some 12), [], [.t 0], [], [], .cp, none⟩,
 ⟨(some 13), [], [.t 12], [], [], .len false, none⟩,
 ⟨(some 8), [13], [.t 13], [], [], .mv, none⟩] [12, 13] [])
 (.seq
 (.reg [⟨(some 14), [], [.t 8], [], [], .cp, none⟩,
 ⟨(some 9), [], [.c (.int .i64 0)], [], [], .cp, none⟩,
 ⟨(some 10), [14], [.t 14], [], [], .mv, none⟩] [14] [])
 (.seq
 (.block 0
 (.loop
 (.seq
 (.seq
 (.reg [⟨(some 15), [], [.t 9], [], [], .cp, none⟩,
 ⟨(some 16), [], [.t 10], [], [], .cp, none⟩,
 ⟨(some 17), [], [.t 15, .t 16], [], [], .bini .lss, none⟩] [15, 16] [])
 (.cond (.t 17)
 .skip
 (.exit 0)))
 (.seq
 (.block 1
 (.seq
 (.reg [⟨(some 18), [], [.t 9], [], [], .cp, none⟩,
 ⟨(some 19), [], [.t 10], [], [], .cp, none⟩,
 ⟨(some 20), [], [.t 18, .t 19], [], [], .bini .add, none⟩,
 ⟨(some 21), [], [.t 20], [], [], .conv .u64, none⟩,
 ⟨(some 22), [], [.t 21, .c (.int .u64 1)], [], [], .bini .shr, none⟩,
 ⟨(some 23), [], [.t 22], [], [], .conv .i64, none⟩,
 ⟨(some 11), [23], [.t 23], [], [], .mv, none⟩] [18, 19, 20, 21, 22, 23] [])
 (.seq
 (.reg [⟨(some 24), [], [.t 2], [], [], .cp, none⟩,
 ⟨(some 25), [], [.t 0], [], [], .cp, none⟩,
 ⟨(some 26), [], [.t 11], [], [], .cp, none⟩,
 ⟨(some 27), [], [.t 25, .t 26], [], [], .iaddr none 3, none⟩,
 ⟨(some 28), [], [.t 27], [], [], .load true 3, none⟩,
 ⟨(some 29), [], [.t 4], [4], [], .load true 3, none⟩,
 ⟨(some 30), [], [.t 24, .t 28, .t 29], [], [], .call 0 false, none⟩,
 ⟨(some 31), [], [.t 30, .c (.int .i64 0)], [], [], .bini .lss, none⟩] [24, 25, 26, 27, 28, 29, 30] [])
 (.cond (.t 31)
 (.reg [⟨(some 32), [], [.t 11], [], [], .cp, none⟩,
 ⟨(some 33), [], [.t 32, .c (.int .i64 1)], [], [], .bini .add, none⟩,
 ⟨(some 9), [33], [.t 33], [], [], .mv, none⟩] [32, 33] [])
 (.reg [⟨(some 34), [], [.t 11], [], [], .cp, none⟩,
 ⟨(some 10), [34], [.t 34], [], [], .mv, none⟩] [34] [])))))
 (.reg [] [11, 15, 16, 17, 18, 19, 20, 21, 22, 23, 24, 25, 26, 27, 28, 29, 30, 31, 32, 33, 34] [])))))
 (.seq
 (.reg [⟨(some 35), [], [.t 9], [], [], .cp, none⟩,
 ⟨(some 36), [], [.t 9], [], [], .cp, none⟩,
 ⟨(some 37), [], [.t 8], [], [], .cp, none⟩,
 ⟨(some 38), [], [.t 36, .t 37], [], [], .bini .lss, none⟩,
 ⟨(some 39), [], [.t 38], [], [], .cp, none⟩,
 ⟨(some 40), [], [.t 2], [], [], .cp, some (39, true)⟩,
 ⟨(some 41), [], [.t 0], [], [], .cp, some (39, true)⟩,
 ⟨(some 42), [], [.t 9], [], [], .cp, some (39, true)⟩,
 ⟨(some 43), [], [.t 41, .t 42], [], [], .iaddr none 3, some (39, true)⟩,
 ⟨(some 44), [], [.t 43], [], [], .load true 3, some (39, true)⟩,
 ⟨(some 45), [], [.t 4], [4], [], .load true 3, some (39, true)⟩,
 ⟨(some 46), [], [.t 40, .t 44, .t 45], [], [], .call 0 false, some (39, true)⟩,
 ⟨(some 47), [], [.t 46, .c (.int .i64 0)], [], [], .bini .eql, some (39, true)⟩,
 ⟨(some 48), [], [.t 39, .t 47, .c (.bool false)], [], [], .pick, none⟩,
 ⟨(some 6), [35], [.t 35], [], [], .mv, none⟩,
 ⟨(some 7), [48], [.t 48], [], [], .mv, none⟩] [35, 36, 37, 38, 39, 40, 41, 42, 43, 44, 45, 46, 47, 48] [])
 .ret))))) }

def H_dot_Compare : Hints := [(1, { ops := [(1, { mr := [2] }), (3, { mr := [3] }), (6, { mr := [2] }), (8, { mr := [3] })], kt := [5, 6, 7, 8, 9, 10, 11, 12, 13, 14, 15, 16], kb := [] })]
def c_dot_Compare (F : Nat → FuncId) : AFun := { nparams := 2, ntmps := 17, results := [.tmp 4], body :=
 (.seq
 (.reg [⟨(some 2), [], [.t 0], [], [2], .box, none⟩,
 ⟨(some 3), [], [.t 1], [], [3], .box, none⟩,
 ⟨(some 4), [], [.c (.int .i64 0)], [], [], .cp, none⟩] [] [])
 (.seq
 (.reg [⟨(some 5), [], [.t 2], [], [], .faddr 0, none⟩,
 ⟨(some 6), [], [.t 5], [2], [], .load false 1, none⟩,
 ⟨(some 7), [], [.t 3], [], [], .faddr 0, none⟩,
 ⟨(some 8), [], [.t 7], [3], [], .load false 1, none⟩,
 ⟨(some 9), [], [.c (.fn (F n_cmp_Compare_int)), .t 6, .t 8], [], [], .call 0 false, none⟩,
 ⟨(some 10), [], [.t 2], [], [], .faddr 1, none⟩,
 ⟨(some 11), [], [.t 10], [2], [], .load false 1, none⟩,
 ⟨(some 12), [], [.t 3], [], [], .faddr 1, none⟩,
 ⟨(some 13), [], [.t 12], [3], [], .load false 1, none⟩,
 ⟨(some 14), [], [.c (.fn (F n_cmp_Compare_int)), .t 11, .t 13], [], [], .call 0 false, none⟩,
 ⟨(some 15), [], [.t 9, .t 14], [], [], .bslice 1 [.int .i64 0, .int .i64 0] [(0, 1), (1, 1)], none⟩,
 ⟨(some 16), [], [.c (.fn (F n_cmp_Or_int)), .t 15], [], [], .call 0 false, none⟩,
 ⟨(some 4), [16], [.t 16], [], [], .mv, none⟩] [5, 6, 7, 8, 9, 10, 11, 12, 13, 14, 15, 16] [])
 .ret)) }

def H_pref04_ints : Hints := [(1, { ops := [], kt := [5, 6], kb := [] }),
 (3, { ops := [], kt := [8, 9], kb := [] })]
def c_pref04_ints (F : Nat → FuncId) : AFun := { nparams := 2, ntmps := 11, results := [.tmp 4], body :=
 (.seq
 (.reg [⟨(some 4), [], [.c (.int .i64 0)], [], [], .cp, none⟩] [] [])
 (.seq
 (.seq
 (.reg [⟨(some 5), [], [.t 0], [], [], .cp, none⟩,
 ⟨(some 6), [], [.t 1], [], [], .cp, none⟩,
 ⟨(some 7), [], [.t 5, .t 6], [], [], .bini .lss, none⟩] [5, 6] [])
 (.cond (.t 7)
 (.seq
 (.reg [⟨(some 4), [], [.c (.int .i64 (-1))], [], [], .cp, none⟩] [] [])
 .ret)
 .skip))
 (.seq
 (.seq
 (.reg [⟨(some 8), [], [.t 0], [], [], .cp, none⟩,
 ⟨(some 9), [], [.t 1], [], [], .cp, none⟩,
 ⟨(some 10), [], [.t 8, .t 9], [], [], .bini .gtr, none⟩] [8, 9] [])
 (.cond (.t 10)
 (.seq
 (.reg [⟨(some 4), [], [.c (.int .i64 1)], [], [], .cp, none⟩] [] [])
 .ret)
 .skip))
 (.seq
 (.reg [⟨(some 4), [], [.c (.int .i64 0)], [], [], .cp, none⟩] [] [])
 .ret)))) }

def H_cmp_Or_int : Hints := [(4, { ops := [], kt := [10, 11], kb := [] }),
 (5, { ops := [], kt := [12, 13], kb := [] }),
 (6, { ops := [], kt := [15], kb := [] }),
 (7, { ops := [], kt := [5, 9, 10, 11, 12, 13, 14, 15, 16], kb := [] }),
 (8, { ops := [], kt := [17], kb := [] })]
def c_cmp_Or_int (F : Nat → FuncId) : AFun := { nparams := 1, ntmps := 18, results := [.tmp 2], body :=
 (.seq
 (.reg [⟨(some 2), [], [.c (.int .i64 0)], [], [], .cp, none⟩] [] [])
 (.seq
 (.reg [⟨(some 3), [], [.c (.int .i64 0)], [], [], .cp, none⟩] [] [])
 (.seq
 (.seq
 (.reg [⟨(some 6), [], [.t 0], [], [], .cp, none⟩,
 ⟨(some 7), [], [.t 6], [], [], .len false, none⟩,
 ⟨(some 8), [], [.c (.int .i64 0)], [], [], .cp, none⟩] [] [])
 (.block 0
 (.loop
 (.seq
 (.reg [⟨(some 9), [], [.t 8, .t 7], [], [], .bini .lss, none⟩] [] [])
 (.seq
 (.cond (.t 9)
 .skip
 (.exit 0))
 (.seq
 (.block 1
 (.seq
 (.reg [⟨(some 10), [], [.t 6, .t 8], [], [], .iaddr none 1, none⟩,
 ⟨(some 11), [], [.t 10], [], [], .load false 1, none⟩,
 ⟨(some 5), [11], [.t 11], [], [], .mv, none⟩] [10, 11] [])
 (.seq
 (.reg [⟨(some 12), [], [.t 5], [], [], .cp, none⟩,
 ⟨(some 13), [], [.t 3], [], [], .cp, none⟩,
 ⟨(some 14), [], [.t 12, .t 13], [], [], .bini .neq, none⟩] [12, 13] [])
 (.cond (.t 14)
 (.seq
 (.reg [⟨(some 15), [], [.t 5], [], [], .cp, none⟩,
 ⟨(some 2), [15], [.t 15], [], [], .mv, none⟩] [15] [])
 .ret)
 .skip))))
 (.reg [⟨(some 16), [], [.t 8, .c (.int .i64 1)], [], [], .bini .add, none⟩,
 ⟨(some 8), [], [.t 16], [], [], .cp, none⟩] [5, 9, 10, 11, 12, 13, 14, 15, 16] [])))))))
 (.seq
 (.reg [⟨(some 17), [], [.t 3], [], [], .cp, none⟩,
 ⟨(some 2), [17], [.t 17], [], [], .mv, none⟩] [17] [])
 .ret)))) }

def H_cmp_Compare_int : Hints := [(1, { ops := [], kt := [7, 8], kb := [] }),
 (2, { ops := [], kt := [9, 10], kb := [] }),
 (9, { ops := [], kt := [14, 15], kb := [] }),
 (11, { ops := [], kt := [17, 18], kb := [] })]
def c_cmp_Compare_int (F : Nat → FuncId) : AFun := { nparams := 2, ntmps := 20, results := [.tmp 4], body :=
 (.seq
 (.reg [⟨(some 4), [], [.c (.int .i64 0)], [], [], .cp, none⟩] [] [])
 (.seq
 (.reg [⟨(some 7), [], [.t 0], [], [], .cp, none⟩,
 ⟨(some 8), [], [.c (.fn (F n_cmp_isNaN_int)), .t 7], [], [], .call 0 false, none⟩,
 ⟨(some 5), [8], [.t 8], [], [], .mv, none⟩] [7, 8] [])
 (.seq
 (.reg [⟨(some 9), [], [.t 1], [], [], .cp, none⟩,
 ⟨(some 10), [], [.c (.fn (F n_cmp_isNaN_int)), .t 9], [], [], .call 0 false, none⟩,
 ⟨(some 6), [10], [.t 10], [], [], .mv, none⟩] [9, 10] [])
 (.seq
 (.seq
 (.reg [⟨(some 11), [], [.t 5], [], [], .cp, none⟩] [] [])
 (.cond (.t 11)
 (.seq
 (.seq
 (.reg [⟨(some 12), [], [.t 6], [], [], .cp, none⟩] [] [])
 (.cond (.t 12)
 (.seq
 (.reg [⟨(some 4), [], [.c (.int .i64 0)], [], [], .cp, none⟩] [] [])
 .ret)
 .skip))
 (.seq
 (.reg [⟨(some 4), [], [.c (.int .i64 (-1))], [], [], .cp, none⟩] [] [])
 .ret))
 .skip))
 (.seq
 (.seq
 (.reg [⟨(some 13), [], [.t 6], [], [], .cp, none⟩] [] [])
 (.cond (.t 13)
 (.seq
 (.reg [⟨(some 4), [], [.c (.int .i64 1)], [], [], .cp, none⟩] [] [])
 .ret)
 .skip))
 (.seq
 (.seq
 (.reg [⟨(some 14), [], [.t 0], [], [], .cp, none⟩,
 ⟨(some 15), [], [.t 1], [], [], .cp, none⟩,
 ⟨(some 16), [], [.t 14, .t 15], [], [], .bini .lss, none⟩] [14, 15] [])
 (.cond (.t 16)
 (.seq
 (.reg [⟨(some 4), [], [.c (.int .i64 (-1))], [], [], .cp, none⟩] [] [])
 .ret)
 .skip))
 (.seq
 (.seq
 (.reg [⟨(some 17), [], [.t 0], [], [], .cp, none⟩,
 ⟨(some 18), [], [.t 1], [], [], .cp, none⟩,
 ⟨(some 19), [], [.t 17, .t 18], [], [], .bini .gtr, none⟩] [17, 18] [])
 (.cond (.t 19)
 (.seq
 (.reg [⟨(some 4), [], [.c (.int .i64 1)], [], [], .cp, none⟩] [] [])
 .ret)
 .skip))
 (.seq
 (.reg [⟨(some 4), [], [.c (.int .i64 0)], [], [], .cp, none⟩] [] [])
 .ret)))))))) }

def H_cmp_isNaN_int : Hints := [(1, { ops := [], kt := [3, 4, 5], kb := [] })]
def c_cmp_isNaN_int (F : Nat → FuncId) : AFun := { nparams := 1, ntmps := 6, results := [.tmp 2], body :=
 (.seq
 (.reg [⟨(some 2), [], [.c (.bool false)], [], [], .cp, none⟩] [] [])
 (.seq
 (.reg [⟨(some 3), [], [.t 0], [], [], .cp, none⟩,
 ⟨(some 4), [], [.t 0], [], [], .cp, none⟩,
 ⟨(some 5), [], [.t 3, .t 4], [], [], .bini .neq, none⟩,
 ⟨(some 2), [5], [.t 5], [], [], .mv, none⟩] [3, 4, 5] [])
 .ret)) }

end Go.AR

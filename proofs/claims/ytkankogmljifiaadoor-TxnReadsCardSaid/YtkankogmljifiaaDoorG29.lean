import Derived.Test.YtkankogmljifiaaDoorG02
import Derived.Test.YtkankogmljifiaaDoorG03
set_option linter.all false
/-! Codes, printed by program. -/
namespace Go.AR
def H_pref02_Reader_Left : Hints := [(1, { ops := [(3, { mr := [0] })], kt := [3, 4, 5, 6], kb := [] }),
 (3, { ops := [(3, { mr := [0] }), (8, { mr := [0] })], kt := [8, 9, 10, 11, 12, 13, 14, 15, 16, 17], kb := [] })]
def c_pref02_Reader_Left (F : Nat → FuncId) : AFun := { nparams := 1, ntmps := 18, results := [.tmp 2], body :=
 (.seq
 (.reg [⟨(some 2), [], [.c (.int .i64 0)], [], [], .cp, none⟩] [] [])
 (.seq
 (.seq
 (.reg [⟨(some 3), [], [.t 0], [], [], .cp, none⟩,
 ⟨(some 4), [], [.t 3], [], [], .nilck, none⟩,
 ⟨(some 5), [], [.t 4], [], [], .faddr 2, none⟩,
 ⟨(some 6), [], [.t 5], [0], [], .load false 1, none⟩,
 ⟨(some 7), [], [.t 6, .c (.int .i64 0)], [], [], .bini .neq, none⟩] [3, 4, 5, 6] [])
 (.cond (.t 7)
 (.seq
 (.reg [⟨(some 2), [], [.c (.int .i64 0)], [], [], .cp, none⟩] [] [])
 .ret)
 .skip))
 (.seq
 (.reg [⟨(some 8), [], [.t 0], [], [], .cp, none⟩,
 ⟨(some 9), [], [.t 8], [], [], .nilck, none⟩,
 ⟨(some 10), [], [.t 9], [], [], .faddr 0, none⟩,
 ⟨(some 11), [], [.t 10], [0], [], .load false 1, none⟩,
 ⟨(some 12), [], [.t 11], [], [], .len true, none⟩,
 ⟨(some 13), [], [.t 0], [], [], .cp, none⟩,
 ⟨(some 14), [], [.t 13], [], [], .nilck, none⟩,
 ⟨(some 15), [], [.t 14], [], [], .faddr 1, none⟩,
 ⟨(some 16), [], [.t 15], [0], [], .load false 1, none⟩,
 ⟨(some 17), [], [.t 12, .t 16], [], [], .bini .sub, none⟩,
 ⟨(some 2), [17], [.t 17], [], [], .mv, none⟩] [8, 9, 10, 11, 12, 13, 14, 15, 16, 17] [])
 .ret))) }

def H_pref02_Reader_Many : Hints := [(1, { ops := [(1, { mw := [0], nref := 1 })], kt := [6, 7], kb := [] }),
 (2, { ops := [(3, { mr := [0] })], kt := [8, 9, 10, 11, 12, 13, 14, 15, 16], kb := [] }),
 (3, { ops := [(3, { mw := [0] })], kt := [18, 19, 20], kb := [] }),
 (4, { ops := [(3, { mr := [0] }), (10, { mr := [0] }), (15, { mr := [0] })], kt := [21, 22, 23, 24, 25, 26, 27, 28, 29, 30, 31, 32, 33, 34, 35, 36, 37, 38], kb := [] }),
 (5, { ops := [(3, { mw := [0] })], kt := [40, 41, 42], kb := [] }),
 (6, { ops := [(3, { mr := [0] })], kt := [43, 44, 45, 46], kb := [] }),
 (8, { ops := [], kt := [48], kb := [] })]
def c_pref02_Reader_Many (F : Nat → FuncId) : AFun := { nparams := 2, ntmps := 49, results := [.tmp 4], body :=
 (.seq
 (.reg [⟨(some 4), [], [.c (.int .i64 0)], [], [], .cp, none⟩] [] [])
 (.seq
 (.reg [⟨(some 6), [], [.t 0], [], [], .cp, none⟩,
 ⟨(some 7), [], [.c (.fn (F n_pref02_Reader_Int)), .t 6], [], [0], .call 1 false, none⟩,
 ⟨(some 5), [7], [.t 7], [], [], .mv, none⟩] [6, 7] [])
 (.seq
 (.seq
 (.reg [⟨(some 8), [], [.t 0], [], [], .cp, none⟩,
 ⟨(some 9), [], [.t 8], [], [], .nilck, none⟩,
 ⟨(some 10), [], [.t 9], [], [], .faddr 2, none⟩,
 ⟨(some 11), [], [.t 10], [0], [], .load false 1, none⟩,
 ⟨(some 12), [], [.t 11, .c (.int .i64 0)], [], [], .bini .eql, none⟩,
 ⟨(some 13), [], [.t 12], [], [], .cp, none⟩,
 ⟨(some 14), [], [.t 5], [], [], .cp, some (13, true)⟩,
 ⟨(some 15), [], [.t 1], [], [], .cp, some (13, true)⟩,
 ⟨(some 16), [], [.t 14, .t 15], [], [], .bini .gtr, some (13, true)⟩,
 ⟨(some 17), [], [.t 13, .t 16, .c (.bool false)], [], [], .pick, none⟩] [8, 9, 10, 11, 12, 13, 14, 15, 16] [])
 (.cond (.t 17)
 (.reg [⟨(some 18), [], [.t 0], [], [], .cp, none⟩,
 ⟨(some 19), [], [.t 18], [], [], .nilck, none⟩,
 ⟨(some 20), [], [.t 19], [], [], .faddr 2, none⟩,
 ⟨none, [], [.t 20, .c (.int .i64 6)], [], [0], .store false 1, none⟩] [18, 19, 20] [])
 .skip))
 (.seq
 (.seq
 (.reg [⟨(some 21), [], [.t 0], [], [], .cp, none⟩,
 ⟨(some 22), [], [.t 21], [], [], .nilck, none⟩,
 ⟨(some 23), [], [.t 22], [], [], .faddr 2, none⟩,
 ⟨(some 24), [], [.t 23], [0], [], .load false 1, none⟩,
 ⟨(some 25), [], [.t 24, .c (.int .i64 0)], [], [], .bini .eql, none⟩,
 ⟨(some 26), [], [.t 25], [], [], .cp, none⟩,
 ⟨(some 27), [], [.t 5], [], [], .cp, some (26, true)⟩,
 ⟨(some 28), [], [.t 0], [], [], .cp, some (26, true)⟩,
 ⟨(some 29), [], [.t 28], [], [], .nilck, some (26, true)⟩,
 ⟨(some 30), [], [.t 29], [], [], .faddr 0, some (26, true)⟩,
 ⟨(some 31), [], [.t 30], [0], [], .load false 1, some (26, true)⟩,
 ⟨(some 32), [], [.t 31], [], [], .len true, some (26, true)⟩,
 ⟨(some 33), [], [.t 0], [], [], .cp, some (26, true)⟩,
 ⟨(some 34), [], [.t 33], [], [], .nilck, some (26, true)⟩,
 ⟨(some 35), [], [.t 34], [], [], .faddr 1, some (26, true)⟩,
 ⟨(some 36), [], [.t 35], [0], [], .load false 1, some (26, true)⟩,
 ⟨(some 37), [], [.t 32, .t 36], [], [], .bini .sub, some (26, true)⟩,
 ⟨(some 38), [], [.t 27, .t 37], [], [], .bini .gtr, some (26, true)⟩,
 ⟨(some 39), [], [.t 26, .t 38, .c (.bool false)], [], [], .pick, none⟩] [21, 22, 23, 24, 25, 26, 27, 28, 29, 30, 31, 32, 33, 34, 35, 36, 37, 38] [])
 (.cond (.t 39)
 (.reg [⟨(some 40), [], [.t 0], [], [], .cp, none⟩,
 ⟨(some 41), [], [.t 40], [], [], .nilck, none⟩,
 ⟨(some 42), [], [.t 41], [], [], .faddr 2, none⟩,
 ⟨none, [], [.t 42, .c (.int .i64 4)], [], [0], .store false 1, none⟩] [40, 41, 42] [])
 .skip))
 (.seq
 (.seq
 (.reg [⟨(some 43), [], [.t 0], [], [], .cp, none⟩,
 ⟨(some 44), [], [.t 43], [], [], .nilck, none⟩,
 ⟨(some 45), [], [.t 44], [], [], .faddr 2, none⟩,
 ⟨(some 46), [], [.t 45], [0], [], .load false 1, none⟩,
 ⟨(some 47), [], [.t 46, .c (.int .i64 0)], [], [], .bini .neq, none⟩] [43, 44, 45, 46] [])
 (.cond (.t 47)
 (.seq
 (.reg [⟨(some 4), [], [.c (.int .i64 0)], [], [], .cp, none⟩] [] [])
 .ret)
 .skip))
 (.seq
 (.reg [⟨(some 48), [], [.t 5], [], [], .cp, none⟩,
 ⟨(some 4), [48], [.t 48], [], [], .mv, none⟩] [48] [])
 .ret)))))) }

def H_pref02_Reader_Text : Hints := [(1, { ops := [(1, { mw := [0], nref := 1 })], kt := [5, 6], kb := [] }),
 (2, { ops := [(3, { mr := [0] })], kt := [7, 8, 9, 10], kb := [] }),
 (4, { ops := [(4, { mr := [0] }), (9, { mr := [0] })], kt := [12, 13, 14, 15, 16, 17, 18, 19, 20, 21, 22], kb := [] }),
 (5, { ops := [(3, { mw := [0] })], kt := [24, 25, 26], kb := [] }),
 (7, { ops := [(3, { mr := [0] }), (7, { mr := [0] }), (11, { mr := [0] })], kt := [27, 28, 29, 30, 31, 32, 33, 34, 35, 36, 37, 38, 39, 40, 41], kb := [] }),
 (8, { ops := [(4, { mr := [0] }), (9, { mw := [0] })], kt := [42, 43, 44, 45, 46, 47, 48, 49, 50], kb := [] }),
 (9, { ops := [], kt := [51], kb := [] })]
def c_pref02_Reader_Text (F : Nat → FuncId) : AFun := { nparams := 1, ntmps := 52, results := [.tmp 2], body :=
 (.seq
 (.reg [⟨(some 2), [], [.c (.str [])], [], [], .cp, none⟩] [] [])
 (.seq
 (.reg [⟨(some 5), [], [.t 0], [], [], .cp, none⟩,
 ⟨(some 6), [], [.c (.fn (F n_pref02_Reader_Int)), .t 5], [], [0], .call 1 false, none⟩,
 ⟨(some 3), [6], [.t 6], [], [], .mv, none⟩] [5, 6] [])
 (.seq
 (.seq
 (.reg [⟨(some 7), [], [.t 0], [], [], .cp, none⟩,
 ⟨(some 8), [], [.t 7], [], [], .nilck, none⟩,
 ⟨(some 9), [], [.t 8], [], [], .faddr 2, none⟩,
 ⟨(some 10), [], [.t 9], [0], [], .load false 1, none⟩,
 ⟨(some 11), [], [.t 10, .c (.int .i64 0)], [], [], .bini .neq, none⟩] [7, 8, 9, 10] [])
 (.cond (.t 11)
 (.seq
 (.reg [⟨(some 2), [], [.c (.str [])], [], [], .cp, none⟩] [] [])
 .ret)
 .skip))
 (.seq
 (.seq
 (.reg [⟨(some 12), [], [.t 3], [], [], .cp, none⟩,
 ⟨(some 13), [], [.t 0], [], [], .cp, none⟩,
 ⟨(some 14), [], [.t 13], [], [], .nilck, none⟩,
 ⟨(some 15), [], [.t 14], [], [], .faddr 0, none⟩,
 ⟨(some 16), [], [.t 15], [0], [], .load false 1, none⟩,
 ⟨(some 17), [], [.t 16], [], [], .len true, none⟩,
 ⟨(some 18), [], [.t 0], [], [], .cp, none⟩,
 ⟨(some 19), [], [.t 18], [], [], .nilck, none⟩,
 ⟨(some 20), [], [.t 19], [], [], .faddr 1, none⟩,
 ⟨(some 21), [], [.t 20], [0], [], .load false 1, none⟩,
 ⟨(some 22), [], [.t 17, .t 21], [], [], .bini .sub, none⟩,
 ⟨(some 23), [], [.t 12, .t 22], [], [], .bini .gtr, none⟩] [12, 13, 14, 15, 16, 17, 18, 19, 20, 21, 22] [])
 (.cond (.t 23)
 (.seq
 (.reg [⟨(some 24), [], [.t 0], [], [], .cp, none⟩,
 ⟨(some 25), [], [.t 24], [], [], .nilck, none⟩,
 ⟨(some 26), [], [.t 25], [], [], .faddr 2, none⟩,
 ⟨none, [], [.t 26, .c (.int .i64 4)], [], [0], .store false 1, none⟩] [24, 25, 26] [])
 (.seq
 (.reg [⟨(some 2), [], [.c (.str [])], [], [], .cp, none⟩] [] [])
 .ret))
 .skip))
 (.seq
 (.reg [⟨(some 27), [], [.t 0], [], [], .cp, none⟩,
 ⟨(some 28), [], [.t 27], [], [], .nilck, none⟩,
 ⟨(some 29), [], [.t 28], [], [], .faddr 0, none⟩,
 ⟨(some 30), [], [.t 29], [0], [], .load false 1, none⟩,
 ⟨(some 31), [], [.t 0], [], [], .cp, none⟩,
 ⟨(some 32), [], [.t 31], [], [], .nilck, none⟩,
 ⟨(some 33), [], [.t 32], [], [], .faddr 1, none⟩,
 ⟨(some 34), [], [.t 33], [0], [], .load false 1, none⟩,
 ⟨(some 35), [], [.t 0], [], [], .cp, none⟩,
 ⟨(some 36), [], [.t 35], [], [], .nilck, none⟩,
 ⟨(some 37), [], [.t 36], [], [], .faddr 1, none⟩,
 ⟨(some 38), [], [.t 37], [0], [], .load false 1, none⟩,
 ⟨(some 39), [], [.t 3], [], [], .cp, none⟩,
 ⟨(some 40), [], [.t 38, .t 39], [], [], .bini .add, none⟩,
 ⟨(some 41), [], [.t 30, .t 34, .t 40], [], [], .slices true true, none⟩,
 ⟨(some 4), [41], [.t 41], [], [], .mv, none⟩] [27, 28, 29, 30, 31, 32, 33, 34, 35, 36, 37, 38, 39, 40, 41] [])
 (.seq
 (.reg [⟨(some 42), [], [.t 0], [], [], .cp, none⟩,
 ⟨(some 43), [], [.t 0], [], [], .cp, none⟩,
 ⟨(some 44), [], [.t 43], [], [], .nilck, none⟩,
 ⟨(some 45), [], [.t 44], [], [], .faddr 1, none⟩,
 ⟨(some 46), [], [.t 45], [0], [], .load false 1, none⟩,
 ⟨(some 47), [], [.t 3], [], [], .cp, none⟩,
 ⟨(some 48), [], [.t 46, .t 47], [], [], .bini .add, none⟩,
 ⟨(some 49), [], [.t 42], [], [], .nilck, none⟩,
 ⟨(some 50), [], [.t 49], [], [], .faddr 1, none⟩,
 ⟨none, [48], [.t 50, .t 48], [], [0], .store false 1, none⟩] [42, 43, 44, 45, 46, 47, 48, 49, 50] [])
 (.seq
 (.reg [⟨(some 51), [], [.t 4], [], [], .cp, none⟩,
 ⟨(some 2), [51], [.t 51], [], [], .mv, none⟩] [51] [])
 .ret))))))) }

def H_pref02_Reader_Fail : Hints := [(0, { ops := [(3, { mr := [0] })], kt := [4, 5, 6, 7], kb := [] }),
 (1, { ops := [(4, { mw := [0] })], kt := [9, 10, 11, 12], kb := [] })]
def c_pref02_Reader_Fail (F : Nat → FuncId) : AFun := { nparams := 2, ntmps := 13, results := [], body :=
 (.seq
 (.reg [⟨(some 4), [], [.t 0], [], [], .cp, none⟩,
 ⟨(some 5), [], [.t 4], [], [], .nilck, none⟩,
 ⟨(some 6), [], [.t 5], [], [], .faddr 2, none⟩,
 ⟨(some 7), [], [.t 6], [0], [], .load false 1, none⟩,
 ⟨(some 8), [], [.t 7, .c (.int .i64 0)], [], [], .bini .eql, none⟩] [4, 5, 6, 7] [])
 (.cond (.t 8)
 (.reg [⟨(some 9), [], [.t 0], [], [], .cp, none⟩,
 ⟨(some 10), [], [.t 1], [], [], .cp, none⟩,
 ⟨(some 11), [], [.t 9], [], [], .nilck, none⟩,
 ⟨(some 12), [], [.t 11], [], [], .faddr 2, none⟩,
 ⟨none, [10], [.t 12, .t 10], [], [0], .store false 1, none⟩] [9, 10, 11, 12] [])
 .skip)) }

def H_pref02_Reader_Int : Hints := [(1, { ops := [(3, { mr := [0] })], kt := [7, 8, 9, 10], kb := [] }),
 (5, { ops := [], kt := [12], kb := [] }),
 (6, { ops := [], kt := [6, 12, 13, 14, 15, 16, 17, 18, 19, 20, 21, 22, 23, 24, 25, 26, 27, 28, 29, 30, 31, 32, 33, 34, 35, 36, 37, 38, 39, 40, 41, 42, 43, 44, 45, 46, 47, 48, 49, 50, 51, 52, 53, 54, 55, 56, 57, 58, 59, 60, 61, 62, 63, 64, 65, 66, 67, 68, 69, 70, 71, 72, 73, 74, 75, 76], kb := [] }),
 (7, { ops := [(3, { mr := [0] }), (9, { mr := [0] })], kt := [16, 17, 18, 19, 20, 21, 22, 23, 24, 25, 26], kb := [] }),
 (8, { ops := [(3, { mw := [0] })], kt := [28, 29, 30], kb := [] }),
 (10, { ops := [(3, { mr := [0] }), (7, { mr := [0] })], kt := [31, 32, 33, 34, 35, 36, 37, 38, 39, 40, 41, 42], kb := [] }),
 (11, { ops := [], kt := [43], kb := [] }),
 (12, { ops := [], kt := [45, 46, 47, 48, 49], kb := [] }),
 (13, { ops := [(3, { mw := [0] })], kt := [51, 52, 53], kb := [] }),
 (15, { ops := [(4, { mr := [0] }), (10, { mw := [0] })], kt := [54, 55, 56, 57, 58, 59, 60, 61, 62, 63], kb := [] }),
 (16, { ops := [], kt := [64, 65, 66, 67, 68], kb := [] }),
 (17, { ops := [], kt := [69, 70, 71, 72, 73, 74], kb := [] }),
 (18, { ops := [], kt := [75, 76], kb := [] }),
 (19, { ops := [(3, { mw := [0] })], kt := [77, 78, 79], kb := [] })]
def c_pref02_Reader_Int (F : Nat → FuncId) : AFun := { nparams := 1, ntmps := 80, results := [.tmp 2], body :=
 (.seq
 (.reg [⟨(some 2), [], [.c (.int .i64 0)], [], [], .cp, none⟩] [] [])
 (.seq
 (.seq
 (.reg [⟨(some 7), [], [.t 0], [], [], .cp, none⟩,
 ⟨(some 8), [], [.t 7], [], [], .nilck, none⟩,
 ⟨(some 9), [], [.t 8], [], [], .faddr 2, none⟩,
 ⟨(some 10), [], [.t 9], [0], [], .load false 1, none⟩,
 ⟨(some 11), [], [.t 10, .c (.int .i64 0)], [], [], .bini .neq, none⟩] [7, 8, 9, 10] [])
 (.cond (.t 11)
 (.seq
 (.reg [⟨(some 2), [], [.c (.int .i64 0)], [], [], .cp, none⟩] [] [])
 .ret)
 .skip))
 (.seq
 (.reg [⟨(some 3), [], [.c (.int .i64 0)], [], [], .cp, none⟩,
 ⟨(some 4), [], [.c (.int .i64 1)], [], [], .cp, none⟩] [] [])
 (.seq
 (.seq
 (.reg [⟨(some 5), [], [.c (.int .i64 0)], [], [], .cp, none⟩] [] [])
 (.block 0
 (.loop
 (.seq
 (.seq
 (.reg [⟨(some 12), [], [.t 5], [], [], .cp, none⟩,
 ⟨(some 13), [], [.t 12, .c (.int .i64 8)], [], [], .bini .lss, none⟩] [12] [])
 (.cond (.t 13)
 .skip
 (.exit 0)))
 (.seq
 (.block 1
 (.seq
 (.seq
 (.reg [⟨(some 16), [], [.t 0], [], [], .cp, none⟩,
 ⟨(some 17), [], [.t 16], [], [], .nilck, none⟩,
 ⟨(some 18), [], [.t 17], [], [], .faddr 1, none⟩,
 ⟨(some 19), [], [.t 18], [0], [], .load false 1, none⟩,
 ⟨(some 20), [], [.t 5], [], [], .cp, none⟩,
 ⟨(some 21), [], [.t 19, .t 20], [], [], .bini .add, none⟩,
 ⟨(some 22), [], [.t 0], [], [], .cp, none⟩,
 ⟨(some 23), [], [.t 22], [], [], .nilck, none⟩,
 ⟨(some 24), [], [.t 23], [], [], .faddr 0, none⟩,
 ⟨(some 25), [], [.t 24], [0], [], .load false 1, none⟩,
 ⟨(some 26), [], [.t 25], [], [], .len true, none⟩,
 ⟨(some 27), [], [.t 21, .t 26], [], [], .bini .geq, none⟩] [16, 17, 18, 19, 20, 21, 22, 23, 24, 25, 26] [])
 (.cond (.t 27)
 (.seq
 (.reg [⟨(some 28), [], [.t 0], [], [], .cp, none⟩,
 ⟨(some 29), [], [.t 28], [], [], .nilck, none⟩,
 ⟨(some 30), [], [.t 29], [], [], .faddr 2, none⟩,
 ⟨none, [], [.t 30, .c (.int .i64 4)], [], [0], .store false 1, none⟩] [28, 29, 30] [])
 (.seq
 (.reg [⟨(some 2), [], [.c (.int .i64 0)], [], [], .cp, none⟩] [] [])
 .ret))
 .skip))
 (.seq
 (.reg [⟨(some 31), [], [.t 0], [], [], .cp, none⟩,
 ⟨(some 32), [], [.t 31], [], [], .nilck, none⟩,
 ⟨(some 33), [], [.t 32], [], [], .faddr 0, none⟩,
 ⟨(some 34), [], [.t 33], [0], [], .load false 1, none⟩,
 ⟨(some 35), [], [.t 0], [], [], .cp, none⟩,
 ⟨(some 36), [], [.t 35], [], [], .nilck, none⟩,
 ⟨(some 37), [], [.t 36], [], [], .faddr 1, none⟩,
 ⟨(some 38), [], [.t 37], [0], [], .load false 1, none⟩,
 ⟨(some 39), [], [.t 5], [], [], .cp, none⟩,
 ⟨(some 40), [], [.t 38, .t 39], [], [], .bini .add, none⟩,
 ⟨(some 41), [], [.t 34, .t 40], [], [], .indexs, none⟩,
 ⟨(some 42), [], [.t 41], [], [], .conv .i64, none⟩,
 ⟨(some 6), [42], [.t 42], [], [], .mv, none⟩] [31, 32, 33, 34, 35, 36, 37, 38, 39, 40, 41, 42] [])
 (.seq
 (.seq
 (.reg [⟨(some 43), [], [.t 6], [], [], .cp, none⟩,
 ⟨(some 44), [], [.t 43, .c (.int .i64 128)], [], [], .bini .lss, none⟩] [43] [])
 (.cond (.t 44)
 (.seq
 (.seq
 (.reg [⟨(some 45), [], [.t 6], [], [], .cp, none⟩,
 ⟨(some 46), [], [.t 45, .c (.int .i64 0)], [], [], .bini .eql, none⟩,
 ⟨(some 47), [], [.t 46], [], [], .cp, none⟩,
 ⟨(some 48), [], [.t 5], [], [], .cp, some (47, true)⟩,
 ⟨(some 49), [], [.t 48, .c (.int .i64 0)], [], [], .bini .gtr, some (47, true)⟩,
 ⟨(some 50), [], [.t 47, .t 49, .c (.bool false)], [], [], .pick, none⟩] [45, 46, 47, 48, 49] [])
 (.cond (.t 50)
 (.seq
 (.reg [⟨(some 51), [], [.t 0], [], [], .cp, none⟩,
 ⟨(some 52), [], [.t 51], [], [], .nilck, none⟩,
 ⟨(some 53), [], [.t 52], [], [], .faddr 2, none⟩,
 ⟨none, [], [.t 53, .c (.int .i64 3)], [], [0], .store false 1, none⟩] [51, 52, 53] [])
 (.seq
 (.reg [⟨(some 2), [], [.c (.int .i64 0)], [], [], .cp, none⟩] [] [])
 .ret))
 .skip))
 (.seq
 (.reg [⟨(some 54), [], [.t 0], [], [], .cp, none⟩,
 ⟨(some 55), [], [.t 0], [], [], .cp, none⟩,
 ⟨(some 56), [], [.t 55], [], [], .nilck, none⟩,
 ⟨(some 57), [], [.t 56], [], [], .faddr 1, none⟩,
 ⟨(some 58), [], [.t 57], [0], [], .load false 1, none⟩,
 ⟨(some 59), [], [.t 5], [], [], .cp, none⟩,
 ⟨(some 60), [], [.t 58, .t 59], [], [], .bini .add, none⟩,
 ⟨(some 61), [], [.t 60, .c (.int .i64 1)], [], [], .bini .add, none⟩,
 ⟨(some 62), [], [.t 54], [], [], .nilck, none⟩,
 ⟨(some 63), [], [.t 62], [], [], .faddr 1, none⟩,
 ⟨none, [61], [.t 63, .t 61], [], [0], .store false 1, none⟩] [54, 55, 56, 57, 58, 59, 60, 61, 62, 63] [])
 (.seq
 (.reg [⟨(some 64), [], [.t 3], [], [], .cp, none⟩,
 ⟨(some 65), [], [.t 6], [], [], .cp, none⟩,
 ⟨(some 66), [], [.t 4], [], [], .cp, none⟩,
 ⟨(some 67), [], [.t 65, .t 66], [], [], .bini .mul, none⟩,
 ⟨(some 68), [], [.t 64, .t 67], [], [], .bini .add, none⟩,
 ⟨(some 2), [68], [.t 68], [], [], .mv, none⟩] [64, 65, 66, 67, 68] [])
 .ret)))
 .skip))
 (.seq
 (.reg [⟨(some 69), [], [.t 3], [], [], .cp, none⟩,
 ⟨(some 70), [], [.t 6], [], [], .cp, none⟩,
 ⟨(some 71), [], [.t 70, .c (.int .i64 128)], [], [], .bini .sub, none⟩,
 ⟨(some 72), [], [.t 4], [], [], .cp, none⟩,
 ⟨(some 73), [], [.t 71, .t 72], [], [], .bini .mul, none⟩,
 ⟨(some 74), [], [.t 69, .t 73], [], [], .bini .add, none⟩,
 ⟨(some 3), [74], [.t 74], [], [], .mv, none⟩] [69, 70, 71, 72, 73, 74] [])
 (.reg [⟨(some 75), [], [.t 4], [], [], .cp, none⟩,
 ⟨(some 76), [], [.t 75, .c (.int .i64 128)], [], [], .bini .mul, none⟩,
 ⟨(some 4), [76], [.t 76], [], [], .mv, none⟩] [75, 76] []))))))
 (.reg [⟨(some 14), [], [.t 5], [], [], .cp, none⟩,
 ⟨(some 15), [], [.t 14, .c (.int .i64 1)], [], [], .bini .add, none⟩,
 ⟨(some 5), [15], [.t 15], [], [], .mv, none⟩] [6, 12, 13, 14, 15, 16, 17, 18, 19, 20, 21, 22, 23, 24, 25, 26, 27, 28, 29, 30, 31, 32, 33, 34, 35, 36, 37, 38, 39, 40, 41, 42, 43, 44, 45, 46, 47, 48, 49, 50, 51, 52, 53, 54, 55, 56, 57, 58, 59, 60, 61, 62, 63, 64, 65, 66, 67, 68, 69, 70, 71, 72, 73, 74, 75, 76] []))))))
 (.seq
 (.reg [⟨(some 77), [], [.t 0], [], [], .cp, none⟩,
 ⟨(some 78), [], [.t 77], [], [], .nilck, none⟩,
 ⟨(some 79), [], [.t 78], [], [], .faddr 2, none⟩,
 ⟨none, [], [.t 79, .c (.int .i64 6)], [], [0], .store false 1, none⟩] [77, 78, 79] [])
 (.seq
 (.reg [⟨(some 2), [], [.c (.int .i64 0)], [], [], .cp, none⟩] [] [])
 .ret)))))) }

end Go.AR

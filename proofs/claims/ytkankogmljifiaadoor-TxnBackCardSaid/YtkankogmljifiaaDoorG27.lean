import Derived.Test.YtkankogmljifiaaDoorG02
import Derived.Test.YtkankogmljifiaaDoorG03
set_option linter.all false
/-! Codes, printed by program. -/
namespace Go.AR
def H_pack_Int : Hints := [(1, { ops := [(0, { take := true })], kt := [], kb := [] }),
 (2, { ops := [], kt := [4], kb := [] }),
 (3, { ops := [(4, { mw := [3], nref := 1 })], kt := [6, 7, 8, 9, 10], kb := [] }),
 (4, { ops := [], kt := [11, 12], kb := [] }),
 (5, { ops := [(3, { mw := [3], nref := 1 })], kt := [13, 14, 15, 16], kb := [] }),
 (6, { ops := [(0, { mw := [3], nref := 1 })], kt := [17], kb := [] }),
 (1000001, { ops := [], kt := [4, 5, 6, 7, 8, 9, 10, 11, 12], kb := [] })]
def c_pack_Int (F : Nat → FuncId) : AFun := { nparams := 1, ntmps := 18, results := [.tmp 2], body :=
 (.seq
 (.reg [⟨(some 2), [], [.c (.str [])], [], [], .cp, none⟩] [] [])
 (.seq
 (.reg [⟨(some 3), [], [], [], [3], .alloct (F n_T_strings_Builder) [.val (.nilp), .ownE (some (F n_T_uint8)) 1 []], none⟩] [] [])
 (.seq
 (.block 0
 (.loop
 (.seq
 (.seq
 (.reg [⟨(some 4), [], [.t 0], [], [], .cp, none⟩,
 ⟨(some 5), [], [.t 4, .c (.int .i64 128)], [], [], .bini .geq, none⟩] [4] [])
 (.cond (.t 5)
 .skip
 (.exit 0)))
 (.seq
 (.block 1
 (.seq
 (.reg [⟨(some 6), [], [.t 0], [], [], .cp, none⟩,
 ⟨(some 7), [], [.t 6, .c (.int .i64 127)], [], [], .bini .and, none⟩,
 ⟨(some 8), [], [.t 7, .c (.int .i64 128)], [], [], .bini .or, none⟩,
 ⟨(some 9), [], [.t 8], [], [], .conv .u8, none⟩,
 ⟨(some 10), [], [.c (.fn (F n_strings_Builder_WriteByte)), .t 3, .t 9], [], [3], .call 1 false, none⟩] [6, 7, 8, 9, 10] [])
 (.reg [⟨(some 11), [], [.t 0], [], [], .cp, none⟩,
 ⟨(some 12), [], [.t 11, .c (.int .u64 7)], [], [], .bini .shr, none⟩,
 ⟨(some 0), [12], [.t 12], [], [], .mv, none⟩] [11, 12] [])))
 (.reg [] [4, 5, 6, 7, 8, 9, 10, 11, 12] [])))))
 (.seq
 (.reg [⟨(some 13), [], [.t 0], [], [], .cp, none⟩,
 ⟨(some 14), [], [.t 13, .c (.int .i64 0)], [], [], .maxi, none⟩,
 ⟨(some 15), [], [.t 14], [], [], .conv .u8, none⟩,
 ⟨(some 16), [], [.c (.fn (F n_strings_Builder_WriteByte)), .t 3, .t 15], [], [3], .call 1 false, none⟩] [13, 14, 15, 16] [])
 (.seq
 (.reg [⟨(some 17), [], [.c (.fn (F n_strings_Builder_String)), .t 3], [], [3], .call 1 false, none⟩,
 ⟨(some 2), [17], [.t 17], [], [], .mv, none⟩] [17] [])
 .ret))))) }

def H_pref02_Int : Hints := [(1, { ops := [], kt := [3], kb := [] }),
 (2, { ops := [], kt := [5], kb := [] }),
 (4, { ops := [], kt := [7, 8, 9, 10], kb := [] }),
 (5, { ops := [], kt := [11, 12, 13, 14, 15, 16, 17, 18, 19, 20], kb := [] })]
def c_pref02_Int (F : Nat → FuncId) : AFun := { nparams := 1, ntmps := 21, results := [.tmp 2], body :=
 (.seq
 (.reg [⟨(some 2), [], [.c (.str [])], [], [], .cp, none⟩] [] [])
 (.seq
 (.seq
 (.reg [⟨(some 3), [], [.t 0], [], [], .cp, none⟩,
 ⟨(some 4), [], [.t 3, .c (.int .i64 128)], [], [], .bini .lss, none⟩] [3] [])
 (.cond (.t 4)
 (.seq
 (.seq
 (.reg [⟨(some 5), [], [.t 0], [], [], .cp, none⟩,
 ⟨(some 6), [], [.t 5, .c (.int .i64 0)], [], [], .bini .lss, none⟩] [5] [])
 (.cond (.t 6)
 (.reg [⟨(some 0), [], [.c (.int .i64 0)], [], [], .cp, none⟩] [] [])
 .skip))
 (.seq
 (.reg [⟨(some 7), [], [.t 0], [], [], .cp, none⟩,
 ⟨(some 8), [], [.t 7], [], [], .conv .u8, none⟩,
 ⟨(some 9), [], [.t 8], [], [], .bslice 1 [.int .u8 0] [(0, 1)], none⟩,
 ⟨(some 10), [], [.t 9], [], [], .b2s, none⟩,
 ⟨(some 2), [10], [.t 10], [], [], .mv, none⟩] [7, 8, 9, 10] [])
 .ret))
 .skip))
 (.seq
 (.reg [⟨(some 11), [], [.t 0], [], [], .cp, none⟩,
 ⟨(some 12), [], [.t 11, .c (.int .i64 128)], [], [], .bini .rem, none⟩,
 ⟨(some 13), [], [.t 12, .c (.int .i64 128)], [], [], .bini .add, none⟩,
 ⟨(some 14), [], [.t 13], [], [], .conv .u8, none⟩,
 ⟨(some 15), [], [.t 14], [], [], .bslice 1 [.int .u8 0] [(0, 1)], none⟩,
 ⟨(some 16), [], [.t 15], [], [], .b2s, none⟩,
 ⟨(some 17), [], [.t 0], [], [], .cp, none⟩,
 ⟨(some 18), [], [.t 17, .c (.int .i64 128)], [], [], .bini .quo, none⟩,
 ⟨(some 19), [], [.c (.fn (F n_pref02_Int)), .t 18], [], [], .call 0 false, none⟩,
 ⟨(some 20), [], [.t 16, .t 19], [], [], .bins .add, none⟩,
 ⟨(some 2), [20], [.t 20], [], [], .mv, none⟩] [11, 12, 13, 14, 15, 16, 17, 18, 19, 20] [])
 .ret))) }

def H_pack_Text : Hints := [(1, { ops := [], kt := [3, 4, 5, 6, 7], kb := [] })]
def c_pack_Text (F : Nat → FuncId) : AFun := { nparams := 1, ntmps := 8, results := [.tmp 2], body :=
 (.seq
 (.reg [⟨(some 2), [], [.c (.str [])], [], [], .cp, none⟩] [] [])
 (.seq
 (.reg [⟨(some 3), [], [.t 0], [], [], .cp, none⟩,
 ⟨(some 4), [], [.t 3], [], [], .len true, none⟩,
 ⟨(some 5), [], [.c (.fn (F n_pack_Int)), .t 4], [], [], .call 0 false, none⟩,
 ⟨(some 6), [], [.t 0], [], [], .cp, none⟩,
 ⟨(some 7), [], [.t 5, .t 6], [], [], .bins .add, none⟩,
 ⟨(some 2), [7], [.t 7], [], [], .mv, none⟩] [3, 4, 5, 6, 7] [])
 .ret)) }

def H_pref02_Text : Hints := [(1, { ops := [], kt := [3, 4, 5, 6, 7], kb := [] })]
def c_pref02_Text (F : Nat → FuncId) : AFun := { nparams := 1, ntmps := 8, results := [.tmp 2], body :=
 (.seq
 (.reg [⟨(some 2), [], [.c (.str [])], [], [], .cp, none⟩] [] [])
 (.seq
 (.reg [⟨(some 3), [], [.t 0], [], [], .cp, none⟩,
 ⟨(some 4), [], [.t 3], [], [], .len true, none⟩,
 ⟨(some 5), [], [.c (.fn (F n_pref02_Int)), .t 4], [], [], .call 0 false, none⟩,
 ⟨(some 6), [], [.t 0], [], [], .cp, none⟩,
 ⟨(some 7), [], [.t 5, .t 6], [], [], .bins .add, none⟩,
 ⟨(some 2), [7], [.t 7], [], [], .mv, none⟩] [3, 4, 5, 6, 7] [])
 .ret)) }

def H_pack_Open : Hints := [(1, { ops := [], kt := [3, 4, 5], kb := [] })]
def c_pack_Open (F : Nat → FuncId) : AFun := { nparams := 1, ntmps := 6, results := [.tmp 2], body :=
 (.seq
 (.reg [⟨(some 2), [], [.c (.nilp)], [], [], .cp, none⟩] [] [])
 (.seq
 (.reg [⟨(some 3), [], [.t 0], [], [], .cp, none⟩,
 ⟨(some 4), [], [.t 3], [], [], .build [.str [], .int .i64 0] [(0, 1)], none⟩,
 ⟨(some 5), [], [.t 4], [], [5], .box, none⟩,
 ⟨(some 2), [5], [.t 5], [], [], .mv, none⟩] [3, 4, 5] [])
 .ret)) }

def H_pack_Reader_Int : Hints := [(3, { ops := [(1, { mw := [0], nref := 1 })], kt := [6], kb := [] }),
 (4, { ops := [], kt := [5, 6, 7, 8, 9, 10, 11, 12, 13, 14, 15, 16, 17, 18, 19, 20, 21, 22, 23, 24, 25, 26, 27, 28, 29, 30, 31, 32, 33, 34, 35, 36, 37, 38, 39, 40, 41, 42, 43, 44, 45, 46, 47, 48, 49, 50, 51, 52, 53, 54, 55, 56, 57, 58, 59, 60, 61], kb := [] }),
 (5, { ops := [], kt := [11, 12], kb := [] }),
 (6, { ops := [(1, { mw := [0], nref := 1 })], kt := [13, 14], kb := [] }),
 (7, { ops := [(4, { mr := [0] })], kt := [16, 17, 18, 19, 20, 21, 22], kb := [] }),
 (8, { ops := [(1, { mw := [0], nref := 1 })], kt := [23, 24], kb := [] }),
 (9, { ops := [(3, { mr := [0] })], kt := [25, 26, 27, 28, 29, 30, 31], kb := [] }),
 (10, { ops := [], kt := [32, 33, 34, 35, 36, 37, 38], kb := [] }),
 (11, { ops := [], kt := [40, 41], kb := [] }),
 (12, { ops := [], kt := [43, 44, 45, 46, 47, 48], kb := [] }),
 (13, { ops := [(1, { mw := [0], nref := 1 })], kt := [49, 50], kb := [] }),
 (14, { ops := [(4, { mr := [0] }), (10, { mw := [0] })], kt := [51, 52, 53, 54, 55, 56, 57, 58, 59, 60], kb := [] }),
 (15, { ops := [], kt := [61], kb := [] })]
def c_pack_Reader_Int (F : Nat → FuncId) : AFun := { nparams := 1, ntmps := 62, results := [.tmp 2], body :=
 (.seq
 (.reg [⟨(some 2), [], [.c (.int .i64 0)], [], [], .cp, none⟩] [] [])
 (.seq
 (.reg [⟨(some 3), [], [.c (.int .i64 0)], [], [], .cp, none⟩] [] [])
 (.seq
 (.seq
 (.reg [⟨(some 4), [], [.c (.int .i64 0)], [], [], .cp, none⟩] [] [])
 (.block 0
 (.loop
 (.seq
 (.seq
 (.reg [⟨(some 6), [], [.t 0], [], [], .cp, none⟩,
 ⟨(some 7), [], [.c (.fn (F n_pack_Reader_fine)), .t 6], [], [0], .call 1 false, none⟩] [6] [])
 (.cond (.t 7)
 .skip
 (.exit 0)))
 (.seq
 (.block 1
 (.seq
 (.block 2
 (.seq
 (.reg [⟨(some 11), [], [.t 4], [], [], .cp, none⟩,
 ⟨(some 12), [], [.t 11, .c (.int .i64 8)], [], [], .bini .eql, none⟩,
 ⟨(some 10), [12], [.t 12], [], [], .mv, none⟩] [11, 12] [])
 (.cond (.t 10)
 (.seq
 (.reg [⟨(some 13), [], [.t 0], [], [], .cp, none⟩,
 ⟨(some 14), [], [.c (.fn (F n_pack_Reader_Fail)), .t 13, .c (.int .i64 6)], [], [0], .call 1 false, none⟩] [13, 14] [])
 (.exit 1))
 (.seq
 (.reg [⟨(some 16), [], [.t 4], [], [], .cp, none⟩,
 ⟨(some 17), [], [.t 0], [], [], .cp, none⟩,
 ⟨(some 18), [], [.t 17], [], [], .nilck, none⟩,
 ⟨(some 19), [], [.t 18], [], [], .faddr 0, none⟩,
 ⟨(some 20), [], [.t 19], [0], [], .load false 1, none⟩,
 ⟨(some 21), [], [.t 20], [], [], .len true, none⟩,
 ⟨(some 22), [], [.t 16, .t 21], [], [], .bini .geq, none⟩,
 ⟨(some 15), [22], [.t 22], [], [], .mv, none⟩] [16, 17, 18, 19, 20, 21, 22] [])
 (.cond (.t 15)
 (.seq
 (.reg [⟨(some 23), [], [.t 0], [], [], .cp, none⟩,
 ⟨(some 24), [], [.c (.fn (F n_pack_Reader_Fail)), .t 23, .c (.int .i64 4)], [], [0], .call 1 false, none⟩] [23, 24] [])
 (.exit 1))
 .skip)))))
 (.seq
 (.reg [⟨(some 25), [], [.t 0], [], [], .cp, none⟩,
 ⟨(some 26), [], [.t 25], [], [], .nilck, none⟩,
 ⟨(some 27), [], [.t 26], [], [], .faddr 0, none⟩,
 ⟨(some 28), [], [.t 27], [0], [], .load false 1, none⟩,
 ⟨(some 29), [], [.t 4], [], [], .cp, none⟩,
 ⟨(some 30), [], [.t 28, .t 29], [], [], .indexs, none⟩,
 ⟨(some 31), [], [.t 30], [], [], .conv .i64, none⟩,
 ⟨(some 5), [31], [.t 31], [], [], .mv, none⟩] [25, 26, 27, 28, 29, 30, 31] [])
 (.seq
 (.reg [⟨(some 32), [], [.t 3], [], [], .cp, none⟩,
 ⟨(some 33), [], [.t 5], [], [], .cp, none⟩,
 ⟨(some 34), [], [.t 33, .c (.int .i64 127)], [], [], .bini .and, none⟩,
 ⟨(some 35), [], [.t 4], [], [], .cp, none⟩,
 ⟨(some 36), [], [.c (.int .i64 7), .t 35], [], [], .bini .mul, none⟩,
 ⟨(some 37), [], [.t 34, .t 36], [], [], .bini .shl, none⟩,
 ⟨(some 38), [], [.t 32, .t 37], [], [], .bini .or, none⟩,
 ⟨(some 3), [38], [.t 38], [], [], .mv, none⟩] [32, 33, 34, 35, 36, 37, 38] [])
 (.seq
 (.block 3
 (.seq
 (.reg [⟨(some 40), [], [.t 5], [], [], .cp, none⟩,
 ⟨(some 41), [], [.t 40, .c (.int .i64 128)], [], [], .bini .geq, none⟩,
 ⟨(some 39), [41], [.t 41], [], [], .mv, none⟩] [40, 41] [])
 (.cond (.t 39)
 (.exit 1)
 (.seq
 (.reg [⟨(some 43), [], [.t 5], [], [], .cp, none⟩,
 ⟨(some 44), [], [.t 43, .c (.int .i64 0)], [], [], .bini .eql, none⟩,
 ⟨(some 45), [], [.t 44], [], [], .cp, none⟩,
 ⟨(some 46), [], [.t 4], [], [], .cp, some (45, true)⟩,
 ⟨(some 47), [], [.t 46, .c (.int .i64 0)], [], [], .bini .gtr, some (45, true)⟩,
 ⟨(some 48), [], [.t 45, .t 47, .c (.bool false)], [], [], .pick, none⟩,
 ⟨(some 42), [48], [.t 48], [], [], .mv, none⟩] [43, 44, 45, 46, 47, 48] [])
 (.cond (.t 42)
 (.seq
 (.reg [⟨(some 49), [], [.t 0], [], [], .cp, none⟩,
 ⟨(some 50), [], [.c (.fn (F n_pack_Reader_Fail)), .t 49, .c (.int .i64 3)], [], [0], .call 1 false, none⟩] [49, 50] [])
 (.exit 1))
 .skip)))))
 (.seq
 (.reg [⟨(some 51), [], [.t 0], [], [], .cp, none⟩,
 ⟨(some 52), [], [.t 0], [], [], .cp, none⟩,
 ⟨(some 53), [], [.t 52], [], [], .nilck, none⟩,
 ⟨(some 54), [], [.t 53], [], [], .faddr 0, none⟩,
 ⟨(some 55), [], [.t 54], [0], [], .load false 1, none⟩,
 ⟨(some 56), [], [.t 4], [], [], .cp, none⟩,
 ⟨(some 57), [], [.t 56, .c (.int .i64 1)], [], [], .bini .add, none⟩,
 ⟨(some 58), [], [.t 55, .t 57], [], [], .slices true false, none⟩,
 ⟨(some 59), [], [.t 51], [], [], .nilck, none⟩,
 ⟨(some 60), [], [.t 59], [], [], .faddr 0, none⟩,
 ⟨none, [58], [.t 60, .t 58], [], [0], .store false 1, none⟩] [51, 52, 53, 54, 55, 56, 57, 58, 59, 60] [])
 (.seq
 (.reg [⟨(some 61), [], [.t 3], [], [], .cp, none⟩,
 ⟨(some 2), [61], [.t 61], [], [], .mv, none⟩] [61] [])
 .ret)))))))
 (.reg [⟨(some 8), [], [.t 4], [], [], .cp, none⟩,
 ⟨(some 9), [], [.t 8, .c (.int .i64 1)], [], [], .bini .add, none⟩,
 ⟨(some 4), [9], [.t 9], [], [], .mv, none⟩] [5, 6, 7, 8, 9, 10, 11, 12, 13, 14, 15, 16, 17, 18, 19, 20, 21, 22, 23, 24, 25, 26, 27, 28, 29, 30, 31, 32, 33, 34, 35, 36, 37, 38, 39, 40, 41, 42, 43, 44, 45, 46, 47, 48, 49, 50, 51, 52, 53, 54, 55, 56, 57, 58, 59, 60, 61] []))))))
 (.seq
 (.reg [⟨(some 2), [], [.c (.int .i64 0)], [], [], .cp, none⟩] [] [])
 .ret)))) }

def H_pack_Reader_Text : Hints := [(1, { ops := [(1, { mw := [0], nref := 1 })], kt := [5, 6], kb := [] }),
 (2, { ops := [(1, { mw := [0], nref := 1 }), (7, { mr := [0] })], kt := [7, 8, 9, 10, 11, 12, 13, 14, 15, 16], kb := [] }),
 (3, { ops := [(1, { mw := [0], nref := 1 })], kt := [18, 19], kb := [] }),
 (4, { ops := [(1, { mw := [0], nref := 1 })], kt := [20, 21], kb := [] }),
 (6, { ops := [(3, { mr := [0] })], kt := [23, 24, 25, 26, 27, 28], kb := [] }),
 (7, { ops := [(4, { mr := [0] }), (9, { mw := [0] })], kt := [29, 30, 31, 32, 33, 34, 35, 36, 37], kb := [] }),
 (8, { ops := [], kt := [38], kb := [] })]
def c_pack_Reader_Text (F : Nat → FuncId) : AFun := { nparams := 1, ntmps := 39, results := [.tmp 2], body :=
 (.seq
 (.reg [⟨(some 2), [], [.c (.str [])], [], [], .cp, none⟩] [] [])
 (.seq
 (.reg [⟨(some 5), [], [.t 0], [], [], .cp, none⟩,
 ⟨(some 6), [], [.c (.fn (F n_pack_Reader_Int)), .t 5], [], [0], .call 1 false, none⟩,
 ⟨(some 3), [6], [.t 6], [], [], .mv, none⟩] [5, 6] [])
 (.seq
 (.seq
 (.reg [⟨(some 7), [], [.t 0], [], [], .cp, none⟩,
 ⟨(some 8), [], [.c (.fn (F n_pack_Reader_fine)), .t 7], [], [0], .call 1 false, none⟩,
 ⟨(some 9), [], [.t 8], [], [], .cp, none⟩,
 ⟨(some 10), [], [.t 3], [], [], .cp, some (9, true)⟩,
 ⟨(some 11), [], [.t 0], [], [], .cp, some (9, true)⟩,
 ⟨(some 12), [], [.t 11], [], [], .nilck, some (9, true)⟩,
 ⟨(some 13), [], [.t 12], [], [], .faddr 0, some (9, true)⟩,
 ⟨(some 14), [], [.t 13], [0], [], .load false 1, some (9, true)⟩,
 ⟨(some 15), [], [.t 14], [], [], .len true, some (9, true)⟩,
 ⟨(some 16), [], [.t 10, .t 15], [], [], .bini .gtr, some (9, true)⟩,
 ⟨(some 17), [], [.t 9, .t 16, .c (.bool false)], [], [], .pick, none⟩] [7, 8, 9, 10, 11, 12, 13, 14, 15, 16] [])
 (.cond (.t 17)
 (.reg [⟨(some 18), [], [.t 0], [], [], .cp, none⟩,
 ⟨(some 19), [], [.c (.fn (F n_pack_Reader_Fail)), .t 18, .c (.int .i64 4)], [], [0], .call 1 false, none⟩] [18, 19] [])
 .skip))
 (.seq
 (.seq
 (.reg [⟨(some 20), [], [.t 0], [], [], .cp, none⟩,
 ⟨(some 21), [], [.c (.fn (F n_pack_Reader_fine)), .t 20], [], [0], .call 1 false, none⟩,
 ⟨(some 22), [], [.t 21], [], [], .not, none⟩] [20, 21] [])
 (.cond (.t 22)
 (.seq
 (.reg [⟨(some 2), [], [.c (.str [])], [], [], .cp, none⟩] [] [])
 .ret)
 .skip))
 (.seq
 (.reg [⟨(some 23), [], [.t 0], [], [], .cp, none⟩,
 ⟨(some 24), [], [.t 23], [], [], .nilck, none⟩,
 ⟨(some 25), [], [.t 24], [], [], .faddr 0, none⟩,
 ⟨(some 26), [], [.t 25], [0], [], .load false 1, none⟩,
 ⟨(some 27), [], [.t 3], [], [], .cp, none⟩,
 ⟨(some 28), [], [.t 26, .t 27], [], [], .slices false true, none⟩,
 ⟨(some 4), [28], [.t 28], [], [], .mv, none⟩] [23, 24, 25, 26, 27, 28] [])
 (.seq
 (.reg [⟨(some 29), [], [.t 0], [], [], .cp, none⟩,
 ⟨(some 30), [], [.t 0], [], [], .cp, none⟩,
 ⟨(some 31), [], [.t 30], [], [], .nilck, none⟩,
 ⟨(some 32), [], [.t 31], [], [], .faddr 0, none⟩,
 ⟨(some 33), [], [.t 32], [0], [], .load false 1, none⟩,
 ⟨(some 34), [], [.t 3], [], [], .cp, none⟩,
 ⟨(some 35), [], [.t 33, .t 34], [], [], .slices true false, none⟩,
 ⟨(some 36), [], [.t 29], [], [], .nilck, none⟩,
 ⟨(some 37), [], [.t 36], [], [], .faddr 0, none⟩,
 ⟨none, [35], [.t 37, .t 35], [], [0], .store false 1, none⟩] [29, 30, 31, 32, 33, 34, 35, 36, 37] [])
 (.seq
 (.reg [⟨(some 38), [], [.t 4], [], [], .cp, none⟩,
 ⟨(some 2), [38], [.t 38], [], [], .mv, none⟩] [38] [])
 .ret))))))) }

def H_pack_Reader_Left : Hints := [(1, { ops := [(1, { mw := [0], nref := 1 })], kt := [3, 4], kb := [] }),
 (3, { ops := [(3, { mr := [0] })], kt := [6, 7, 8, 9, 10], kb := [] })]
def c_pack_Reader_Left (F : Nat → FuncId) : AFun := { nparams := 1, ntmps := 11, results := [.tmp 2], body :=
 (.seq
 (.reg [⟨(some 2), [], [.c (.int .i64 0)], [], [], .cp, none⟩] [] [])
 (.seq
 (.seq
 (.reg [⟨(some 3), [], [.t 0], [], [], .cp, none⟩,
 ⟨(some 4), [], [.c (.fn (F n_pack_Reader_fine)), .t 3], [], [0], .call 1 false, none⟩,
 ⟨(some 5), [], [.t 4], [], [], .not, none⟩] [3, 4] [])
 (.cond (.t 5)
 (.seq
 (.reg [⟨(some 2), [], [.c (.int .i64 0)], [], [], .cp, none⟩] [] [])
 .ret)
 .skip))
 (.seq
 (.reg [⟨(some 6), [], [.t 0], [], [], .cp, none⟩,
 ⟨(some 7), [], [.t 6], [], [], .nilck, none⟩,
 ⟨(some 8), [], [.t 7], [], [], .faddr 0, none⟩,
 ⟨(some 9), [], [.t 8], [0], [], .load false 1, none⟩,
 ⟨(some 10), [], [.t 9], [], [], .len true, none⟩,
 ⟨(some 2), [10], [.t 10], [], [], .mv, none⟩] [6, 7, 8, 9, 10] [])
 .ret))) }

def H_pack_Reader_Fault : Hints := [(1, { ops := [], kt := [3], kb := [] }),
 (3, { ops := [(3, { mr := [0] })], kt := [5, 6, 7, 8], kb := [] })]
def c_pack_Reader_Fault (F : Nat → FuncId) : AFun := { nparams := 1, ntmps := 9, results := [.tmp 2], body :=
 (.seq
 (.reg [⟨(some 2), [], [.c (.int .i64 0)], [], [], .cp, none⟩] [] [])
 (.seq
 (.seq
 (.reg [⟨(some 3), [], [.t 0], [], [], .cp, none⟩,
 ⟨(some 4), [], [.t 3, .c (.nilp)], [], [], .eqn false, none⟩] [3] [])
 (.cond (.t 4)
 (.seq
 (.reg [⟨(some 2), [], [.c (.int .i64 1)], [], [], .cp, none⟩] [] [])
 .ret)
 .skip))
 (.seq
 (.reg [⟨(some 5), [], [.t 0], [], [], .cp, none⟩,
 ⟨(some 6), [], [.t 5], [], [], .nilck, none⟩,
 ⟨(some 7), [], [.t 6], [], [], .faddr 1, none⟩,
 ⟨(some 8), [], [.t 7], [0], [], .load false 1, none⟩,
 ⟨(some 2), [8], [.t 8], [], [], .mv, none⟩] [5, 6, 7, 8] [])
 .ret))) }

def H_pack_Reader_End : Hints := [(1, { ops := [(1, { mw := [0], nref := 1 })], kt := [3, 4], kb := [] }),
 (2, { ops := [(1, { mw := [0], nref := 1 })], kt := [6, 7], kb := [] }),
 (3, { ops := [(1, { mw := [0], nref := 1 })], kt := [8, 9], kb := [] })]
def c_pack_Reader_End (F : Nat → FuncId) : AFun := { nparams := 1, ntmps := 10, results := [.tmp 2], body :=
 (.seq
 (.reg [⟨(some 2), [], [.c (.int .i64 0)], [], [], .cp, none⟩] [] [])
 (.seq
 (.seq
 (.reg [⟨(some 3), [], [.t 0], [], [], .cp, none⟩,
 ⟨(some 4), [], [.c (.fn (F n_pack_Reader_Left)), .t 3], [], [0], .call 1 false, none⟩,
 ⟨(some 5), [], [.t 4, .c (.int .i64 0)], [], [], .bini .gtr, none⟩] [3, 4] [])
 (.cond (.t 5)
 (.reg [⟨(some 6), [], [.t 0], [], [], .cp, none⟩,
 ⟨(some 7), [], [.c (.fn (F n_pack_Reader_Fail)), .t 6, .c (.int .i64 3)], [], [0], .call 1 false, none⟩] [6, 7] [])
 .skip))
 (.seq
 (.reg [⟨(some 8), [], [.t 0], [], [], .cp, none⟩,
 ⟨(some 9), [], [.c (.fn (F n_pack_Reader_Fault)), .t 8], [], [0], .call 1 false, none⟩,
 ⟨(some 2), [9], [.t 9], [], [], .mv, none⟩] [8, 9] [])
 .ret))) }

def H_pack_Reader_Fail : Hints := [(0, { ops := [(1, { mw := [0], nref := 1 })], kt := [4], kb := [] }),
 (1, { ops := [(4, { mw := [0] })], kt := [6, 7, 8, 9], kb := [] })]
def c_pack_Reader_Fail (F : Nat → FuncId) : AFun := { nparams := 2, ntmps := 10, results := [], body :=
 (.seq
 (.reg [⟨(some 4), [], [.t 0], [], [], .cp, none⟩,
 ⟨(some 5), [], [.c (.fn (F n_pack_Reader_fine)), .t 4], [], [0], .call 1 false, none⟩] [4] [])
 (.cond (.t 5)
 (.reg [⟨(some 6), [], [.t 0], [], [], .cp, none⟩,
 ⟨(some 7), [], [.t 1], [], [], .cp, none⟩,
 ⟨(some 8), [], [.t 6], [], [], .nilck, none⟩,
 ⟨(some 9), [], [.t 8], [], [], .faddr 1, none⟩,
 ⟨none, [7], [.t 9, .t 7], [], [0], .store false 1, none⟩] [6, 7, 8, 9] [])
 .skip)) }

def H_pack_Reader_Many : Hints := [(1, { ops := [(1, { mw := [0], nref := 1 })], kt := [6, 7], kb := [] }),
 (2, { ops := [(1, { mw := [0], nref := 1 })], kt := [9, 10, 11], kb := [] }),
 (4, { ops := [], kt := [13, 14, 15], kb := [] }),
 (5, { ops := [(1, { mw := [0], nref := 1 })], kt := [16, 17], kb := [] }),
 (7, { ops := [(4, { mr := [0] })], kt := [19, 20, 21, 22, 23, 24, 25], kb := [] }),
 (8, { ops := [(1, { mw := [0], nref := 1 })], kt := [26, 27], kb := [] }),
 (10, { ops := [], kt := [28], kb := [] })]
def c_pack_Reader_Many (F : Nat → FuncId) : AFun := { nparams := 2, ntmps := 29, results := [.tmp 4], body :=
 (.seq
 (.reg [⟨(some 4), [], [.c (.int .i64 0)], [], [], .cp, none⟩] [] [])
 (.seq
 (.reg [⟨(some 6), [], [.t 0], [], [], .cp, none⟩,
 ⟨(some 7), [], [.c (.fn (F n_pack_Reader_Int)), .t 6], [], [0], .call 1 false, none⟩,
 ⟨(some 5), [7], [.t 7], [], [], .mv, none⟩] [6, 7] [])
 (.seq
 (.block 0
 (.seq
 (.reg [⟨(some 9), [], [.t 0], [], [], .cp, none⟩,
 ⟨(some 10), [], [.c (.fn (F n_pack_Reader_fine)), .t 9], [], [0], .call 1 false, none⟩,
 ⟨(some 11), [], [.t 10], [], [], .not, none⟩,
 ⟨(some 8), [11], [.t 11], [], [], .mv, none⟩] [9, 10, 11] [])
 (.cond (.t 8)
 (.seq
 (.reg [⟨(some 4), [], [.c (.int .i64 0)], [], [], .cp, none⟩] [] [])
 .ret)
 (.seq
 (.reg [⟨(some 13), [], [.t 5], [], [], .cp, none⟩,
 ⟨(some 14), [], [.t 1], [], [], .cp, none⟩,
 ⟨(some 15), [], [.t 13, .t 14], [], [], .bini .gtr, none⟩,
 ⟨(some 12), [15], [.t 15], [], [], .mv, none⟩] [13, 14, 15] [])
 (.cond (.t 12)
 (.seq
 (.reg [⟨(some 16), [], [.t 0], [], [], .cp, none⟩,
 ⟨(some 17), [], [.c (.fn (F n_pack_Reader_Fail)), .t 16, .c (.int .i64 6)], [], [0], .call 1 false, none⟩] [16, 17] [])
 (.seq
 (.reg [⟨(some 4), [], [.c (.int .i64 0)], [], [], .cp, none⟩] [] [])
 .ret))
 (.seq
 (.reg [⟨(some 19), [], [.t 5], [], [], .cp, none⟩,
 ⟨(some 20), [], [.t 0], [], [], .cp, none⟩,
 ⟨(some 21), [], [.t 20], [], [], .nilck, none⟩,
 ⟨(some 22), [], [.t 21], [], [], .faddr 0, none⟩,
 ⟨(some 23), [], [.t 22], [0], [], .load false 1, none⟩,
 ⟨(some 24), [], [.t 23], [], [], .len true, none⟩,
 ⟨(some 25), [], [.t 19, .t 24], [], [], .bini .gtr, none⟩,
 ⟨(some 18), [25], [.t 25], [], [], .mv, none⟩] [19, 20, 21, 22, 23, 24, 25] [])
 (.cond (.t 18)
 (.seq
 (.reg [⟨(some 26), [], [.t 0], [], [], .cp, none⟩,
 ⟨(some 27), [], [.c (.fn (F n_pack_Reader_Fail)), .t 26, .c (.int .i64 4)], [], [0], .call 1 false, none⟩] [26, 27] [])
 (.seq
 (.reg [⟨(some 4), [], [.c (.int .i64 0)], [], [], .cp, none⟩] [] [])
 .ret))
 .skip)))))))
 (.seq
 (.reg [⟨(some 28), [], [.t 5], [], [], .cp, none⟩,
 ⟨(some 4), [28], [.t 28], [], [], .mv, none⟩] [28] [])
 .ret)))) }

def H_strings_Builder_WriteByte : Hints := [(1, { ops := [(1, { mw := [0], nref := 1 })], kt := [5, 6], kb := [] }),
 (2, { ops := [(4, { take := true, mw := [0] }), (7, { new := true }), (10, { mw := [0] })], kt := [7, 8, 9, 10, 11, 12, 13, 14, 15, 16], kb := [] })]
def c_strings_Builder_WriteByte (F : Nat → FuncId) : AFun := { nparams := 2, ntmps := 17, results := [.tmp 4], body :=
 (.seq
 (.reg [⟨(some 4), [], [.c (.nilif)], [], [], .cp, none⟩] [] [])
 (.seq
 (.reg [⟨(some 5), [], [.t 0], [], [], .cp, none⟩,
 ⟨(some 6), [], [.c (.fn (F n_strings_Builder_copyCheck)), .t 5], [], [0], .call 1 false, none⟩] [5, 6] [])
 (.seq
 (.reg [⟨(some 7), [], [.t 0], [], [], .cp, none⟩,
 ⟨(some 8), [], [.t 0], [], [], .cp, none⟩,
 ⟨(some 9), [], [.t 8], [], [], .nilck, none⟩,
 ⟨(some 10), [], [.t 9], [], [], .faddr 1, none⟩,
 ⟨(some 11), [], [.t 10], [], [0], .ltake, none⟩,
 ⟨(some 12), [], [.t 1], [], [], .cp, none⟩,
 ⟨(some 13), [], [.t 12], [], [], .bslice 1 [.int .u8 0] [(0, 1)], none⟩,
 ⟨(some 14), [11], [.t 11, .t 13], [], [], .appendT (F n_T_uint8) 1 1, none⟩,
 ⟨(some 15), [], [.t 7], [], [], .nilck, none⟩,
 ⟨(some 16), [], [.t 15], [], [], .faddr 1, none⟩,
 ⟨none, [14], [.t 16, .t 14], [], [0], .store false 1, none⟩] [7, 8, 9, 10, 11, 12, 13, 14, 15, 16] [])
 (.seq
 (.reg [⟨(some 4), [], [.c (.nilif)], [], [], .cp, none⟩] [] [])
 .ret)))) }

def H_pack_Reader_fine : Hints := [(1, { ops := [(6, { mr := [0] })], kt := [3, 4, 5, 6, 7, 8, 9, 10, 11], kb := [] })]
def c_pack_Reader_fine (F : Nat → FuncId) : AFun := { nparams := 1, ntmps := 12, results := [.tmp 2], body :=
 (.seq
 (.reg [⟨(some 2), [], [.c (.bool false)], [], [], .cp, none⟩] [] [])
 (.seq
 (.reg [⟨(some 3), [], [.t 0], [], [], .cp, none⟩,
 ⟨(some 4), [], [.t 3, .c (.nilp)], [], [], .eqn true, none⟩,
 ⟨(some 5), [], [.t 4], [], [], .cp, none⟩,
 ⟨(some 6), [], [.t 0], [], [], .cp, some (5, true)⟩,
 ⟨(some 7), [], [.t 6], [], [], .nilck, some (5, true)⟩,
 ⟨(some 8), [], [.t 7], [], [], .faddr 1, some (5, true)⟩,
 ⟨(some 9), [], [.t 8], [0], [], .load false 1, some (5, true)⟩,
 ⟨(some 10), [], [.t 9, .c (.int .i64 0)], [], [], .bini .eql, some (5, true)⟩,
 ⟨(some 11), [], [.t 5, .t 10, .c (.bool false)], [], [], .pick, none⟩,
 ⟨(some 2), [11], [.t 11], [], [], .mv, none⟩] [3, 4, 5, 6, 7, 8, 9, 10, 11] [])
 .ret)) }

end Go.AR

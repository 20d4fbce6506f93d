import Derived.Test.YtcpkejkpabgabaaDoorFun
import Derived.Test.YtcpkejkpabgabaaDoorK02
import Derived.Test.YtcpkejkpabgabaaDoorK03
import Derived.Test.YtcpkejkpabgabaaDoorK03b
import Derived.Test.YtcpkejkpabgabaaDoorSeat03
set_option linter.all false
namespace Go.AR
open Go Go.Proofs
theorem ok03_name_Split : cFun Tryd.prog H_name_Split Tryd.f8 = some (c_name_Split F03) := by kernel_rfl
theorem a03_name_Split {xs : List Arg} {rv : RV} {outs : List Blk} (h : (c_name_Split F03).gives (ACallI I03 Tryd.prog) xs rv outs) : ACallI I03 Tryd.prog (F03 n_name_Split) xs rv outs := acall_ofI mix03 Tryd.func8 ok03_name_Split h
theorem ok03_pref03_Same : cFun Tryd.prog H_pref03_Same Tryd.f12 = some (c_pref03_Same F03) := by kernel_rfl
theorem a03_pref03_Same {xs : List Arg} {rv : RV} {outs : List Blk} (h : (c_pref03_Same F03).gives (ACallI I03 Tryd.prog) xs rv outs) : ACallI I03 Tryd.prog (F03 n_pref03_Same) xs rv outs := acall_ofI mix03 Tryd.func12 ok03_pref03_Same h
theorem ok03_strings_Builder_WriteByte : cFun Tryd.prog H_strings_Builder_WriteByte Tryd.f19 = some (c_strings_Builder_WriteByte F03) := by kernel_rfl
theorem a03_strings_Builder_WriteByte {xs : List Arg} {rv : RV} {outs : List Blk} (h : (c_strings_Builder_WriteByte F03).gives (ACallI I03 Tryd.prog) xs rv outs) : ACallI I03 Tryd.prog (F03 n_strings_Builder_WriteByte) xs rv outs := acall_ofI mix03 Tryd.func19 ok03_strings_Builder_WriteByte h
theorem ok03_name_Quote : cFun Tryd.prog H_name_Quote Tryd.f10 = some (c_name_Quote F03) := by kernel_rfl
theorem a03_name_Quote {xs : List Arg} {rv : RV} {outs : List Blk} (h : (c_name_Quote F03).gives (ACallI I03 Tryd.prog) xs rv outs) : ACallI I03 Tryd.prog (F03 n_name_Quote) xs rv outs := acall_ofI mix03 Tryd.func10 ok03_name_Quote h
theorem ok03_unicode_utf8_DecodeRuneInString : cFun Tryd.prog H_unicode_utf8_DecodeRuneInString Tryd.f21 = some (c_unicode_utf8_DecodeRuneInString F03) := by kernel_rfl
theorem a03_unicode_utf8_DecodeRuneInString {xs : List Arg} {rv : RV} {outs : List Blk} (h : (c_unicode_utf8_DecodeRuneInString F03).gives (ACallI I03 Tryd.prog) xs rv outs) : ACallI I03 Tryd.prog (F03 n_unicode_utf8_DecodeRuneInString) xs rv outs := acall_ofI mix03 Tryd.func21 ok03_unicode_utf8_DecodeRuneInString h
theorem ok03_name_Runes : cFun Tryd.prog H_name_Runes Tryd.f13 = some (c_name_Runes F03) := by kernel_rfl
theorem a03_name_Runes {xs : List Arg} {rv : RV} {outs : List Blk} (h : (c_name_Runes F03).gives (ACallI I03 Tryd.prog) xs rv outs) : ACallI I03 Tryd.prog (F03 n_name_Runes) xs rv outs := acall_ofI mix03 Tryd.func13 ok03_name_Runes h
theorem ok03_name_may : cFun Tryd.prog H_name_may Tryd.f23 = some (c_name_may F03) := by kernel_rfl
theorem a03_name_may {xs : List Arg} {rv : RV} {outs : List Blk} (h : (c_name_may F03).gives (ACallI I03 Tryd.prog) xs rv outs) : ACallI I03 Tryd.prog (F03 n_name_may) xs rv outs := acall_ofI mix03 Tryd.func23 ok03_name_may h
theorem ok03_name_Right : cFun Tryd.prog H_name_Right Tryd.f15 = some (c_name_Right F03) := by kernel_rfl
theorem a03_name_Right {xs : List Arg} {rv : RV} {outs : List Blk} (h : (c_name_Right F03).gives (ACallI I03 Tryd.prog) xs rv outs) : ACallI I03 Tryd.prog (F03 n_name_Right) xs rv outs := acall_ofI mix03 Tryd.func15 ok03_name_Right h
theorem ok03_plaw03_awake : cFun Tryd.prog H_plaw03_awake Tryd.f7 = some (c_plaw03_awake F03) := by kernel_rfl
theorem a03_plaw03_awake {xs : List Arg} {rv : RV} {outs : List Blk} (h : (c_plaw03_awake F03).gives (ACallI I03 Tryd.prog) xs rv outs) : ACallI I03 Tryd.prog (F03 n_plaw03_awake) xs rv outs := acall_ofI mix03 Tryd.func7 ok03_plaw03_awake h
theorem ok03_pref03_Char : cFun Tryd.prog H_pref03_Char Tryd.f22 = some (c_pref03_Char F03) := by kernel_rfl
theorem a03_pref03_Char {xs : List Arg} {rv : RV} {outs : List Blk} (h : (c_pref03_Char F03).gives (ACallI I03 Tryd.prog) xs rv outs) : ACallI I03 Tryd.prog (F03 n_pref03_Char) xs rv outs := acall_ofI mix03 Tryd.func22 ok03_pref03_Char h
theorem ok03_pref03_Runes : cFun Tryd.prog H_pref03_Runes Tryd.f14 = some (c_pref03_Runes F03) := by kernel_rfl
theorem a03_pref03_Runes {xs : List Arg} {rv : RV} {outs : List Blk} (h : (c_pref03_Runes F03).gives (ACallI I03 Tryd.prog) xs rv outs) : ACallI I03 Tryd.prog (F03 n_pref03_Runes) xs rv outs := acall_ofI mix03 Tryd.func14 ok03_pref03_Runes h
theorem ok03_pref03_may : cFun Tryd.prog H_pref03_may Tryd.f24 = some (c_pref03_may F03) := by kernel_rfl
theorem a03_pref03_may {xs : List Arg} {rv : RV} {outs : List Blk} (h : (c_pref03_may F03).gives (ACallI I03 Tryd.prog) xs rv outs) : ACallI I03 Tryd.prog (F03 n_pref03_may) xs rv outs := acall_ofI mix03 Tryd.func24 ok03_pref03_may h
theorem ok03_pref03_Right : cFun Tryd.prog H_pref03_Right Tryd.f16 = some (c_pref03_Right F03) := by kernel_rfl
theorem a03_pref03_Right {xs : List Arg} {rv : RV} {outs : List Blk} (h : (c_pref03_Right F03).gives (ACallI I03 Tryd.prog) xs rv outs) : ACallI I03 Tryd.prog (F03 n_pref03_Right) xs rv outs := acall_ofI mix03 Tryd.func16 ok03_pref03_Right h
theorem ok03_name_Clean : cFun Tryd.prog H_name_Clean Tryd.f17 = some (c_name_Clean F03) := by kernel_rfl
theorem a03_name_Clean {xs : List Arg} {rv : RV} {outs : List Blk} (h : (c_name_Clean F03).gives (ACallI I03 Tryd.prog) xs rv outs) : ACallI I03 Tryd.prog (F03 n_name_Clean) xs rv outs := acall_ofI mix03 Tryd.func17 ok03_name_Clean h
theorem ok03_pref03_Clean : cFun Tryd.prog H_pref03_Clean Tryd.f18 = some (c_pref03_Clean F03) := by kernel_rfl
theorem a03_pref03_Clean {xs : List Arg} {rv : RV} {outs : List Blk} (h : (c_pref03_Clean F03).gives (ACallI I03 Tryd.prog) xs rv outs) : ACallI I03 Tryd.prog (F03 n_pref03_Clean) xs rv outs := acall_ofI mix03 Tryd.func18 ok03_pref03_Clean h
theorem ok03_plaw03_NameTells : cFun Tryd.prog H_plaw03_NameTells Tryd.f5 = some (c_plaw03_NameTells F03) := by kernel_rfl
theorem a03_plaw03_NameTells {xs : List Arg} {rv : RV} {outs : List Blk} (h : (c_plaw03_NameTells F03).gives (ACallI I03 Tryd.prog) xs rv outs) : ACallI I03 Tryd.prog (F03 n_plaw03_NameTells) xs rv outs := acall_ofI mix03 Tryd.func5 ok03_plaw03_NameTells h
theorem ok03_plaw03_NameCleans : cFun Tryd.prog H_plaw03_NameCleans Tryd.f6 = some (c_plaw03_NameCleans F03) := by kernel_rfl
theorem a03_plaw03_NameCleans {xs : List Arg} {rv : RV} {outs : List Blk} (h : (c_plaw03_NameCleans F03).gives (ACallI I03 Tryd.prog) xs rv outs) : ACallI I03 Tryd.prog (F03 n_plaw03_NameCleans) xs rv outs := acall_ofI mix03 Tryd.func6 ok03_plaw03_NameCleans h
theorem ok03_pref03_Split : cFun Tryd.prog H_pref03_Split Tryd.f9 = some (c_pref03_Split F03) := by kernel_rfl
theorem a03_pref03_Split {xs : List Arg} {rv : RV} {outs : List Blk} (h : (c_pref03_Split F03).gives (ACallI I03 Tryd.prog) xs rv outs) : ACallI I03 Tryd.prog (F03 n_pref03_Split) xs rv outs := acall_ofI mix03 Tryd.func9 ok03_pref03_Split h
theorem ok03_pref03_Quote : cFun Tryd.prog H_pref03_Quote Tryd.f11 = some (c_pref03_Quote F03) := by kernel_rfl
theorem a03_pref03_Quote {xs : List Arg} {rv : RV} {outs : List Blk} (h : (c_pref03_Quote F03).gives (ACallI I03 Tryd.prog) xs rv outs) : ACallI I03 Tryd.prog (F03 n_pref03_Quote) xs rv outs := acall_ofI mix03 Tryd.func11 ok03_pref03_Quote h
theorem ok03_plaw03_NameSplits : cFun Tryd.prog H_plaw03_NameSplits Tryd.f3 = some (c_plaw03_NameSplits F03) := by kernel_rfl
theorem a03_plaw03_NameSplits {xs : List Arg} {rv : RV} {outs : List Blk} (h : (c_plaw03_NameSplits F03).gives (ACallI I03 Tryd.prog) xs rv outs) : ACallI I03 Tryd.prog (F03 n_plaw03_NameSplits) xs rv outs := acall_ofI mix03 Tryd.func3 ok03_plaw03_NameSplits h
theorem ok03_plaw03_NameBack : cFun Tryd.prog H_plaw03_NameBack Tryd.f4 = some (c_plaw03_NameBack F03) := by kernel_rfl
theorem a03_plaw03_NameBack {xs : List Arg} {rv : RV} {outs : List Blk} (h : (c_plaw03_NameBack F03).gives (ACallI I03 Tryd.prog) xs rv outs) : ACallI I03 Tryd.prog (F03 n_plaw03_NameBack) xs rv outs := acall_ofI mix03 Tryd.func4 ok03_plaw03_NameBack h
end Go.AR

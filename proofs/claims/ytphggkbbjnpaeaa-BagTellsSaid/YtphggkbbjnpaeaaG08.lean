import Derived.Test.YtphggkbbjnpaeaaG07
set_option linter.all false
/-! All equations of the walk in one word. -/
namespace Go.AR
section
variable {C : CallRel} {d : Option Nat} {wb mr mw : List Nat} {rd : List Opnd} {os : List AOp} {K : Fr → Prop} {m : List (Nat × TV)} {b : List (Nat × Blk)}
theorem w_cp  : wpOp C d wb rd mr mw .cp os K ⟨m, b⟩ ↔ resWp C (sem .cp d mr mw (rd.map (·.ev m)) (mr.map (get b)) (mw.map (get b))) d wb mw os K m b := wpOp_sem rfl
theorem w_nils {c : Nat} : wpOp C d wb rd mr mw (.nils c) os K ⟨m, b⟩ ↔ resWp C (sem (.nils c) d mr mw (rd.map (·.ev m)) (mr.map (get b)) (mw.map (get b))) d wb mw os K m b := wpOp_sem rfl
theorem w_mv  : wpOp C d wb rd mr mw .mv os K ⟨m, b⟩ ↔ resWp C (sem .mv d mr mw (rd.map (·.ev m)) (mr.map (get b)) (mw.map (get b))) d wb mw os K m b := wpOp_sem rfl
theorem w_pick  : wpOp C d wb rd mr mw .pick os K ⟨m, b⟩ ↔ resWp C (sem .pick d mr mw (rd.map (·.ev m)) (mr.map (get b)) (mw.map (get b))) d wb mw os K m b := wpOp_sem rfl
theorem w_alloc {zs : List TV} : wpOp C d wb rd mr mw (.alloc zs) os K ⟨m, b⟩ ↔ resWp C (sem (.alloc zs) d mr mw (rd.map (·.ev m)) (mr.map (get b)) (mw.map (get b))) d wb mw os K m b := wpOp_sem rfl
theorem w_alloct {e : TypeId} {zs : List TV} : wpOp C d wb rd mr mw (.alloct e zs) os K ⟨m, b⟩ ↔ resWp C (sem (.alloct e zs) d mr mw (rd.map (·.ev m)) (mr.map (get b)) (mw.map (get b))) d wb mw os K m b := wpOp_sem rfl
theorem w_box  : wpOp C d wb rd mr mw .box os K ⟨m, b⟩ ↔ resWp C (sem .box d mr mw (rd.map (·.ev m)) (mr.map (get b)) (mw.map (get b))) d wb mw os K m b := wpOp_sem rfl
theorem w_build {zs : List PV} {pl : List (Nat × Nat)} : wpOp C d wb rd mr mw (.build zs pl) os K ⟨m, b⟩ ↔ resWp C (sem (.build zs pl) d mr mw (rd.map (·.ev m)) (mr.map (get b)) (mw.map (get b))) d wb mw os K m b := wpOp_sem rfl
theorem w_bslice {c : Nat} {zs : List PV} {pl : List (Nat × Nat)} : wpOp C d wb rd mr mw (.bslice c zs pl) os K ⟨m, b⟩ ↔ resWp C (sem (.bslice c zs pl) d mr mw (rd.map (·.ev m)) (mr.map (get b)) (mw.map (get b))) d wb mw os K m b := wpOp_sem rfl
theorem w_load {agg : Bool} {n : Nat} : wpOp C d wb rd mr mw (.load agg n) os K ⟨m, b⟩ ↔ resWp C (sem (.load agg n) d mr mw (rd.map (·.ev m)) (mr.map (get b)) (mw.map (get b))) d wb mw os K m b := wpOp_sem rfl
theorem w_ltake  : wpOp C d wb rd mr mw .ltake os K ⟨m, b⟩ ↔ resWp C (sem .ltake d mr mw (rd.map (·.ev m)) (mr.map (get b)) (mw.map (get b))) d wb mw os K m b := wpOp_sem rfl
theorem w_store {agg : Bool} {n : Nat} : wpOp C d wb rd mr mw (.store agg n) os K ⟨m, b⟩ ↔ resWp C (sem (.store agg n) d mr mw (rd.map (·.ev m)) (mr.map (get b)) (mw.map (get b))) d wb mw os K m b := wpOp_sem rfl
theorem w_bini {op : BinOp} : wpOp C d wb rd mr mw (.bini op) os K ⟨m, b⟩ ↔ resWp C (sem (.bini op) d mr mw (rd.map (·.ev m)) (mr.map (get b)) (mw.map (get b))) d wb mw os K m b := wpOp_sem rfl
theorem w_bins {op : BinOp} : wpOp C d wb rd mr mw (.bins op) os K ⟨m, b⟩ ↔ resWp C (sem (.bins op) d mr mw (rd.map (·.ev m)) (mr.map (get b)) (mw.map (get b))) d wb mw os K m b := wpOp_sem rfl
theorem w_binb {neq : Bool} : wpOp C d wb rd mr mw (.binb neq) os K ⟨m, b⟩ ↔ resWp C (sem (.binb neq) d mr mw (rd.map (·.ev m)) (mr.map (get b)) (mw.map (get b))) d wb mw os K m b := wpOp_sem rfl
theorem w_eqa {sh : List CK} {neq : Bool} : wpOp C d wb rd mr mw (.eqa sh neq) os K ⟨m, b⟩ ↔ resWp C (sem (.eqa sh neq) d mr mw (rd.map (·.ev m)) (mr.map (get b)) (mw.map (get b))) d wb mw os K m b := wpOp_sem rfl
theorem w_eqn {neq : Bool} : wpOp C d wb rd mr mw (.eqn neq) os K ⟨m, b⟩ ↔ resWp C (sem (.eqn neq) d mr mw (rd.map (·.ev m)) (mr.map (get b)) (mw.map (get b))) d wb mw os K m b := wpOp_sem rfl
theorem w_not  : wpOp C d wb rd mr mw .not os K ⟨m, b⟩ ↔ resWp C (sem .not d mr mw (rd.map (·.ev m)) (mr.map (get b)) (mw.map (get b))) d wb mw os K m b := wpOp_sem rfl
theorem w_unint {op : UnOp} : wpOp C d wb rd mr mw (.unint op) os K ⟨m, b⟩ ↔ resWp C (sem (.unint op) d mr mw (rd.map (·.ev m)) (mr.map (get b)) (mw.map (get b))) d wb mw os K m b := wpOp_sem rfl
theorem w_conv {k : IntKind} : wpOp C d wb rd mr mw (.conv k) os K ⟨m, b⟩ ↔ resWp C (sem (.conv k) d mr mw (rd.map (·.ev m)) (mr.map (get b)) (mw.map (get b))) d wb mw os K m b := wpOp_sem rfl
theorem w_same  : wpOp C d wb rd mr mw .same os K ⟨m, b⟩ ↔ resWp C (sem .same d mr mw (rd.map (·.ev m)) (mr.map (get b)) (mw.map (get b))) d wb mw os K m b := wpOp_sem rfl
theorem w_b2s  : wpOp C d wb rd mr mw .b2s os K ⟨m, b⟩ ↔ resWp C (sem .b2s d mr mw (rd.map (·.ev m)) (mr.map (get b)) (mw.map (get b))) d wb mw os K m b := wpOp_sem rfl
theorem w_faddr {off : Nat} : wpOp C d wb rd mr mw (.faddr off) os K ⟨m, b⟩ ↔ resWp C (sem (.faddr off) d mr mw (rd.map (·.ev m)) (mr.map (get b)) (mw.map (get b))) d wb mw os K m b := wpOp_sem rfl
theorem w_field {off n : Nat} {agg : Bool} : wpOp C d wb rd mr mw (.field off agg n) os K ⟨m, b⟩ ↔ resWp C (sem (.field off agg n) d mr mw (rd.map (·.ev m)) (mr.map (get b)) (mw.map (get b))) d wb mw os K m b := wpOp_sem rfl
theorem w_iaddr {arr : Option Nat} {c : Nat} : wpOp C d wb rd mr mw (.iaddr arr c) os K ⟨m, b⟩ ↔ resWp C (sem (.iaddr arr c) d mr mw (rd.map (·.ev m)) (mr.map (get b)) (mw.map (get b))) d wb mw os K m b := wpOp_sem rfl
theorem w_indexa {len c : Nat} {agg : Bool} : wpOp C d wb rd mr mw (.indexa len agg c) os K ⟨m, b⟩ ↔ resWp C (sem (.indexa len agg c) d mr mw (rd.map (·.ev m)) (mr.map (get b)) (mw.map (get b))) d wb mw os K m b := wpOp_sem rfl
theorem w_indexs  : wpOp C d wb rd mr mw .indexs os K ⟨m, b⟩ ↔ resWp C (sem .indexs d mr mw (rd.map (·.ev m)) (mr.map (get b)) (mw.map (get b))) d wb mw os K m b := wpOp_sem rfl
theorem w_slices {lo hi : Bool} : wpOp C d wb rd mr mw (.slices lo hi) os K ⟨m, b⟩ ↔ resWp C (sem (.slices lo hi) d mr mw (rd.map (·.ev m)) (mr.map (get b)) (mw.map (get b))) d wb mw os K m b := wpOp_sem rfl
theorem w_slice {c : Nat} {lo hi mx : Bool} : wpOp C d wb rd mr mw (.slice c lo hi mx) os K ⟨m, b⟩ ↔ resWp C (sem (.slice c lo hi mx) d mr mw (rd.map (·.ev m)) (mr.map (get b)) (mw.map (get b))) d wb mw os K m b := wpOp_sem rfl
theorem w_slicea {len c : Nat} {lo hi : Bool} : wpOp C d wb rd mr mw (.slicea len c lo hi) os K ⟨m, b⟩ ↔ resWp C (sem (.slicea len c lo hi) d mr mw (rd.map (·.ev m)) (mr.map (get b)) (mw.map (get b))) d wb mw os K m b := wpOp_sem rfl
theorem w_nilck  : wpOp C d wb rd mr mw .nilck os K ⟨m, b⟩ ↔ resWp C (sem .nilck d mr mw (rd.map (·.ev m)) (mr.map (get b)) (mw.map (get b))) d wb mw os K m b := wpOp_sem rfl
theorem w_extract {i : Nat} : wpOp C d wb rd mr mw (.extract i) os K ⟨m, b⟩ ↔ resWp C (sem (.extract i) d mr mw (rd.map (·.ev m)) (mr.map (get b)) (mw.map (get b))) d wb mw os K m b := wpOp_sem rfl
theorem w_len {str : Bool} : wpOp C d wb rd mr mw (.len str) os K ⟨m, b⟩ ↔ resWp C (sem (.len str) d mr mw (rd.map (·.ev m)) (mr.map (get b)) (mw.map (get b))) d wb mw os K m b := wpOp_sem rfl
theorem w_lenc {n : Nat} : wpOp C d wb rd mr mw (.lenc n) os K ⟨m, b⟩ ↔ resWp C (sem (.lenc n) d mr mw (rd.map (·.ev m)) (mr.map (get b)) (mw.map (get b))) d wb mw os K m b := wpOp_sem rfl
theorem w_maxi  : wpOp C d wb rd mr mw .maxi os K ⟨m, b⟩ ↔ resWp C (sem .maxi d mr mw (rd.map (·.ev m)) (mr.map (get b)) (mw.map (get b))) d wb mw os K m b := wpOp_sem rfl
theorem w_mini  : wpOp C d wb rd mr mw .mini os K ⟨m, b⟩ ↔ resWp C (sem .mini d mr mw (rd.map (·.ev m)) (mr.map (get b)) (mw.map (get b))) d wb mw os K m b := wpOp_sem rfl
theorem w_append {c bytes : Nat} : wpOp C d wb rd mr mw (.append c bytes) os K ⟨m, b⟩ ↔ resWp C (sem (.append c bytes) d mr mw (rd.map (·.ev m)) (mr.map (get b)) (mw.map (get b))) d wb mw os K m b := wpOp_sem rfl
theorem w_appendT {e c bytes : Nat} : wpOp C d wb rd mr mw (.appendT e c bytes) os K ⟨m, b⟩ ↔ resWp C (sem (.appendT e c bytes) d mr mw (rd.map (·.ev m)) (mr.map (get b)) (mw.map (get b))) d wb mw os K m b := wpOp_sem rfl
theorem w_range  : wpOp C d wb rd mr mw .range os K ⟨m, b⟩ ↔ resWp C (sem .range d mr mw (rd.map (·.ev m)) (mr.map (get b)) (mw.map (get b))) d wb mw os K m b := wpOp_sem rfl
theorem w_next  : wpOp C d wb rd mr mw .next os K ⟨m, b⟩ ↔ resWp C (sem .next d mr mw (rd.map (·.ev m)) (mr.map (get b)) (mw.map (get b))) d wb mw os K m b := wpOp_sem rfl
theorem w_pub  : wpOp C d wb rd mr mw .pub os K ⟨m, b⟩ ↔ resWp C (sem .pub d mr mw (rd.map (·.ev m)) (mr.map (get b)) (mw.map (get b))) d wb mw os K m b := wpOp_sem rfl
theorem w_pubv  : wpOp C d wb rd mr mw .pubv os K ⟨m, b⟩ ↔ resWp C (sem .pubv d mr mw (rd.map (·.ev m)) (mr.map (get b)) (mw.map (get b))) d wb mw os K m b := wpOp_sem rfl
theorem w_nilsx {c : Nat} : wpOp C d wb rd mr mw (.nilsx c) os K ⟨m, b⟩ ↔ resWp C (sem (.nilsx c) d mr mw (rd.map (·.ev m)) (mr.map (get b)) (mw.map (get b))) d wb mw os K m b := wpOp_sem rfl
theorem w_bslicex {c : Nat} {zs : List PV} {pl : List (Nat × Nat)} : wpOp C d wb rd mr mw (.bslicex c zs pl) os K ⟨m, b⟩ ↔ resWp C (sem (.bslicex c zs pl) d mr mw (rd.map (·.ev m)) (mr.map (get b)) (mw.map (get b))) d wb mw os K m b := wpOp_sem rfl
theorem w_appendx {c bytes : Nat} : wpOp C d wb rd mr mw (.appendx c bytes) os K ⟨m, b⟩ ↔ resWp C (sem (.appendx c bytes) d mr mw (rd.map (·.ev m)) (mr.map (get b)) (mw.map (get b))) d wb mw os K m b := wpOp_sem rfl
theorem w_openx  : wpOp C d wb rd mr mw .openx os K ⟨m, b⟩ ↔ resWp C (sem .openx d mr mw (rd.map (·.ev m)) (mr.map (get b)) (mw.map (get b))) d wb mw os K m b := wpOp_sem rfl
theorem w_eqsl {neq : Bool} : wpOp C d wb rd mr mw (.eqsl neq) os K ⟨m, b⟩ ↔ resWp C (sem (.eqsl neq) d mr mw (rd.map (·.ev m)) (mr.map (get b)) (mw.map (get b))) d wb mw os K m b := wpOp_sem rfl
theorem w_r2s  : wpOp C d wb rd mr mw .r2s os K ⟨m, b⟩ ↔ resWp C (sem .r2s d mr mw (rd.map (·.ev m)) (mr.map (get b)) (mw.map (get b))) d wb mw os K m b := wpOp_sem rfl
theorem w_junk  : wpOp C d wb rd mr mw .junk os K ⟨m, b⟩ ↔ resWp C (sem .junk d mr mw (rd.map (·.ev m)) (mr.map (get b)) (mw.map (get b))) d wb mw os K m b := wpOp_sem rfl
theorem w_buildt {zs : List PV} {pl : List (Nat × Nat)} : wpOp C d wb rd mr mw (.buildt zs pl) os K ⟨m, b⟩ ↔ resWp C (sem (.buildt zs pl) d mr mw (rd.map (·.ev m)) (mr.map (get b)) (mw.map (get b))) d wb mw os K m b := wpOp_sem rfl
theorem w_mkmap  : wpOp C d wb rd mr mw .mkmap os K ⟨m, b⟩ ↔ resWp C (sem .mkmap d mr mw (rd.map (·.ev m)) (mr.map (get b)) (mw.map (get b))) d wb mw os K m b := wpOp_sem rfl
theorem w_mapup {sh : List CK} : wpOp C d wb rd mr mw (.mapup sh) os K ⟨m, b⟩ ↔ resWp C (sem (.mapup sh) d mr mw (rd.map (·.ev m)) (mr.map (get b)) (mw.map (get b))) d wb mw os K m b := wpOp_sem rfl
theorem w_lookup {sh : List CK} {z : PV} {ok : Bool} : wpOp C d wb rd mr mw (.lookup sh z ok) os K ⟨m, b⟩ ↔ resWp C (sem (.lookup sh z ok) d mr mw (rd.map (·.ev m)) (mr.map (get b)) (mw.map (get b))) d wb mw os K m b := wpOp_sem rfl
end
theorem walk0 : type_of% (And.intro @wpOps_nil (And.intro @wpOps_plain (And.intro @wpOps_guard (And.intro @guard_tt (And.intro @guard_ff (And.intro @guard_tf (And.intro @guard_ft (And.intro @guard_tup (And.intro @wpOp_call (And.intro @wpOp_callx (And.intro @wpOp_callb (And.intro @callArgsB_fn (And.intro @callMkB_some (And.intro @KCallB_val (And.intro @mkB_nil (And.intro @consB_some (And.intro @mkB_val (And.intro @mkB_own (And.intro @mkB_exc (And.intro @bare_int (And.intro @bare_bool (And.intro @bare_ib (And.intro @givWp_t (And.intro @giv_nil (And.intro @giv_t (And.intro @giv_c (And.intro @givT_exc (And.intro @givT_val (And.intro @givT_own (And.intro @givT_lp (And.intro @KCall_exc (And.intro @callArgsX_fn (And.intro @callMkX_some (And.intro @KCallX_val (And.intro @KCallX_own (And.intro @KCallX_exc (And.intro @cond_any (And.intro @awp_close (And.intro @awp_opn (And.intro @openW_exc (And.intro @mkArgsX_nil (And.intro @mkArgsX_val (And.intro @mkArgsX_own (And.intro @mkArgsX_exc (And.intro @mkArgsX_lp (And.intro @clear_xs (And.intro @clear_mp (And.intro @clear_exc (And.intro @clear_anyb (@clear_tag)))))))))))))))))))))))))))))))))))))))))))))))))) :=
  And.intro @wpOps_nil (And.intro @wpOps_plain (And.intro @wpOps_guard (And.intro @guard_tt (And.intro @guard_ff (And.intro @guard_tf (And.intro @guard_ft (And.intro @guard_tup (And.intro @wpOp_call (And.intro @wpOp_callx (And.intro @wpOp_callb (And.intro @callArgsB_fn (And.intro @callMkB_some (And.intro @KCallB_val (And.intro @mkB_nil (And.intro @consB_some (And.intro @mkB_val (And.intro @mkB_own (And.intro @mkB_exc (And.intro @bare_int (And.intro @bare_bool (And.intro @bare_ib (And.intro @givWp_t (And.intro @giv_nil (And.intro @giv_t (And.intro @giv_c (And.intro @givT_exc (And.intro @givT_val (And.intro @givT_own (And.intro @givT_lp (And.intro @KCall_exc (And.intro @callArgsX_fn (And.intro @callMkX_some (And.intro @KCallX_val (And.intro @KCallX_own (And.intro @KCallX_exc (And.intro @cond_any (And.intro @awp_close (And.intro @awp_opn (And.intro @openW_exc (And.intro @mkArgsX_nil (And.intro @mkArgsX_val (And.intro @mkArgsX_own (And.intro @mkArgsX_exc (And.intro @mkArgsX_lp (And.intro @clear_xs (And.intro @clear_mp (And.intro @clear_exc (And.intro @clear_anyb (@clear_tag)))))))))))))))))))))))))))))))))))))))))))))))))
theorem walk1 : type_of% (And.intro @ro_exc (And.intro @ro_xs (And.intro @ro_mp (And.intro @ro_tag (And.intro @ro_anyb (And.intro @retTV_exc (And.intro @retTV_mp (And.intro @outsA_x (And.intro @initA_x (And.intro @x_range (And.intro @x_next (And.intro @x_pub (And.intro @x_pubv (And.intro @x_nilsx (And.intro @x_openx (And.intro @x_openx0 (And.intro @x_eqsl_nil (And.intro @x_eqsl_cons (And.intro @x_eqsl_own (And.intro @x_bslicex (And.intro @x_appendx (And.intro @x_appendx_own (And.intro @x_iaddr_xs (And.intro @x_len_exc (And.intro @x_len_xs (And.intro @res_some (And.intro @callArgs_fn (And.intro @callMk_some (And.intro @KCall_val (And.intro @KCall_own (And.intro @KCall_new (And.intro @KCall_newm (And.intro @put_some (And.intro @put_none (And.intro @awp_skip (And.intro @awp_reg (And.intro @awp_seq (And.intro @awp_cond (And.intro @awp_block (And.intro @awp_exit (And.intro @awp_ret (And.intro @cond_t (And.intro @cond_f (And.intro @Qseq_n (And.intro @Qseq_e (And.intro @Qseq_r (And.intro @Qblock_n (And.intro @Qblock_r (And.intro @Qblock_e (@Qloop_n)))))))))))))))))))))))))))))))))))))))))))))))))) :=
  And.intro @ro_exc (And.intro @ro_xs (And.intro @ro_mp (And.intro @ro_tag (And.intro @ro_anyb (And.intro @retTV_exc (And.intro @retTV_mp (And.intro @outsA_x (And.intro @initA_x (And.intro @x_range (And.intro @x_next (And.intro @x_pub (And.intro @x_pubv (And.intro @x_nilsx (And.intro @x_openx (And.intro @x_openx0 (And.intro @x_eqsl_nil (And.intro @x_eqsl_cons (And.intro @x_eqsl_own (And.intro @x_bslicex (And.intro @x_appendx (And.intro @x_appendx_own (And.intro @x_iaddr_xs (And.intro @x_len_exc (And.intro @x_len_xs (And.intro @res_some (And.intro @callArgs_fn (And.intro @callMk_some (And.intro @KCall_val (And.intro @KCall_own (And.intro @KCall_new (And.intro @KCall_newm (And.intro @put_some (And.intro @put_none (And.intro @awp_skip (And.intro @awp_reg (And.intro @awp_seq (And.intro @awp_cond (And.intro @awp_block (And.intro @awp_exit (And.intro @awp_ret (And.intro @cond_t (And.intro @cond_f (And.intro @Qseq_n (And.intro @Qseq_e (And.intro @Qseq_r (And.intro @Qblock_n (And.intro @Qblock_r (And.intro @Qblock_e (@Qloop_n)))))))))))))))))))))))))))))))))))))))))))))))))
theorem walk2 : type_of% (And.intro @Qloop_e (And.intro @Qloop_r (And.intro @Qround_n (And.intro @Qround_e (And.intro @Qround_r (And.intro @Kreg_eq (And.intro @killWp_t (And.intro @has_hit (And.intro @has_miss (And.intro @has_nil (And.intro @delB_nil (And.intro @delB_in (And.intro @delB_out (And.intro @delB_e (And.intro @del_nil (And.intro @del_in (And.intro @del_out (And.intro @del_e (And.intro @clear_nil (And.intro @clear_e (And.intro @clear_lp (And.intro @clear_val (And.intro @clear_own (And.intro @clear_rp (And.intro @clear_undef (And.intro @clear_self (And.intro @get_hit (And.intro @get_miss (And.intro @get_e (And.intro @tget_hit (And.intro @tget_miss (And.intro @tget_e (And.intro @set_e (And.intro @set_lt (And.intro @set_hit (And.intro @set_gt (And.intro @ev_t (And.intro @ev_c (And.intro @setAllN (And.intro @setAllC (And.intro @ro_val (And.intro @ro_own (And.intro @ro_lp (And.intro @ro_rp (And.intro @ro_undef (And.intro @pv_val (And.intro @pv_tag (And.intro @pv_own (And.intro @mkArgs_nil (@mkArgs_val)))))))))))))))))))))))))))))))))))))))))))))))))) :=
  And.intro @Qloop_e (And.intro @Qloop_r (And.intro @Qround_n (And.intro @Qround_e (And.intro @Qround_r (And.intro @Kreg_eq (And.intro @killWp_t (And.intro @has_hit (And.intro @has_miss (And.intro @has_nil (And.intro @delB_nil (And.intro @delB_in (And.intro @delB_out (And.intro @delB_e (And.intro @del_nil (And.intro @del_in (And.intro @del_out (And.intro @del_e (And.intro @clear_nil (And.intro @clear_e (And.intro @clear_lp (And.intro @clear_val (And.intro @clear_own (And.intro @clear_rp (And.intro @clear_undef (And.intro @clear_self (And.intro @get_hit (And.intro @get_miss (And.intro @get_e (And.intro @tget_hit (And.intro @tget_miss (And.intro @tget_e (And.intro @set_e (And.intro @set_lt (And.intro @set_hit (And.intro @set_gt (And.intro @ev_t (And.intro @ev_c (And.intro @setAllN (And.intro @setAllC (And.intro @ro_val (And.intro @ro_own (And.intro @ro_lp (And.intro @ro_rp (And.intro @ro_undef (And.intro @pv_val (And.intro @pv_tag (And.intro @pv_own (And.intro @mkArgs_nil (@mkArgs_val)))))))))))))))))))))))))))))))))))))))))))))))))
theorem walk3 : type_of% (And.intro @mkArgs_own (And.intro @mkArgs_lp (And.intro @QRet_n (And.intro @QRet_r (And.intro @x_cp (And.intro @x_nils (And.intro @x_mv (And.intro @x_pick (And.intro @x_alloc (And.intro @x_alloct (And.intro @x_box (And.intro @cs_agg (And.intro @cs_int (And.intro @cs_bool (And.intro @cs_str (And.intro @cs_sl (And.intro @cs_fn (And.intro @cs_nilp (And.intro @cs_nilif (And.intro @x_build (And.intro @x_buildt (And.intro @x_junk (And.intro @x_store_tag (And.intro @x_bslice (And.intro @fill_nil (And.intro @fill_cons (And.intro @lay_nil (And.intro @lay_cons (And.intro @chunks_0 (And.intro @chunks_s (And.intro @takeTV_own (And.intro @x_load_c (And.intro @x_load_f (And.intro @x_load_r (And.intro @x_loada_c (And.intro @x_loada_f (And.intro @x_loada_r (And.intro @x_ltake (And.intro @x_store (And.intro @x_store_own (And.intro @x_storea (And.intro @x_add (And.intro @x_sub (And.intro @x_mul (And.intro @x_quo (And.intro @x_rem (And.intro @x_and (And.intro @x_or (And.intro @x_xor (@x_shl)))))))))))))))))))))))))))))))))))))))))))))))))) :=
  And.intro @mkArgs_own (And.intro @mkArgs_lp (And.intro @QRet_n (And.intro @QRet_r (And.intro @x_cp (And.intro @x_nils (And.intro @x_mv (And.intro @x_pick (And.intro @x_alloc (And.intro @x_alloct (And.intro @x_box (And.intro @cs_agg (And.intro @cs_int (And.intro @cs_bool (And.intro @cs_str (And.intro @cs_sl (And.intro @cs_fn (And.intro @cs_nilp (And.intro @cs_nilif (And.intro @x_build (And.intro @x_buildt (And.intro @x_junk (And.intro @x_store_tag (And.intro @x_bslice (And.intro @fill_nil (And.intro @fill_cons (And.intro @lay_nil (And.intro @lay_cons (And.intro @chunks_0 (And.intro @chunks_s (And.intro @takeTV_own (And.intro @x_load_c (And.intro @x_load_f (And.intro @x_load_r (And.intro @x_loada_c (And.intro @x_loada_f (And.intro @x_loada_r (And.intro @x_ltake (And.intro @x_store (And.intro @x_store_own (And.intro @x_storea (And.intro @x_add (And.intro @x_sub (And.intro @x_mul (And.intro @x_quo (And.intro @x_rem (And.intro @x_and (And.intro @x_or (And.intro @x_xor (@x_shl)))))))))))))))))))))))))))))))))))))))))))))))))
theorem walk4 : type_of% (And.intro @x_shr (And.intro @x_eql (And.intro @x_neq (And.intro @x_lss (And.intro @x_leq (And.intro @x_gtr (And.intro @x_geq (And.intro @x_bins (And.intro @bins_eql (And.intro @bins_neq (And.intro @bins_lss (And.intro @bins_leq (And.intro @bins_gtr (And.intro @bins_geq (And.intro @x_binb (And.intro @x_binbn (And.intro @x_eqa (And.intro @x_eqan (And.intro @x_eqn_nil (And.intro @x_eqn_lp (And.intro @x_eqn_rp (And.intro @x_not (And.intro @x_neg (And.intro @x_conv (And.intro @x_same (And.intro @x_b2s (And.intro @x_b2s_own (And.intro @x_r2s (And.intro @x_r2s_own (And.intro @x_mkmap (And.intro @x_mapup (And.intro @x_lookup (And.intro @x_lookupok (And.intro @x_faddr_lp (And.intro @x_faddr_rp (And.intro @x_field (And.intro @x_fielda (And.intro @x_iaddr_lp (And.intro @x_iaddr_rp (And.intro @x_iaddr_sl (And.intro @x_iaddr_own (And.intro @x_indexa (And.intro @x_indexaa (And.intro @x_indexs (And.intro @x_slices_h (And.intro @x_slices_l (And.intro @x_slices_lh (And.intro @x_slice_h (And.intro @x_slice_l (@x_slice_lh)))))))))))))))))))))))))))))))))))))))))))))))))) :=
  And.intro @x_shr (And.intro @x_eql (And.intro @x_neq (And.intro @x_lss (And.intro @x_leq (And.intro @x_gtr (And.intro @x_geq (And.intro @x_bins (And.intro @bins_eql (And.intro @bins_neq (And.intro @bins_lss (And.intro @bins_leq (And.intro @bins_gtr (And.intro @bins_geq (And.intro @x_binb (And.intro @x_binbn (And.intro @x_eqa (And.intro @x_eqan (And.intro @x_eqn_nil (And.intro @x_eqn_lp (And.intro @x_eqn_rp (And.intro @x_not (And.intro @x_neg (And.intro @x_conv (And.intro @x_same (And.intro @x_b2s (And.intro @x_b2s_own (And.intro @x_r2s (And.intro @x_r2s_own (And.intro @x_mkmap (And.intro @x_mapup (And.intro @x_lookup (And.intro @x_lookupok (And.intro @x_faddr_lp (And.intro @x_faddr_rp (And.intro @x_field (And.intro @x_fielda (And.intro @x_iaddr_lp (And.intro @x_iaddr_rp (And.intro @x_iaddr_sl (And.intro @x_iaddr_own (And.intro @x_indexa (And.intro @x_indexaa (And.intro @x_indexs (And.intro @x_slices_h (And.intro @x_slices_l (And.intro @x_slices_lh (And.intro @x_slice_h (And.intro @x_slice_l (@x_slice_lh)))))))))))))))))))))))))))))))))))))))))))))))))
theorem walk5 : type_of% (And.intro @x_slice_own (And.intro @x_slicea_c (And.intro @x_slicea_f (And.intro @x_nilck_lp (And.intro @x_nilck_rp (And.intro @x_nilck_fn (And.intro @x_extract (And.intro @x_lens (And.intro @x_len (And.intro @x_len_own (And.intro @x_lenc (And.intro @x_max (And.intro @x_min (And.intro @x_append (And.intro @x_append_own (And.intro @x_appendT (And.intro @x_appendT_own (And.intro @layT_all (And.intro @set_ints (And.intro @isInts_nil (And.intro @isInts_i (And.intro @isInts_rep (And.intro @eqCells_ints (And.intro @pvs_nil (And.intro @pvs_vals (And.intro @pvs_cons (And.intro @initA_nil (And.intro @initA_v (And.intro @initA_r (And.intro @retR_tmp (And.intro @retTV_val (And.intro @retTV_own (And.intro @retTV_lp (And.intro @retR_cell (And.intro @resA_cell (And.intro @cellTV_a (And.intro @cellTV_o (And.intro @blkC_c (And.intro @retR_nil (And.intro @retR_two (And.intro @ressA_nil (And.intro @ressA_cons (And.intro @resA_tmp (And.intro @outsA_nil (And.intro @outsA_v (And.intro @outsA_r (And.intro @one_int (And.intro @one_bool (And.intro @one_str (@one_sl)))))))))))))))))))))))))))))))))))))))))))))))))) :=
  And.intro @x_slice_own (And.intro @x_slicea_c (And.intro @x_slicea_f (And.intro @x_nilck_lp (And.intro @x_nilck_rp (And.intro @x_nilck_fn (And.intro @x_extract (And.intro @x_lens (And.intro @x_len (And.intro @x_len_own (And.intro @x_lenc (And.intro @x_max (And.intro @x_min (And.intro @x_append (And.intro @x_append_own (And.intro @x_appendT (And.intro @x_appendT_own (And.intro @layT_all (And.intro @set_ints (And.intro @isInts_nil (And.intro @isInts_i (And.intro @isInts_rep (And.intro @eqCells_ints (And.intro @pvs_nil (And.intro @pvs_vals (And.intro @pvs_cons (And.intro @initA_nil (And.intro @initA_v (And.intro @initA_r (And.intro @retR_tmp (And.intro @retTV_val (And.intro @retTV_own (And.intro @retTV_lp (And.intro @retR_cell (And.intro @resA_cell (And.intro @cellTV_a (And.intro @cellTV_o (And.intro @blkC_c (And.intro @retR_nil (And.intro @retR_two (And.intro @ressA_nil (And.intro @ressA_cons (And.intro @resA_tmp (And.intro @outsA_nil (And.intro @outsA_v (And.intro @outsA_r (And.intro @one_int (And.intro @one_bool (And.intro @one_str (@one_sl)))))))))))))))))))))))))))))))))))))))))))))))))
theorem walk6 : type_of% (And.intro @one_nilp (And.intro @w_cp (And.intro @w_nils (And.intro @w_mv (And.intro @w_pick (And.intro @w_alloc (And.intro @w_alloct (And.intro @w_box (And.intro @w_build (And.intro @w_bslice (And.intro @w_load (And.intro @w_ltake (And.intro @w_store (And.intro @w_bini (And.intro @w_bins (And.intro @w_binb (And.intro @w_eqa (And.intro @w_eqn (And.intro @w_not (And.intro @w_unint (And.intro @w_conv (And.intro @w_same (And.intro @w_b2s (And.intro @w_faddr (And.intro @w_field (And.intro @w_iaddr (And.intro @w_indexa (And.intro @w_indexs (And.intro @w_slices (And.intro @w_slice (And.intro @w_slicea (And.intro @w_nilck (And.intro @w_extract (And.intro @w_len (And.intro @w_lenc (And.intro @w_maxi (And.intro @w_mini (And.intro @w_append (And.intro @w_appendT (And.intro @w_range (And.intro @w_next (And.intro @w_pub (And.intro @w_pubv (And.intro @w_nilsx (And.intro @w_bslicex (And.intro @w_appendx (And.intro @w_openx (And.intro @w_eqsl (And.intro @w_r2s (@w_junk)))))))))))))))))))))))))))))))))))))))))))))))))) :=
  And.intro @one_nilp (And.intro @w_cp (And.intro @w_nils (And.intro @w_mv (And.intro @w_pick (And.intro @w_alloc (And.intro @w_alloct (And.intro @w_box (And.intro @w_build (And.intro @w_bslice (And.intro @w_load (And.intro @w_ltake (And.intro @w_store (And.intro @w_bini (And.intro @w_bins (And.intro @w_binb (And.intro @w_eqa (And.intro @w_eqn (And.intro @w_not (And.intro @w_unint (And.intro @w_conv (And.intro @w_same (And.intro @w_b2s (And.intro @w_faddr (And.intro @w_field (And.intro @w_iaddr (And.intro @w_indexa (And.intro @w_indexs (And.intro @w_slices (And.intro @w_slice (And.intro @w_slicea (And.intro @w_nilck (And.intro @w_extract (And.intro @w_len (And.intro @w_lenc (And.intro @w_maxi (And.intro @w_mini (And.intro @w_append (And.intro @w_appendT (And.intro @w_range (And.intro @w_next (And.intro @w_pub (And.intro @w_pubv (And.intro @w_nilsx (And.intro @w_bslicex (And.intro @w_appendx (And.intro @w_openx (And.intro @w_eqsl (And.intro @w_r2s (@w_junk)))))))))))))))))))))))))))))))))))))))))))))))))
theorem walk7 : type_of% (And.intro @w_buildt (And.intro @w_mkmap (And.intro @w_mapup (And.intro @w_lookup (And.intro @List.map_cons.{0,0} (And.intro @List.map_nil.{0,0} (And.intro @List.take_zero.{0} (And.intro @List.take_nil.{0} (And.intro @List.drop_zero.{0} (And.intro @List.drop_nil.{0} (And.intro @List.length_cons.{0} (And.intro @List.length_nil.{0} (And.intro @List.getElem?_cons_zero.{0} (And.intro @List.getElem?_cons_succ.{0} (And.intro @List.getElem?_nil.{0} (And.intro @Nat.zero_add (And.intro @Option.map_some.{0,0} (And.intro @Option.map_none.{0,0} (And.intro @Bool.not_true (And.intro @Bool.not_false (And.intro @List.headD_cons.{0} (And.intro @true_and (And.intro @and_true (And.intro @Int.toNat_natCast (And.intro @Nat.mul_one (And.intro @Nat.add_zero (And.intro @List.length_map.{0,0} (And.intro @Option.bind_some.{0,0} (And.intro @Option.bind_none.{0,0} (And.intro @List.set_cons_zero.{0} (And.intro @List.set_cons_succ.{0} (And.intro @List.take_succ_cons.{0} (And.intro @List.drop_succ_cons.{0} (And.intro @Bool.true_eq_false (And.intro @Bool.false_eq_true (And.intro @Int.natCast_nonneg (And.intro @Int.le_refl (And.intro @Int.cast_ofNat_Int (And.intro decide_true (And.intro decide_false (And.intro not_false_eq_true (And.intro not_true_eq_false (And.intro @List.take_of_length_le.{0} (And.intro @List.getElem?_map.{0,0} (And.intro @Nat.le_refl (And.intro @List.length_set.{0} (And.intro @List.length_append.{0} (And.intro @List.length_replicate.{0} (And.intro @List.length_zipWith.{0,0,0} (@Nat.min_self)))))))))))))))))))))))))))))))))))))))))))))))))) :=
  And.intro @w_buildt (And.intro @w_mkmap (And.intro @w_mapup (And.intro @w_lookup (And.intro @List.map_cons.{0,0} (And.intro @List.map_nil.{0,0} (And.intro @List.take_zero.{0} (And.intro @List.take_nil.{0} (And.intro @List.drop_zero.{0} (And.intro @List.drop_nil.{0} (And.intro @List.length_cons.{0} (And.intro @List.length_nil.{0} (And.intro @List.getElem?_cons_zero.{0} (And.intro @List.getElem?_cons_succ.{0} (And.intro @List.getElem?_nil.{0} (And.intro @Nat.zero_add (And.intro @Option.map_some.{0,0} (And.intro @Option.map_none.{0,0} (And.intro @Bool.not_true (And.intro @Bool.not_false (And.intro @List.headD_cons.{0} (And.intro @true_and (And.intro @and_true (And.intro @Int.toNat_natCast (And.intro @Nat.mul_one (And.intro @Nat.add_zero (And.intro @List.length_map.{0,0} (And.intro @Option.bind_some.{0,0} (And.intro @Option.bind_none.{0,0} (And.intro @List.set_cons_zero.{0} (And.intro @List.set_cons_succ.{0} (And.intro @List.take_succ_cons.{0} (And.intro @List.drop_succ_cons.{0} (And.intro @Bool.true_eq_false (And.intro @Bool.false_eq_true (And.intro @Int.natCast_nonneg (And.intro @Int.le_refl (And.intro @Int.cast_ofNat_Int (And.intro decide_true (And.intro decide_false (And.intro not_false_eq_true (And.intro not_true_eq_false (And.intro @List.take_of_length_le.{0} (And.intro @List.getElem?_map.{0,0} (And.intro @Nat.le_refl (And.intro @List.length_set.{0} (And.intro @List.length_append.{0} (And.intro @List.length_replicate.{0} (And.intro @List.length_zipWith.{0,0,0} (@Nat.min_self)))))))))))))))))))))))))))))))))))))))))))))))))
theorem walk8 : type_of% (And.intro @Bool.true_and (And.intro @Bool.false_and (And.intro @Bool.and_true (And.intro @Bool.and_false (And.intro @Bool.true_or (And.intro @Bool.false_or (And.intro @Bool.or_true (@Bool.or_false)))))))) :=
  And.intro @Bool.true_and (And.intro @Bool.false_and (And.intro @Bool.and_true (And.intro @Bool.and_false (And.intro @Bool.true_or (And.intro @Bool.false_or (And.intro @Bool.or_true (@Bool.or_false)))))))
/-- The walk. -/
theorem walk : type_of% (And.intro walk0 (And.intro walk1 (And.intro walk2 (And.intro walk3 (And.intro walk4 (And.intro walk5 (And.intro walk6 (And.intro walk7 (walk8))))))))) :=
  And.intro walk0 (And.intro walk1 (And.intro walk2 (And.intro walk3 (And.intro walk4 (And.intro walk5 (And.intro walk6 (And.intro walk7 (walk8))))))))
end Go.AR

/-! What contracts are. -/
namespace Go.AR
abbrev Rel := List Arg → RV → List Blk → Prop
def S_yes (R : Rel) : Prop := R [] (.val (.bool true)) []
end Go.AR

/-! Counts of dots: plain. -/
namespace Go.AR
abbrev Dt := Int × Int
abbrev Ud := Dt × Int
def icmp (x y : Int) : Int := if x < y then -1 else if x > y then 1 else 0
def dcmp (a b : Dt) : Int := if icmp a.1 b.1 ≠ 0 then icmp a.1 b.1 else icmp a.2 b.2
theorem dcmp_cases (a b : Dt) : (dcmp a b = -1 ∧ (a.1 < b.1 ∨ (a.1 = b.1 ∧ a.2 < b.2))) ∨ (dcmp a b = 0 ∧ a = b) ∨ (dcmp a b = 1 ∧ (b.1 < a.1 ∨ (a.1 = b.1 ∧ b.2 < a.2))) := by
  obtain ⟨a1, a2⟩ := a; obtain ⟨b1, b2⟩ := b
  unfold dcmp icmp
  simp only
  by_cases h1 : a1 < b1
  · simp [h1]
  · by_cases h2 : a1 > b1
    · simp [h1, h2]
    · have : a1 = b1 := by omega
      subst this
      by_cases h3 : a2 < b2
      · simp [h3]
      · by_cases h4 : a2 > b2
        · simp [h3, h4]
        · have : a2 = b2 := by omega
          subst this
          simp
theorem dcmp_neg {a b : Dt} : dcmp a b < 0 ↔ (a.1 < b.1 ∨ (a.1 = b.1 ∧ a.2 < b.2)) := by
  rcases dcmp_cases a b with ⟨h, k⟩ | ⟨h, rfl⟩ | ⟨h, k⟩ <;> rw [h] <;> omega
theorem dcmp_zero {a b : Dt} : dcmp a b = 0 ↔ a = b := by
  rcases dcmp_cases a b with ⟨h, k⟩ | ⟨h, rfl⟩ | ⟨h, k⟩ <;> rw [h]
  · constructor
    · intro h; omega
    · rintro rfl; omega
  · simp
  · constructor
    · intro h; omega
    · rintro rfl; omega
theorem dcmp_trans {a b c : Dt} (h : dcmp a b < 0) (k : dcmp b c < 0) : dcmp a c < 0 := by rw [dcmp_neg] at *; omega
theorem dcmp_m1 {a b : Dt} : dcmp a b = -1 ↔ dcmp a b < 0 := by
  rcases dcmp_cases a b with ⟨h, k⟩ | ⟨h, rfl⟩ | ⟨h, k⟩ <;> rw [h] <;> omega
/-- May a dot, a count be? -/
def dotOk (d : Dt) : Bool := decide (0 ≤ d.1) && decide (d.1 < 16) && decide (1 ≤ d.2) && decide (d.2 ≤ 1048576)
def uOk (u : Ud) : Bool := dotOk u.1 && decide (1 ≤ u.2) && decide (u.2 ≤ 64)
def z3 : Ud := ((0, 0), 0)
def okAt (l : List Ud) (j : Nat) : Bool := uOk (l.getD j z3) && (j == 0 || decide (dcmp (l.getD (j - 1) z3).1 (l.getD j z3).1 < 0))
def rightU (l : List Ud) : Bool := (List.range l.length).all (okAt l)
theorem rightU_iff {l : List Ud} : rightU l = true ↔ ∀ j, j < l.length → okAt l j = true := by simp [rightU, List.all_eq_true]
theorem rightU_no {l : List Ud} {j : Nat} (hj : j < l.length) (h : okAt l j = false) : rightU l = false := by
  rw [← Bool.not_eq_true, rightU_iff]
  intro k
  rw [k j hj] at h; cases h
def getU : List Ud → Dt → Int
  | [], _ => 0
  | u :: l, d => if u.1 = d then u.2 else getU l d
theorem getU_at : ∀ {l : List Ud} {d : Dt} {k : Nat}, (∀ j, j < k → (l.getD j z3).1 ≠ d) → k < l.length → (l.getD k z3).1 = d → getU l d = (l.getD k z3).2
  | [], _, _, _, h, _ => by simp at h
  | u :: l, d, 0, _, _, e => by simp at e; simp [getU, e]
  | u :: l, d, k + 1, h, hk, e => by
    have h0 := h 0 (by omega)
    simp at h0
    simp only [getU, if_neg h0]
    have := getU_at (l := l) (d := d) (k := k) (fun j hj => by simpa using h (j + 1) (by omega)) (by simpa using hk) (by simpa using e)
    simpa using this
theorem getU_none : ∀ {l : List Ud} {d : Dt}, (∀ j, j < l.length → (l.getD j z3).1 ≠ d) → getU l d = 0
  | [], _, _ => rfl
  | u :: l, d, h => by
    have h0 := h 0 (by simp)
    simp at h0
    simp only [getU, if_neg h0]
    exact getU_none (fun j hj => by simpa using h (j + 1) (by simpa using hj))
def sortU (l : List Ud) : Prop := ∀ i j, i < j → j < l.length → dcmp (l.getD i z3).1 (l.getD j z3).1 < 0
theorem sort_of_right {l : List Ud} (h : rightU l = true) : sortU l := by
  intro i j hij hj
  induction j with
  | zero => omega
  | succ j ih =>
    have hs : dcmp (l.getD j z3).1 (l.getD (j + 1) z3).1 < 0 := by
      have := rightU_iff.1 h (j + 1) hj
      simp [okAt] at this
      simpa using this.2
    by_cases e : i = j
    · subst e; exact hs
    · exact dcmp_trans (ih (by omega) (by omega)) hs
/-- Where a dot stands, or would. -/
def lowU (l : List Ud) (d : Dt) : Nat := (l.filter fun u => decide (dcmp u.1 d < 0)).length
def hasU (l : List Ud) (d : Dt) : Bool := l.any fun u => decide (u.1 = d)
theorem lowU_of : ∀ {l : List Ud} {d : Dt} {i : Nat}, i ≤ l.length → (∀ k, k < i → dcmp (l.getD k z3).1 d < 0) → (∀ k, i ≤ k → k < l.length → ¬ dcmp (l.getD k z3).1 d < 0) → lowU l d = i
  | [], d, i, h, _, _ => by simp at h; subst h; rfl
  | u :: l, d, 0, _, _, h2 => by
    have h0 := h2 0 (by omega) (by simp)
    simp only [List.getD_cons_zero] at h0
    have := lowU_of (l := l) (d := d) (i := 0) (by omega) (by omega) (fun k _ hk => by simpa using h2 (k + 1) (by omega) (by simpa using hk))
    unfold lowU at this ⊢
    rw [List.filter_cons_of_neg (by simpa using h0)]; exact this
  | u :: l, d, i + 1, hi, h1, h2 => by
    have h0 := h1 0 (by omega)
    simp only [List.getD_cons_zero] at h0
    have := lowU_of (l := l) (d := d) (i := i) (by simpa using hi) (fun k hk => by simpa using h1 (k + 1) (by omega)) (fun k hk hl => by simpa using h2 (k + 1) (by omega) (by simpa using hl))
    unfold lowU at this ⊢
    rw [List.filter_cons_of_pos (by simpa using h0), List.length_cons, this]
theorem hasU_iff {l : List Ud} {d : Dt} : hasU l d = true ↔ ∃ k, k < l.length ∧ (l.getD k z3).1 = d := by
  simp only [hasU, List.any_eq_true, decide_eq_true_eq]
  constructor
  · rintro ⟨u, hu, rfl⟩
    obtain ⟨k, hk, rfl⟩ := List.getElem_of_mem hu
    exact ⟨k, hk, by simp [List.getD_eq_getElem?_getD, hk]⟩
  · rintro ⟨k, hk, e⟩
    refine ⟨l[k], List.getElem_mem hk, ?_⟩
    simpa [List.getD_eq_getElem?_getD, hk] using e
/-- What stands at the place: the dot, just if it is there. -/
theorem hasU_low {l : List Ud} {d : Dt} {i : Nat} (hi : i ≤ l.length) (h1 : ∀ k, k < i → dcmp (l.getD k z3).1 d < 0) (h2 : ∀ k, i ≤ k → k < l.length → ¬ dcmp (l.getD k z3).1 d < 0) (hs : sortU l) :
    hasU l d = (decide (i < l.length) && decide (dcmp (l.getD i z3).1 d = 0)) := by
  rw [Bool.eq_iff_iff, hasU_iff, Bool.and_eq_true, decide_eq_true_eq, decide_eq_true_eq, dcmp_zero]
  constructor
  · rintro ⟨k, hk, e⟩
    have h3 : ¬ k < i := fun h => by have := h1 k h; rw [e] at this; rw [dcmp_neg] at this; omega
    by_cases e2 : k = i
    · subst e2; exact ⟨hk, e⟩
    · have := hs i k (by omega) hk
      rw [e] at this
      exact absurd this (h2 i (Nat.le_refl _) (by omega))
  · rintro ⟨h, e⟩
    exact ⟨i, h, e⟩
end Go.AR

import Derived.Test.YtlhahjlnhkokcaaG21
set_option linter.all false
namespace Go.AR
open Go
section ops
variable {P : Program} {w : World} {G β : Nat → Nat} {ω : Nat → Option Occ} {σ σ' : Fr} {a : Act} {o : Oper} {h : Hint} {gs : Option (Nat × Bool)} {ao : AOp}

theorem list_arr {α : Type} {xs : Array α} {l : List α} (h : xs.toList = l) : xs = l.toArray := by rw [← h]

theorem cOp_sound (hc : cOp P h o gs = some ao) (c : Ctx P w G β ω σ a o ao) (hk : ∀ n b, ao.k ≠ .call n b ∧ ao.k ≠ .callx n b ∧ ao.k ≠ .callb) (hs : semOp ao σ = some σ') : StepOk P w G ω β a o σ σ' := by
  unfold cOp at hc
  split at hc
  · -- move
    rename_i x ho
    split at hc
    · rename_i s hx
      have hxs : x = .tmp s := by cases x <;> simp [cOpnd] at hx; exact congrArg _ hx
      subst hxs
      split at hc
      · split at hc
        · rename_i d hdd
          split at hc
          · cases hc
          · rename_i hne
            exact s_pub (.inl ho) hdd hne (Option.some.inj hc).symm c hs
        · cases hc
      · split at hc
        · split at hc
          · rename_i d hdd
            split at hc
            · cases hc
            · rename_i hne
              exact s_pubv (.inl ho) hdd hne (Option.some.inj hc).symm c hs
          · cases hc
        · split at hc
          · split at hc
            · rename_i d hdd
              split at hc
              · cases hc
              · rename_i hne
                exact s_openx (.inl ho) hdd hne (Option.some.inj hc).symm c hs
            · cases hc
          · split at hc
            · split at hc
              · cases hc
              · rename_i hne
                exact s_mv (.inl ho) (Option.some.inj hc).symm hne c hs
            · exact s_cp (.inl ho) (cOpnd_ok hx) (Option.some.inj hc).symm c hs
    · rename_i n hx
      split at hc
      · exact s_nilsx (.inl ho) hx (Option.some.inj hc).symm c hs
      · split at hc
        · exact s_cp (.inl ho) (cOpnd_ok hx) (Option.some.inj hc).symm c hs
        · exact s_nils (.inl ho) hx (Option.some.inj hc).symm c hs
    · rename_i y _ _ hx
      exact s_cp (.inl ho) (cOpnd_ok hx) (Option.some.inj hc).symm c hs
    · split at hc
      · exact s_junk (.inl ho) (Option.some.inj hc).symm c hs
      · cases hc
  · -- assign
    rename_i x ho
    split at hc
    · rename_i s hx
      have hxs : x = .tmp s := by cases x <;> simp [cOpnd] at hx; exact congrArg _ hx
      subst hxs
      split at hc
      · split at hc
        · rename_i d hdd
          split at hc
          · cases hc
          · rename_i hne
            exact s_pub (.inr ho) hdd hne (Option.some.inj hc).symm c hs
        · cases hc
      · split at hc
        · split at hc
          · rename_i d hdd
            split at hc
            · cases hc
            · rename_i hne
              exact s_pubv (.inr ho) hdd hne (Option.some.inj hc).symm c hs
          · cases hc
        · split at hc
          · split at hc
            · rename_i d hdd
              split at hc
              · cases hc
              · rename_i hne
                exact s_openx (.inr ho) hdd hne (Option.some.inj hc).symm c hs
            · cases hc
          · split at hc
            · cases hc
            · rename_i hne
              exact s_mv (.inr ho) (Option.some.inj hc).symm hne c hs
    · rename_i n hx
      split at hc
      · exact s_nilsx (.inr ho) hx (Option.some.inj hc).symm c hs
      · split at hc
        · exact s_cp (.inr ho) (cOpnd_ok hx) (Option.some.inj hc).symm c hs
        · exact s_nils (.inr ho) hx (Option.some.inj hc).symm c hs
    · rename_i y _ _ hx
      exact s_cp (.inr ho) (cOpnd_ok hx) (Option.some.inj hc).symm c hs
    · split at hc
      · exact s_junk (.inr ho) (Option.some.inj hc).symm c hs
      · cases hc
  · -- pick
    rename_i x y z ho
    split at hc
    · rename_i x' y' z' hx hy hz
      exact s_pick ho (cOpnd_ok hx) (cOpnd_ok hy) (cOpnd_ok hz) (Option.some.inj hc).symm c hs
    · cases hc
  · -- alloc
    rename_i e ho
    split at hc
    · rename_i zs d hz hd
      split at hc
      · exact s_alloct ho hz hd (Option.some.inj hc).symm c hs
      · exact s_alloc ho hz hd (Option.some.inj hc).symm c hs
    · cases hc
  · -- box
    rename_i e x ho
    split at hc
    · rename_i x' d hx hd
      split at hc
      · exact s_boxt ho (cOpnd_ok hx) hd (Option.some.inj hc).symm c hs
      · exact s_box ho (cOpnd_ok hx) hd (Option.some.inj hc).symm c hs
    · cases hc
  · -- build
    rename_i t parts ho
    split at hc
    · rename_i zs xs pl hz hp hg
      split at hc
      · rename_i hpl
        split at hc
        · exact s_buildt ho hz hp hpl (Option.some.inj hc).symm c hs
        · exact s_build ho hz hp hpl (Option.some.inj hc).symm c hs
      · cases hc
    · cases hc
  · -- buildSlice
    rename_i t len parts ho
    split at hc
    · rename_i e hu
      split at hc
      · split at hc
        · rename_i n hn
          split at hc
          · rename_i hb
            obtain ⟨rfl, hps, hd⟩ := hb
            obtain rfl : parts = #[] := Array.eq_empty_of_size_eq_zero hps
            obtain ⟨d, hdd⟩ := Option.ne_none_iff_exists'.1 hd
            exact s_bslice0 ho hu hn hdd (Option.some.inj hc).symm c hs
          · cases hc
        · cases hc
      · split at hc
        · rename_i n zs hn hz
          split at hc
          · rename_i xs pl hp
            split at hc
            · rename_i hb
              split at hc
              · exact s_bslicex ho hu hn hz hp hb.1 (Option.some.inj hc).symm c hb.2 hs
              · exact s_bslice ho hu hn hz hp hb.1 (Option.some.inj hc).symm c hb.2 hs
            · cases hc
          · cases hc
        · cases hc
    · cases hc
  · -- load
    rename_i t x ho
    split at hc
    · rename_i x' g n hx hg hn
      split at hc
      · split at hc
        · rename_i hgf
          obtain ⟨rfl, hd⟩ := hgf
          exact s_ltake ho (cOpnd_ok hx) hg (Option.some.inj hc).symm c hd hs
        · cases hc
      · exact s_load ho (cOpnd_ok hx) hg hn (Option.some.inj hc).symm c hs
    · cases hc
  · -- store
    rename_i t x y ho
    split at hc
    · rename_i x' y' g n hx hy hg hn
      split at hc
      · rename_i hcond
        exact s_store ho (cOpnd_ok hx) (cOpnd_ok hy) hg hn hcond.1 hcond.2 (Option.some.inj hc).symm c hs
      · cases hc
    · cases hc
  · -- nilCheck
    rename_i x ho
    split at hc
    · rename_i x' hx
      exact s_nilck ho (cOpnd_ok hx) (Option.some.inj hc).symm c hs
    · cases hc
  · -- binOp
    rename_i op t x y ty ho
    split at hc
    · rename_i x' y' hx hy
      split at hc
      · exact s_bini ho (cOpnd_ok hx) (cOpnd_ok hy) (Option.some.inj hc).symm c hs
      · exact s_bins ho (cOpnd_ok hx) (cOpnd_ok hy) (Option.some.inj hc).symm c hs
      · rename_i hu
        split at hc
        · exact s_binb (n := false) ho hu rfl (cOpnd_ok hx) (cOpnd_ok hy) (Option.some.inj hc).symm c hs
        · exact s_binb (n := true) ho hu rfl (cOpnd_ok hx) (cOpnd_ok hy) (Option.some.inj hc).symm c hs
        · cases hc
      · rename_i fs hu
        split at hc
        · cases hc
        · rename_i hgt
          have hga : isAggT P t = some true := isAggT_of hu
          split at hc
          · rename_i sh hsh
            exact s_eqa (n := false) ho hga (by simpa using hgt) hsh rfl (cOpnd_ok hx) (cOpnd_ok hy) (Option.some.inj hc).symm c hs
          · rename_i sh hsh
            exact s_eqa (n := true) ho hga (by simpa using hgt) hsh rfl (cOpnd_ok hx) (cOpnd_ok hy) (Option.some.inj hc).symm c hs
          · cases hc
      · rename_i k e hu
        split at hc
        · cases hc
        · rename_i hgt
          have hga : isAggT P t = some true := isAggT_of hu
          split at hc
          · rename_i sh hsh
            exact s_eqa (n := false) ho hga (by simpa using hgt) hsh rfl (cOpnd_ok hx) (cOpnd_ok hy) (Option.some.inj hc).symm c hs
          · rename_i sh hsh
            exact s_eqa (n := true) ho hga (by simpa using hgt) hsh rfl (cOpnd_ok hx) (cOpnd_ok hy) (Option.some.inj hc).symm c hs
          · cases hc
      · rename_i e hu
        split at hc
        · cases hc
        · split at hc
          · exact s_eqn (n := false) ho hu rfl (cOpnd_ok hx) (cOpnd_ok hy) (Option.some.inj hc).symm c hs
          · exact s_eqn (n := true) ho hu rfl (cOpnd_ok hx) (cOpnd_ok hy) (Option.some.inj hc).symm c hs
          · cases hc
      · rename_i e hu
        split at hc
        · exact s_eqsl (n := false) ho hy hu rfl (cOpnd_ok hx) (Option.some.inj hc).symm c hs
        · exact s_eqsl (n := true) ho hy hu rfl (cOpnd_ok hx) (Option.some.inj hc).symm c hs
        · cases hc
      · cases hc
    · cases hc
  · -- unOp
    rename_i op t x ho
    split at hc
    · rename_i x' hx
      split at hc
      · exact s_not ho (cOpnd_ok hx) (Option.some.inj hc).symm c hs
      · exact s_unint ho (.inl rfl) (cOpnd_ok hx) (Option.some.inj hc).symm c hs
      · exact s_unint ho (.inr rfl) (cOpnd_ok hx) (Option.some.inj hc).symm c hs
      · cases hc
    · cases hc
  · -- convert
    rename_i s d x ho
    split at hc
    · rename_i x' hx
      split at hc
      · rename_i k q hu1 hu2
        exact s_conv ho hu1 hu2 (cOpnd_ok hx) (Option.some.inj hc).symm c hs
      · rename_i hu1 hu2
        exact s_same ho hu1 hu2 (cOpnd_ok hx) (Option.some.inj hc).symm c hs
      · rename_i e hu1 hu2
        split at hc
        · rename_i he
          exact s_b2s ho hu1 he hu2 (cOpnd_ok hx) (Option.some.inj hc).symm c hs
        · rename_i he
          exact s_r2s ho hu1 he hu2 (cOpnd_ok hx) (Option.some.inj hc).symm c hs
        · cases hc
      · cases hc
    · cases hc
  · -- slice
    rename_i t x lo hi mx ho
    split at hc
    · rename_i x' ys hx hys
      split at hc
      · rename_i hu
        split at hc
        · rename_i hmx
          have : mx = none := by simpa using hmx
          subst this
          exact s_slices ho hu (cOpnd_ok hx) (by simpa using hys) (Option.some.inj hc).symm c hs
        · cases hc
      · rename_i e hu
        split at hc
        · rename_i n hn
          split at hc
          · rename_i hmx
            have : mx = none := by simpa using hmx
            subst this
            exact s_slice ho hu hn (cOpnd_ok hx) (by simpa using hys) (Option.some.inj hc).symm c hs
          · cases hc
        · cases hc
      · rename_i k e hu
        split at hc
        · rename_i n hn
          split at hc
          · rename_i hmx
            have : mx = none := by simpa using hmx.1
            subst this
            exact s_slicea ho hu hn hmx.2 (cOpnd_ok hx) (by simpa using hys) (Option.some.inj hc).symm c hs
          · cases hc
        · cases hc
      · cases hc
    · cases hc
  · -- fieldAddr
    rename_i t x f ho
    split at hc
    · rename_i x' fs hx hu
      split at hc
      · rename_i fd hf
        split at hc
        · cases hc
        · rename_i n h0 hn
          exact s_faddr ho hu hf hn h0 (cOpnd_ok hx) (Option.some.inj hc).symm c hs
        · cases hc
      · cases hc
    · cases hc
  · -- field
    rename_i t x f ho
    split at hc
    · rename_i x' fs hx hu
      split at hc
      · rename_i fd hf
        split at hc
        · rename_i n g hn hg
          exact s_field ho hu hf hn hg (cOpnd_ok hx) (Option.some.inj hc).symm c hs
        · cases hc
      · cases hc
    · cases hc
  · -- indexAddr
    rename_i t x i ho
    split at hc
    · rename_i x' i' hx hi
      split at hc
      · rename_i n e hu
        split at hc
        · rename_i k hn
          split at hc
          · exact s_iaddra ho hu hn (cOpnd_ok hx) (cOpnd_ok hi) (Option.some.inj hc).symm c hs
          · cases hc
        · cases hc
      · rename_i e hu
        split at hc
        · rename_i k hn
          split at hc
          · exact s_iaddrs ho hu hn (cOpnd_ok hx) (cOpnd_ok hi) (Option.some.inj hc).symm c hs
          · cases hc
        · cases hc
      · cases hc
    · cases hc
  · -- index
    rename_i t x i ho
    split at hc
    · rename_i x' i' hx hi
      split at hc
      · rename_i n e hu
        split at hc
        · rename_i k g hn hg
          exact s_indexa ho hu hn hg (cOpnd_ok hx) (cOpnd_ok hi) (Option.some.inj hc).symm c hs
        · cases hc
      · rename_i hu
        exact s_indexs ho hu (cOpnd_ok hx) (cOpnd_ok hi) (Option.some.inj hc).symm c hs
      · cases hc
    · cases hc
  · -- range
    rename_i t x ho
    split at hc
    · rename_i x' d hx hu hd
      exact s_range ho hu (cOpnd_ok hx) hd (Option.some.inj hc).symm c hs
    · cases hc
  · -- next
    rename_i x ho
    split at hc
    · rename_i x' hx
      exact s_next ho (cOpnd_ok hx) (Option.some.inj hc).symm c hs
    · cases hc
  · -- makeMap
    rename_i t r ho
    split at hc
    · rename_i d hu hd
      exact s_mkmap ho hd (Option.some.inj hc).symm c hs
    · cases hc
  · -- mapUpdate
    rename_i t m k v ho
    split at hc
    · rename_i kt et hu
      split at hc
      · rename_i m' k' v' sh hm hk hv hsh
        split at hc
        · rename_i hcond
          exact s_mapup ho hcond.2 hu hsh hcond.1 (cOpnd_ok hm) (cOpnd_ok hk) (cOpnd_ok hv) (Option.some.inj hc).symm c hs
        · cases hc
      · cases hc
    · cases hc
  · -- lookup
    rename_i t m k ok ho
    split at hc
    · rename_i kt et hu
      split at hc
      · rename_i m' k' sh z hm hk hsh hz
        split at hc
        · rename_i hcond
          exact s_lookup ho hu hsh hcond hz (cOpnd_ok hm) (cOpnd_ok hk) (Option.some.inj hc).symm c hs
        · cases hc
      · cases hc
    · cases hc
  · -- extract
    rename_i x i ho
    split at hc
    · rename_i x' hx
      exact s_extract ho (cOpnd_ok hx) (Option.some.inj hc).symm c hs
    · cases hc
  · -- call
    rename_i cl ho
    split at hc
    · rename_i hcl
      split at hc
      · rename_i t x hat hargs
        split at hc
        · rename_i x' hx hu
          exact s_lens ho hcl (list_arr hat) (list_arr hargs) (cOpnd_ok hx) hu (Option.some.inj hc).symm c hs
        · rename_i x' e hx hu
          exact s_lensl ho hcl (list_arr hat) (list_arr hargs) (cOpnd_ok hx) hu (Option.some.inj hc).symm c hs
        · rename_i x' n e hx hu
          exact s_lenc ho hcl (list_arr hat) (list_arr hargs) hu (Option.some.inj hc).symm c hs
        · cases hc
      · cases hc
    · rename_i hcl
      split at hc
      · rename_i x' y' hxs
        have two : ∃ x y, cl.args = #[x, y] ∧ OOk x x' ∧ OOk y y' := by
          rcases hl : cl.args.toList with _ | ⟨x, _ | ⟨y, _ | ⟨z, l⟩⟩⟩ <;> rw [hl] at hxs <;> simp only [List.map_cons, List.map_nil, cOpnds] at hxs
          · cases hxs
          · split at hxs
            · rename_i h2; cases h2; simp at hxs
            · cases hxs
          · split at hxs
            · rename_i u us hu h2
              split at h2
              · rename_i v vs hv h3
                cases h3; cases h2; simp at hxs
                exact ⟨x, y, list_arr hl, by rw [← hxs.1]; exact cOpnd_ok hu, by rw [← hxs.2]; exact cOpnd_ok hv⟩
              · cases h2
            · cases hxs
          · split at hxs
            · rename_i u us hu h2
              split at h2
              · rename_i v vs hv h3
                split at h3
                · cases h3; cases h2; simp at hxs
                · cases h3
              · cases h2
            · cases hxs
        obtain ⟨x, y, hargs, hx, hy⟩ := two
        exact s_max ho hcl hargs hx hy (Option.some.inj hc).symm c hs
      · cases hc
    · rename_i hcl
      split at hc
      · rename_i x' y' hxs
        have two : ∃ x y, cl.args = #[x, y] ∧ OOk x x' ∧ OOk y y' := by
          rcases hl : cl.args.toList with _ | ⟨x, _ | ⟨y, _ | ⟨z, l⟩⟩⟩ <;> rw [hl] at hxs <;> simp only [List.map_cons, List.map_nil, cOpnds] at hxs
          · cases hxs
          · split at hxs
            · rename_i h2; cases h2; simp at hxs
            · cases hxs
          · split at hxs
            · rename_i u us hu h2
              split at h2
              · rename_i v vs hv h3
                cases h3; cases h2; simp at hxs
                exact ⟨x, y, list_arr hl, by rw [← hxs.1]; exact cOpnd_ok hu, by rw [← hxs.2]; exact cOpnd_ok hv⟩
              · cases h2
            · cases hxs
          · split at hxs
            · rename_i u us hu h2
              split at h2
              · rename_i v vs hv h3
                split at h3
                · cases h3; cases h2; simp at hxs
                · cases h3
              · cases h2
            · cases hxs
        obtain ⟨x, y, hargs, hx, hy⟩ := two
        exact s_min ho hcl hargs hx hy (Option.some.inj hc).symm c hs
      · cases hc
    · rename_i hcl
      split at hc
      · rename_i t t' s x hat hargs
        split at hc
        · rename_i e x' n hu hx hn
          split at hc
          · rename_i i hi
            split at hc
            · rename_i z hz
              split at hc
              · rename_i hcond
                obtain ⟨rfl, h1, h2, h3, h4, h5⟩ := hcond
                have hu' : P.underlying t = some (.slice e) := hu
                rw [hu] at hn
                obtain ⟨i', hi', rfl⟩ := szT_info hn
                rw [hi] at hi'; cases hi'
                split at hc
                · exact s_appendx ho hcl (list_arr hat) (list_arr hargs) hu' hi hz h1 h2 h3 h4 (cOpnd_ok hx) (Option.some.inj hc).symm c h5 hs
                split at hc
                · exact s_appendT ho hcl (list_arr hat) (list_arr hargs) hu' hi hz h1 h2 h3 h4 (cOpnd_ok hx) (Option.some.inj hc).symm c h5 hs
                · exact s_append ho hcl (list_arr hat) (list_arr hargs) hu' hi hz h1 h2 h3 h4 (cOpnd_ok hx) (Option.some.inj hc).symm c h5 hs
              · cases hc
            · cases hc
          · cases hc
        · cases hc
      · cases hc
    · split at hc
      · split at hc
        · split at hc
          · split at hc
            · have := (Option.some.inj hc).symm
              subst this
              exact absurd rfl (hk _ _).2.1
            · cases hc
          · split at hc
            · have := (Option.some.inj hc).symm
              subst this
              exact absurd rfl (hk 0 true).2.2
            · have := (Option.some.inj hc).symm
              subst this
              exact absurd rfl (hk _ _).1
        · cases hc
      · cases hc
    · cases hc
  · cases hc
end ops
end Go.AR

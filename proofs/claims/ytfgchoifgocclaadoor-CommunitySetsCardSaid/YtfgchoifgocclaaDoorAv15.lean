/-
  THE ABSTRACT LAYER, 15: each loaded operation, by its abstract form; regions in lexical order.
-/
import Derived.Test.YtfgchoifgocclaaDoorAv14
namespace Go.Av
open Go Go.RowKit

section
variable {P : Program} {o : Oper} {c : Ctx} {θ : List Loc} {D : Nat → Prop} {st : St} {a : Act} {w : World}

theorem canon_call {s : SOp} {f : FuncId} {xs : List SX} (h : s.canon = .call false f xs) : (∃ b, s = .call b f xs) ∨ ∃ b e sz, s = .callO b e sz f xs := by
  cases s <;> simp_all [SOp.canon]
theorem canon_bslice {s : SOp} {e : TypeId} {z l : Nat} {xs : List SX} (h : s.canon = .bslice false e z l xs) : ∃ b, s = .bslice b e z l xs := by
  cases s <;> simp_all [SOp.canon]

theorem compOp_sound (hI : Inv c θ D st a w) (hd : ∀ k, o.dst = some k → k < c.n) {s : SOp} {K : St → Prop} (hc : compOp P o = some s.canon) (h : sexec P o.dst s st K) : Leaves P o c K a w := by
  have pure_ : Yields P o a w (Res c θ st a fun x => K (st.putO o.dst x)) → Leaves P o c K a w := fun hy => leaves_of_yields hd hy fun _ h => h
  unfold compOp at hc
  split at hc
  · rename_i x ho
    cases canon_eq (Option.some.inj hc).symm (by simp) (by simp)
    exact pure_ (sound_mv hI (.inl ho) h)
  · rename_i x ho
    cases canon_eq (Option.some.inj hc).symm (by simp) (by simp)
    exact pure_ (sound_mv hI (.inr ho) h)
  · rename_i x y z ho
    cases canon_eq (Option.some.inj hc).symm (by simp) (by simp)
    exact pure_ (sound_pick hI ho h)
  · rename_i op t x y t' ho
    split at hc
    · cases canon_eq (Option.some.inj hc).symm (by simp) (by simp)
      exact pure_ (sound_bin hI ho h)
    · cases canon_eq (Option.some.inj hc).symm (by simp) (by simp)
      exact pure_ (sound_bin hI ho h)
    · rename_i ht
      split at hc
      · cases canon_eq (Option.some.inj hc).symm (by simp) (by simp)
        exact pure_ (sound_eqB (neg := false) hI ho ht h)
      · cases canon_eq (Option.some.inj hc).symm (by simp) (by simp)
        exact pure_ (sound_eqB (neg := true) hI ho ht h)
      · cases hc
    · cases hc
  · rename_i op t x ho
    cases canon_eq (Option.some.inj hc).symm (by simp) (by simp)
    exact pure_ (sound_un hI ho h)
  · rename_i cl ho
    split at hc
    · rename_i hcl
      split at hc
      · rename_i x t hargs htys
        split at hc
        · rename_i e ht
          cases canon_eq (Option.some.inj hc).symm (by simp) (by simp)
          exact pure_ (sound_len hI ho hcl (array_one hargs) (array_one htys) ht h)
        · rename_i ht
          cases canon_eq (Option.some.inj hc).symm (by simp) (by simp)
          exact pure_ (sound_lenS hI ho hcl (array_one hargs) (array_one htys) ht h)
        · rename_i n e ht
          cases canon_eq (Option.some.inj hc).symm (by simp) (by simp)
          refine pure_ (sound_const hI ?_ h)
          simp [execOp, ho, resolve, hcl, array_one hargs, array_one htys, invoke, builtin, Builtin.len_, run_underlying ht, goInt]
        · cases hc
      · cases hc
    · rename_i hcl
      split at hc
      · rename_i x y t u hargs htys
        split at hc
        · rename_i htu
          subst htu
          simp only [Option.bind_eq_some_iff] at hc
          obtain ⟨e, he, s', hs, b, hb, z, hz, hc⟩ := hc
          split at hc
          · rename_i hcond
            obtain ⟨h1, h2, h3⟩ := hcond
            cases canon_eq (Option.some.inj hc).symm (by simp) (by simp)
            exact sound_append hI hd ho hcl (array_two hargs) (array_two htys) he hs hb hz h1 h2 h3 h
          · cases hc
        · cases hc
      · cases hc
    · rename_i f hcl
      split at hc
      · rename_i hf
        rcases canon_call (Option.some.inj hc).symm with ⟨bor, rfl⟩ | ⟨bor, e, sz, rfl⟩
        · exact sound_call hI hd ho hcl hf h
        · exact sound_callO hI hd ho hcl hf h
      · cases hc
    · cases hc
  · rename_i t x i ho
    split at hc
    · rename_i ht
      cases canon_eq (Option.some.inj hc).symm (by simp) (by simp)
      exact pure_ (sound_idxS hI ho ht h)
    · rename_i n e ht
      split at hc
      · rename_i hd'
        obtain ⟨d', hd'⟩ := Option.isSome_iff_exists.1 hd'
        simp only [Option.map_eq_some_iff] at hc
        obtain ⟨sz, hs, hc⟩ := hc
        cases canon_eq hc.symm (by simp) (by simp)
        exact pure_ (sound_idxV hI ho ht hd' hs h)
      · cases hc
    · cases hc
  · rename_i t x i ho
    split at hc
    · rename_i e ht
      simp only [Option.map_eq_some_iff] at hc
      obtain ⟨sz, hs, hc⟩ := hc
      cases canon_eq hc.symm (by simp) (by simp)
      exact pure_ (sound_idxA hI ho ht hs h)
    · rename_i n e ht
      simp only [Option.map_eq_some_iff] at hc
      obtain ⟨sz, hs, hc⟩ := hc
      cases canon_eq hc.symm (by simp) (by simp)
      exact pure_ (sound_idxP hI ho ht hs h)
    · cases hc
  · rename_i t x f ho
    simp only [Option.bind_eq_some_iff] at hc
    obtain ⟨fd, hf, sz, hs, hc⟩ := hc
    split at hc
    · cases hc
    · rename_i hsz
      cases canon_eq (Option.some.inj hc).symm (by simp) (by simp)
      exact pure_ (sound_fldA hI ho hf hs hsz h)
  · rename_i t x f ho
    simp only [Option.bind_eq_some_iff] at hc
    obtain ⟨fd, hf, hc⟩ := hc
    split at hc
    · rename_i hd'
      obtain ⟨d', hd'⟩ := Option.isSome_iff_exists.1 hd'
      simp only [Option.map_eq_some_iff] at hc
      obtain ⟨sz, hs, hc⟩ := hc
      cases canon_eq hc.symm (by simp) (by simp)
      exact pure_ (sound_fld hI ho hf hd' hs h)
    · cases hc
  · rename_i t x ho
    simp only [Option.bind_eq_some_iff] at hc
    obtain ⟨sz, hs, hc⟩ := hc
    split at hc
    · rename_i hd'
      obtain ⟨d', hd'⟩ := Option.isSome_iff_exists.1 hd'
      cases canon_eq (Option.some.inj hc).symm (by simp) (by simp)
      exact pure_ (sound_load hI ho hd' hs h)
    · cases hc
  · rename_i t x v ho
    simp only [Option.map_eq_some_iff] at hc
    obtain ⟨sz, hs, hc⟩ := hc
    cases canon_eq hc.symm (by simp) (by simp)
    have hdn : o.dst = none := by
      obtain ⟨_, _, _, _, h1, _⟩ := h
      exact h1
    exact sound_store hI hdn ho hs h
  · rename_i e ho
    simp only [Option.map_eq_some_iff] at hc
    obtain ⟨z, hz, hc⟩ := hc
    cases canon_eq hc.symm (by simp) (by simp)
    exact sound_alloc hI hd ho hz h
  · rename_i e x ho
    cases canon_eq (Option.some.inj hc).symm (by simp) (by simp)
    exact sound_box hI hd ho h
  · rename_i t parts ho
    simp only [Option.bind_eq_some_iff, Option.map_eq_some_iff] at hc
    obtain ⟨z, hz, ps, hps, hc⟩ := hc
    cases canon_eq hc.symm (by simp) (by simp)
    exact pure_ (sound_build hI ho hz hps h)
  · rename_i t len parts ho
    simp only [Option.bind_eq_some_iff] at hc
    obtain ⟨e, he, sz, hs, z, hz, hc⟩ := hc
    split at hc
    · rename_i hcond
      obtain ⟨h1, h2⟩ := hcond
      obtain ⟨own, rfl⟩ := canon_bslice (Option.some.inj hc).symm
      cases own
      · exact sound_bslice hI hd ho he hs hz h1 h2 h
      · exact sound_bsliceO hI hd ho he hs hz h1 h2 h
    · cases hc
  · rename_i t l m ho
    simp only [Option.bind_eq_some_iff, Option.map_eq_some_iff] at hc
    obtain ⟨e, he, sz, hs, b, hb, z, hz, hc⟩ := hc
    cases canon_eq hc.symm (by simp) (by simp)
    exact sound_mslice hI hd ho he hs hb hz h
  · rename_i s' d' x ho
    split at hc
    · rename_i ds k h1 h2
      cases canon_eq (Option.some.inj hc).symm (by simp) (by simp)
      exact pure_ (sound_cvtI hI ho h1 h2 h)
    · rename_i e h1 h2
      split at hc
      · rename_i h3
        cases canon_eq (Option.some.inj hc).symm (by simp) (by simp)
        exact pure_ (sound_b2s hI ho h1 h2 h3 h)
      · cases hc
    · cases hc
  · rename_i t x lo hi mx ho
    split at hc
    · rename_i e ht
      simp only [Option.map_eq_some_iff] at hc
      obtain ⟨sz, hs, hc⟩ := hc
      cases canon_eq hc.symm (by simp) (by simp)
      exact pure_ (sound_slc hI ho ht hs h)
    · rename_i ht
      split at hc
      · cases canon_eq (Option.some.inj hc).symm (by simp) (by simp)
        exact pure_ (sound_slcS hI ho ht h)
      · cases hc
    · cases hc
  · rename_i x i ho
    cases canon_eq (Option.some.inj hc).symm (by simp) (by simp)
    exact pure_ (sound_ext hI ho h)
  · rename_i x ho
    cases canon_eq (Option.some.inj hc).symm (by simp) (by simp)
    exact pure_ (sound_nilc hI ho h)
  · cases hc

/-- An operation with its guard. -/
def compOper (P : Program) (n : Nat) (ops : Array Oper) (o : Oper) (s : SOper) : Prop :=
  compOp P o = some s.op.canon ∧ s.dst = o.dst ∧ (∀ k, o.dst = some k → k < n) ∧
    match o.guard with
    | none => s.gd = none
    | some (j, want) => ∃ t, (ops[j]?).bind (·.dst) = some t ∧ s.gd = some (t, want)

theorem yielded_eq {ops : Array Oper} {j t : Nat} (ht : (ops[j]?).bind (·.dst) = some t) (tmps : Array Value) : yielded ops tmps j = yv (tmps.getD t undef) := by
  unfold yielded
  rw [ht]
  simp only [Option.bind_some]
  rcases Nat.lt_or_ge t tmps.size with h | h
  · simp only [Array.getElem?_eq_getElem h, Array.getD, h, dif_pos]
    show _ = yv tmps[t]
    cases tmps[t] <;> rfl
  · simp only [Array.getElem?_eq_none h, Array.getD, Nat.not_lt.2 h, dif_neg, not_false_eq_true]
    rfl

/-- One operation of a region, taken up when it comes. -/
theorem step_sound {n : Nat} {ops : Array Oper} {s : SOper} {K : St → Prop} (hI : Inv c θ D st a w) (hn : c.n = n) (hc : compOper P n ops o s) (h : sstep P s st K) (next : Act → World → Prop) (Q : Exit → Act → World → Prop)
    (hnext : ∀ a' w', (∃ st', K st' ∧ Rel c st' a' w') → next a' w') : if Region.wanted o (yielded ops a.tmps) then o.wp P a w next Q else next (a.put o.dst undef) w := by
  obtain ⟨h1, h2, h3, h4⟩ := hc
  have hd : ∀ k, o.dst = some k → k < c.n := by rw [hn]; exact h3
  unfold sstep at h
  unfold Region.wanted
  cases hg : o.guard with
  | none =>
    rw [hg] at h4
    simp only at h4
    rw [h4] at h
    simp only [if_true]
    rw [h2] at h
    exact compOp_sound hI hd h1 h next Q hnext
  | some jw =>
    obtain ⟨j, want⟩ := jw
    rw [hg] at h4
    obtain ⟨t, ht, hgd⟩ := h4
    rw [hgd] at h
    obtain ⟨g, hlk, v, rfl, hyes, hno⟩ := h
    have hv := relA_v (hI.fr t _ hlk)
    simp only [yielded_eq ht, hv]
    by_cases hy : yv v = some want
    · rw [if_pos (by simpa using hy)]
      have := hyes hy
      rw [h2] at this
      exact compOp_sound hI hd h1 this next Q hnext
    · rw [if_neg (by simpa using hy)]
      have := hno hy
      rw [h2] at this
      exact hnext _ _ ⟨_, this, θ, D, hI.put hd (RelP.sc _)⟩

end
end Go.Av

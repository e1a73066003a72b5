/-
  THE ABSTRACT LAYER, 23: an owned slice becomes data.
-/
import Derived.Test.YtfgchoifgocclaaDoorAv22
namespace Go.Av
open Go Go.RowKit

theorem weak_freeze {s : St} (k id : Nat) {e : TypeId} {sz : Nat} {xs : List PV} (h : look s.fr k = some (.b (.sl id))) (ho : s.hp[id]? = some (.vec e sz xs)) : Weak s ⟨(k, .p (lst sz xs)) :: s.fr.map (fun x => (x.1, x.2.kill id)), (s.hp.map (AObj.kill id)).set id .gone⟩ := by
  rintro c a w ⟨θ, D, hI⟩
  have hlt : id < θ.length := by rw [hI.ok.len]; exact (List.getElem?_eq_some_iff.1 ho).1
  obtain ⟨l, hl⟩ : ∃ l, θ[id]? = some l := ⟨θ[id], List.getElem?_eq_getElem hlt⟩
  have hro := hI.ok.objs id l _ hl ho
  obtain ⟨l2, hl2, hv⟩ := hI.fr k _ h
  rw [hl] at hl2; cases hl2
  have hnb : ∀ g, l ≠ .blk g := by rintro g rfl; simp only [RelO] at hro
  have hM := hI.move (l' := .no) (o' := .gone) (w' := w) hl hnb rfl rfl rfl (Nat.le_refl _) (fun _ _ _ => rfl) (fun g hg => by cases hg) (by simp only [RelO])
  cases l <;> simp only [RelO, Loc.head] at hro hv
  · subst hro
    refine ⟨θ.set id .no, D, hM.size, hM.defers, hM.ok, hM.keep, hM.dsub, hM.dnew, hM.onew, fun j x hj => ?_⟩
    simp only [look] at hj
    split at hj
    · rename_i e1
      cases hj; subst e1
      show RelP D w _ _
      rw [hv]; exact .nil none 0
    · exact hM.fr j x hj
  · rename_i g m cap s2
    obtain ⟨rfl, rfl, h3, h4, h5, cv, h6, h7, h8⟩ := hro
    obtain ⟨hg1, hg2⟩ := hI.ok.olt id _ g hl rfl
    have hD : ∀ b, D b → D b ∨ b = g := fun b hb => .inl hb
    have hw : ∀ b, D b → w.heap[b]? = w.heap[b]? := fun _ _ => rfl
    have hne : ∀ (i : Nat) (li : Loc) (g' : Nat), (θ.set id .no)[i]? = some li → li.own = some g' → g' ≠ g := by
      intro i li g' hi hg' e
      subst e
      by_cases hii : i = id
      · subst hii
        rw [List.getElem?_set_self hlt] at hi
        cases hi; cases hg'
      · rw [List.getElem?_set_ne (Ne.symm hii)] at hi
        exact hii (hI.ok.inj i id li _ g' hi hl hg' rfl)
    refine ⟨θ.set id .no, fun b => D b ∨ b = g, hM.size, hM.defers, ⟨hM.ok.len, fun b hb => ?_, hM.ok.inj, fun i li g' hi hg' => ?_, fun i li o hi ho' => (hM.ok.objs i li o hi ho').mono hD hw fun _ _ => rfl⟩, hM.keep, fun b hb => .inl (hM.dsub b hb), fun b hb => ?_, hM.onew, fun j x hj => ?_⟩
    · rcases hb with hb | rfl
      · exact hM.ok.dlt b hb
      · exact hg1
    · obtain ⟨h1, h2⟩ := hM.ok.olt i li g' hi hg'
      refine ⟨h1, fun hd => ?_⟩
      rcases hd with hd | hd
      · exact h2 hd
      · exact hne i li g' hi hg' hd
    · rcases hb with hb | rfl
      · exact hM.dnew b hb
      · exact .inr (hI.onew id _ b hl rfl)
    · simp only [look] at hj
      split at hj
      · rename_i e1
        cases hj; subst e1
        show RelP _ w _ _
        rw [hv]
        refine relP_lst_mk h3 fun _ => ⟨g, 0, rfl, .inr rfl, h5, fun i j x y hx hy => ?_⟩
        obtain ⟨u, e1, e2⟩ := h8 i j x y hx hy
        refine ⟨u, ?_, e2.mono hD hw⟩
        rw [Nat.zero_add, cell_of_row w g _ cv e (0, 0) h6]
        exact e1
      · exact (hM.fr j x hj).mono hD hw

section
variable {P : Program} {Q : AE → St → Prop} {st : St}
/-- Weakening at a point of a walk. -/
theorem W.weak {K : St → Prop} {s s' : St} (h : Weak s s') (k : K s') : W K s := ⟨s', h, k⟩
end
end Go.Av

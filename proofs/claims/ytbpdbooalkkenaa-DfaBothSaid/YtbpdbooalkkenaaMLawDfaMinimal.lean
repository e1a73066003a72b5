/-
  'DfaMinimal': THE PLAIN LAW.
-/
import Derived.Test.YtbpdbooalkkenaaMLawDfaNorm2
import Derived.Test.YtbpdbooalkkenaaMLawDfaWit2
set_option linter.unusedVariables false
set_option linter.unusedSimpArgs false
namespace Go.Proofs.Ytbpdbooalkkenaa
open Go Go.Av Go.Ev Go.Pl
theorem asc_exists : ∀ l : List Int, ∃ c, Asc c ∧ ∀ x, x ∈ c ↔ x ∈ l
  | [] => ⟨[], by simp [Asc], by simp⟩
  | v :: l => by
    obtain ⟨c, hc, hm⟩ := asc_exists l
    refine ⟨c.filter (fun y => decide (y < v)) ++ ([v] ++ c.filter fun y => decide (v < y)), ?_, fun x => ?_⟩
    · refine asc_append (List.Pairwise.sublist (List.filter_sublist ..) hc) (asc_append (by simp [Asc]) (List.Pairwise.sublist (List.filter_sublist ..) hc) fun x hx y hy => ?_) fun x hx y hy => ?_
      · simp at hx hy; omega
      · simp at hx hy
        rcases hy with rfl | hy <;> omega
    · simp only [List.mem_append, List.mem_filter, decide_eq_true_eq, List.mem_cons, List.not_mem_nil, or_false, hm]
      constructor
      · rintro (⟨h, _⟩ | h | ⟨h, _⟩)
        · exact .inr h
        · exact .inl h
        · exact .inr h
      · rintro (h | h)
        · exact .inr (.inl h)
        · rcases Int.lt_trichotomy x v with hl | he | hg
          · exact .inl ⟨h, hl⟩
          · exact .inr (.inl he)
          · exact .inr (.inr ⟨h, hg⟩)
theorem labs_mem (a b : DF) : Asc (labs a b) ∧ ∀ x, x ∈ labs a b ↔ x ∈ a.1 ∨ x ∈ b.1 := by
  obtain ⟨c, hc, hm⟩ := asc_exists (a.1 ++ b.1)
  unfold labs
  rw [ascS_eq hc hm]
  exact ⟨hc, fun x => by rw [hm x, List.mem_append]⟩
theorem class_same {xs : List Int} (hs : Starts xs) {v c : Int} (hc0 : 0 ≤ c) (hcv : c ≤ v) (hall : ∀ x ∈ xs, x ≤ v → x ≤ c) : classS xs v = classS xs c := by
  obtain ⟨h1, h2, h3⟩ := class_wf hs (show 0 ≤ v by omega)
  symm
  exact class_eq ⟨h1, hall _ (List.getElem_mem h1) h2, fun j hj hlt => by have := h3 j hj hlt; omega⟩
theorem label_of {a b : DF} (ha : Good a) (hb : Good b) {v : Int} (hv : 0 ≤ v) : ∃ c ∈ labs a b, classS a.1 v = classS a.1 c ∧ classS b.1 v = classS b.1 c := by
  obtain ⟨hasc, hm⟩ := labs_mem a b
  have h0 : (0 : Int) ∈ labs a b := (hm 0).2 (.inl (by have := ha.starts.2.1 ha.starts.1; rw [← this]; exact List.getElem_mem _))
  have key : ∀ l : List Int, (∃ x ∈ l, x ≤ v) → ∃ c ∈ l, c ≤ v ∧ ∀ x ∈ l, x ≤ v → x ≤ c := by
    intro l
    induction l with
    | nil => rintro ⟨x, hx, _⟩; cases hx
    | cons y l ih =>
      rintro ⟨x, hx, hxv⟩
      by_cases hl : ∃ x ∈ l, x ≤ v
      · obtain ⟨c, hc, hcv, hcm⟩ := ih hl
        by_cases hy : y ≤ v ∧ c < y
        · refine ⟨y, List.mem_cons_self .., hy.1, fun z hz hzv => ?_⟩
          rcases List.mem_cons.1 hz with rfl | hz
          · exact Int.le_refl _
          · have := hcm z hz hzv; omega
        · refine ⟨c, List.mem_cons_of_mem _ hc, hcv, fun z hz hzv => ?_⟩
          rcases List.mem_cons.1 hz with rfl | hz
          · omega
          · exact hcm z hz hzv
      · rcases List.mem_cons.1 hx with rfl | hx
        · refine ⟨x, List.mem_cons_self .., hxv, fun z hz hzv => ?_⟩
          rcases List.mem_cons.1 hz with rfl | hz
          · exact Int.le_refl _
          · exact absurd ⟨z, hz, hzv⟩ hl
        · exact absurd ⟨x, hx, hxv⟩ hl
  obtain ⟨c, hc, hcv, hcm⟩ := key _ ⟨0, h0, hv⟩
  have hc0 := (labs_spec ha hb c hc).1
  exact ⟨c, hc, class_same ha.starts hc0 hcv fun x hx hxv => hcm x ((hm x).2 (.inl hx)) hxv, class_same hb.starts hc0 hcv fun x hx hxv => hcm x ((hm x).2 (.inr hx)) hxv⟩
end Go.Proofs.Ytbpdbooalkkenaa

/-
  'DfaMinimal': THE PLAIN LAW.
-/
import Derived.Test.YtbpdbooalkkenaaJLawDfaNorm2
import Derived.Test.YtbpdbooalkkenaaJLawDfaWit2
set_option linter.unusedVariables false
set_option linter.unusedSimpArgs false
namespace Go.Proofs.Ytbpdbooalkkenaa
open Go Go.Av Go.Ev Go.Pl
theorem asc_exists : ∀ l : List Int, ∃ c, Asc c ∧ ∀ x, x ∈ c ↔ x ∈ l
  | [] => ⟨[], by simp [Asc], by simp⟩
  | v :: l => by
    obtain ⟨c, hc, hm⟩ := asc_exists l
    refine ⟨c.filter (fun y => decide (y < v)) ++ ([v] ++ c.filter fun y => decide (v < y)), ?_, fun x => ?_⟩
    · refine asc_append (List.Pairwise.sublist (List.filter_sublist ..) hc) (asc_append (by simp [Asc]) (List.Pairwise.sublist (List.filter_sublist ..) hc) fun x hx y hy => ?_) fun x hx y hy => ?_
      · simp at hx hy; omega
      · simp at hx hy
        rcases hy with rfl | hy <;> omega
    · simp only [List.mem_append, List.mem_filter, decide_eq_true_eq, List.mem_cons, List.not_mem_nil, or_false, hm]
      constructor
      · rintro (⟨h, _⟩ | h | ⟨h, _⟩)
        · exact .inr h
        · exact .inl h
        · exact .inr h
      · rintro (h | h)
        · exact .inr (.inl h)
        · rcases Int.lt_trichotomy x v with hl | he | hg
          · exact .inl ⟨h, hl⟩
          · exact .inr (.inl he)
          · exact .inr (.inr ⟨h, hg⟩)
theorem labs_mem (a b : DF) : Asc (labs a b) ∧ ∀ x, x ∈ labs a b ↔ x ∈ a.1 ∨ x ∈ b.1 := by
  obtain ⟨c, hc, hm⟩ := asc_exists (a.1 ++ b.1)
  unfold labs
  rw [ascS_eq hc hm]
  exact ⟨hc, fun x => by rw [hm x, List.mem_append]⟩
theorem class_same {xs : List Int} (hs : Starts xs) {v c : Int} (hc0 : 0 ≤ c) (hcv : c ≤ v) (hall : ∀ x ∈ xs, x ≤ v → x ≤ c) : classS xs v = classS xs c := by
  obtain ⟨h1, h2, h3⟩ := class_wf hs (show 0 ≤ v by omega)
  symm
  exact class_eq ⟨h1, hall _ (List.getElem_mem h1) h2, fun j hj hlt => by have := h3 j hj hlt; omega⟩
theorem label_of {a b : DF} (ha : Good a) (hb : Good b) {v : Int} (hv : 0 ≤ v) : ∃ c ∈ labs a b, classS a.1 v = classS a.1 c ∧ classS b.1 v = classS b.1 c := by
  obtain ⟨hasc, hm⟩ := labs_mem a b
  have h0 : (0 : Int) ∈ labs a b := (hm 0).2 (.inl (by have := ha.starts.2.1 ha.starts.1; rw [← this]; exact List.getElem_mem _))
  have key : ∀ l : List Int, (∃ x ∈ l, x ≤ v) → ∃ c ∈ l, c ≤ v ∧ ∀ x ∈ l, x ≤ v → x ≤ c := by
    intro l
    induction l with
    | nil => rintro ⟨x, hx, _⟩; cases hx
    | cons y l ih =>
      rintro ⟨x, hx, hxv⟩
      by_cases hl : ∃ x ∈ l, x ≤ v
      · obtain ⟨c, hc, hcv, hcm⟩ := ih hl
        by_cases hy : y ≤ v ∧ c < y
        · refine ⟨y, List.mem_cons_self .., hy.1, fun z hz hzv => ?_⟩
          rcases List.mem_cons.1 hz with rfl | hz
          · exact Int.le_refl _
          · have := hcm z hz hzv; omega
        · refine ⟨c, List.mem_cons_of_mem _ hc, hcv, fun z hz hzv => ?_⟩
          rcases List.mem_cons.1 hz with rfl | hz
          · omega
          · exact hcm z hz hzv
      · rcases List.mem_cons.1 hx with rfl | hx
        · refine ⟨x, List.mem_cons_self .., hxv, fun z hz hzv => ?_⟩
          rcases List.mem_cons.1 hz with rfl | hz
          · exact Int.le_refl _
          · exact absurd ⟨z, hz, hzv⟩ hl
        · exact absurd ⟨x, hx, hxv⟩ hl
  obtain ⟨c, hc, hcv, hcm⟩ := key _ ⟨0, h0, hv⟩
  have hc0 := (labs_spec ha hb c hc).1
  exact ⟨c, hc, class_same ha.starts hc0 hcv fun x hx hxv => hcm x ((hm x).2 (.inl hx)) hxv, class_same hb.starts hc0 hcv fun x hx hxv => hcm x ((hm x).2 (.inr hx)) hxv⟩
theorem allP_lang {a b : DF} (ha : Good a) (hb : Good b) (h : ∀ y ∈ (allP a b).1, diffP a b y = false) : ∀ w, Valid w → accS a (runD a w) = accS b (runD b w) := by
  have hfin := allP_fin ha hb
  have hclosed : ∀ x ∈ (allP a b).1, ∀ c ∈ labs a b, stepP a b x c ∈ (allP a b).1 := fun x hx c hc =>
    expl_closed _ x (by rw [List.take_of_length_le hfin]; exact hx) c hc
  have hstep : ∀ x ∈ (allP a b).1, ∀ v, 0 ≤ v → stepP a b x v ∈ (allP a b).1 := fun x hx v hv => by
    obtain ⟨c, hc, e1, e2⟩ := label_of ha hb hv
    have e : stepP a b x v = stepP a b x c := by
      unfold stepP stepS
      rw [e1, e2]
    rw [e]; exact hclosed x hx c hc
  have hrun : ∀ (w : List Int) (x : PR), x ∈ (allP a b).1 → Valid w → w.foldl (stepP a b) x ∈ (allP a b).1 := by
    intro w
    induction w with
    | nil => intro x hx _; exact hx
    | cons v w ih => intro x hx hw; exact ih _ (hstep x hx v (hw v (List.mem_cons_self ..)).1) fun u hu => hw u (List.mem_cons_of_mem _ hu)
  intro w hw
  have hm := h _ (hrun w (startP a b) (List.mem_of_getElem? (expl_ok _).head) hw)
  rw [foldl_stepP] at hm
  have hm' : (true ^^ (accS a (runD a w) == accS b (runD b w))) = false := hm
  simpa using hm'
theorem wit_lang {a b : DF} (ha : Good a) (hb : Good b) {c : List Int × Bool × Unit} (h : WitR a b c) : c.2.1 = false ↔ ∀ w, Valid w → accS a (runD a w) = accS b (runD b w) := by
  constructor
  · intro hc
    rcases h with ⟨_, _, _, _, _, _, h5⟩ | ⟨h1, _⟩
    · rw [hc] at h5; cases h5
    · exact allP_lang ha hb h1
  · intro hl
    rcases h with ⟨k, x, h1, h2, _, h4, _⟩ | ⟨_, rfl⟩
    · obtain ⟨h5, h6⟩ := h4.reaches (expl_ok _)
      rw [h1] at h5
      cases h5
      have hv : Valid c.1 := fun v hv => labs_spec ha hb v (h6 v hv)
      have := hl _ hv
      rw [foldl_stepP] at h2
      have h2' : (true ^^ (accS a (runD a c.1) == accS b (runD b c.1))) = true := h2
      rw [this] at h2'
      simp at h2'
    · rfl
theorem min_both (d : DF) : ∃ c : DF × Int × Unit, c.2.1 = checkS d ∧ (Good d → Canon c.1 ∧ ∀ w, Valid w → accS c.1 (runD c.1 w) = accS d (runD d w)) ∧ OkDF c.1 ∧
    Calls' tbl N_dfa_Minimal [.d (pr [.list tI, .list (.list tI), .list tB, tI]) d] [] q_dfa_Minimal c ∧ Calls' tbl N_ref16_Minimal [.d (pr [.list tI, .list (.list tI), .list tB, tI]) d] [] q_ref16_Minimal c := by
  by_cases hg : Good d
  · have hl := good_len hg
    obtain ⟨⟨x, _⟩, ⟨⟨h1, h2⟩, hx1, hx2⟩, h3⟩ := C_dfa_minimal hg.wf (by omega) (by omega)
    obtain ⟨⟨y, _⟩, ⟨g1, g2⟩, g3⟩ := C_ref16_Normal hg.wf (by omega) (by omega)
    have hxy : x = y := canon_unique h1 g1 fun w hw => (h2 w hw).trans (g2 w hw).symm
    subst hxy
    have hc : checkS d = 0 := good_iff.2 hg
    refine ⟨(x, 0, ()), hc.symm, fun _ => ⟨h1, h2⟩, ?_, ?_, ?_⟩
    · have hw : WF x := h1.wf
      simp only at hx1 hx2
      show OkDF x
      exact ⟨by omega, by omega, fun r hr => by rw [hw.rows r hr]; omega, by rw [hw.len.2]; omega⟩
    · refine calls_of rfl (conv_of t_dfa_Minimal rfl (fun O n => x_dfa_Minimal O n d) ?_)
      unfold G_dfa_Minimal
      refine wp_call (C_dfa_Check d) ?_
      rw [hc]
      exact wp_bif (fun h => by cases h) fun _ => wp_call h3 (wp_some rfl)
    · refine calls_of rfl (conv_of t_ref16_Minimal rfl (fun O n => x_ref16_Minimal O n d) ?_)
      unfold G_ref16_Minimal
      refine wp_call (C_ref16_Check d) ?_
      rw [hc]
      exact wp_bif (fun h => by cases h) fun _ => wp_call g3 (wp_some rfl)
  · have hc : checkS d ≠ 0 := fun e => hg (good_iff.1 e)
    have hb : (checkS d != (0 : Int)) = true := by simpa using hc
    refine ⟨(([], [], [], 0, ()), checkS d, ()), rfl, fun h => absurd h hg, ⟨by simp, by simp, by simp, by simp⟩, ?_, ?_⟩
    · refine calls_of rfl (conv_of t_dfa_Minimal rfl (fun O n => x_dfa_Minimal O n d) ?_)
      unfold G_dfa_Minimal
      refine wp_call (C_dfa_Check d) ?_
      exact wp_bif (fun _ => wp_some rfl) fun h => by rw [hb] at h; cases h
    · refine calls_of rfl (conv_of t_ref16_Minimal rfl (fun O n => x_ref16_Minimal O n d) ?_)
      unfold G_ref16_Minimal
      refine wp_call (C_ref16_Check d) ?_
      exact wp_bif (fun _ => wp_some rfl) fun h => by rw [hb] at h; cases h
theorem law_DfaMinimal : LawOk N_law16_DfaMinimal [pr [.list tI, .list (.list tI), .list tB, tI], pr [.list tI, .list (.list tI), .list tB, tI]] := by
  rintro ⟨a, b, _⟩ _
  refine ⟨outQ q_law16_DfaMinimal (true, ()), ?_, rfl⟩
  refine conv_of t_law16_DfaMinimal rfl (fun O n => x_law16_DfaMinimal O n a b) ?_
  unfold G_law16_DfaMinimal
  refine wp_call (C_law16_Large a) ?_
  refine wp_bind (wp_or (fun _ => wp_call (C_law16_Large b) (wp_some rfl)) ?_)
  refine wp_bif (fun _ => wp_call C_awake (wp_some rfl)) fun _ => ?_
  obtain ⟨x, hx, hxc, hxo, x1, x2⟩ := min_both a
  obtain ⟨z, hz, hzc, _, z1, _⟩ := min_both b
  refine wp_call x1 (wp_call x2 (wp_bind (wp_or (b := false) (fun _ => wp_call (C_ref16_Equal _ _ hxo) (wp_some (by simp))) ?_)))
  refine wp_bif (fun h => absurd h (by simp)) fun _ => ?_
  refine wp_call z1 (wp_bind (wp_and (fun _ => wp_some rfl) ?_))
  refine wp_bind (wp_and (b := false) (fun hg => ?_) ?_)
  · simp only [Bool.and_eq_true, beq_iff_eq] at hg
    have ga : Good a := good_iff.1 (hx ▸ hg.1)
    have gb : Good b := good_iff.1 (hz ▸ hg.2)
    obtain ⟨c, hw, h1⟩ := C_dfa_Witness ga gb
    refine wp_call (C_dfa_Same h1) (wp_call (C_ref16_Equal _ _ hxo) (wp_some ?_))
    have hl := wit_lang ga gb hw
    have hiff : c.2.1 = false ↔ x.1 = z.1 := by
      rw [hl]
      constructor
      · intro h
        exact canon_unique (hxc ga).1 (hzc gb).1 fun w hw => ((hxc ga).2 w hw).trans ((h w hw).trans ((hzc gb).2 w hw).symm)
      · intro h w hw
        rw [← (hxc ga).2 w hw, h, (hzc gb).2 w hw]
    show (true ^^ ((!((checkS a != (0 : Int)) || (checkS b != (0 : Int))) && !c.2.1) == decide (x.1 = z.1))) = false
    rw [good_of_check ga gb]
    cases hcc : c.2.1
    · rw [decide_eq_true (hiff.1 hcc)]; rfl
    · rw [decide_eq_false fun e => by rw [hiff.2 e] at hcc; cases hcc]; rfl
  · rw [Bool.and_false]
    exact wp_bif (fun h => by cases h) fun _ => wp_call C_awake (wp_some rfl)
end Go.Proofs.Ytbpdbooalkkenaa

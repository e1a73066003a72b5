/-
  'DfaWitness': THE PLAIN LAW.
-/
import Derived.Test.YtbpdbooalkkenaaULawDfaPairs
set_option linter.unusedVariables false
set_option linter.unusedSimpArgs false
namespace Go.Proofs.Ytbpdbooalkkenaa
open Go Go.Av Go.Ev Go.Pl
theorem foldE_valid {d : DF} : ∀ (l : List Int) (s0 : Int), (∀ v ∈ l, 0 ≤ v ∧ v ≤ 4294967295) → foldE (stepE d) s0 l = .inl (l.foldl (stepS d) s0)
  | [], _, _ => rfl
  | x :: l, s0, hv => by
    have hx := hv x (List.mem_cons_self ..)
    have e : stepE d s0 x = .inl (stepS d s0 x) := by
      unfold stepE
      rw [show (decide (x < 0) || decide (x > 4294967295)) = false by simp; omega]; rfl
    simp only [foldE, e, List.foldl_cons]
    exact foldE_valid l _ fun v hv' => hv v (List.mem_cons_of_mem _ hv')
theorem match_valid {d : DF} (hg : Good d) {l : List Int} (hv : ∀ v ∈ l, 0 ≤ v ∧ v ≤ 4294967295) : matchS d l = accS d (l.foldl (stepS d) d.2.2.2.1) := by
  unfold matchS
  rw [if_pos hg, foldE_valid l _ hv]; rfl
theorem foldl_stepP {a b : DF} : ∀ (l : List Int) (x : PR), l.foldl (stepP a b) x = (l.foldl (stepS a) x.1, l.foldl (stepS b) x.2.1, ())
  | [], _ => rfl
  | v :: l, x => by rw [List.foldl_cons, foldl_stepP l]; rfl
theorem bad_check {a b : DF} (h : ¬ (Good a ∧ Good b)) : ((checkS a != (0 : Int)) || (checkS b != (0 : Int))) = true := by
  by_cases ha : Good a
  · have hb : ¬ Good b := fun hb => h ⟨ha, hb⟩
    have : checkS b ≠ 0 := fun e => hb (good_iff.1 e)
    simp [this]
  · have : checkS a ≠ 0 := fun e => ha (good_iff.1 e)
    simp [this]
theorem C_dfa_Witness_bad {a b : DF} (h : ¬ (Good a ∧ Good b)) : Calls' tbl N_dfa_Witness [.d (pr [.list tI, .list (.list tI), .list tB, tI]) a, .d (pr [.list tI, .list (.list tI), .list tB, tI]) b] [] q_dfa_Witness ([], false, ()) := by
  refine calls_of rfl (conv_of t_dfa_Witness rfl (fun O n => x_dfa_Witness O n a b) ?_)
  unfold G_dfa_Witness
  refine wp_call (C_dfa_Check a) (wp_bind (wp_or (fun _ => wp_call (C_dfa_Check b) (wp_some rfl)) ?_))
  rw [bad_check h]
  exact wp_bif (fun _ => wp_some rfl) fun h => by cases h
theorem C_ref16_Witness_bad {a b : DF} (h : ¬ (Good a ∧ Good b)) : Calls' tbl N_ref16_Witness [.d (pr [.list tI, .list (.list tI), .list tB, tI]) a, .d (pr [.list tI, .list (.list tI), .list tB, tI]) b] [] q_ref16_Witness ([], false, ()) := by
  refine calls_of rfl (conv_of t_ref16_Witness rfl (fun O n => x_ref16_Witness O n a b) ?_)
  unfold G_ref16_Witness
  refine wp_call (C_ref16_Check a) (wp_bind (wp_or (fun _ => wp_call (C_ref16_Check b) (wp_some rfl)) ?_))
  rw [bad_check h]
  exact wp_bif (fun _ => wp_some rfl) fun h => by cases h
theorem wit_both (a b : DF) : ∃ c : List Int × Bool × Unit, Calls' tbl N_dfa_Witness [.d (pr [.list tI, .list (.list tI), .list tB, tI]) a, .d (pr [.list tI, .list (.list tI), .list tB, tI]) b] [] q_dfa_Witness c ∧
    Calls' tbl N_ref16_Witness [.d (pr [.list tI, .list (.list tI), .list tB, tI]) a, .d (pr [.list tI, .list (.list tI), .list tB, tI]) b] [] q_ref16_Witness c ∧
    ((Good a ∧ Good b ∧ WitR a b c) ∨ (¬ (Good a ∧ Good b) ∧ c = ([], false, ()))) := by
  by_cases h : Good a ∧ Good b
  · obtain ⟨c, h1, h2⟩ := C_dfa_Witness h.1 h.2
    obtain ⟨c', g1, g2⟩ := C_ref16_Witness h.1 h.2
    have := witR_unique h1 g1
    subst this
    exact ⟨c, h2, g2, .inl ⟨h.1, h.2, h1⟩⟩
  · exact ⟨_, C_dfa_Witness_bad h, C_ref16_Witness_bad h, .inr ⟨h, rfl⟩⟩
theorem C_dfa_Same {a b : DF} {c : List Int × Bool × Unit} (hc : Calls' tbl N_dfa_Witness [.d (pr [.list tI, .list (.list tI), .list tB, tI]) a, .d (pr [.list tI, .list (.list tI), .list tB, tI]) b] [] q_dfa_Witness c) :
    Calls' tbl N_dfa_Same [.d (pr [.list tI, .list (.list tI), .list tB, tI]) a, .d (pr [.list tI, .list (.list tI), .list tB, tI]) b] [] q_dfa_Same (!((checkS a != (0 : Int)) || (checkS b != (0 : Int))) && !c.2.1, ()) := by
  refine calls_of rfl (conv_of t_dfa_Same rfl (fun O n => x_dfa_Same O n a b) ?_)
  unfold G_dfa_Same
  refine wp_call (C_dfa_Check a) (wp_bind (wp_or (fun _ => wp_call (C_dfa_Check b) (wp_some rfl)) ?_))
  refine wp_bif (fun h => wp_some ?_) fun h => wp_call hc (wp_some ?_)
  · rw [h]; rfl
  · rw [h]; rfl
theorem C_ref16_Same {a b : DF} {c : List Int × Bool × Unit} (hc : Calls' tbl N_ref16_Witness [.d (pr [.list tI, .list (.list tI), .list tB, tI]) a, .d (pr [.list tI, .list (.list tI), .list tB, tI]) b] [] q_ref16_Witness c) :
    Calls' tbl N_ref16_Same [.d (pr [.list tI, .list (.list tI), .list tB, tI]) a, .d (pr [.list tI, .list (.list tI), .list tB, tI]) b] [] q_ref16_Same (!((checkS a != (0 : Int)) || (checkS b != (0 : Int))) && !c.2.1, ()) := by
  refine calls_of rfl (conv_of t_ref16_Same rfl (fun O n => x_ref16_Same O n a b) ?_)
  unfold G_ref16_Same
  refine wp_call hc (wp_call (C_ref16_Check a) (wp_bind (wp_and (fun _ => wp_call (C_ref16_Check b) (wp_some rfl)) (wp_bind (wp_and (fun _ => wp_some rfl) (wp_some ?_))))))
  have e : ((checkS a == (0 : Int)) && (checkS b == (0 : Int))) = !((checkS a != (0 : Int)) || (checkS b != (0 : Int))) := by
    cases h1 : checkS a == (0 : Int) <;> cases h2 : checkS b == (0 : Int) <;> simp [bne, h1, h2]
  show some (outQ q_ref16_Same (((checkS a == (0 : Int)) && (checkS b == (0 : Int))) && !c.2.1, ())) = _
  rw [e]
theorem wit_differ {a b : DF} (ha : Good a) (hb : Good b) {c : List Int × Bool × Unit} (h : WitR a b c) (hc : c.2.1 = true) : (true ^^ (matchS a c.1 == matchS b c.1)) = true := by
  rcases h with ⟨k, x, h1, h2, _, h4, _⟩ | ⟨_, rfl⟩
  · obtain ⟨h5, h6⟩ := h4.reaches (expl_ok _)
    rw [h1] at h5
    cases h5
    have hv : ∀ v ∈ c.1, 0 ≤ v ∧ v ≤ 4294967295 := fun v hv => labs_spec ha hb v (h6 v hv)
    rw [match_valid ha hv, match_valid hb hv]
    rw [foldl_stepP] at h2
    exact h2
  · cases hc
theorem law_DfaWitness : LawOk N_law16_DfaWitness [pr [.list tI, .list (.list tI), .list tB, tI], pr [.list tI, .list (.list tI), .list tB, tI]] := by
  rintro ⟨a, b, _⟩ _
  refine ⟨outQ q_law16_DfaWitness (true, ()), ?_, rfl⟩
  refine conv_of t_law16_DfaWitness rfl (fun O n => x_law16_DfaWitness O n a b) ?_
  unfold G_law16_DfaWitness
  refine wp_call (C_law16_Large a) ?_
  refine wp_bind (wp_or (fun _ => wp_call (C_law16_Large b) (wp_some rfl)) ?_)
  refine wp_bif (fun _ => wp_call C_awake (wp_some rfl)) fun _ => ?_
  obtain ⟨c, h1, h2, h3⟩ := wit_both a b
  refine wp_call h1 (wp_call h2 ?_)
  refine wp_bind (wp_or (b := false) (fun _ => wp_some (by simp)) ?_)
  refine wp_bind (wp_or (b := false) (fun _ => wp_call (C_dfa_Same h1) (wp_call (C_ref16_Same h2) (wp_some (by simp)))) ?_)
  refine wp_bif (fun h => absurd h (by simp)) fun _ => ?_
  have hlen : c.1.length ≤ 16777216 := by
    rcases h3 with ⟨ha, hb, ⟨k, x, g1, _, _, g4, _⟩ | ⟨_, rfl⟩⟩ | ⟨_, rfl⟩
    · have := g4.len (expl_ok _)
      have := (List.getElem?_eq_some_iff.1 g1).1
      have := allP_fin ha hb
      have := prod_le ha hb
      omega
    · exact Nat.zero_le _
    · exact Nat.zero_le _
  refine wp_bind (wp_all (N := c.1.length) (good := fun _ => True) (e := (false, ())) (g := ()) (fun i hi => ?_) ?_ (fun _ => ?_) (fun ⟨_, _, h⟩ => absurd trivial h))
  · unfold L_law16_DfaWitness_0
    refine wp_in hi (wp_get0 hi (wp_get0 hi (wp_stop ?_ (by rw [wrap_succ hi (by omega)]))))
    simp
  · unfold L_law16_DfaWitness_0
    exact wp_out (wp_some rfl)
  · refine wp_bind (wp_or (b := true ^^ (matchS a c.1 == matchS b c.1)) (fun _ => wp_call (C_dfa_Match a c.1 (by omega)) (wp_call (C_dfa_Match b c.1 (by omega)) (wp_some rfl))) ?_)
    have e : ((!c.2.1) || (true ^^ (matchS a c.1 == matchS b c.1))) = true := by
      cases hc : c.2.1
      · rfl
      · rcases h3 with ⟨ha, hb, hw⟩ | ⟨_, rfl⟩
        · rw [wit_differ ha hb hw hc]; rfl
        · cases hc
    rw [e]
    exact wp_bind (wp_bif (fun _ => wp_call C_awake (wp_some (wp_some rfl))) fun h => by cases h)
end Go.Proofs.Ytbpdbooalkkenaa

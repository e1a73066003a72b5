/-
  dfa: ACCEPTANCE (both of the program and of the reference).
-/
import Derived.Test.YtbpdbooalkkenaaULawDfaEq
set_option linter.unusedVariables false
set_option linter.unusedSimpArgs false
namespace Go.Proofs.Ytbpdbooalkkenaa
open Go Go.Av Go.Ev
def IsClass (xs : List Int) (v : Int) (c : Nat) : Prop := ∃ h : c < xs.length, xs[c] ≤ v ∧ ∀ j (_ : j < xs.length), c < j → v < xs[j]
theorem class_unique {xs : List Int} {v : Int} {c c' : Nat} (h : IsClass xs v c) (h' : IsClass xs v c') : c = c' := by
  obtain ⟨h1, h2, h3⟩ := h
  obtain ⟨g1, g2, g3⟩ := h'
  rcases Nat.lt_trichotomy c c' with hl | he | hl
  · have := h3 c' g1 hl; omega
  · exact he
  · have := g3 c h1 hl; omega
open Classical in
noncomputable def classS (xs : List Int) (v : Int) : Nat := if h : ∃ c, IsClass xs v c then Classical.choose h else 0
theorem class_eq {xs : List Int} {v : Int} {c : Nat} (h : IsClass xs v c) : classS xs v = c := by
  have hx : ∃ c, IsClass xs v c := ⟨c, h⟩
  unfold classS
  rw [dif_pos hx]
  exact class_unique (Classical.choose_spec hx) h
theorem starts_lt {xs : List Int} (hs : Starts xs) : ∀ (j i : Nat) (h : j < xs.length) (hij : i < j), xs[i] < xs[j]
  | 0, i, h, hij => absurd hij (by omega)
  | j + 1, i, h, hij => by
    have h1 := hs.2.2.1 j h
    rcases Nat.lt_succ_iff_lt_or_eq.1 hij with hl | rfl
    · have := starts_lt hs j i (by omega) hl; omega
    · exact h1
theorem C_dfa_class (xs : List Int) (v : Int) (hs : Starts xs) (hl : xs.length ≤ 4611686018427387903) (hv : 0 ≤ v) : ∃ c, IsClass xs v c ∧ Calls' tbl N_dfa_class [.d (.list tI) xs, .d tI v] [] q_dfa_class ((c : Int), ()) := by
  suffices h : Conv tbl N_dfa_class [.d (.list tI) xs, .d tI v] [] fun o => ∃ c : Nat, o = some (outQ q_dfa_class ((c : Int), ())) ∧ IsClass xs v c by
    obtain ⟨c, ⟨k, hk, hc⟩, hh⟩ := calls_ex (sh := q_dfa_class) (R := fun c => ∃ k : Nat, c = ((k : Int), ()) ∧ IsClass xs v k) (fun _ => rfl) (conv_mono h fun o ⟨k, ho, hk⟩ => ⟨((k : Int), ()), ho, k, rfl, hk⟩)
    subst hk
    exact ⟨k, hc, hh⟩
  refine conv_of t_dfa_class rfl (fun O n => x_dfa_class O n xs v) ?_
  unfold G_dfa_class
  refine wp_bind (Go.Ev.wp_loop (σ := Int × Int × Unit) (fun s => ∃ lo hi : Nat, s = ((lo : Int), (hi : Int), ()) ∧ lo < hi ∧ hi ≤ xs.length ∧ (∀ h : lo < xs.length, xs[lo] ≤ v) ∧ ∀ h : hi < xs.length, v < xs[hi]) (fun s => (s.2.1 - s.1).toNat) ⟨0, xs.length, rfl, hs.1, Nat.le_refl _, fun h => by rw [hs.2.1 h]; exact hv, fun h => absurd h (by omega)⟩ ?_)
  rintro s ⟨lo, hi, rfl, h1, h2, h3, h4⟩
  unfold L_dfa_class_0
  have hw : IntKind.wrap .i64 ((hi : Int) - (lo : Int)) = (hi : Int) - lo := wrap_i64 (by omega) (by omega)
  refine wp_bif (fun hb => ?_) fun hb => ?_
  · rw [hw] at hb
    have hb : (hi : Int) - lo > 1 := by simpa using hb
    refine wp_guard rfl ?_
    have hm : IntKind.wrap .i64 (Int.tdiv (IntKind.wrap .i64 ((lo : Int) + (hi : Int))) (2 : Int)) = (((lo + hi) / 2 : Nat) : Int) := by
      rw [wrap_i64 (n := (lo : Int) + hi) (by omega) (by omega), show (lo : Int) + hi = ((lo + hi : Nat) : Int) by omega, show Int.tdiv ((lo + hi : Nat) : Int) 2 = (((lo + hi) / 2 : Nat) : Int) from rfl]
      exact wrap_i64 (by omega) (by omega)
    simp only [hm]
    have hlt : (lo + hi) / 2 < xs.length := by omega
    refine wp_get0 hlt (wp_bif (fun hc => wp_some ?_) fun hc => wp_some ?_)
    · have hc : xs[(lo + hi) / 2] ≤ v := by simpa using hc
      refine ⟨⟨(lo + hi) / 2, hi, rfl, by omega, h2, fun _ => hc, h4⟩, ?_⟩
      show ((hi : Int) - (((lo + hi) / 2 : Nat) : Int)).toNat < ((hi : Int) - lo).toNat
      omega
    · have hc : v < xs[(lo + hi) / 2] := by simpa using hc
      refine ⟨⟨lo, (lo + hi) / 2, rfl, by omega, by omega, h3, fun _ => hc⟩, ?_⟩
      show ((((lo + hi) / 2 : Nat) : Int) - lo).toNat < ((hi : Int) - lo).toNat
      omega
  · rw [hw] at hb
    have hb : ¬ (hi : Int) - lo > 1 := by simpa using hb
    refine wp_some (wp_some ⟨lo, rfl, by omega, h3 (by omega), fun j hj hlj => ?_⟩)
    have h5 := h4 (by omega)
    rcases Nat.lt_or_eq_of_le (show hi ≤ j by omega) with hl | rfl
    · have := starts_lt hs j hi hj hl; omega
    · exact h5
theorem C_ref16_class (xs : List Int) (v : Int) (hs : Starts xs) (hl : xs.length ≤ 4611686018427387903) (hv : 0 ≤ v) : ∃ c, IsClass xs v c ∧ Calls' tbl N_ref16_class [.d (.list tI) xs, .d tI v] [] q_ref16_class ((c : Int), ()) := by
  suffices h : Conv tbl N_ref16_class [.d (.list tI) xs, .d tI v] [] fun o => ∃ c : Nat, o = some (outQ q_ref16_class ((c : Int), ())) ∧ IsClass xs v c by
    obtain ⟨c, ⟨k, hk, hc⟩, hh⟩ := calls_ex (sh := q_ref16_class) (R := fun c => ∃ k : Nat, c = ((k : Int), ()) ∧ IsClass xs v k) (fun _ => rfl) (conv_mono h fun o ⟨k, ho, hk⟩ => ⟨((k : Int), ()), ho, k, rfl, hk⟩)
    subst hk
    exact ⟨k, hc, hh⟩
  refine conv_of t_ref16_class rfl (fun O n => x_ref16_class O n xs v) ?_
  unfold G_ref16_class
  refine wp_bind (wp_range (N := xs.length) (I := fun i s => ∃ c : Nat, s = ((c : Int), (i : Int), ()) ∧ (∀ h : c < xs.length, xs[c] ≤ v) ∧ c < xs.length ∧ ∀ j (_ : j < xs.length), c < j → j < i → v < xs[j]) ⟨0, rfl, fun h => by rw [hs.2.1 h]; exact hv, hs.1, fun j _ _ h => absurd h (by omega)⟩ ?_ ?_)
  · rintro i s hi ⟨c, rfl, h1, h2, h3⟩
    unfold L_ref16_class_0
    refine wp_in hi (wp_bind (wp_get0 hi (wp_bif (fun hc => wp_some (wp_some ?_)) fun hc => wp_some (wp_some ?_))))
    · have hc : xs[i] ≤ v := by simpa using hc
      refine ⟨i, by rw [wrap_succ hi (by omega)], fun _ => hc, hi, fun j _ h4 h5 => absurd h5 (by omega)⟩
    · have hc : v < xs[i] := by simpa using hc
      refine ⟨c, by rw [wrap_succ hi (by omega)], h1, h2, fun j hj h4 h5 => ?_⟩
      rcases Nat.lt_succ_iff_lt_or_eq.1 h5 with h6 | rfl
      · exact h3 j hj h4 h6
      · exact hc
  · rintro s ⟨c, rfl, h1, h2, h3⟩
    unfold L_ref16_class_0
    exact wp_out (wp_some (wp_some ⟨c, rfl, h2, h1 h2, fun j hj h4 => h3 j hj h4 hj⟩))
theorem Cs_dfa_class (xs : List Int) (v : Int) (hs : Starts xs) (hl : xs.length ≤ 4611686018427387903) (hv : 0 ≤ v) : Calls' tbl N_dfa_class [.d (.list tI) xs, .d tI v] [] q_dfa_class ((classS xs v : Int), ()) := by
  obtain ⟨c, hc, h⟩ := C_dfa_class xs v hs hl hv
  rw [class_eq hc]; exact h
theorem Cs_ref16_class (xs : List Int) (v : Int) (hs : Starts xs) (hl : xs.length ≤ 4611686018427387903) (hv : 0 ≤ v) : Calls' tbl N_ref16_class [.d (.list tI) xs, .d tI v] [] q_ref16_class ((classS xs v : Int), ()) := by
  obtain ⟨c, hc, h⟩ := C_ref16_class xs v hs hl hv
  rw [class_eq hc]; exact h
theorem class_lt {xs : List Int} {v : Int} (hs : Starts xs) (hl : xs.length ≤ 4611686018427387903) (hv : 0 ≤ v) : IsClass xs v (classS xs v) := by
  obtain ⟨c, hc, _⟩ := C_ref16_class xs v hs hl hv
  rw [class_eq hc]; exact hc
structure Good (d : DF) : Prop where
  starts : Starts d.1
  small : ¬ Big d
  len : 0 < d.2.1.length ∧ d.2.2.1.length = d.2.1.length
  rows : ∀ r ∈ d.2.1, r.length = d.1.length
  start : 0 ≤ d.2.2.2.1 ∧ d.2.2.2.1 < (d.2.1.length : Int)
  to : ∀ r ∈ d.2.1, ∀ t ∈ r, 0 ≤ t ∧ t < (d.2.1.length : Int)
theorem good_iff {d : DF} : checkS d = 0 ↔ Good d := by
  constructor
  · intro h
    unfold checkS at h
    by_cases h1 : Big d
    · rw [if_pos h1] at h; cases h
    rw [if_neg h1] at h
    by_cases h2 : Starts d.1
    case neg => rw [if_pos h2] at h; cases h
    rw [if_neg (not_not_intro h2)] at h
    by_cases h3 : d.2.1.length = 0 ∨ d.2.2.1.length ≠ d.2.1.length
    · rw [if_pos h3] at h; cases h
    rw [if_neg h3] at h
    by_cases h4 : ∀ r ∈ d.2.1, r.length = d.1.length
    case neg => rw [if_pos h4] at h; cases h
    rw [if_neg (not_not_intro h4)] at h
    by_cases h5 : d.2.2.2.1 < 0 ∨ d.2.2.2.1 ≥ (d.2.1.length : Int)
    · rw [if_pos h5] at h; cases h
    rw [if_neg h5] at h
    by_cases h6 : ∀ r ∈ d.2.1, ∀ t ∈ r, 0 ≤ t ∧ t < (d.2.1.length : Int)
    case neg => rw [if_pos h6] at h; cases h
    exact ⟨h2, h1, by omega, h4, by omega, h6⟩
  · intro h
    have h3 : ¬ (d.2.1.length = 0 ∨ d.2.2.1.length ≠ d.2.1.length) := by have := h.len; omega
    have h5 : ¬ (d.2.2.2.1 < 0 ∨ d.2.2.2.1 ≥ (d.2.1.length : Int)) := by have := h.start; omega
    unfold checkS
    rw [if_neg h.small, if_neg (not_not_intro h.starts), if_neg h3, if_neg (not_not_intro h.rows), if_neg h5, if_neg (not_not_intro h.to)]
noncomputable def stepS (d : DF) (s : Int) (v : Int) : Int := (d.2.1.getD s.toNat []).getD (classS d.1 v) 0
noncomputable def stepE (d : DF) (s : Int) (v : Int) : Int ⊕ Bool := bif decide (v < 0) || decide (v > 4294967295) then .inr false else .inl (stepS d s v)
open Classical in
noncomputable def matchS (d : DF) (path : List Int) : Bool := if Good d then (match foldE (stepE d) d.2.2.2.1 path with | .inl s => d.2.2.1.getD s.toNat false | .inr b => b) else false
theorem good_len {d : DF} (h : Good d) : d.2.1.length ≤ 4096 ∧ d.1.length ≤ 2000 ∧ d.2.2.1.length ≤ 4096 := by
  have := h.small
  unfold Big at this
  omega
theorem stepS_at {d : DF} (h : Good d) {s v : Int} (h0 : 0 ≤ s) (hs : s < (d.2.1.length : Int)) (hv : 0 ≤ v) : ∃ h1 : s.toNat < d.2.1.length, ∃ h2 : classS d.1 v < d.2.1[s.toNat].length, d.2.1[s.toNat][classS d.1 v] = stepS d s v ∧ 0 ≤ stepS d s v ∧ stepS d s v < (d.2.1.length : Int) := by
  have h1 : s.toNat < d.2.1.length := by omega
  have hl := good_len h
  obtain ⟨hc, _⟩ := class_lt h.starts (by omega) hv
  have h2 : classS d.1 v < d.2.1[s.toNat].length := by rw [h.rows _ (List.getElem_mem h1)]; exact hc
  have e : d.2.1[s.toNat][classS d.1 v] = stepS d s v := by
    unfold stepS
    simp only [List.getD_eq_getElem?_getD, List.getElem?_eq_getElem h1, Option.getD_some, List.getElem?_eq_getElem h2]
  refine ⟨h1, h2, e, ?_⟩
  rw [← e]
  exact h.to _ (List.getElem_mem h1) _ (List.getElem_mem h2)
theorem C_dfa_Match (d : DF) (path : List Int) (hp : path.length ≤ 9223372036854775807) : Calls' tbl N_dfa_Match [.d (pr [.list tI, .list (.list tI), .list tB, tI]) d, .d (.list tI) path] [] q_dfa_Match (matchS d path, ()) := by
  refine calls_of rfl (conv_of t_dfa_Match rfl (fun O n => x_dfa_Match O n d path) ?_)
  unfold G_dfa_Match
  refine wp_call (C_dfa_Check d) (wp_bif (fun h => wp_some ?_) fun h => ?_)
  · have : ¬ Good d := fun hg => by rw [good_iff.2 hg] at h; simp at h
    rw [show matchS d path = false from by unfold matchS; rw [if_neg this]]
  have hg : Good d := good_iff.1 (by simpa using h)
  have hl := good_len hg
  refine wp_bind (wp_foldE (xs := path) (f := stepE d) (s0 := d.2.2.2.1) (Inv := fun s => 0 ≤ s ∧ s < (d.2.1.length : Int)) (enc := fun i s => (s, (i : Int), ())) (oE := fun s => .inr (s, ())) (oB := fun b => .inl (b, ())) hg.start (fun i hi s hs => ?_) (fun s hs => ?_) ?_)
  · unfold L_dfa_Match_0
    refine wp_in hi (wp_get0 hi (wp_bind (wp_or (fun _ => wp_some rfl) (wp_bif (fun hb => wp_some ?_) fun hb => ?_))))
    · unfold stepE
      rw [hb]; rfl
    · have hv : 0 ≤ path[i] := by
        simp only [Bool.or_eq_false_iff, decide_eq_false_iff_not] at hb
        omega
      obtain ⟨h1, h2, h3, h4⟩ := stepS_at hg hs.1 hs.2 hv
      refine wp_getZ hs.1 h1 (wp_call (Cs_dfa_class d.1 path[i] hg.starts (by omega) hv) (wp_get0 h2 (wp_some ?_)))
      unfold stepE
      rw [hb]
      exact ⟨h4, by rw [h3, wrap_succ hi hp]⟩
  · unfold L_dfa_Match_0
    exact wp_out (wp_some rfl)
  · have hQ : ∀ r, foldE (stepE d) d.2.2.2.1 path = r → (∀ s, r = .inl s → 0 ≤ s ∧ s < (d.2.1.length : Int)) := by
      have : ∀ (l : List Int) (s0 : Int), 0 ≤ s0 ∧ s0 < (d.2.1.length : Int) → ∀ s, foldE (stepE d) s0 l = .inl s → 0 ≤ s ∧ s < (d.2.1.length : Int) := by
        intro l
        induction l with
        | nil => intro s0 h0 s e; cases e; exact h0
        | cons x l ih =>
          intro s0 h0 s e
          simp only [foldE] at e
          split at e
          · rename_i s' e'
            refine ih s' ?_ s e
            unfold stepE at e'
            cases hb : decide (x < 0) || decide (x > 4294967295)
            · rw [hb] at e'
              cases e'
              simp only [Bool.or_eq_false_iff, decide_eq_false_iff_not] at hb
              obtain ⟨_, _, _, h4⟩ := stepS_at hg h0.1 h0.2 (show 0 ≤ x by omega)
              exact h4
            · rw [hb] at e'; cases e'
          · cases e
      exact fun r e s h => this path _ hg.start s (e.trans h)
    cases hr : foldE (stepE d) d.2.2.2.1 path with
    | inl s =>
      obtain ⟨g1, g2⟩ := hQ _ rfl s hr
      have h3 : s.toNat < d.2.2.1.length := by have := hg.len; omega
      refine wp_getZ g1 h3 (wp_some ?_)
      rw [show matchS d path = d.2.2.1[s.toNat] from by unfold matchS; rw [if_pos hg, hr]; simp only [List.getD_eq_getElem?_getD, List.getElem?_eq_getElem h3, Option.getD_some]]
    | inr b =>
      refine wp_some ?_
      rw [show matchS d path = b from by unfold matchS; rw [if_pos hg, hr]]
theorem C_ref16_Match (d : DF) (path : List Int) (hp : path.length ≤ 9223372036854775807) : Calls' tbl N_ref16_Match [.d (pr [.list tI, .list (.list tI), .list tB, tI]) d, .d (.list tI) path] [] q_ref16_Match (matchS d path, ()) := by
  refine calls_of rfl (conv_of t_ref16_Match rfl (fun O n => x_ref16_Match O n d path) ?_)
  unfold G_ref16_Match
  refine wp_call (C_ref16_Check d) (wp_bif (fun h => wp_some ?_) fun h => ?_)
  · have : ¬ Good d := fun hg => by rw [good_iff.2 hg] at h; simp at h
    rw [show matchS d path = false from by unfold matchS; rw [if_neg this]]
  have hg : Good d := good_iff.1 (by simpa using h)
  have hl := good_len hg
  refine wp_bind (wp_foldE (xs := path) (f := stepE d) (s0 := d.2.2.2.1) (Inv := fun s => 0 ≤ s ∧ s < (d.2.1.length : Int)) (enc := fun i s => (s, (i : Int), ())) (oE := fun s => .inr (s, ())) (oB := fun b => .inl (b, ())) hg.start (fun i hi s hs => ?_) (fun s hs => ?_) ?_)
  · unfold L_ref16_Match_0
    refine wp_in hi (wp_get0 hi (wp_bind (wp_or (fun _ => wp_some rfl) (wp_bif (fun hb => wp_some ?_) fun hb => ?_))))
    · unfold stepE
      rw [hb]; rfl
    · have hv : 0 ≤ path[i] := by
        simp only [Bool.or_eq_false_iff, decide_eq_false_iff_not] at hb
        omega
      obtain ⟨h1, h2, h3, h4⟩ := stepS_at hg hs.1 hs.2 hv
      refine wp_getZ hs.1 h1 (wp_call (Cs_ref16_class d.1 path[i] hg.starts (by omega) hv) (wp_get0 h2 (wp_some ?_)))
      unfold stepE
      rw [hb]
      exact ⟨h4, by rw [h3, wrap_succ hi hp]⟩
  · unfold L_ref16_Match_0
    exact wp_out (wp_some rfl)
  · have hQ : ∀ r, foldE (stepE d) d.2.2.2.1 path = r → (∀ s, r = .inl s → 0 ≤ s ∧ s < (d.2.1.length : Int)) := by
      have : ∀ (l : List Int) (s0 : Int), 0 ≤ s0 ∧ s0 < (d.2.1.length : Int) → ∀ s, foldE (stepE d) s0 l = .inl s → 0 ≤ s ∧ s < (d.2.1.length : Int) := by
        intro l
        induction l with
        | nil => intro s0 h0 s e; cases e; exact h0
        | cons x l ih =>
          intro s0 h0 s e
          simp only [foldE] at e
          split at e
          · rename_i s' e'
            refine ih s' ?_ s e
            unfold stepE at e'
            cases hb : decide (x < 0) || decide (x > 4294967295)
            · rw [hb] at e'
              cases e'
              simp only [Bool.or_eq_false_iff, decide_eq_false_iff_not] at hb
              obtain ⟨_, _, _, h4⟩ := stepS_at hg h0.1 h0.2 (show 0 ≤ x by omega)
              exact h4
            · rw [hb] at e'; cases e'
          · cases e
      exact fun r e s h => this path _ hg.start s (e.trans h)
    cases hr : foldE (stepE d) d.2.2.2.1 path with
    | inl s =>
      obtain ⟨g1, g2⟩ := hQ _ rfl s hr
      have h3 : s.toNat < d.2.2.1.length := by have := hg.len; omega
      refine wp_getZ g1 h3 (wp_some ?_)
      rw [show matchS d path = d.2.2.1[s.toNat] from by unfold matchS; rw [if_pos hg, hr]; simp only [List.getD_eq_getElem?_getD, List.getElem?_eq_getElem h3, Option.getD_some]]
    | inr b =>
      refine wp_some ?_
      rw [show matchS d path = b from by unfold matchS; rw [if_pos hg, hr]]
end Go.Proofs.Ytbpdbooalkkenaa

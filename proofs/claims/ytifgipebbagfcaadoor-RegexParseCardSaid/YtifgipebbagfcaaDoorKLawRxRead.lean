/-
  PARSING: what the program's parser computes is the plain parser.
-/
import Derived.Test.YtifgipebbagfcaaDoorKLawRxNum
set_option linter.unusedVariables false
set_option linter.unusedSimpArgs false
namespace Go.Proofs.YtifgipebbagfcaaDoor
open Go Go.Av Go.Ev Go.Pl Go.Lib
abbrev bxP (s : List UInt8) (i : Nat) : List Ob := [.box T_str_regex_parser [.d tS s, .d tI (i : Int)]]
def up3 (s : List UInt8) (o : Option (Rx × Nat)) : Option (Rx × List UInt8 × Int × Unit) := o.map fun x => (x.1, s, (x.2 : Int), ())
theorem eqT {a b : Nat} (h : ((a : Int) == (b : Int)) = true) : a = b := by simp at h; omega
theorem eqF {a b : Nat} (h : ((a : Int) == (b : Int)) = false) : a ≠ b := by simp at h; omega
theorem neT {a b : Nat} (h : ((a : Int) != (b : Int)) = true) : a ≠ b := by simp at h; omega
theorem neF {a b : Nat} (h : ((a : Int) != (b : Int)) = false) : a = b := by simp at h; omega
theorem C_expect (s : List UInt8) (hs : s.length ≤ 10000) (i c : Nat) (hc : c ≠ 0) : CallsP' tbl N_regex_parser_expect_rd [.ptr 0 0, .d tY (c : Int)] (bxP s i) q_regex_parser_expect_rd (if pk s i = c then some (s, ((i + 1 : Nat) : Int), ()) else none) := by
  refine callsP_of (fun _ => rfl) (conv_of t_regex_parser_expect_rd rfl (fun O m => x_regex_parser_expect_rd O m (c : Int) s (i : Int)) ?_)
  unfold G_regex_parser_expect_rd
  refine wp_bind (wp_call (C_peek s i) (wp_bif (fun h => wp_some (wp_some ?_)) fun h => wp_some (wp_some ?_)))
  · rw [if_neg (neT h)]; rfl
  · have h := neF h
    have hlt := pk_lt (s := s) (i := i) (by omega)
    rw [if_pos h]
    show some (outQ q_regex_parser_expect_rd (s, IntKind.wrap .i64 ((i : Int) + 1), ())) = _
    rw [wrap_succ hlt (by omega)]; rfl
section
variable {s : List UInt8}
theorem C_atom (hs : s.length ≤ 10000) {num : Nat → Option (Int × Nat)} (hn : NumOk s num) (hc : ∀ i, i ≤ s.length → CallsP' tbl N_regex_parser_number_r [.ptr 0 0] (bxP s i) q_regex_parser_number_r ((num i).map fun x => (x.1, s, (x.2 : Int), ())))
    {alt : Nat → Option (Rx × Nat)} (hb : Bnd s alt) (d : Nat) (hd0 : d ≤ 100) (ha : ∀ i, i ≤ s.length → CallsP' tbl N_regex_parser_alternatives_rd [.ptr 0 0, .d tI ((d + 1 : Nat) : Int)] (bxP s i) q_regex_parser_alternatives_rd (up3 s (alt i))) (i : Nat) (hi : i ≤ s.length) :
    CallsP' tbl N_regex_parser_atom_rd [.ptr 0 0, .d tI (d : Int)] (bxP s i) q_regex_parser_atom_rd (up3 s (pAtom num s alt i)) := by
  refine callsP_of (fun _ => rfl) (conv_of t_regex_parser_atom_rd rfl (fun O m => x_regex_parser_atom_rd O m (d : Int) s (i : Int)) ?_)
  unfold G_regex_parser_atom_rd
  refine wp_call (C_peek s i) ?_
  dsimp only
  refine wp_bif (fun h => ?_) fun h46 => ?_
  · have h := eqT (b := 46) h
    have hlt := pk_lt (s := s) (i := i) (by omega)
    rw [wrap_succ hlt (by omega), show pAtom num s alt i = some (.mk 2 0 0 [], i + 1) by unfold pAtom; rw [if_pos h]]
    exact wp_some rfl
  have h46 := eqF (b := 46) h46
  refine wp_bif (fun h => ?_) fun h33 => ?_
  · have h := eqT (b := 33) h
    have hlt := pk_lt (s := s) (i := i) (by omega)
    rw [wrap_succ hlt (by omega), show pAtom num s alt i = some (.mk 4 0 0 [], i + 1) by unfold pAtom; rw [if_neg h46, if_pos h]]
    exact wp_some rfl
  have h33 := eqF (b := 33) h33
  refine wp_bif (fun h91 => ?_) fun h91 => ?_
  · have h91 := eqT (b := 91) h91
    have hlt := pk_lt (s := s) (i := i) (by omega)
    have hp : pAtom num s alt i = match num (i + 1) with
      | none => none
      | some (lo, j) => if pk s j = 45 then (match num (j + 1) with
        | none => none
        | some (up, k) => if pk s k = 93 then some (.mk 1 lo up [], k + 1) else none) else none := by
      unfold pAtom
      rw [if_neg h46, if_neg h33, if_pos h91]
      rfl
    rw [wrap_succ hlt (by omega), hp]
    refine wp_callP (hc (i + 1) (by omega)) ?_
    cases e1 : num (i + 1) with
    | none => exact wp_some rfl
    | some x =>
      obtain ⟨lo, j⟩ := x
      have b1 := hn.bnd _ _ _ (by omega) e1
      show Wp (fun n => Option.bind (callP (evF tbl n) N_regex_parser_expect_rd [.ptr 0 0, .d tY (45 : Int)] (bxP s j) q_regex_parser_expect_rd) _) _
      refine wp_callP (C_expect s hs j 45 (by decide)) ?_
      by_cases h45 : pk s j = 45
      · have hlt2 := pk_lt (s := s) (i := j) (by omega)
        simp only [if_pos h45]
        show Wp (fun n => Option.bind (callP (evF tbl n) N_regex_parser_number_r [.ptr 0 0] (bxP s (j + 1)) q_regex_parser_number_r) _) _
        refine wp_callP (hc (j + 1) (by omega)) ?_
        cases e2 : num (j + 1) with
        | none => exact wp_some rfl
        | some y =>
          obtain ⟨up, k⟩ := y
          show Wp (fun n => Option.bind (callP (evF tbl n) N_regex_parser_expect_rd [.ptr 0 0, .d tY (93 : Int)] (bxP s k) q_regex_parser_expect_rd) _) _
          refine wp_callP (C_expect s hs k 93 (by decide)) ?_
          by_cases h93 : pk s k = 93
          · simp only [if_pos h93]
            exact wp_some rfl
          · simp only [if_neg h93]
            exact wp_some rfl
      · simp only [if_neg h45]
        exact wp_some rfl
  have h91 := eqF (b := 91) h91
  refine wp_bif (fun h40 => ?_) fun h40 => ?_
  · have h40 := eqT (b := 40) h40
    have hlt := pk_lt (s := s) (i := i) (by omega)
    rw [wrap_succ hlt (by omega)]
    refine wp_call (C_peek s (i + 1)) ?_
    dsimp only
    refine wp_bif (fun h => ?_) fun h => ?_
    · have h := eqT (b := 41) h
      have hlt2 := pk_lt (s := s) (i := i + 1) (by omega)
      rw [wrap_succ hlt2 (by omega), show pAtom num s alt i = some (.mk 0 0 0 [], i + 2) by unfold pAtom; rw [if_neg h46, if_neg h33, if_neg h91, if_pos h40, if_pos h]]
      exact wp_some rfl
    · have h := eqF (b := 41) h
      have hp : pAtom num s alt i = match alt (i + 1) with
        | none => none
        | some (r, j) => if pk s j = 41 then some (r, j + 1) else none := by
        unfold pAtom
        rw [if_neg h46, if_neg h33, if_neg h91, if_pos h40, if_neg h]
        rfl
      rw [hp, show IntKind.wrap .i64 ((d : Int) + 1) = ((d + 1 : Nat) : Int) by rw [wrap_i64 (by omega) (by omega)]; rfl]
      refine wp_callP (ha (i + 1) (by omega)) ?_
      cases e1 : alt (i + 1) with
      | none => exact wp_some rfl
      | some x =>
        obtain ⟨r, j⟩ := x
        show Wp (fun n => Option.bind (callP (evF tbl n) N_regex_parser_expect_rd [.ptr 0 0, .d tY (41 : Int)] (bxP s j) q_regex_parser_expect_rd) _) _
        refine wp_callP (C_expect s hs j 41 (by decide)) ?_
        by_cases h41 : pk s j = 41
        · simp only [if_pos h41]
          refine wp_some ?_
          rw [rx_eta]; rfl
        · simp only [if_neg h41]
          exact wp_some rfl
  · have h40 := eqF (b := 40) h40
    have hp : pAtom num s alt i = match num i with
      | none => none
      | some (n, j) => some (.mk 1 n n [], j) := by
      unfold pAtom
      rw [if_neg h46, if_neg h33, if_neg h91, if_neg h40]
      rfl
    rw [hp]
    refine wp_callP (hc i hi) ?_
    cases e1 : num i with
    | none => exact wp_some rfl
    | some x => exact wp_some rfl
def itemG (s : List UInt8) (one : Nat → Option (Rx × Nat)) (i : Nat) : Option (Rx × Nat) := match one i with
  | none => none
  | some (r, j) => if pk s j = 42 then some (.mk 5 0 0 [r], j + 1) else if pk s j = 43 then some (.mk 6 0 0 [r], j + 1) else if pk s j = 63 then some (.mk 7 0 0 [r], j + 1) else some (r, j)
theorem C_item (hs : s.length ≤ 10000) {one : Nat → Option (Rx × Nat)} (d : Nat) (ha : ∀ i, i ≤ s.length → CallsP' tbl N_regex_parser_atom_rd [.ptr 0 0, .d tI (d : Int)] (bxP s i) q_regex_parser_atom_rd (up3 s (one i))) (i : Nat) (hi : i ≤ s.length) :
    CallsP' tbl N_regex_parser_item_rd [.ptr 0 0, .d tI (d : Int)] (bxP s i) q_regex_parser_item_rd (up3 s (itemG s one i)) := by
  refine callsP_of (fun _ => rfl) (conv_of t_regex_parser_item_rd rfl (fun O m => x_regex_parser_item_rd O m (d : Int) s (i : Int)) ?_)
  unfold G_regex_parser_item_rd itemG
  refine wp_callP (ha i hi) ?_
  cases e1 : one i with
  | none => exact wp_some rfl
  | some x =>
    obtain ⟨r, j⟩ := x
    simp only
    have key : ∀ (k : Int), j < s.length → some (outQ q_regex_parser_item_rd (Rx.mk k 0 0 [Rx.mk r.out.1 r.out.2.1 r.out.2.2.1 r.out.2.2.2.1], s, IntKind.wrap .i64 ((j : Int) + 1), ())) = (up3 s (some (.mk k 0 0 [r], j + 1))).map (outQ q_regex_parser_item_rd) := fun k hj => by
      rw [rx_eta, wrap_succ hj (by omega)]; rfl
    show Wp (fun n => Option.bind (Option.bind (callR (evF tbl n) N_regex_parser_peek_r [.ptr 0 0] (bxP s j) q_regex_parser_peek_r) _) _) _
    refine wp_bind (wp_call (C_peek s j) ?_)
    dsimp only
    refine wp_bif (fun h => wp_some (wp_some ?_)) fun h1 => ?_
    · have h := eqT (b := 42) h
      rw [if_pos h]; exact key 5 (pk_lt (by omega))
    have h1 := eqF (b := 42) h1
    refine wp_bif (fun h => wp_some (wp_some ?_)) fun h2 => ?_
    · have h := eqT (b := 43) h
      rw [if_neg h1, if_pos h]; exact key 6 (pk_lt (by omega))
    have h2 := eqF (b := 43) h2
    refine wp_bif (fun h => wp_some (wp_some ?_)) fun h3 => wp_some (wp_some ?_)
    · have h := eqT (b := 63) h
      rw [if_neg h1, if_neg h2, if_pos h]; exact key 7 (pk_lt (by omega))
    · have h3 := eqF (b := 63) h3
      rw [if_neg h1, if_neg h2, if_neg h3]
      show some (outQ q_regex_parser_item_rd (Rx.mk r.out.1 r.out.2.1 r.out.2.2.1 r.out.2.2.2.1, s, (j : Int), ())) = _
      rw [rx_eta]; rfl
theorem loop_sequence (hs : s.length ≤ 10000) {one : Nat → Option (Rx × Nat)} (hb : Bnd s one) (d : Nat) (ha : ∀ i, i ≤ s.length → CallsP' tbl N_regex_parser_item_rd [.ptr 0 0, .d tI (d : Int)] (bxP s i) q_regex_parser_item_rd (up3 s (one i))) (T : Option (List Rx × Nat)) (r : Rx) (i f : Nat) (hi : i ≤ s.length) (h1 : 1 ≤ i) (hf : s.length ≤ f + i) (hT : (if pk s i = 32 then pMany s 32 one f [r] (i + 1) else some ([r], i)) = T) :
    Wp (fun n => loopN n (L_regex_parser_sequence_rd_0 (evF tbl n) n (d : Int)) (s, (i : Int), (0 : Int), (0 : Int), (0 : Int), ([r] : List Rx), ())) fun t => match t with
      | .inl _ => T = none
      | .inr t => ∃ (acc : List Rx) (j : Nat), t = (s, (j : Int), (0 : Int), (0 : Int), (0 : Int), acc, ()) ∧ T = some (acc, j) := by
  refine Ev.wp_loop (fun t => ∃ (acc : List Rx) (j f : Nat), t = (s, (j : Int), (0 : Int), (0 : Int), (0 : Int), acc, ()) ∧ j ≤ s.length ∧ acc.length ≤ j ∧ s.length ≤ f + j ∧ (if pk s j = 32 then pMany s 32 one f acc (j + 1) else some (acc, j)) = T) (fun t => s.length - t.2.1.toNat) ⟨[r], i, f, rfl, hi, h1, hf, hT⟩ ?_
  rintro t ⟨acc, j, f, rfl, hj, hacc, hf, hT⟩
  unfold L_regex_parser_sequence_rd_0
  refine wp_call (C_peek s j) ?_
  dsimp only
  refine wp_bif (fun h => ?_) fun h => wp_some ⟨acc, j, rfl, ?_⟩
  · have h := eqT (b := 32) h
    have hlt := pk_lt (s := s) (i := j) (by omega)
    rw [if_pos h] at hT
    rw [wrap_succ hlt (by omega)]
    refine wp_callP (ha (j + 1) (by omega)) ?_
    obtain ⟨f2, rfl⟩ : ∃ g, f = g + 1 := ⟨f - 1, by omega⟩
    rw [pMany] at hT
    cases e1 : one (j + 1) with
    | none =>
      rw [e1] at hT
      exact wp_some hT.symm
    | some x =>
      obtain ⟨r2, k⟩ := x
      obtain ⟨b1, b2, _⟩ := hb _ _ _ (by omega) e1
      rw [e1] at hT
      simp only at hT
      refine wp_guard (decide_eq_true ?_) (wp_some ⟨⟨acc ++ [r2], k, f2, rfl, b2, ?_, by omega, hT⟩, ?_⟩)
      · show (acc.length + 1) * 48 ≤ 140737488355328
        omega
      · rw [List.length_append, List.length_singleton]; omega
      · show s.length - (k : Int).toNat < s.length - (j : Int).toNat
        omega
  · have h := eqF (b := 32) h
    rw [if_neg h] at hT
    exact hT.symm
theorem loop_alternatives (hs : s.length ≤ 10000) {one : Nat → Option (Rx × Nat)} (hb : Bnd s one) (d : Nat) (ha : ∀ i, i ≤ s.length → CallsP' tbl N_regex_parser_sequence_rd [.ptr 0 0, .d tI (d : Int)] (bxP s i) q_regex_parser_sequence_rd (up3 s (one i))) (T : Option (List Rx × Nat)) (r : Rx) (i f : Nat) (hi : i ≤ s.length) (h1 : 1 ≤ i) (hf : s.length ≤ f + i) (hT : (if pk s i = 124 then pMany s 124 one f [r] (i + 1) else some ([r], i)) = T) :
    Wp (fun n => loopN n (L_regex_parser_alternatives_rd_0 (evF tbl n) n (d : Int)) (s, (i : Int), (0 : Int), (0 : Int), (0 : Int), ([r] : List Rx), ())) fun t => match t with
      | .inl _ => T = none
      | .inr t => ∃ (acc : List Rx) (j : Nat), t = (s, (j : Int), (0 : Int), (0 : Int), (0 : Int), acc, ()) ∧ T = some (acc, j) := by
  refine Ev.wp_loop (fun t => ∃ (acc : List Rx) (j f : Nat), t = (s, (j : Int), (0 : Int), (0 : Int), (0 : Int), acc, ()) ∧ j ≤ s.length ∧ acc.length ≤ j ∧ s.length ≤ f + j ∧ (if pk s j = 124 then pMany s 124 one f acc (j + 1) else some (acc, j)) = T) (fun t => s.length - t.2.1.toNat) ⟨[r], i, f, rfl, hi, h1, hf, hT⟩ ?_
  rintro t ⟨acc, j, f, rfl, hj, hacc, hf, hT⟩
  unfold L_regex_parser_alternatives_rd_0
  refine wp_call (C_peek s j) ?_
  dsimp only
  refine wp_bif (fun h => ?_) fun h => wp_some ⟨acc, j, rfl, ?_⟩
  · have h := eqT (b := 124) h
    have hlt := pk_lt (s := s) (i := j) (by omega)
    rw [if_pos h] at hT
    rw [wrap_succ hlt (by omega)]
    refine wp_callP (ha (j + 1) (by omega)) ?_
    obtain ⟨f2, rfl⟩ : ∃ g, f = g + 1 := ⟨f - 1, by omega⟩
    rw [pMany] at hT
    cases e1 : one (j + 1) with
    | none =>
      rw [e1] at hT
      exact wp_some hT.symm
    | some x =>
      obtain ⟨r2, k⟩ := x
      obtain ⟨b1, b2, _⟩ := hb _ _ _ (by omega) e1
      rw [e1] at hT
      simp only at hT
      refine wp_guard (decide_eq_true ?_) (wp_some ⟨⟨acc ++ [r2], k, f2, rfl, b2, ?_, by omega, hT⟩, ?_⟩)
      · show (acc.length + 1) * 48 ≤ 140737488355328
        omega
      · rw [List.length_append, List.length_singleton]; omega
      · show s.length - (k : Int).toNat < s.length - (j : Int).toNat
        omega
  · have h := eqF (b := 124) h
    rw [if_neg h] at hT
    exact hT.symm
theorem C_sequence (hs : s.length ≤ 10000) {one : Nat → Option (Rx × Nat)} (hb : Bnd s one) (d : Nat) (ha : ∀ i, i ≤ s.length → CallsP' tbl N_regex_parser_item_rd [.ptr 0 0, .d tI (d : Int)] (bxP s i) q_regex_parser_item_rd (up3 s (one i))) (i : Nat) (hi : i ≤ s.length) :
    CallsP' tbl N_regex_parser_sequence_rd [.ptr 0 0, .d tI (d : Int)] (bxP s i) q_regex_parser_sequence_rd (up3 s (pGrp s 32 3 one i)) := by
  refine callsP_of (fun _ => rfl) (conv_of t_regex_parser_sequence_rd rfl (fun O m => x_regex_parser_sequence_rd O m (d : Int) s (i : Int)) ?_)
  unfold G_regex_parser_sequence_rd pGrp
  refine wp_callP (ha i hi) ?_
  obtain ⟨f, hf⟩ : ∃ f, s.length + 1 - i = f + 1 := ⟨s.length - i, by omega⟩
  rw [hf, pMany]
  cases e1 : one i with
  | none => exact wp_some rfl
  | some x =>
    obtain ⟨r, j⟩ := x
    obtain ⟨b1, b2, _⟩ := hb _ _ _ hi e1
    simp only [List.nil_append]
    show Wp (fun n => Option.bind (loopN n (L_regex_parser_sequence_rd_0 (evF tbl n) n (d : Int)) (s, (j : Int), (0 : Int), (0 : Int), (0 : Int), ([r] : List Rx), ())) _) _
    refine wp_bind (Ev.wp_mono (loop_sequence hs hb d ha _ r j f b2 (by omega) (by omega) rfl) ?_)
    rintro (t | t) ht
    · rw [show _ = none from ht]
      exact wp_some rfl
    · obtain ⟨acc, k, rfl, hT⟩ := ht
      rw [hT]
      refine wp_bif (fun h => ?_) fun h => wp_some ?_
      · have h := eqT (b := 1) h
        obtain ⟨x, rfl⟩ := List.length_eq_one_iff.1 h
        refine wp_idx (by decide) rfl (wp_get rfl (wp_some ?_))
        rw [rx_eta]; rfl
      · have h := eqF (b := 1) h
        simp only
        rw [fin_long h]; rfl
theorem C_alternatives (hs : s.length ≤ 10000) {one : Nat → Option (Rx × Nat)} (hb : Bnd s one) (d : Nat) (hd0 : d ≤ 32) (ha : ∀ i, i ≤ s.length → CallsP' tbl N_regex_parser_sequence_rd [.ptr 0 0, .d tI (d : Int)] (bxP s i) q_regex_parser_sequence_rd (up3 s (one i))) (i : Nat) (hi : i ≤ s.length) :
    CallsP' tbl N_regex_parser_alternatives_rd [.ptr 0 0, .d tI (d : Int)] (bxP s i) q_regex_parser_alternatives_rd (up3 s (pGrp s 124 4 one i)) := by
  refine callsP_of (fun _ => rfl) (conv_of t_regex_parser_alternatives_rd rfl (fun O m => x_regex_parser_alternatives_rd O m (d : Int) s (i : Int)) ?_)
  unfold G_regex_parser_alternatives_rd pGrp
  refine wp_bind (wp_bifF (decide_eq_false (by omega)) (wp_some ?_))
  show Wp (fun n => Option.bind (callP (evF tbl n) N_regex_parser_sequence_rd [.ptr 0 0, .d tI (d : Int)] (bxP s i) q_regex_parser_sequence_rd) _) _
  refine wp_callP (ha i hi) ?_
  obtain ⟨f, hf⟩ : ∃ f, s.length + 1 - i = f + 1 := ⟨s.length - i, by omega⟩
  rw [hf, pMany]
  cases e1 : one i with
  | none => exact wp_some rfl
  | some x =>
    obtain ⟨r, j⟩ := x
    obtain ⟨b1, b2, _⟩ := hb _ _ _ hi e1
    simp only [List.nil_append]
    show Wp (fun n => Option.bind (loopN n (L_regex_parser_alternatives_rd_0 (evF tbl n) n (d : Int)) (s, (j : Int), (0 : Int), (0 : Int), (0 : Int), ([r] : List Rx), ())) _) _
    refine wp_bind (Ev.wp_mono (loop_alternatives hs hb d ha _ r j f b2 (by omega) (by omega) rfl) ?_)
    rintro (t | t) ht
    · rw [show _ = none from ht]
      exact wp_some rfl
    · obtain ⟨acc, k, rfl, hT⟩ := ht
      rw [hT]
      refine wp_bif (fun h => ?_) fun h => wp_some ?_
      · have h := eqT (b := 1) h
        obtain ⟨x, rfl⟩ := List.length_eq_one_iff.1 h
        refine wp_idx (by decide) rfl (wp_get rfl (wp_some ?_))
        rw [rx_eta]; rfl
      · have h := eqF (b := 1) h
        simp only
        rw [fin_long h]; rfl
theorem C_alt33 (i : Nat) : CallsP' tbl N_regex_parser_alternatives_rd [.ptr 0 0, .d tI (33 : Int)] (bxP s i) q_regex_parser_alternatives_rd none := by
  refine callsP_of (fun _ => rfl) (conv_of t_regex_parser_alternatives_rd rfl (fun O m => x_regex_parser_alternatives_rd O m (33 : Int) s (i : Int)) ?_)
  unfold G_regex_parser_alternatives_rd
  exact wp_bind (wp_bifT rfl (wp_some (wp_some rfl)))
theorem C_alts (hs : s.length ≤ 10000) {num : Nat → Option (Int × Nat)} (hn : NumOk s num) (hc : ∀ i, i ≤ s.length → CallsP' tbl N_regex_parser_number_r [.ptr 0 0] (bxP s i) q_regex_parser_number_r ((num i).map fun x => (x.1, s, (x.2 : Int), ()))) :
    ∀ (b d : Nat), d + b = 33 → ∀ i, i ≤ s.length → CallsP' tbl N_regex_parser_alternatives_rd [.ptr 0 0, .d tI (d : Int)] (bxP s i) q_regex_parser_alternatives_rd (up3 s (pAlt num s b i))
  | 0, d, h, i, _ => by
    have : d = 33 := by omega
    subst this
    exact C_alt33 i
  | b + 1, d, h, i, hi => by
    have hb := bnd_alt hn b
    have h1 := C_atom hs hn hc hb d (by omega) (C_alts hs hn hc b (d + 1) (by omega))
    have h2 := C_item hs d h1
    have h3 := C_sequence hs (bnd_item hn hb) d h2
    exact C_alternatives hs (bnd_grp (bnd_item hn hb) (by decide) 3) d (by omega) h3 i hi
end
end Go.Proofs.YtifgipebbagfcaaDoor

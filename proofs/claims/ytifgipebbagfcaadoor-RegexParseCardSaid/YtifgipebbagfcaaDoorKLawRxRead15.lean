/-
  PARSING: what the reference's parser computes is the plain parser.
-/
import Derived.Test.YtifgipebbagfcaaDoorKLawRxRead
set_option linter.unusedVariables false
set_option linter.unusedSimpArgs false
namespace Go.Proofs.YtifgipebbagfcaaDoor
open Go Go.Av Go.Ev Go.Pl Go.Lib
abbrev bxR (s : List UInt8) (i : Nat) : List Ob := [.box T_str_ref15_parser [.d tS s, .d tI (i : Int)]]
def Rd (s : List UInt8) (one : Nat → Option (Rx × Nat)) (C : Nat → Rx → Bool → Nat → Prop) : Prop := ∀ i, i ≤ s.length → ∃ (r : Rx) (ok : Bool) (j : Nat), (i ≤ j ∧ j ≤ s.length) ∧ one i = (if ok then some (r, j) else none) ∧ C i r ok j
section
variable {s : List UInt8}
theorem C_atom15 (hs : s.length ≤ 10000) {num : Nat → Option (Int × Nat)} (hc : ∀ i, i ≤ s.length → ∃ (v : Int) (ok : Bool) (j : Nat), (i ≤ j ∧ j ≤ s.length) ∧ num i = (if ok then some (v, j) else none) ∧
      Calls' tbl N_ref15_parser_number_r [.ptr 0 0] (bxR s i) q_ref15_parser_number_r (v, ok, s, (j : Int), ()))
    {alt : Nat → Option (Rx × Nat)} (d : Nat) (hd0 : d ≤ 32) (ha : Rd s alt fun i r ok j => Calls' tbl N_ref15_parser_alt_rd [.ptr 0 0, .d tI ((d + 1 : Nat) : Int)] (bxR s i) q_ref15_parser_alt_rd (r, ok, s, (j : Int), ())) :
    Rd s (pAtom num s alt) fun i r ok j => Calls' tbl N_ref15_parser_atom_rd [.ptr 0 0, .d tI (d : Int)] (bxR s i) q_ref15_parser_atom_rd (r, ok, s, (j : Int), ()) := by
  intro i hi
  suffices h : ∃ c : HL q_ref15_parser_atom_rd.sl, (∃ (r : Rx) (ok : Bool) (j : Nat), c = (r, ok, s, (j : Int), ()) ∧ (i ≤ j ∧ j ≤ s.length) ∧ pAtom num s alt i = (if ok then some (r, j) else none)) ∧ Calls' tbl N_ref15_parser_atom_rd [.ptr 0 0, .d tI (d : Int)] (bxR s i) q_ref15_parser_atom_rd c by
    obtain ⟨c, ⟨r, ok, j, rfl, h1, h2⟩, h3⟩ := h
    exact ⟨r, ok, j, h1, h2, h3⟩
  refine calls_ex (fun _ => rfl) (conv_of t_ref15_parser_atom_rd rfl (fun O m => x_ref15_parser_atom_rd O m (d : Int) s (i : Int)) ?_)
  unfold G_ref15_parser_atom_rd
  refine wp_bifF (decide_eq_false (by omega)) ?_
  have nx : ∀ (k c : Nat), c ≠ 0 → k ≤ s.length → Calls' tbl N_ref15_parser_next_rd [.ptr 0 0, .d tY (c : Int)] (bxR s k) q_ref15_parser_next_rd (decide (pk s k = c), s, ((if pk s k = c then k + 1 else k : Nat) : Int), ()) := fun k c hc0 hk => C_next s k c hc0 hs hk
  refine wp_call (nx i 46 (by decide) hi) ?_
  by_cases h46 : pk s i = 46
  · have hlt := pk_lt (s := s) (i := i) (by omega)
    refine wp_bifT (decide_eq_true h46) (wp_some ⟨_, rfl, .mk 2 0 0 [], true, i + 1, ?_, ⟨by omega, by omega⟩, ?_⟩)
    · simp only [if_pos h46]; rfl
    · unfold pAtom; rw [if_pos h46]; rfl
  refine wp_bifF (decide_eq_false h46) ?_
  simp only [if_neg h46]
  refine wp_call (nx i 33 (by decide) hi) ?_
  by_cases h33 : pk s i = 33
  · have hlt := pk_lt (s := s) (i := i) (by omega)
    refine wp_bifT (decide_eq_true h33) (wp_some ⟨_, rfl, .mk 4 0 0 [], true, i + 1, ?_, ⟨by omega, by omega⟩, ?_⟩)
    · simp only [if_pos h33]; rfl
    · unfold pAtom; rw [if_neg h46, if_pos h33]; rfl
  refine wp_bifF (decide_eq_false h33) ?_
  simp only [if_neg h33]
  refine wp_call (nx i 40 (by decide) hi) ?_
  by_cases h40 : pk s i = 40
  · have hlt := pk_lt (s := s) (i := i) (by omega)
    refine wp_bifT (decide_eq_true h40) ?_
    simp only [if_pos h40]
    refine wp_call (nx (i + 1) 41 (by decide) (by omega)) ?_
    by_cases h41 : pk s (i + 1) = 41
    · have hlt2 := pk_lt (s := s) (i := i + 1) (by omega)
      refine wp_bifT (decide_eq_true h41) (wp_some ⟨_, rfl, .mk 0 0 0 [], true, i + 2, ?_, ⟨by omega, by omega⟩, ?_⟩)
      · simp only [if_pos h41]; rfl
      · unfold pAtom; rw [if_neg h46, if_neg h33, if_neg (by omega), if_pos h40, if_pos h41]; rfl
    refine wp_bifF (decide_eq_false h41) ?_
    simp only [if_neg h41]
    rw [show IntKind.wrap .i64 ((d : Int) + 1) = ((d + 1 : Nat) : Int) by rw [wrap_i64 (by omega) (by omega)]; rfl]
    obtain ⟨r, ok, j, hj, e, hcall⟩ := ha (i + 1) (by omega)
    have hp : pAtom num s alt i = match alt (i + 1) with
      | none => none
      | some (r, j) => if pk s j = 41 then some (r, j + 1) else none := by
      unfold pAtom
      rw [if_neg h46, if_neg h33, if_neg (by omega), if_pos h40, if_neg h41]
      rfl
    rw [e] at hp
    refine wp_call hcall ?_
    cases ok with
    | true =>
      refine wp_bifT rfl (wp_call (nx j 41 (by decide) hj.2) ?_)
      simp only [if_true] at hp
      by_cases hj41 : pk s j = 41
      · have hlt2 := pk_lt (s := s) (i := j) (by omega)
        rw [if_pos hj41] at hp
        refine wp_some ⟨_, rfl, r, true, j + 1, ?_, ⟨by omega, by omega⟩, hp⟩
        show (Rx.mk r.out.1 r.out.2.1 r.out.2.2.1 r.out.2.2.2.1, decide (pk s j = 41), s, ((if pk s j = 41 then j + 1 else j : Nat) : Int), ()) = _
        rw [rx_eta, if_pos hj41, decide_eq_true hj41]
      · rw [if_neg hj41] at hp
        refine wp_some ⟨_, rfl, r, false, j, ?_, ⟨by omega, by omega⟩, hp⟩
        show (Rx.mk r.out.1 r.out.2.1 r.out.2.2.1 r.out.2.2.2.1, decide (pk s j = 41), s, ((if pk s j = 41 then j + 1 else j : Nat) : Int), ()) = _
        rw [rx_eta, if_neg hj41, decide_eq_false hj41]
    | false =>
      refine wp_bifF rfl (wp_some ⟨_, rfl, r, false, j, ?_, ⟨by omega, by omega⟩, hp⟩)
      show (Rx.mk r.out.1 r.out.2.1 r.out.2.2.1 r.out.2.2.2.1, false, s, (j : Int), ()) = _
      rw [rx_eta]
  refine wp_bifF (decide_eq_false h40) ?_
  simp only [if_neg h40]
  refine wp_call (nx i 91 (by decide) hi) ?_
  by_cases h91 : pk s i = 91
  · have hlt := pk_lt (s := s) (i := i) (by omega)
    have hp : pAtom num s alt i = match num (i + 1) with
      | none => none
      | some (lo, j) => if pk s j = 45 then (match num (j + 1) with
        | none => none
        | some (up, k) => if pk s k = 93 then some (.mk 1 lo up [], k + 1) else none) else none := by
      unfold pAtom
      rw [if_neg h46, if_neg h33, if_pos h91]
      rfl
    refine wp_bifT (decide_eq_true h91) ?_
    simp only [if_pos h91]
    obtain ⟨v1, ok1, j1, b1, e1, c1⟩ := hc (i + 1) (by omega)
    refine wp_call c1 (wp_call (nx j1 45 (by decide) b1.2) ?_)
    have bj : (if pk s j1 = 45 then j1 + 1 else j1) ≤ s.length ∧ j1 ≤ (if pk s j1 = 45 then j1 + 1 else j1) := by
      split
      · have := pk_lt (s := s) (i := j1) (by omega); omega
      · omega
    obtain ⟨v2, ok2, j2, b2, e2, c2⟩ := hc (if pk s j1 = 45 then j1 + 1 else j1) bj.1
    refine wp_call c2 ?_
    rw [e1] at hp
    cases ok1 with
    | false => exact wp_bifF rfl (wp_some ⟨_, rfl, .mk 1 v1 v2 [], false, j2, rfl, ⟨by omega, by omega⟩, hp⟩)
    | true =>
      simp only [if_true] at hp
      refine wp_bifT rfl ?_
      by_cases h45 : pk s j1 = 45
      · rw [if_pos h45] at hp e2
        refine wp_bifT (decide_eq_true h45) ?_
        rw [e2] at hp
        cases ok2 with
        | false => exact wp_bifF rfl (wp_some ⟨_, rfl, .mk 1 v1 v2 [], false, j2, rfl, ⟨by omega, by omega⟩, hp⟩)
        | true =>
          simp only [if_true] at hp
          refine wp_bifT rfl (wp_call (nx j2 93 (by decide) b2.2) ?_)
          by_cases h93 : pk s j2 = 93
          · have hlt2 := pk_lt (s := s) (i := j2) (by omega)
            rw [if_pos h93] at hp
            refine wp_some ⟨_, rfl, .mk 1 v1 v2 [], true, j2 + 1, ?_, ⟨by omega, by omega⟩, hp⟩
            show (Rx.mk 1 v1 v2 [], decide (pk s j2 = 93), s, ((if pk s j2 = 93 then j2 + 1 else j2 : Nat) : Int), ()) = _
            rw [if_pos h93, decide_eq_true h93]
          · rw [if_neg h93] at hp
            refine wp_some ⟨_, rfl, .mk 1 v1 v2 [], false, j2, ?_, ⟨by omega, by omega⟩, hp⟩
            show (Rx.mk 1 v1 v2 [], decide (pk s j2 = 93), s, ((if pk s j2 = 93 then j2 + 1 else j2 : Nat) : Int), ()) = _
            rw [if_neg h93, decide_eq_false h93]
      · rw [if_neg h45] at hp
        exact wp_bifF (decide_eq_false h45) (wp_some ⟨_, rfl, .mk 1 v1 v2 [], false, j2, rfl, ⟨by omega, by omega⟩, hp⟩)
  refine wp_bifF (decide_eq_false h91) ?_
  simp only [if_neg h91]
  obtain ⟨v1, ok1, j1, b1, e1, c1⟩ := hc i hi
  have hp : pAtom num s alt i = match num i with
    | none => none
    | some (n, j) => some (.mk 1 n n [], j) := by
    unfold pAtom
    rw [if_neg h46, if_neg h33, if_neg h91, if_neg h40]
    rfl
  rw [e1] at hp
  refine wp_call c1 (wp_some ⟨_, rfl, .mk 1 v1 v1 [], ok1, j1, rfl, ⟨by omega, by omega⟩, ?_⟩)
  rw [hp]
  cases ok1 <;> rfl
theorem C_item15 (hs : s.length ≤ 10000) {one : Nat → Option (Rx × Nat)} (d : Nat) (ha : Rd s one fun i r ok j => Calls' tbl N_ref15_parser_atom_rd [.ptr 0 0, .d tI (d : Int)] (bxR s i) q_ref15_parser_atom_rd (r, ok, s, (j : Int), ())) :
    Rd s (itemG s one) fun i r ok j => Calls' tbl N_ref15_parser_item_rd [.ptr 0 0, .d tI (d : Int)] (bxR s i) q_ref15_parser_item_rd (r, ok, s, (j : Int), ()) := by
  intro i hi
  suffices h : ∃ c : HL q_ref15_parser_item_rd.sl, (∃ (r : Rx) (ok : Bool) (j : Nat), c = (r, ok, s, (j : Int), ()) ∧ (i ≤ j ∧ j ≤ s.length) ∧ itemG s one i = (if ok then some (r, j) else none)) ∧ Calls' tbl N_ref15_parser_item_rd [.ptr 0 0, .d tI (d : Int)] (bxR s i) q_ref15_parser_item_rd c by
    obtain ⟨c, ⟨r, ok, j, rfl, h1, h2⟩, h3⟩ := h
    exact ⟨r, ok, j, h1, h2, h3⟩
  refine calls_ex (fun _ => rfl) (conv_of t_ref15_parser_item_rd rfl (fun O m => x_ref15_parser_item_rd O m (d : Int) s (i : Int)) ?_)
  unfold G_ref15_parser_item_rd
  obtain ⟨r, ok, j, hj, e, hcall⟩ := ha i hi
  have nx : ∀ (k c : Nat), c ≠ 0 → k ≤ s.length → Calls' tbl N_ref15_parser_next_rd [.ptr 0 0, .d tY (c : Int)] (bxR s k) q_ref15_parser_next_rd (decide (pk s k = c), s, ((if pk s k = c then k + 1 else k : Nat) : Int), ()) := fun k c hc0 hk => C_next s k c hc0 hs hk
  refine wp_call hcall ?_
  have hp : itemG s one i = match one i with
    | none => none
    | some (r, j) => if pk s j = 42 then some (.mk 5 0 0 [r], j + 1) else if pk s j = 43 then some (.mk 6 0 0 [r], j + 1) else if pk s j = 63 then some (.mk 7 0 0 [r], j + 1) else some (r, j) := rfl
  rw [e] at hp
  cases ok with
  | false =>
    refine wp_bind (wp_bifT rfl (wp_some (wp_some ⟨_, rfl, r, false, j, ?_, hj, hp⟩)))
    show (Rx.mk r.out.1 r.out.2.1 r.out.2.2.1 r.out.2.2.2.1, false, s, (j : Int), ()) = _
    rw [rx_eta]
  | true =>
    simp only [if_true] at hp
    refine wp_bind (wp_bifF rfl ?_)
    refine wp_call (nx j 42 (by decide) hj.2) ?_
    by_cases h1 : pk s j = 42
    · have hlt := pk_lt (s := s) (i := j) (by omega)
      rw [if_pos h1] at hp
      refine wp_bifT (decide_eq_true h1) (wp_some ?_)
      refine wp_id (fun _ => rfl) (⟨_, rfl, .mk 5 0 0 [r], true, j + 1, ?_, ⟨by omega, by omega⟩, hp⟩)
      show (Rx.mk 5 0 0 [Rx.mk r.out.1 r.out.2.1 r.out.2.2.1 r.out.2.2.2.1], true, s, ((if pk s j = 42 then j + 1 else j : Nat) : Int), ()) = _
      rw [rx_eta, if_pos h1]
    rw [if_neg h1] at hp
    refine wp_bifF (decide_eq_false h1) ?_
    simp only [if_neg h1]
    refine wp_call (nx j 43 (by decide) hj.2) ?_
    by_cases h2 : pk s j = 43
    · have hlt := pk_lt (s := s) (i := j) (by omega)
      rw [if_pos h2] at hp
      refine wp_bifT (decide_eq_true h2) (wp_some ?_)
      refine wp_id (fun _ => rfl) (⟨_, rfl, .mk 6 0 0 [r], true, j + 1, ?_, ⟨by omega, by omega⟩, hp⟩)
      show (Rx.mk 6 0 0 [Rx.mk r.out.1 r.out.2.1 r.out.2.2.1 r.out.2.2.2.1], true, s, ((if pk s j = 43 then j + 1 else j : Nat) : Int), ()) = _
      rw [rx_eta, if_pos h2]
    rw [if_neg h2] at hp
    refine wp_bifF (decide_eq_false h2) ?_
    simp only [if_neg h2]
    refine wp_call (nx j 63 (by decide) hj.2) ?_
    by_cases h3 : pk s j = 63
    · have hlt := pk_lt (s := s) (i := j) (by omega)
      rw [if_pos h3] at hp
      refine wp_bifT (decide_eq_true h3) (wp_some ?_)
      refine wp_id (fun _ => rfl) (⟨_, rfl, .mk 7 0 0 [r], true, j + 1, ?_, ⟨by omega, by omega⟩, hp⟩)
      show (Rx.mk 7 0 0 [Rx.mk r.out.1 r.out.2.1 r.out.2.2.1 r.out.2.2.2.1], true, s, ((if pk s j = 63 then j + 1 else j : Nat) : Int), ()) = _
      rw [rx_eta, if_pos h3]
    rw [if_neg h3] at hp
    refine wp_bifF (decide_eq_false h3) (wp_some ?_)
    refine wp_id (fun _ => rfl) (⟨_, rfl, r, true, j, ?_, hj, hp⟩)
    show (Rx.mk r.out.1 r.out.2.1 r.out.2.2.1 r.out.2.2.2.1, true, s, ((if pk s j = 63 then j + 1 else j : Nat) : Int), ()) = _
    rw [rx_eta, if_neg h3]
theorem C_seq15 (hs : s.length ≤ 10000) {one : Nat → Option (Rx × Nat)} (hb : Bnd s one) (d : Nat) (ha : Rd s one fun i r ok j => Calls' tbl N_ref15_parser_item_rd [.ptr 0 0, .d tI (d : Int)] (bxR s i) q_ref15_parser_item_rd (r, ok, s, (j : Int), ())) :
    Rd s (pGrp s 32 3 one) fun i r ok j => Calls' tbl N_ref15_parser_seq_rd [.ptr 0 0, .d tI (d : Int)] (bxR s i) q_ref15_parser_seq_rd (r, ok, s, (j : Int), ()) := by
  intro i hi
  suffices h : ∃ c : HL q_ref15_parser_seq_rd.sl, (∃ (r : Rx) (ok : Bool) (j : Nat), c = (r, ok, s, (j : Int), ()) ∧ (i ≤ j ∧ j ≤ s.length) ∧ pGrp s 32 3 one i = (if ok then some (r, j) else none)) ∧ Calls' tbl N_ref15_parser_seq_rd [.ptr 0 0, .d tI (d : Int)] (bxR s i) q_ref15_parser_seq_rd c by
    obtain ⟨c, ⟨r, ok, j, rfl, h1, h2⟩, h3⟩ := h
    exact ⟨r, ok, j, h1, h2, h3⟩
  refine calls_ex (fun _ => rfl) (conv_of t_ref15_parser_seq_rd rfl (fun O m => x_ref15_parser_seq_rd O m (d : Int) s (i : Int)) ?_)
  unfold G_ref15_parser_seq_rd
  refine wp_bind (Ev.wp_mono (Ev.wp_loop (Q := fun t => match t with
      | .inl t => ∃ j : Nat, t = (false, s, (j : Int), (0 : Int), (0 : Int), (0 : Int), ()) ∧ (i ≤ j ∧ j ≤ s.length) ∧ pMany s 32 one (s.length + 1 - i) [] i = none
      | .inr t => ∃ (acc : List Rx) (j : Nat), t = (s, (j : Int), (0 : Int), (0 : Int), (0 : Int), acc, ()) ∧ (i ≤ j ∧ j ≤ s.length) ∧ pMany s 32 one (s.length + 1 - i) [] i = some (acc, j))
    (fun t => ∃ (acc : List Rx) (j f : Nat), t = (s, (j : Int), (0 : Int), (0 : Int), (0 : Int), acc, ()) ∧ i ≤ j ∧ j ≤ s.length ∧ acc.length ≤ j ∧ s.length + 1 ≤ f + j ∧ pMany s 32 one f acc j = pMany s 32 one (s.length + 1 - i) [] i) (fun t => s.length - t.2.1.toNat)
    ⟨[], i, s.length + 1 - i, rfl, Nat.le_refl _, hi, Nat.zero_le _, by omega, rfl⟩ ?_) ?_)
  · rintro t ⟨acc, j, f, rfl, hij, hj, hacc, hf, hT⟩
    unfold L_ref15_parser_seq_rd_0
    obtain ⟨r, ok, k, hk, e, hcall⟩ := ha j hj
    obtain ⟨f2, rfl⟩ : ∃ g, f = g + 1 := ⟨f - 1, by omega⟩
    rw [pMany, e] at hT
    refine wp_call hcall ?_
    cases ok with
    | false => exact wp_bifT rfl (wp_some ⟨k, rfl, ⟨by omega, hk.2⟩, hT.symm⟩)
    | true =>
      simp only [if_true] at hT e
      obtain ⟨b1, b2, _⟩ := hb _ _ _ hj e
      refine wp_bifF rfl (wp_guard (decide_eq_true ?_) (wp_call (C_next s k 32 (by decide) hs hk.2) ?_))
      · show (acc.length + 1) * 48 ≤ 140737488355328
        omega
      by_cases hp : pk s k = 32
      · have hlt := pk_lt (s := s) (i := k) (by omega)
        rw [if_pos hp] at hT
        refine wp_bifF (by show (!decide (pk s k = 32)) = false; rw [decide_eq_true hp]; rfl) (wp_some ⟨⟨acc ++ [r], k + 1, f2, ?_, by omega, by omega, ?_, by omega, hT⟩, ?_⟩)
        · show (s, ((if pk s k = 32 then k + 1 else k : Nat) : Int), (0 : Int), (0 : Int), (0 : Int), acc ++ [Rx.mk r.out.1 r.out.2.1 r.out.2.2.1 r.out.2.2.2.1], ()) = _
          rw [rx_eta, if_pos hp]
        · rw [List.length_append, List.length_singleton]; omega
        · show s.length - ((if pk s k = 32 then k + 1 else k : Nat) : Int).toNat < s.length - (j : Int).toNat
          rw [if_pos hp]; omega
      · rw [if_neg hp] at hT
        refine wp_bifT (by show (!decide (pk s k = 32)) = true; rw [decide_eq_false hp]; rfl) (wp_some ⟨acc ++ [r], k, ?_, ⟨by omega, hk.2⟩, hT.symm⟩)
        show (s, ((if pk s k = 32 then k + 1 else k : Nat) : Int), (0 : Int), (0 : Int), (0 : Int), acc ++ [Rx.mk r.out.1 r.out.2.1 r.out.2.2.1 r.out.2.2.2.1], ()) = _
        rw [rx_eta, if_neg hp]
  · unfold pGrp
    rintro (t | t) ht
    · obtain ⟨j, rfl, hj, hT⟩ := ht
      rw [hT]
      exact wp_some ⟨_, rfl, .mk 0 0 0 [], false, j, rfl, hj, rfl⟩
    · obtain ⟨acc, k, rfl, hk, hT⟩ := ht
      rw [hT]
      refine wp_bif (fun h => ?_) fun h => wp_some ⟨_, rfl, .mk 3 0 0 acc, true, k, rfl, hk, ?_⟩
      · have h := eqT (b := 1) h
        obtain ⟨x, rfl⟩ := List.length_eq_one_iff.1 h
        refine wp_idx (by decide) rfl (wp_get rfl (wp_some ⟨_, rfl, x, true, k, ?_, hk, rfl⟩))
        rw [rx_eta]
      · have h := eqF (b := 1) h
        simp only
        rw [fin_long h]; rfl
theorem C_alt15 (hs : s.length ≤ 10000) {one : Nat → Option (Rx × Nat)} (hb : Bnd s one) (d : Nat) (ha : Rd s one fun i r ok j => Calls' tbl N_ref15_parser_seq_rd [.ptr 0 0, .d tI (d : Int)] (bxR s i) q_ref15_parser_seq_rd (r, ok, s, (j : Int), ())) :
    Rd s (pGrp s 124 4 one) fun i r ok j => Calls' tbl N_ref15_parser_alt_rd [.ptr 0 0, .d tI (d : Int)] (bxR s i) q_ref15_parser_alt_rd (r, ok, s, (j : Int), ()) := by
  intro i hi
  suffices h : ∃ c : HL q_ref15_parser_alt_rd.sl, (∃ (r : Rx) (ok : Bool) (j : Nat), c = (r, ok, s, (j : Int), ()) ∧ (i ≤ j ∧ j ≤ s.length) ∧ pGrp s 124 4 one i = (if ok then some (r, j) else none)) ∧ Calls' tbl N_ref15_parser_alt_rd [.ptr 0 0, .d tI (d : Int)] (bxR s i) q_ref15_parser_alt_rd c by
    obtain ⟨c, ⟨r, ok, j, rfl, h1, h2⟩, h3⟩ := h
    exact ⟨r, ok, j, h1, h2, h3⟩
  refine calls_ex (fun _ => rfl) (conv_of t_ref15_parser_alt_rd rfl (fun O m => x_ref15_parser_alt_rd O m (d : Int) s (i : Int)) ?_)
  unfold G_ref15_parser_alt_rd
  refine wp_bind (Ev.wp_mono (Ev.wp_loop (Q := fun t => match t with
      | .inl t => ∃ j : Nat, t = (false, s, (j : Int), (0 : Int), (0 : Int), (0 : Int), ()) ∧ (i ≤ j ∧ j ≤ s.length) ∧ pMany s 124 one (s.length + 1 - i) [] i = none
      | .inr t => ∃ (acc : List Rx) (j : Nat), t = (s, (j : Int), (0 : Int), (0 : Int), (0 : Int), acc, ()) ∧ (i ≤ j ∧ j ≤ s.length) ∧ pMany s 124 one (s.length + 1 - i) [] i = some (acc, j))
    (fun t => ∃ (acc : List Rx) (j f : Nat), t = (s, (j : Int), (0 : Int), (0 : Int), (0 : Int), acc, ()) ∧ i ≤ j ∧ j ≤ s.length ∧ acc.length ≤ j ∧ s.length + 1 ≤ f + j ∧ pMany s 124 one f acc j = pMany s 124 one (s.length + 1 - i) [] i) (fun t => s.length - t.2.1.toNat)
    ⟨[], i, s.length + 1 - i, rfl, Nat.le_refl _, hi, Nat.zero_le _, by omega, rfl⟩ ?_) ?_)
  · rintro t ⟨acc, j, f, rfl, hij, hj, hacc, hf, hT⟩
    unfold L_ref15_parser_alt_rd_0
    obtain ⟨r, ok, k, hk, e, hcall⟩ := ha j hj
    obtain ⟨f2, rfl⟩ : ∃ g, f = g + 1 := ⟨f - 1, by omega⟩
    rw [pMany, e] at hT
    refine wp_call hcall ?_
    cases ok with
    | false => exact wp_bifT rfl (wp_some ⟨k, rfl, ⟨by omega, hk.2⟩, hT.symm⟩)
    | true =>
      simp only [if_true] at hT e
      obtain ⟨b1, b2, _⟩ := hb _ _ _ hj e
      refine wp_bifF rfl (wp_guard (decide_eq_true ?_) (wp_call (C_next s k 124 (by decide) hs hk.2) ?_))
      · show (acc.length + 1) * 48 ≤ 140737488355328
        omega
      by_cases hp : pk s k = 124
      · have hlt := pk_lt (s := s) (i := k) (by omega)
        rw [if_pos hp] at hT
        refine wp_bifF (by show (!decide (pk s k = 124)) = false; rw [decide_eq_true hp]; rfl) (wp_some ⟨⟨acc ++ [r], k + 1, f2, ?_, by omega, by omega, ?_, by omega, hT⟩, ?_⟩)
        · show (s, ((if pk s k = 124 then k + 1 else k : Nat) : Int), (0 : Int), (0 : Int), (0 : Int), acc ++ [Rx.mk r.out.1 r.out.2.1 r.out.2.2.1 r.out.2.2.2.1], ()) = _
          rw [rx_eta, if_pos hp]
        · rw [List.length_append, List.length_singleton]; omega
        · show s.length - ((if pk s k = 124 then k + 1 else k : Nat) : Int).toNat < s.length - (j : Int).toNat
          rw [if_pos hp]; omega
      · rw [if_neg hp] at hT
        refine wp_bifT (by show (!decide (pk s k = 124)) = true; rw [decide_eq_false hp]; rfl) (wp_some ⟨acc ++ [r], k, ?_, ⟨by omega, hk.2⟩, hT.symm⟩)
        show (s, ((if pk s k = 124 then k + 1 else k : Nat) : Int), (0 : Int), (0 : Int), (0 : Int), acc ++ [Rx.mk r.out.1 r.out.2.1 r.out.2.2.1 r.out.2.2.2.1], ()) = _
        rw [rx_eta, if_neg hp]
  · unfold pGrp
    rintro (t | t) ht
    · obtain ⟨j, rfl, hj, hT⟩ := ht
      rw [hT]
      exact wp_some ⟨_, rfl, .mk 0 0 0 [], false, j, rfl, hj, rfl⟩
    · obtain ⟨acc, k, rfl, hk, hT⟩ := ht
      rw [hT]
      refine wp_bif (fun h => ?_) fun h => wp_some ⟨_, rfl, .mk 4 0 0 acc, true, k, rfl, hk, ?_⟩
      · have h := eqT (b := 1) h
        obtain ⟨x, rfl⟩ := List.length_eq_one_iff.1 h
        refine wp_idx (by decide) rfl (wp_get rfl (wp_some ⟨_, rfl, x, true, k, ?_, hk, rfl⟩))
        rw [rx_eta]
      · have h := eqF (b := 1) h
        simp only
        rw [fin_long h]; rfl
theorem C_atom33 : Rd s (fun _ => none) fun i r ok j => Calls' tbl N_ref15_parser_atom_rd [.ptr 0 0, .d tI ((33 : Nat) : Int)] (bxR s i) q_ref15_parser_atom_rd (r, ok, s, (j : Int), ()) := by
  intro i hi
  refine ⟨.mk 0 0 0 [], false, i, ⟨Nat.le_refl _, hi⟩, rfl, ?_⟩
  refine calls_of rfl (conv_of t_ref15_parser_atom_rd rfl (fun O m => x_ref15_parser_atom_rd O m (33 : Int) s (i : Int)) ?_)
  unfold G_ref15_parser_atom_rd
  exact wp_bifT rfl (wp_some rfl)
theorem bnd_none : Bnd s fun _ => none := fun _ _ _ _ h => by cases h
theorem Rd.imp {one one' : Nat → Option (Rx × Nat)} {C : Nat → Rx → Bool → Nat → Prop} (h : Rd s one C) (he : ∀ i, i ≤ s.length → one i = one' i) : Rd s one' C := fun i hi => by
  obtain ⟨r, ok, j, h1, h2, h3⟩ := h i hi
  exact ⟨r, ok, j, h1, by rw [← he i hi]; exact h2, h3⟩
theorem grp_none (p : Nat) (k : Int) (i : Nat) (hi : i ≤ s.length) : pGrp s p k (fun _ => none) i = none := by
  obtain ⟨f, hf⟩ : ∃ f, s.length + 1 - i = f + 1 := ⟨s.length - i, by omega⟩
  unfold pGrp
  rw [hf, pMany]
theorem C_alts15 (hs : s.length ≤ 10000) {num : Nat → Option (Int × Nat)} (hn : NumOk s num) (hc : ∀ i, i ≤ s.length → ∃ (v : Int) (ok : Bool) (j : Nat), (i ≤ j ∧ j ≤ s.length) ∧ num i = (if ok then some (v, j) else none) ∧
      Calls' tbl N_ref15_parser_number_r [.ptr 0 0] (bxR s i) q_ref15_parser_number_r (v, ok, s, (j : Int), ())) :
    ∀ (b d : Nat), d + b = 33 → Rd s (pAlt num s b) fun i r ok j => Calls' tbl N_ref15_parser_alt_rd [.ptr 0 0, .d tI (d : Int)] (bxR s i) q_ref15_parser_alt_rd (r, ok, s, (j : Int), ())
  | 0, d, h => by
    have : d = 33 := by omega
    subst this
    have h2 := C_item15 hs 33 C_atom33
    have h2' : Rd s (fun _ => none) _ := h2.imp fun i _ => rfl
    have h3 := C_seq15 hs bnd_none 33 h2'
    have h3' : Rd s (fun _ => none) _ := h3.imp fun i hi => grp_none 32 3 i hi
    exact (C_alt15 hs bnd_none 33 h3').imp fun i hi => grp_none 124 4 i hi
  | b + 1, d, h => by
    have hb := bnd_alt hn b
    have h1 := C_atom15 hs hc d (by omega) (C_alts15 hs hn hc b (d + 1) (by omega))
    have h2 := C_item15 hs d h1
    have h3 := C_seq15 hs (bnd_item hn hb) d h2
    exact C_alt15 hs (bnd_grp (bnd_item hn hb) (by decide) 3) d h3
end
end Go.Proofs.YtifgipebbagfcaaDoor

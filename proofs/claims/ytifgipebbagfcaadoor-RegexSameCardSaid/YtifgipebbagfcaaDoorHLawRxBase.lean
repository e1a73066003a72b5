/-
  EXPRESSIONS: WHAT THE SMALL FUNCTIONS COMPUTE (both of the program and of the reference): nodes, sizes, well-formedness, the errors of Check, the empty path.
-/
import Derived.Test.YtifgipebbagfcaaDoorHGlueB
import Derived.Test.YtifgipebbagfcaaDoorHL8
import Derived.Test.YtifgipebbagfcaaDoorHPlRx
set_option linter.unusedVariables false
set_option linter.unusedSimpArgs false
namespace Go.Proofs.YtifgipebbagfcaaDoor
open Go Go.Av Go.Ev Go.Pl
theorem C_regex_kids (k n : Int) : Calls' tbl N_regex_kids [.d tI k, .d tI n] [] q_regex_kids (knownB k, fitsB k n, ()) := by
  refine calls_of rfl (conv_of t_regex_kids rfl (fun O m => x_regex_kids O m k n) ?_)
  unfold G_regex_kids
  by_cases h0 : k = 0
  · subst h0; exact wp_id (fun _ => rfl) rfl
  by_cases h1 : k = 1
  · subst h1; exact wp_id (fun _ => rfl) rfl
  by_cases h2 : k = 2
  · subst h2; exact wp_id (fun _ => rfl) rfl
  by_cases h3 : k = 3
  · subst h3; exact wp_id (fun _ => rfl) rfl
  by_cases h4 : k = 4
  · subst h4; exact wp_id (fun _ => rfl) rfl
  by_cases h5 : k = 5
  · subst h5; exact wp_id (fun _ => rfl) rfl
  by_cases h6 : k = 6
  · subst h6; exact wp_id (fun _ => rfl) rfl
  by_cases h7 : k = 7
  · subst h7; exact wp_id (fun _ => rfl) rfl
  have e0 : (k == (0 : Int)) = false := by simpa using h0
  have e1 : (k == (1 : Int)) = false := by simpa using h1
  have e2 : (k == (2 : Int)) = false := by simpa using h2
  have e3 : (k == (3 : Int)) = false := by simpa using h3
  have e4 : (k == (4 : Int)) = false := by simpa using h4
  have e5 : (k == (5 : Int)) = false := by simpa using h5
  have e6 : (k == (6 : Int)) = false := by simpa using h6
  have e7 : (k == (7 : Int)) = false := by simpa using h7
  simp only [e0, e1, e2, e3, e4, e5, e6, e7]
  refine wp_id (fun _ => rfl) ?_
  simp only [knownB, fitsB, e0, e1, e2, e3, e4, e5, e6, e7]
  rfl
theorem C_regex_node (r : Rx) : Calls' tbl N_regex_node [.d .rx r] [] q_regex_node (nodeE r.out.1 r.out.2.1 r.out.2.2.1 (r.out.2.2.2.1.length : Int), ()) := by
  refine calls_of rfl (conv_of t_regex_node rfl (fun O m => x_regex_node O m r) ?_)
  unfold G_regex_node
  generalize r.out.1 = k
  generalize r.out.2.1 = lo
  generalize r.out.2.2.1 = hi
  generalize (r.out.2.2.2.1.length : Int) = n
  refine wp_call (C_regex_kids k n) ?_
  unfold nodeE
  cases knownB k
  · exact wp_id (fun _ => rfl) rfl
  cases e1 : (k == (1 : Int))
  · have f1 : (k != (1 : Int)) = true := by simpa [bne] using e1
    rw [f1]
    cases (lo != (0 : Int)) <;> cases (hi != (0 : Int)) <;> cases fitsB k n <;> exact wp_id (fun _ => rfl) rfl
  · have f1 : (k != (1 : Int)) = false := by simpa [bne] using e1
    rw [f1]
    cases decide (lo < (0 : Int)) <;> cases decide (lo > hi) <;> cases decide (hi > (4294967295 : Int)) <;> cases fitsB k n <;> exact wp_id (fun _ => rfl) rfl
theorem nodeE_len (k lo hi : Int) (n : Int) (hn : 0 ≤ n) : nodeE k lo hi n =
    bif k == 1 then (bif decide (lo < 0) || decide (lo > hi) || decide (hi > 4294967295) then 5 else bif decide (n > 0) then 1 else 0)
    else bif !knownB k then 15 else bif !fitsB k n then 1 else bif lo != 0 || hi != 0 then 1 else 0 := by
  unfold nodeE
  cases e1 : (k == (1 : Int))
  · have f1 : (k != (1 : Int)) = true := by simpa [bne] using e1
    rw [f1]
    cases knownB k <;> cases (lo != (0 : Int)) <;> cases (hi != (0 : Int)) <;> cases fitsB k n <;> rfl
  · have hk : k = 1 := by simpa using e1
    subst hk
    have : fitsB 1 n = !decide (n > 0) := by
      show (n == 0) = _
      by_cases h : n = 0
      · subst h; rfl
      · rw [show (n == 0) = false by simpa using h, decide_eq_true (show n > 0 by omega)]; rfl
    rw [this]
    cases decide (lo < (0 : Int)) <;> cases decide (lo > hi) <;> cases decide (hi > (4294967295 : Int)) <;> cases decide (n > 0) <;> rfl
theorem C_ref15_fields (r : Rx) : Calls' tbl N_ref15_fields [.d .rx r] [] q_ref15_fields (nodeE r.out.1 r.out.2.1 r.out.2.2.1 (r.out.2.2.2.1.length : Int), ()) := by
  refine calls_of rfl (conv_of t_ref15_fields rfl (fun O m => x_ref15_fields O m r) ?_)
  unfold G_ref15_fields
  have hn : (0 : Int) ≤ (r.out.2.2.2.1.length : Int) := by omega
  generalize (r.out.2.2.2.1.length : Int) = n at hn
  rw [nodeE_len _ _ _ _ hn]
  generalize r.out.1 = k
  generalize r.out.2.1 = lo
  generalize r.out.2.2.1 = hi
  by_cases h1 : k = 1
  · subst h1
    cases decide (lo < (0 : Int)) <;> cases decide (lo > hi) <;> cases decide (hi > (4294967295 : Int)) <;> cases decide (n > 0) <;> exact wp_id (fun _ => rfl) rfl
  have e1 : (k == (1 : Int)) = false := by simpa using h1
  rw [e1]
  have h02 : ∀ m : Int, 0 ≤ m → (m == 0) = !decide (m > 0) := fun m hm => by
    by_cases h : m = 0
    · subst h; rfl
    · rw [show (m == 0) = false by simpa using h, decide_eq_true (show m > 0 by omega)]; rfl
  by_cases h0 : k = 0
  · subst h0
    rw [show fitsB 0 n = !decide (n > 0) from h02 n hn]
    cases decide (n > 0) <;> cases (lo != (0 : Int)) <;> cases (hi != (0 : Int)) <;> exact wp_id (fun _ => rfl) rfl
  by_cases h2 : k = 2
  · subst h2
    rw [show fitsB 2 n = !decide (n > 0) from h02 n hn]
    cases decide (n > 0) <;> cases (lo != (0 : Int)) <;> cases (hi != (0 : Int)) <;> exact wp_id (fun _ => rfl) rfl
  by_cases h3 : k = 3
  · subst h3
    have : fitsB 3 n = !decide (n < 2) := by
      show decide (n ≥ 2) = _
      by_cases h : n < 2
      · rw [decide_eq_true h, decide_eq_false (show ¬ n ≥ 2 by omega)]; rfl
      · rw [decide_eq_false h, decide_eq_true (show n ≥ 2 by omega)]; rfl
    rw [this]
    cases decide (n < 2) <;> cases (lo != (0 : Int)) <;> cases (hi != (0 : Int)) <;> exact wp_id (fun _ => rfl) rfl
  by_cases h4 : k = 4
  · subst h4
    show Wp _ _
    have : fitsB 4 n = !(n == 1) := rfl
    rw [this]
    cases (n == (1 : Int)) <;> cases (lo != (0 : Int)) <;> cases (hi != (0 : Int)) <;> exact wp_id (fun _ => rfl) rfl
  have hn1 : ∀ m : Int, (m == 1) = !(m != 1) := fun m => by simp [bne]
  by_cases h5 : k = 5
  · subst h5
    rw [show fitsB 5 n = !(n != 1) from hn1 n]
    cases (n != (1 : Int)) <;> cases (lo != (0 : Int)) <;> cases (hi != (0 : Int)) <;> exact wp_id (fun _ => rfl) rfl
  by_cases h6 : k = 6
  · subst h6
    rw [show fitsB 6 n = !(n != 1) from hn1 n]
    cases (n != (1 : Int)) <;> cases (lo != (0 : Int)) <;> cases (hi != (0 : Int)) <;> exact wp_id (fun _ => rfl) rfl
  by_cases h7 : k = 7
  · subst h7
    rw [show fitsB 7 n = !(n != 1) from hn1 n]
    cases (n != (1 : Int)) <;> cases (lo != (0 : Int)) <;> cases (hi != (0 : Int)) <;> exact wp_id (fun _ => rfl) rfl
  have e0 : (k == (0 : Int)) = false := by simpa using h0
  have e2 : (k == (2 : Int)) = false := by simpa using h2
  have e3 : (k == (3 : Int)) = false := by simpa using h3
  have e4 : (k == (4 : Int)) = false := by simpa using h4
  have e5 : (k == (5 : Int)) = false := by simpa using h5
  have e6 : (k == (6 : Int)) = false := by simpa using h6
  have e7 : (k == (7 : Int)) = false := by simpa using h7
  simp only [knownB, e0, e1, e2, e3, e4, e5, e6, e7]
  exact wp_id (fun _ => rfl) rfl
theorem rx_kid {k lo up : Int} {ks : List Rx} {M : Nat} (h : sz (.mk k lo up ks) ≤ M) : ks.length < M ∧ ∀ r ∈ ks, sz r < M := by
  simp only [sz] at h
  have h1 := szs_len ks
  exact ⟨by omega, fun r hr => by have := szs_mem hr; omega⟩
theorem C_ref15_Size : ∀ (r : Rx), okRx r → ∀ (L : Nat), L ≤ 1000000 → Calls' tbl N_ref15_Size [.d .rx r, .d tI (L : Int)] [] q_ref15_Size (((min (sz r) (L + 1) : Nat) : Int), ()) := by
  refine rx_ind fun k lo up ks ih hok L hL => ?_
  obtain ⟨_, _, _, hlen, hks⟩ := hok
  have hlen : ks.length ≤ 9223372036854775807 := hlen
  have hks := (okRxs_iff ks).1 hks
  refine calls_of rfl (conv_of t_ref15_Size rfl (fun O m => x_ref15_Size O m (.mk k lo up ks) (L : Int)) ?_)
  unfold G_ref15_Size
  have hsz : ∀ i, 1 + szs (ks.take i) ≤ sz (.mk k lo up ks) := fun i => by
    simp only [sz]
    have : szs ks = szs (ks.take i) + szs (ks.drop i) := by rw [← szs_app, List.take_append_drop]
    omega
  refine wp_bind (wp_range (N := ks.length) (I := fun i s => s = (((min (1 + szs (ks.take i)) (L + 1) : Nat) : Int), (i : Int), ())) (by simp [szs]) (fun i s hi hs => ?_) fun s hs => ?_)
  · subst hs
    unfold L_ref15_Size_0
    refine wp_in hi (wp_get0 hi ?_)
    have hx := hsz i
    refine wp_bif (fun h => wp_some ?_) fun h => ?_
    · have h1 : min (1 + szs (ks.take i)) (L + 1) = L + 1 := by
        have : ((min (1 + szs (ks.take i)) (L + 1) : Nat) : Int) > (L : Int) := by simpa using h
        omega
      have h2 : min (sz (.mk k lo up ks)) (L + 1) = L + 1 := by omega
      refine wp_some ?_
      rw [h1, h2]
    · have h1 : 1 + szs (ks.take i) ≤ L := by
        have : ¬ ((min (1 + szs (ks.take i)) (L + 1) : Nat) : Int) > (L : Int) := by simpa using h
        omega
      have h2 : min (1 + szs (ks.take i)) (L + 1) = 1 + szs (ks.take i) := by omega
      rw [h2]
      have hr := List.getElem_mem hi
      have hc := ih _ hr (hks _ hr) (L - (1 + szs (ks.take i))) (by omega)
      have e1 : IntKind.wrap .i64 ((L : Int) - ((1 + szs (ks.take i) : Nat) : Int)) = ((L - (1 + szs (ks.take i)) : Nat) : Int) := by
        rw [wrap_i64 (by omega) (by omega)]; omega
      rw [e1]
      refine wp_call (by rw [rx_eta]; exact hc) (wp_some ?_)
      have e2 : szs (ks.take (i + 1)) = szs (ks.take i) + sz ks[i] := by
        rw [List.take_add_one, List.getElem?_eq_getElem hi, szs_app]; simp [szs]
      refine Prod.ext ?_ (Prod.ext (wrap_succ hi hlen) rfl)
      show IntKind.wrap .i64 (((1 + szs (ks.take i) : Nat) : Int) + ((min (sz ks[i]) (L - (1 + szs (ks.take i)) + 1) : Nat) : Int)) = _
      rw [wrap_i64 (by omega) (by omega), e2]
      omega
  · subst hs
    unfold L_ref15_Size_0
    refine wp_out (wp_some (wp_some ?_))
    rw [List.take_length]
    rfl
theorem chks_take {ks : List Rx} {lv c : Int} : ∀ {i : Nat}, (h : i < ks.length) → (chks (ks.take i) lv c).2 = 0 → chks (ks.take (i + 1)) lv c = (let p := chk ks[i] lv (chks (ks.take i) lv c).1; (p.1, p.2)) := by
  intro i
  induction ks generalizing c i with
  | nil => intro h; simp at h
  | cons r ks ih =>
    intro h h0
    cases i with
    | zero =>
      simp only [List.take_zero, List.take_succ_cons, chks, List.getElem_cons_zero]
      split
      · rfl
      · rename_i hz
        have : (chk r lv c).2 = 0 := by simpa using hz
        exact Prod.ext rfl this.symm
    | succ i =>
      simp only [List.take_succ_cons, chks, List.getElem_cons_succ] at h0 ⊢
      split at h0
      · rename_i hz; exact absurd h0 hz
      · rename_i hz
        rw [if_neg hz, if_neg hz]
        exact ih (by simpa using h) h0
theorem chks_err {lv : Int} : ∀ {ks : List Rx} {c : Int} {i : Nat}, (chks (ks.take i) lv c).2 ≠ 0 → chks ks lv c = chks (ks.take i) lv c := by
  intro ks
  induction ks with
  | nil => intro c i h; simp [chks] at h
  | cons r ks ih =>
    intro c i h
    cases i with
    | zero => simp [chks] at h
    | succ i =>
      simp only [List.take_succ_cons, chks] at h ⊢
      split at h
      · rename_i hz; rw [if_pos hz, if_pos hz]
      · rename_i hz; rw [if_neg hz, if_neg hz]; exact ih h
theorem chk_range : ∀ (r : Rx) (lv c : Int), 0 ≤ c → c ≤ 64 → c ≤ (chk r lv c).1 ∧ (chk r lv c).1 ≤ 64 := by
  refine rx_ind fun k lo up ks ih lv c h0 h1 => ?_
  have hs : ∀ (l : List Rx) (lv c : Int), (∀ r ∈ l, r ∈ ks) → 0 ≤ c → c ≤ 64 → c ≤ (chks l lv c).1 ∧ (chks l lv c).1 ≤ 64 := by
    intro l
    induction l with
    | nil => intro lv c _ h0 h1; exact ⟨Int.le_refl _, h1⟩
    | cons r l ihl =>
      intro lv c hl h0 h1
      have hr := ih r (hl r (List.mem_cons_self ..)) lv c h0 h1
      simp only [chks]
      split
      · exact hr
      · have := ihl lv (chk r lv c).1 (fun x hx => hl x (List.mem_cons_of_mem _ hx)) (by omega) hr.2
        omega
  simp only [chk]
  split
  · exact ⟨Int.le_refl _, h1⟩
  split
  · exact ⟨Int.le_refl _, h1⟩
  split
  · exact ⟨Int.le_refl _, h1⟩
  · have := hs ks (lv + 1) (c + 1) (fun _ h => h) (by omega) (by omega)
    omega
theorem C_ref15_check : ∀ (r : Rx), sz r ≤ 1000000 → ∀ (lv c : Int), 0 ≤ lv → lv ≤ 17 → 0 ≤ c → c ≤ 64 → Calls' tbl N_ref15_check [.d .rx r, .d tI lv, .d tI c] [] q_ref15_check ((chk r lv c).1, (chk r lv c).2, ()) := by
  refine rx_ind fun k lo up ks ih hs lv c hl0 hl1 hc0 hc1 => ?_
  obtain ⟨hlen, hkid⟩ := rx_kid hs
  refine calls_of rfl (conv_of t_ref15_check rfl (fun O m => x_ref15_check O m (.mk k lo up ks) lv c) ?_)
  unfold G_ref15_check
  refine wp_bif (fun h => wp_some ?_) fun h => ?_
  · have h : lv > 16 := by simpa using h
    simp only [chk, if_pos h]
  have h1 : ¬ lv > 16 := by simpa using h
  refine wp_bif (fun h => wp_some ?_) fun h => ?_
  · have h : c ≥ 64 := by simpa using h
    simp only [chk, if_neg h1, if_pos h]
  have h2 : ¬ c ≥ 64 := by simpa using h
  refine wp_call (C_ref15_fields _) ?_
  show Wp _ _
  refine wp_bif (fun h => wp_some ?_) fun h => ?_
  · have h : nodeE k lo up ks.length ≠ 0 := by
      have h : (nodeE k lo up ks.length != 0) = true := h
      simpa using h
    simp only [chk, if_neg h1, if_neg h2, if_pos h]
    rfl
  have h3 : ¬ nodeE k lo up ks.length ≠ 0 := by
    have h : (nodeE k lo up ks.length != 0) = false := h
    simpa using h
  have ec : chk (.mk k lo up ks) lv c = chks ks (lv + 1) (c + 1) := by simp only [chk, if_neg h1, if_neg h2, if_neg h3]
  rw [ec, wrap_i64 (by omega) (by omega)]
  have hrange : ∀ i, (chks (ks.take i) (lv + 1) (c + 1)).2 = 0 → 0 ≤ (chks (ks.take i) (lv + 1) (c + 1)).1 ∧ (chks (ks.take i) (lv + 1) (c + 1)).1 ≤ 64 := by
    intro i
    induction i with
    | zero => intro _; simp [chks]; omega
    | succ i ihi =>
      intro h0
      by_cases hi : i < ks.length
      · have hz : (chks (ks.take i) (lv + 1) (c + 1)).2 = 0 := Classical.byContradiction fun hn => by
          have := chks_err (ks := ks.take (i + 1)) (lv := lv + 1) (c := c + 1) (i := i) (by rw [List.take_take, show min i (i + 1) = i by omega]; exact hn)
          rw [List.take_take, show min i (i + 1) = i by omega] at this
          rw [this] at h0
          exact hn h0
        rw [chks_take hi hz]
        have hr := ihi hz
        have := chk_range ks[i] (lv + 1) _ hr.1 hr.2
        exact ⟨by show 0 ≤ (chk ks[i] _ _).1; omega, this.2⟩
      · rw [show ks.take (i + 1) = ks.take i by rw [List.take_of_length_le (by omega), List.take_of_length_le (by omega)]] at h0 ⊢
        exact ihi h0
  refine wp_bind (wp_range (N := ks.length) (I := fun i s => s = ((chks (ks.take i) (lv + 1) (c + 1)).1, (i : Int), ()) ∧ (chks (ks.take i) (lv + 1) (c + 1)).2 = 0) (by simp [chks]) (fun i s hi hs => ?_) fun s hs => ?_)
  · obtain ⟨rfl, hz⟩ := hs
    unfold L_ref15_check_0
    refine wp_in hi (wp_get0 hi ?_)
    rw [rx_eta, wrap_i64 (by omega) (by omega)]
    have hr := List.getElem_mem hi
    have hrg := hrange i hz
    refine wp_call (ih ks[i] hr (by have := hkid _ hr; omega) (lv + 1) _ (by omega) (by omega) hrg.1 hrg.2) ?_
    have ht := chks_take hi hz
    refine wp_bif (fun h => wp_some ?_) fun h => wp_some ?_
    · have hn : (chk ks[i] (lv + 1) (chks (ks.take i) (lv + 1) (c + 1)).1).2 ≠ 0 := by simpa using h
      have he := chks_err (ks := ks) (lv := lv + 1) (c := c + 1) (i := i + 1) (by rw [ht]; exact hn)
      refine wp_some ?_
      rw [he, ht]
    · have hn : (chk ks[i] (lv + 1) (chks (ks.take i) (lv + 1) (c + 1)).1).2 = 0 := by simpa using h
      refine ⟨?_, by rw [ht]; exact hn⟩
      rw [wrap_succ hi (by omega), ht]
  · obtain ⟨rfl, hz⟩ := hs
    unfold L_ref15_check_0
    refine wp_out (wp_some (wp_some ?_))
    rw [List.take_length] at hz ⊢
    rw [hz]
theorem C_regex_check : ∀ (r : Rx), sz r ≤ 1000000 → ∀ (lv c : Int), 0 ≤ lv → lv ≤ 17 → 0 ≤ c → c ≤ 64 → ∃ s : Int, ((chk r lv c).2 = 0 → s = (chk r lv c).1) ∧
    Calls' tbl N_regex_check_ddr [.d .rx r, .d tI lv, .ptr 0 0] [.box T_i64 [.d tI c]] q_regex_check_ddr ((chk r lv c).2, s, ()) := by
  refine rx_ind fun k lo up ks ih hs lv c hl0 hl1 hc0 hc1 => ?_
  obtain ⟨hlen, hkid⟩ := rx_kid hs
  suffices h : ∃ x : Int × Int × Unit, (x.1 = (chk (.mk k lo up ks) lv c).2 ∧ ((chk (.mk k lo up ks) lv c).2 = 0 → x.2.1 = (chk (.mk k lo up ks) lv c).1)) ∧ Calls' tbl N_regex_check_ddr [.d .rx (.mk k lo up ks), .d tI lv, .ptr 0 0] [.box T_i64 [.d tI c]] q_regex_check_ddr x by
    obtain ⟨⟨e, s, _⟩, ⟨he, h1⟩, h2⟩ := h
    have he : e = _ := he
    subst he
    exact ⟨s, h1, h2⟩
  refine calls_ex (sh := q_regex_check_ddr) (fun _ => rfl) (conv_of t_regex_check_ddr rfl (fun O m => x_regex_check_ddr O m (.mk k lo up ks) lv c) ?_)
  unfold G_regex_check_ddr
  refine wp_bif (fun h => wp_some ⟨_, rfl, ?_⟩) fun h => ?_
  · have h : lv > 16 := by simpa using h
    simp only [chk, if_pos h]
    exact ⟨trivial, fun h => by cases h⟩
  have h1 : ¬ lv > 16 := by simpa using h
  refine wp_bif (fun h => wp_some ⟨_, rfl, ?_⟩) fun h => ?_
  · have h : c ≥ 64 := by simpa using h
    simp only [chk, if_neg h1, if_pos h]
    exact ⟨trivial, fun h => by cases h⟩
  have h2 : ¬ c ≥ 64 := by simpa using h
  refine wp_call (C_regex_node _) ?_
  show Wp _ _
  refine wp_bif (fun h => wp_some ⟨_, rfl, ?_⟩) fun h => ?_
  · have h : nodeE k lo up ks.length ≠ 0 := by
      have h : (nodeE k lo up ks.length != 0) = true := h
      simpa using h
    simp only [chk, if_neg h1, if_neg h2, if_pos h]
    exact ⟨rfl, fun h' => absurd h' h⟩
  have h3 : ¬ nodeE k lo up ks.length ≠ 0 := by
    have h : (nodeE k lo up ks.length != 0) = false := h
    simpa using h
  have ec : chk (.mk k lo up ks) lv c = chks ks (lv + 1) (c + 1) := by simp only [chk, if_neg h1, if_neg h2, if_neg h3]
  rw [ec, wrap_i64 (by omega) (by omega)]
  have hrange : ∀ i, (chks (ks.take i) (lv + 1) (c + 1)).2 = 0 → 0 ≤ (chks (ks.take i) (lv + 1) (c + 1)).1 ∧ (chks (ks.take i) (lv + 1) (c + 1)).1 ≤ 64 := by
    intro i
    induction i with
    | zero => intro _; simp [chks]; omega
    | succ i ihi =>
      intro h0
      by_cases hi : i < ks.length
      · have hz : (chks (ks.take i) (lv + 1) (c + 1)).2 = 0 := Classical.byContradiction fun hn => by
          have := chks_err (ks := ks.take (i + 1)) (lv := lv + 1) (c := c + 1) (i := i) (by rw [List.take_take, show min i (i + 1) = i by omega]; exact hn)
          rw [List.take_take, show min i (i + 1) = i by omega] at this
          rw [this] at h0
          exact hn h0
        rw [chks_take hi hz]
        have hr := ihi hz
        have := chk_range ks[i] (lv + 1) _ hr.1 hr.2
        exact ⟨by show 0 ≤ (chk ks[i] _ _).1; omega, this.2⟩
      · rw [show ks.take (i + 1) = ks.take i by rw [List.take_of_length_le (by omega), List.take_of_length_le (by omega)]] at h0 ⊢
        exact ihi h0
  refine wp_bind (wp_range (N := ks.length) (I := fun i s => s = ((i : Int), (chks (ks.take i) (lv + 1) (c + 1)).1, ()) ∧ (chks (ks.take i) (lv + 1) (c + 1)).2 = 0) (by simp [chks]) (fun i s hi hs => ?_) fun s hs => ?_)
  · obtain ⟨rfl, hz⟩ := hs
    unfold L_regex_check_ddr_0
    refine wp_in hi (wp_get0 hi ?_)
    rw [rx_eta, wrap_i64 (by omega) (by omega)]
    have hr := List.getElem_mem hi
    have hrg := hrange i hz
    obtain ⟨s, hs0, hs1⟩ := ih ks[i] hr (by have := hkid _ hr; omega) (lv + 1) _ (by omega) (by omega) hrg.1 hrg.2
    refine wp_call hs1 ?_
    have ht := chks_take hi hz
    refine wp_bif (fun h => wp_some ?_) fun h => wp_some ?_
    · have hn : (chk ks[i] (lv + 1) (chks (ks.take i) (lv + 1) (c + 1)).1).2 ≠ 0 := by simpa using h
      have he := chks_err (ks := ks) (lv := lv + 1) (c := c + 1) (i := i + 1) (by rw [ht]; exact hn)
      refine wp_some ⟨_, rfl, ?_⟩
      rw [he, ht]
      exact ⟨rfl, fun h' => absurd h' hn⟩
    · have hn : (chk ks[i] (lv + 1) (chks (ks.take i) (lv + 1) (c + 1)).1).2 = 0 := by simpa using h
      refine ⟨?_, by rw [ht]; exact hn⟩
      rw [wrap_succ hi (by omega), ht, hs0 hn]
  · obtain ⟨rfl, hz⟩ := hs
    unfold L_regex_check_ddr_0
    refine wp_out (wp_some (wp_some ⟨_, rfl, ?_⟩))
    rw [List.take_length] at hz ⊢
    exact ⟨hz.symm, fun _ => rfl⟩
def checkE (r : Rx) : Int := (chk r 1 0).2
theorem C_ref15_Check (r : Rx) (hs : sz r ≤ 1000000) : Calls' tbl N_ref15_Check [.d .rx r] [] q_ref15_Check (checkE r, ()) := by
  refine calls_of rfl (conv_of t_ref15_Check rfl (fun O m => x_ref15_Check O m r) ?_)
  unfold G_ref15_Check
  exact wp_call (C_ref15_check r hs 1 0 (by decide) (by decide) (by decide) (by decide)) (wp_some rfl)
theorem C_regex_Check (r : Rx) (hs : sz r ≤ 1000000) : Calls' tbl N_regex_Check [.d .rx r] [] q_regex_Check (checkE r, ()) := by
  refine calls_of rfl (conv_of t_regex_Check rfl (fun O m => x_regex_Check O m r) ?_)
  unfold G_regex_Check
  obtain ⟨s, _, h⟩ := C_regex_check r hs 1 0 (by decide) (by decide) (by decide) (by decide)
  exact wp_call h (wp_some rfl)
end Go.Proofs.YtifgipebbagfcaaDoor

/-
  PRINTING EXPRESSIONS: both printers give the text 'pat'.
-/
import Derived.Test.YtifgipebbagfcaaDoorKLawRxBase
import Derived.Test.YtifgipebbagfcaaDoorKPlParse
set_option linter.unusedVariables false
set_option linter.unusedSimpArgs false
namespace Go.Proofs.YtifgipebbagfcaaDoor
open Go Go.Av Go.Ev Go.Pl Go.Lib
theorem C_Itoa {n : Int} (h0 : 0 ≤ n) (h1 : n ≤ 4294967295) : Calls' tbl N_strconv_Itoa [.d tI n] [] q_strconv_Itoa (decDigits n.toNat, ()) := by
  refine calls_nat t_strconv_Itoa ?_ rfl
  have hb : i64B n = true := by simp only [i64B, Bool.and_eq_true, decide_eq_true_eq]; omega
  have hi : Lib.itoa n = decDigits n.toNat := by unfold Lib.itoa; rw [if_neg (by omega)]
  simp only [natItoa, hb, cond_true, hi]
  rfl
theorem C_Decimal {n : Int} (h0 : 0 ≤ n) (h1 : n ≤ 4294967295) : Calls' tbl N_field_Decimal [.d tI n] [] q_field_Decimal (decDigits n.toNat, ()) := by
  refine calls_of rfl (conv_of t_field_Decimal rfl (fun O k => x_field_Decimal O k n) ?_)
  unfold G_field_Decimal
  exact wp_call (C_Itoa h0 h1) (wp_some rfl)
theorem C_digits : ∀ (n : Nat) (m : Int), m = (n : Int) → n ≤ 4294967295 → Calls' tbl N_ref03_digits [.d tQ m] [] q_ref03_digits (decDigits n, ()) := by
  intro n
  induction n using Nat.strongRecOn with
  | ind n ih =>
    intro m hm hn
    subst hm
    refine calls_of rfl (conv_of t_ref03_digits rfl (fun O k => x_ref03_digits O k (n : Int)) ?_)
    unfold G_ref03_digits
    have e1 : IntKind.wrap .u8 (IntKind.wrap .u64 ((48 : Int) + (Int.tmod (n : Int) (10 : Int)))) = ((48 + n % 10 : Nat) : Int) := by
      rw [wrap_u8, wrap_u64, Int.tmod_eq_emod_of_nonneg (by omega)]; omega
    refine wp_guard rfl ?_
    refine wp_bif (fun hlt => ?_) (fun hge => ?_)
    · have hlt' : n < 10 := by have := of_decide_eq_true hlt; omega
      refine wp_some ?_
      have : decDigits n = [UInt8.ofNat (48 + n)] := by rw [decDigits, dif_pos hlt']
      rw [this, e1, Nat.mod_eq_of_lt hlt']
      rfl
    · have hge' : 10 ≤ n := by have := of_decide_eq_false hge; omega
      have e3 : IntKind.wrap .u64 (Int.tdiv (n : Int) 10) = ((n / 10 : Nat) : Int) := by
        rw [wrap_u64, Int.tdiv_eq_ediv_of_nonneg (by omega)]; omega
      have hl := decD_len10 (show n / 10 ≤ 4294967295 by omega)
      refine wp_guard rfl (wp_call (ih (n / 10) (by omega) _ e3 (by omega)) (wp_guard ?_ (wp_some ?_)))
      · rw [decide_eq_true_eq]
        show (decDigits (n / 10)).length + 1 ≤ 9223372036854775807
        omega
      · rw [e1]
        have : decDigits n = decDigits (n / 10) ++ [UInt8.ofNat (48 + n % 10)] := by
          conv => lhs; rw [decDigits, dif_neg (by omega)]
        rw [this]
        rfl
theorem C_refDecimal {n : Int} (h0 : 0 ≤ n) (h1 : n ≤ 4294967295) : Calls' tbl N_ref03_Decimal [.d tI n] [] q_ref03_Decimal (decDigits n.toNat, ()) := by
  refine calls_of rfl (conv_of t_ref03_Decimal rfl (fun O k => x_ref03_Decimal O k n) ?_)
  unfold G_ref03_Decimal
  refine wp_bif (fun hlt => absurd (of_decide_eq_true hlt) (by omega)) (fun _ => ?_)
  exact wp_call (C_digits n.toNat _ (by rw [wrap_u64]; omega) (by omega)) (wp_some rfl)
theorem szs_take (ks : List Rx) (i : Nat) : szs (ks.take i) ≤ szs ks := by
  have := szs_app (ks.take i) (ks.drop i)
  rw [List.take_append_drop] at this
  omega
theorem inn26 (p : Int) {x : Rx} (hw : wellB x = true) : (inn p x).length + 1 ≤ 26 * sz x := by
  have := inn_len p x
  have := pat_len x hw
  omega
theorem sum26 (p : Int) : ∀ l : List Rx, (∀ x ∈ l, wellB x = true) → ((l.map (inn p)).map fun x => x.length + 1).sum ≤ 26 * szs l
  | [], _ => by simp
  | r :: l, h => by
    have h1 := inn26 p (h r (List.mem_cons_self ..))
    have h2 := sum26 p l fun x hx => h x (List.mem_cons_of_mem _ hx)
    simp only [List.map_cons, List.sum_cons, szs] at *
    omega
theorem jn26 (c : UInt8) (p : Int) (l : List Rx) (h : ∀ x ∈ l, wellB x = true) : (jn c (l.map (inn p))).length ≤ 26 * szs l := Nat.le_trans (jn_len c _) (sum26 p l h)
theorem take_succ_map {α β : Type} (f : α → β) {l : List α} {i : Nat} (h : i < l.length) : (l.take (i + 1)).map f = (l.take i).map f ++ [f l[i]] := by
  rw [List.take_add_one, List.getElem?_eq_getElem h, List.map_append]; rfl
theorem C_regex_repeats (k : Int) : Calls' tbl N_regex_repeats [.d tI k] [] q_regex_repeats (k == 5 || k == 6 || k == 7, ()) := by
  refine calls_of rfl (conv_of t_regex_repeats rfl (fun O m => x_regex_repeats O m k) ?_)
  unfold G_regex_repeats
  cases (k == (5 : Int)) <;> cases (k == (6 : Int)) <;> exact wp_id (fun _ => rfl) rfl
theorem gt0_isEmpty (ks : List Rx) : decide ((ks.length : Int) > 0) = !ks.isEmpty := by
  cases ks with
  | nil => rfl
  | cons x l => simp
theorem wrapB_mk (p k lo up : Int) (ks : List Rx) : wrapB p (.mk k lo up ks) = bif k == 4 then !ks.isEmpty else bif k == 3 then p != 4 else (k == 5 || k == 6 || k == 7) && (p == 5 || p == 6 || p == 7) := rfl
theorem C_regex_wrapped (p : Int) (x : Rx) : Calls' tbl N_regex_wrapped [.d tI p, .d .rx x] [] q_regex_wrapped (wrapB p x, ()) := by
  obtain ⟨k, lo, up, ks⟩ := x
  refine calls_of rfl (conv_of t_regex_wrapped rfl (fun O m => x_regex_wrapped O m p (.mk k lo up ks)) ?_)
  unfold G_regex_wrapped
  rw [wrapB_mk]
  refine wp_bif (fun h => wp_some ?_) fun h => ?_
  · have h : (k == 4) = true := h
    rw [h, cond_true, ← gt0_isEmpty]; rfl
  have h : (k == 4) = false := h
  rw [h, cond_false]
  refine wp_bif (fun h => wp_some ?_) fun h => ?_
  · have h : (k == 3) = true := h
    rw [h]; rfl
  have h : (k == 3) = false := h
  rw [h, cond_false]
  refine wp_call (C_regex_repeats k) (wp_bind (wp_and (b := (p == 5 || p == 6 || p == 7)) (fun _ => wp_call (C_regex_repeats p) (wp_some rfl)) (wp_some rfl)))
theorem inner_of (p : Int) (x : Rx) (hl : (pat x).length ≤ 1000000) (h : Calls' tbl N_regex_show [.d .rx x] [] q_regex_show (pat x, ())) : Calls' tbl N_regex_inner [.d tI p, .d .rx x] [] q_regex_inner (inn p x, ()) := by
  refine calls_of rfl (conv_of t_regex_inner rfl (fun O m => x_regex_inner O m p x) ?_)
  unfold G_regex_inner
  refine wp_call h (wp_call (C_regex_wrapped p x) (wp_bif (fun hb => wp_guard (decide_eq_true ?_) (wp_guard (decide_eq_true ?_) (wp_some ?_))) fun hb => wp_some ?_))
  · show 1 + (pat x).length ≤ _; omega
  · show (pat x).length + 1 + 1 ≤ _; omega
  · have hb : wrapB p x = true := hb
    unfold inn; rw [hb]; rfl
  · have hb : wrapB p x = false := hb
    unfold inn; rw [hb]; rfl
theorem show_loop (k lo up : Int) (ks : List Rx) (c : UInt8) (hw : ∀ x ∈ ks, wellB x = true) (hz : szs ks ≤ 1000) (h : ∀ x ∈ ks, Calls' tbl N_regex_show [.d .rx x] [] q_regex_show (pat x, ())) :
    Wp (fun n => loopN n (L_regex_show_0 (evF tbl n) n (.mk k lo up ks) ([c], ())) (([] : List UInt8), (0 : Int), ())) fun t => t = (jn c (ks.map (inn k)), ()) := by
  have hlen := szs_len ks
  refine wp_range (N := ks.length) (I := fun i s => s = (jn c ((ks.take i).map (inn k)), (i : Int), ())) rfl ?_ ?_
  · rintro i s hi rfl
    have hm := List.getElem_mem hi
    have hj := jn26 c k (ks.take i) fun x hx => hw x (List.mem_of_mem_take hx)
    have hst := szs_take ks i
    have hin := inn26 k (hw _ hm)
    have hsm := szs_mem hm
    have hp := pat_len _ (hw _ hm)
    unfold L_regex_show_0
    refine wp_in hi (wp_get0 hi ?_)
    have hc := inner_of k ks[i] (by omega) (h _ hm)
    rw [take_succ_map _ hi, jn_snoc]
    refine wp_bind (Ev.wp_mono (Q := fun v => v = ((if (ks.take i).map (inn k) = [] then [] else jn c ((ks.take i).map (inn k)) ++ [c]), ks[i].out.1, ks[i].out.2.1, ks[i].out.2.2.1, ks[i].out.2.2.2.1, ())) (wp_bif (fun hb => wp_guard (decide_eq_true ?_) (wp_some ?_)) fun hb => wp_some ?_) ?_)
    · show (jn c ((ks.take i).map (inn k))).length + 1 ≤ _; omega
    · have hb : (i : Int) > 0 := of_decide_eq_true hb
      rw [if_neg (by intro e; have := congrArg List.length e; rw [List.length_map, List.length_take, List.length_nil] at this; omega)]; rfl
    · have hb : ¬ (i : Int) > 0 := of_decide_eq_false hb
      have : i = 0 := by omega
      subst this
      rfl
    rintro v rfl
    rw [rx_eta]
    refine wp_call hc (wp_guard (decide_eq_true ?_) (wp_some ?_))
    · show (if (ks.take i).map (inn k) = [] then [] else jn c ((ks.take i).map (inn k)) ++ [c]).length + (inn k ks[i]).length ≤ _
      split
      · simp only [List.length_nil]; omega
      · simp only [List.length_append, List.length_cons, List.length_nil]; omega
    · show (_, IntKind.wrap .i64 ((i : Int) + 1), ()) = _
      rw [wrap_succ hi (by omega)]
      refine Prod.ext ?_ rfl
      show (if (ks.take i).map (inn k) = [] then [] else jn c ((ks.take i).map (inn k)) ++ [c]) ++ inn k ks[i] = _
      split <;> simp
  · rintro s rfl
    unfold L_regex_show_0
    rw [List.take_length]
    exact wp_out (wp_some rfl)
theorem C_regex_show : ∀ (r : Rx), wellB r = true → sz r ≤ 1000 → Calls' tbl N_regex_show [.d .rx r] [] q_regex_show (pat r, ()) := by
  refine rx_ind fun k lo up ks ih hw hs => ?_
  obtain ⟨nd, hks⟩ := well_iff.1 hw
  have hsz : szs ks ≤ 1000 := by simp only [sz] at hs; omega
  have hsh : ∀ x ∈ ks, Calls' tbl N_regex_show [.d .rx x] [] q_regex_show (pat x, ()) := fun x hx => ih x hx (hks x hx) (by have := szs_mem hx; omega)
  refine calls_of rfl (conv_of t_regex_show rfl (fun O m => x_regex_show O m (.mk k lo up ks)) ?_)
  unfold G_regex_show
  have one : ∀ x, ks = [x] → ∀ p : Int, Calls' tbl N_regex_inner [.d tI p, .d .rx x] [] q_regex_inner (inn p x, ()) ∧ (inn p x).length ≤ 26000 := fun x e p => by
    have hx : x ∈ ks := by rw [e]; exact List.mem_cons_self ..
    have h1 := pat_len x (hks x hx)
    have h2 := szs_mem hx
    have h3 := inn26 p (hks x hx)
    exact ⟨inner_of p x (by omega) (hsh x hx), by omega⟩
  rcases nd.known with rfl | rfl | rfl | rfl | rfl | rfl | rfl | rfl
  · refine wp_bind (wp_bifT rfl (wp_some (wp_some ?_)))
    simp [pat]
  · obtain ⟨r1, r2, r3⟩ := nd.rng rfl
    refine wp_bind (wp_bifF rfl (wp_bifF rfl (wp_bifT rfl (wp_bif (fun h => ?_) fun h => ?_))))
    · have h : (lo == up) = true := h
      have h : lo = up := by simpa using h
      subst h
      refine wp_call (C_Decimal (n := lo) r1 r3) (wp_some (wp_some ?_))
      simp [pat]
    · have h : (lo == up) = false := h
      have h : lo ≠ up := by simpa using h
      have l1 := decD_len10 (n := lo.toNat) (by omega)
      have l2 := decD_len10 (n := up.toNat) (by omega)
      refine wp_call (C_Decimal (n := lo) r1 (by omega)) (wp_guard (decide_eq_true ?_) (wp_guard (decide_eq_true ?_) (wp_call (C_Decimal (n := up) (by omega) r3) (wp_guard (decide_eq_true ?_) (wp_guard (decide_eq_true ?_) (wp_some (wp_some ?_)))))))
      · show 1 + (decDigits lo.toNat).length ≤ _; omega
      · show (decDigits lo.toNat).length + 1 + 1 ≤ _; omega
      · simp only [List.length_append, List.length_cons, List.length_nil]; omega
      · simp only [List.length_append, List.length_cons, List.length_nil]; omega
      · simp [pat, h]
  · refine wp_bind (wp_bifF rfl (wp_bifT rfl (wp_some (wp_some ?_))))
    simp [pat]
  · obtain ⟨rfl, rfl⟩ := nd.zero (by decide)
    refine wp_bind (wp_bifF rfl (wp_bifF rfl (wp_bifF rfl (wp_bifF rfl (wp_bifF rfl (wp_bifF rfl (wp_bifF rfl (wp_some ?_))))))))
    refine wp_bind (Ev.wp_mono (show_loop 3 0 0 ks 32 hks hsz hsh) ?_)
    rintro t rfl
    refine wp_some ?_
    simp [pat, pats_map]
  · obtain ⟨rfl, rfl⟩ := nd.zero (by decide)
    refine wp_bind (wp_bifF rfl (wp_bifF rfl (wp_bifF rfl (wp_bifF rfl (wp_bifF rfl (wp_bifF rfl (wp_bifT rfl (wp_bif (fun h => wp_some (wp_some ?_)) fun h => wp_some ?_))))))))
    · have h : ((ks.length : Int) == 0) = true := h
      have h := len_nil (by simpa using h)
      subst h
      simp [pat]
    · have h : ((ks.length : Int) == 0) = false := h
      have hne : ks ≠ [] := by rintro rfl; simp at h
      refine wp_bind (Ev.wp_mono (show_loop 4 0 0 ks 124 hks hsz hsh) ?_)
      rintro t rfl
      refine wp_some ?_
      simp [pat, pats_map, hne]
  · obtain ⟨rfl, rfl⟩ := nd.zero (by decide)
    obtain ⟨x, rfl⟩ := len_one (nd.one (by simp))
    obtain ⟨c1, c2⟩ := one x rfl 5
    refine wp_bind (wp_bifF rfl (wp_bifF rfl (wp_bifF rfl (wp_bifT rfl (wp_idx (by decide) rfl (wp_call c1 (wp_guard (decide_eq_true ?_) (wp_some (wp_some ?_)))))))))
    · show (inn 5 x).length + 1 ≤ _; omega
    · simp [pat, pats_map]
  · obtain ⟨rfl, rfl⟩ := nd.zero (by decide)
    obtain ⟨x, rfl⟩ := len_one (nd.one (by simp))
    obtain ⟨c1, c2⟩ := one x rfl 6
    refine wp_bind (wp_bifF rfl (wp_bifF rfl (wp_bifF rfl (wp_bifF rfl (wp_bifT rfl (wp_idx (by decide) rfl (wp_call c1 (wp_guard (decide_eq_true ?_) (wp_some (wp_some ?_))))))))))
    · show (inn 6 x).length + 1 ≤ _; omega
    · simp [pat, pats_map]
  · obtain ⟨rfl, rfl⟩ := nd.zero (by decide)
    obtain ⟨x, rfl⟩ := len_one (nd.one (by simp))
    obtain ⟨c1, c2⟩ := one x rfl 7
    refine wp_bind (wp_bifF rfl (wp_bifF rfl (wp_bifF rfl (wp_bifF rfl (wp_bifF rfl (wp_bifT rfl (wp_idx (by decide) rfl (wp_call c1 (wp_guard (decide_eq_true ?_) (wp_some (wp_some ?_)))))))))))
    · show (inn 7 x).length + 1 ≤ _; omega
    · simp [pat, pats_map]
theorem C_regex_Print (r : Rx) (hs : sz r ≤ 1000000) : Calls' tbl N_regex_Print [.d .rx r] [] q_regex_Print (if checkE r = 0 then pat r else [], checkE r, ()) := by
  refine calls_of rfl (conv_of t_regex_Print rfl (fun O m => x_regex_Print O m r) ?_)
  unfold G_regex_Print
  refine wp_call (C_regex_Check r hs) (wp_bif (fun h => wp_some ?_) fun h => ?_)
  · have h : checkE r ≠ 0 := by
      have h : (checkE r != 0) = true := h
      simpa using h
    rw [if_neg h]
  · have h : checkE r = 0 := by
      have h : (checkE r != 0) = false := h
      simpa using h
    obtain ⟨h1, h2⟩ := checkE_ok h
    refine wp_call (C_regex_show r h1 (by omega)) (wp_some ?_)
    rw [if_pos h, h]
theorem C_ref15_enclosed (p x : Rx) : Calls' tbl N_ref15_enclosed [.d .rx p, .d .rx x] [] q_ref15_enclosed (wrapB p.out.1 x, ()) := by
  obtain ⟨k, lo, up, ks⟩ := x
  refine calls_of rfl (conv_of t_ref15_enclosed rfl (fun O m => x_ref15_enclosed O m p (.mk k lo up ks)) ?_)
  unfold G_ref15_enclosed
  generalize p.out.1 = q
  refine wp_bind (wp_or (b := (q == 6)) (fun _ => wp_some rfl) (wp_bind (wp_or (b := (q == 7)) (fun _ => wp_some rfl) ?_)))
  rw [wrapB_mk]
  refine wp_bif (fun h => wp_some ?_) fun h => ?_
  · have h : (k == 3) = true := h
    have : k = 3 := by simpa using h
    subst this
    rfl
  have h3 : (k == 3) = false := h
  refine wp_bif (fun h => wp_some ?_) fun h => ?_
  · have h : (k == 4) = true := h
    rw [h, cond_true, ← gt0_isEmpty]; rfl
  have h4 : (k == 4) = false := h
  rw [h3, h4, cond_false, cond_false]
  refine wp_bind (Ev.wp_mono (Q := fun v => v = (k == 5 || k == 6 || k == 7, ())) (wp_bif (fun h => wp_some ?_) fun h => wp_bif (fun h' => wp_some ?_) fun h' => wp_some ?_) ?_)
  · have h : (k == 5) = true := h
    show ((k == 5), ()) = _
    rw [h]; rfl
  · have h : (k == 5) = false := h
    have h' : (k == 6) = true := h'
    show ((k == 6), ()) = _
    rw [h, h']; rfl
  · have h : (k == 5) = false := h
    have h' : (k == 6) = false := h'
    show ((k == 7), ()) = _
    rw [h, h']; rfl
  rintro v rfl
  refine wp_bif (fun h => wp_some ?_) fun h => wp_some ?_
  · have h : (k == 5 || k == 6 || k == 7) = true := h
    rw [h]; rfl
  · have h : (k == 5 || k == 6 || k == 7) = false := h
    rw [h]; rfl
theorem sum_take (f : List UInt8 → Nat) : ∀ (l : List (List UInt8)) (i : Nat), ((l.take i).map f).sum ≤ (l.map f).sum
  | [], i => by simp
  | x :: l, 0 => by simp
  | x :: l, i + 1 => by
    have := sum_take f l i
    simp only [List.take_succ_cons, List.map_cons, List.sum_cons]
    omega
theorem C_ref15_joined (l : List (List UInt8)) (c : UInt8) (hl : (l.map fun x => x.length + 1).sum ≤ 1000000) : Calls' tbl N_ref15_joined [.d (.list tS) l, .d tS [c]] [] q_ref15_joined (jn c l, ()) := by
  refine calls_of rfl (conv_of t_ref15_joined rfl (fun O m => x_ref15_joined O m l [c]) ?_)
  unfold G_ref15_joined
  have hlen : l.length ≤ (l.map fun x => x.length + 1).sum := by
    clear hl
    induction l with
    | nil => simp
    | cons x l il => simp only [List.length_cons, List.map_cons, List.sum_cons]; omega
  refine wp_bind (Ev.wp_mono (Q := fun t => t = (jn c l, ())) (wp_range (N := l.length) (I := fun i s => s = (jn c (l.take i), (i : Int), ())) rfl ?_ ?_) ?_)
  · rintro i s hi rfl
    have h1 := jn_len c (l.take i)
    have h2 := sum_take (fun x => x.length + 1) l i
    have h3 := sum_take (fun x => x.length + 1) l (i + 1)
    have e3 := take_succ_map (fun x : List UInt8 => x.length + 1) hi
    rw [e3, List.sum_append] at h3
    simp only [List.sum_cons, List.sum_nil] at h3
    have ht : l.take (i + 1) = l.take i ++ [l[i]] := by rw [List.take_add_one, List.getElem?_eq_getElem hi]; rfl
    unfold L_ref15_joined_0
    refine wp_in hi (wp_get0 hi ?_)
    rw [ht, jn_snoc]
    refine wp_bind (Ev.wp_mono (Q := fun v => v = ((if l.take i = [] then [] else jn c (l.take i) ++ [c]), ())) (wp_bif (fun hb => wp_guard (decide_eq_true ?_) (wp_some ?_)) fun hb => wp_some ?_) ?_)
    · show (jn c (l.take i)).length + 1 ≤ _; omega
    · have hb : (i : Int) > 0 := of_decide_eq_true hb
      rw [if_neg (by intro e; have := congrArg List.length e; rw [List.length_take, List.length_nil] at this; omega)]
    · have hb : ¬ (i : Int) > 0 := of_decide_eq_false hb
      have : i = 0 := by omega
      subst this
      rfl
    rintro v rfl
    refine wp_guard (decide_eq_true ?_) (wp_some ?_)
    · show (if l.take i = [] then [] else jn c (l.take i) ++ [c]).length + l[i].length ≤ _
      split
      · simp only [List.length_nil]; omega
      · simp only [List.length_append, List.length_cons, List.length_nil]; omega
    · show (_, IntKind.wrap .i64 ((i : Int) + 1), ()) = _
      rw [wrap_succ hi (by omega)]
      refine Prod.ext ?_ rfl
      show (if l.take i = [] then [] else jn c (l.take i) ++ [c]) ++ l[i] = _
      split <;> simp
  · rintro s rfl
    unfold L_ref15_joined_0
    rw [List.take_length]
    exact wp_out (wp_some rfl)
  · rintro t rfl
    exact wp_some rfl
theorem pattern_loop (k lo up : Int) (ks : List Rx) (hw : ∀ x ∈ ks, wellB x = true) (hz : szs ks ≤ 1000) (h : ∀ x ∈ ks, Calls' tbl N_ref15_pattern [.d .rx x] [] q_ref15_pattern (pat x, ())) :
    Wp (fun n => loopN n (L_ref15_pattern_0 (evF tbl n) n (.mk k lo up ks)) ((0 : Int), ([] : List (List UInt8)), ())) fun t => t = (ks.map (inn k), ()) := by
  have hlen := szs_len ks
  refine wp_range (N := ks.length) (I := fun i s => s = ((i : Int), (ks.take i).map (inn k), ())) rfl ?_ ?_
  · rintro i s hi rfl
    have hm := List.getElem_mem hi
    have hsm := szs_mem hm
    have hp := pat_len _ (hw _ hm)
    unfold L_ref15_pattern_0
    refine wp_in hi (wp_get0 hi ?_)
    rw [rx_eta, take_succ_map _ hi]
    refine wp_call (h _ hm) (wp_bind (Ev.wp_mono (Q := fun v => v = (inn k ks[i], (ks.take i).map (inn k), ())) (wp_call (C_ref15_enclosed (.mk k lo up ks) ks[i]) (wp_bif (fun hb => wp_guard (decide_eq_true ?_) (wp_guard (decide_eq_true ?_) (wp_some ?_))) fun hb => wp_some ?_)) ?_))
    · show 1 + (pat ks[i]).length ≤ _; omega
    · show (pat ks[i]).length + 1 + 1 ≤ _; omega
    · have hb : wrapB k ks[i] = true := hb
      unfold inn; rw [hb]; rfl
    · have hb : wrapB k ks[i] = false := hb
      unfold inn; rw [hb]; rfl
    rintro v rfl
    refine wp_guard (decide_eq_true ?_) (wp_some ?_)
    · show (((ks.take i).map (inn k)).length + 1) * 16 ≤ _
      rw [List.length_map, List.length_take]; omega
    · show (IntKind.wrap .i64 ((i : Int) + 1), _) = _
      rw [wrap_succ hi (by omega)]
  · rintro s rfl
    unfold L_ref15_pattern_0
    rw [List.take_length]
    exact wp_out (wp_some rfl)
theorem C_ref15_pattern : ∀ (r : Rx), wellB r = true → sz r ≤ 1000 → Calls' tbl N_ref15_pattern [.d .rx r] [] q_ref15_pattern (pat r, ()) := by
  refine rx_ind fun k lo up ks ih hw hs => ?_
  obtain ⟨nd, hks⟩ := well_iff.1 hw
  have hsz : szs ks ≤ 1000 := by simp only [sz] at hs; omega
  have hsh : ∀ x ∈ ks, Calls' tbl N_ref15_pattern [.d .rx x] [] q_ref15_pattern (pat x, ()) := fun x hx => ih x hx (hks x hx) (by have := szs_mem hx; omega)
  refine calls_of rfl (conv_of t_ref15_pattern rfl (fun O m => x_ref15_pattern O m (.mk k lo up ks)) ?_)
  unfold G_ref15_pattern
  refine wp_bind (Ev.wp_mono (pattern_loop k lo up ks hks hsz hsh) ?_)
  rintro t rfl
  have hsum := sum26 k ks hks
  have one : ∀ x, ks = [x] → ∀ p : Int, (inn p x).length ≤ 26000 := fun x e p => by
    have hx : x ∈ ks := by rw [e]; exact List.mem_cons_self ..
    have h2 := szs_mem hx
    have h3 := inn26 p (hks x hx)
    omega
  rcases nd.known with rfl | rfl | rfl | rfl | rfl | rfl | rfl | rfl
  · refine wp_bifT rfl (wp_some ?_)
    simp [pat]
  · obtain ⟨r1, r2, r3⟩ := nd.rng rfl
    refine wp_bifF rfl (wp_bifT rfl (wp_bif (fun h => ?_) fun h => ?_))
    · have h : (lo == up) = true := h
      have h : lo = up := by simpa using h
      subst h
      refine wp_call (C_refDecimal (n := lo) r1 r3) (wp_some ?_)
      simp [pat]
    · have h : (lo == up) = false := h
      have h : lo ≠ up := by simpa using h
      have l1 := decD_len10 (n := lo.toNat) (by omega)
      have l2 := decD_len10 (n := up.toNat) (by omega)
      refine wp_call (C_refDecimal (n := lo) r1 (by omega)) (wp_guard (decide_eq_true ?_) (wp_guard (decide_eq_true ?_) (wp_call (C_refDecimal (n := up) (by omega) r3) (wp_guard (decide_eq_true ?_) (wp_guard (decide_eq_true ?_) (wp_some ?_))))))
      · show 1 + (decDigits lo.toNat).length ≤ _; omega
      · show (decDigits lo.toNat).length + 1 + 1 ≤ _; omega
      · simp only [List.length_append, List.length_cons, List.length_nil]; omega
      · simp only [List.length_append, List.length_cons, List.length_nil]; omega
      · simp [pat, h]
  · refine wp_bifF rfl (wp_bifF rfl (wp_bifT rfl (wp_some ?_)))
    simp [pat]
  · obtain ⟨rfl, rfl⟩ := nd.zero (by decide)
    refine wp_bifF rfl (wp_bifF rfl (wp_bifF rfl (wp_bifT rfl (wp_call (C_ref15_joined (ks.map (inn 3)) 32 (by omega)) (wp_some ?_)))))
    simp [pat, pats_map]
  · obtain ⟨rfl, rfl⟩ := nd.zero (by decide)
    refine wp_bifF rfl (wp_bifF rfl (wp_bifF rfl (wp_bifF rfl (wp_bifT rfl (wp_bif (fun h => wp_some ?_) fun h => wp_call (C_ref15_joined (ks.map (inn 4)) 124 (by omega)) (wp_some ?_))))))
    · have h : (((ks.map (inn 4)).length : Int) == 0) = true := h
      rw [List.length_map] at h
      have h := len_nil (by simpa using h)
      subst h
      simp [pat]
    · have h : (((ks.map (inn 4)).length : Int) == 0) = false := h
      have hne : ks ≠ [] := by rintro rfl; simp at h
      simp [pat, pats_map, hne]
  · obtain ⟨rfl, rfl⟩ := nd.zero (by decide)
    obtain ⟨x, rfl⟩ := len_one (nd.one (by simp))
    have c2 := one x rfl 5
    refine wp_bifF rfl (wp_bifF rfl (wp_bifF rfl (wp_bifF rfl (wp_bifF rfl (wp_bifT rfl (wp_idx (by decide) rfl (wp_get rfl (wp_guard (decide_eq_true ?_) (wp_some ?_)))))))))
    · show (inn 5 x).length + 1 ≤ _; omega
    · simp [pat, pats_map]
  · obtain ⟨rfl, rfl⟩ := nd.zero (by decide)
    obtain ⟨x, rfl⟩ := len_one (nd.one (by simp))
    have c2 := one x rfl 6
    refine wp_bifF rfl (wp_bifF rfl (wp_bifF rfl (wp_bifF rfl (wp_bifF rfl (wp_bifF rfl (wp_bifT rfl (wp_idx (by decide) rfl (wp_get rfl (wp_guard (decide_eq_true ?_) (wp_some ?_))))))))))
    · show (inn 6 x).length + 1 ≤ _; omega
    · simp [pat, pats_map]
  · obtain ⟨rfl, rfl⟩ := nd.zero (by decide)
    obtain ⟨x, rfl⟩ := len_one (nd.one (by simp))
    have c2 := one x rfl 7
    refine wp_bifF rfl (wp_bifF rfl (wp_bifF rfl (wp_bifF rfl (wp_bifF rfl (wp_bifF rfl (wp_bifF rfl (wp_idx (by decide) rfl (wp_get rfl (wp_guard (decide_eq_true ?_) (wp_some ?_))))))))))
    · show (inn 7 x).length + 1 ≤ _; omega
    · simp [pat, pats_map]
theorem C_ref15_Print (r : Rx) (hs : sz r ≤ 1000000) : Calls' tbl N_ref15_Print [.d .rx r] [] q_ref15_Print (if checkE r = 0 then pat r else [], checkE r, ()) := by
  refine calls_of rfl (conv_of t_ref15_Print rfl (fun O m => x_ref15_Print O m r) ?_)
  unfold G_ref15_Print
  refine wp_call (C_ref15_Check r hs) (wp_bif (fun h => wp_some ?_) fun h => ?_)
  · have h : checkE r ≠ 0 := by
      have h : (checkE r != 0) = true := h
      simpa using h
    rw [if_neg h]
  · have h : checkE r = 0 := by
      have h : (checkE r != 0) = false := h
      simpa using h
    obtain ⟨h1, h2⟩ := checkE_ok h
    refine wp_call (C_ref15_pattern r h1 (by omega)) (wp_some ?_)
    rw [if_pos h, h]
end Go.Proofs.YtifgipebbagfcaaDoor

/-
  DERIVATIVES: what the program's functions compute.
-/
import Derived.Test.YtifgipebbagfcaaDoorJLawRegexSame
import Derived.Test.YtifgipebbagfcaaDoorJLawRegexMatch
import Derived.Test.YtifgipebbagfcaaDoorJPlDer
set_option linter.unusedVariables false
set_option linter.unusedSimpArgs false
namespace Go.Proofs.YtifgipebbagfcaaDoor
open Go Go.Av Go.Ev Go.Pl
theorem C_regex_nothing (r : Rx) : Calls' tbl N_regex_nothing [.d .rx r] [] q_regex_nothing (isNo r, ()) := by
  obtain ⟨k, lo, up, ks⟩ := r
  refine calls_of rfl (conv_of t_regex_nothing rfl (fun O m => x_regex_nothing O m (.mk k lo up ks)) ?_)
  unfold G_regex_nothing
  refine wp_bind (wp_and (b := ks.isEmpty) (fun _ => wp_some ?_) (wp_some rfl))
  show ((ks.length : Int) == 0) = ks.isEmpty
  cases ks with
  | nil => rfl
  | cons x l =>
    show _ = false
    simp
    omega
theorem C_regex_then (a b : Rx) : Calls' tbl N_regex_then [.d .rx a, .d .rx b] [] q_regex_then (thenR a b, ()) := by
  refine calls_of rfl (conv_of t_regex_then rfl (fun O m => x_regex_then O m a b) ?_)
  unfold G_regex_then
  refine wp_call (C_regex_nothing a) (wp_bind (wp_or (b := isNo b) (fun _ => wp_call (C_regex_nothing b) (wp_some rfl)) ?_))
  have hk : ∀ r : Rx, r.out.1 = kindOf r := fun r => by cases r; rfl
  refine wp_bif (fun h => wp_some ?_) fun h => ?_
  · have h : (isNo a || isNo b) = true := h
    rw [Bool.or_eq_true] at h
    rw [show thenR a b = noR by unfold thenR; rw [if_pos h]]
    rfl
  have h : (isNo a || isNo b) = false := h
  have hn : ¬ (isNo a = true ∨ isNo b = true) := by rw [← Bool.or_eq_true, h]; simp
  refine wp_bif (fun h0 => wp_some ?_) fun h0 => ?_
  · have h0 : kindOf a = 0 := by rw [← hk]; simpa using h0
    rw [show thenR a b = b by unfold thenR; rw [if_neg hn, if_pos h0], rx_eta]
  have h0 : ¬ kindOf a = 0 := by rw [← hk]; simpa using h0
  refine wp_bif (fun h1 => wp_some ?_) fun h1 => wp_some ?_
  · have h1 : kindOf b = 0 := by rw [← hk]; simpa using h1
    rw [show thenR a b = a by unfold thenR; rw [if_neg hn, if_neg h0, if_pos h1], rx_eta]
  · have h1 : ¬ kindOf b = 0 := by rw [← hk]; simpa using h1
    rw [show thenR a b = .mk 3 0 0 [a, b] by unfold thenR; rw [if_neg hn, if_neg h0, if_neg h1]]
theorem C_regex_duplicate : ∀ (r : Rx), sz r ≤ 1000000 → Calls' tbl N_regex_duplicate [.d .rx r] [] q_regex_duplicate (r, ()) := by
  refine rx_ind fun k lo up ks ih hs => ?_
  obtain ⟨hlen, hkid⟩ := rx_kid hs
  refine calls_of rfl (conv_of t_regex_duplicate rfl (fun O m => x_regex_duplicate O m (.mk k lo up ks)) ?_)
  unfold G_regex_duplicate
  refine wp_bind (wp_range (N := ks.length) (I := fun i s => s = ((i : Int), (0 : Int), (0 : Int), (0 : Int), k, lo, up, ks.take i, ())) (by rfl) ?_ ?_)
  · rintro i s hi rfl
    unfold L_regex_duplicate_0
    refine wp_in hi (wp_get0 hi ?_)
    rw [rx_eta]
    have hr := List.getElem_mem hi
    refine wp_call (ih ks[i] hr (by have := hkid _ hr; omega)) (wp_guard (decide_eq_true ?_) (wp_some ?_))
    · show ((ks.take i).length + 1) * 48 ≤ 140737488355328
      rw [List.length_take]; omega
    · rw [wrap_succ hi (by omega)]
      have : ks.take (i + 1) = ks.take i ++ [ks[i]] := by rw [List.take_add_one, List.getElem?_eq_getElem hi]; rfl
      rw [this]
  · rintro s rfl
    unfold L_regex_duplicate_0
    refine wp_out (wp_some (wp_some ?_))
    rw [List.take_length]
theorem C_regex_rest (l : List Rx) (hl : l.length ≤ 1000000) (hz : ∀ r ∈ l, sz r ≤ 1000000) : Calls' tbl N_regex_rest [.d (.list .rx) l] [] q_regex_rest (restR l, ()) := by
  refine calls_of rfl (conv_of t_regex_rest rfl (fun O m => x_regex_rest O m l) ?_)
  unfold G_regex_rest
  have hw : ∀ j : Nat, j ≤ l.length → IntKind.wrap .i64 ((j : Int) - 1) = (j : Int) - 1 := fun j hj => wrap_i64 (by omega) (by omega)
  rw [hw l.length (Nat.le_refl _)]
  refine wp_bind (wp_range (N := l.length) (I := fun j s => ∃ a b c d, restR (l.drop (l.length - j)) = .mk a b c d ∧ s = (((l.length - j : Nat) : Int) - 1, (0 : Int), (0 : Int), (0 : Int), a, b, c, d, ())) ?_ ?_ ?_)
  · refine ⟨0, 0, 0, [], ?_, rfl⟩
    rw [Nat.sub_zero, List.drop_length]; rfl
  · rintro j s hj ⟨a, b, c, d, he, rfl⟩
    have hi : l.length - j - 1 < l.length := by omega
    have hidx : (((l.length - j : Nat) : Int) - 1) = ((l.length - j - 1 : Nat) : Int) := by omega
    unfold L_regex_rest_0
    refine wp_bifT (decide_eq_true (by show (((l.length - j : Nat) : Int) - 1) ≥ 0; omega)) ?_
    rw [hidx]
    refine wp_get0 hi ?_
    have hm := List.getElem_mem hi
    refine wp_call (C_regex_duplicate _ (hz _ hm)) ?_
    have hc := C_regex_then l[l.length - j - 1] (.mk a b c d)
    refine wp_call hc (wp_some ?_)
    have hd : l.drop (l.length - (j + 1)) = l[l.length - j - 1] :: l.drop (l.length - j) := by
      rw [show l.length - (j + 1) = l.length - j - 1 by omega, List.drop_eq_getElem_cons hi, show l.length - j - 1 + 1 = l.length - j by omega]
    rw [hd, restR, he]
    obtain ⟨a2, b2, c2, d2⟩ := thenR l[l.length - j - 1] (.mk a b c d)
    refine ⟨a2, b2, c2, d2, rfl, ?_⟩
    show (IntKind.wrap .i64 (((l.length - j - 1 : Nat) : Int) - 1), _) = (_, _)
    rw [hw _ (by omega), show l.length - (j + 1) = l.length - j - 1 by omega]
    rfl
  · rintro s ⟨a, b, c, d, he, rfl⟩
    unfold L_regex_rest_0
    rw [Nat.sub_self, List.drop_zero] at he
    refine wp_bifF (decide_eq_false (by show ¬ (((l.length - l.length : Nat) : Int) - 1) ≥ 0; omega)) (wp_some (wp_some ?_))
    rw [he]
theorem seen_Either (u : List Rx) (hu : u.length ≤ 1000000) (ho : ∀ r ∈ u, okRx r) (idx a b c : Int) (k lo up : Int) (ks : List Rx) (d0 : Bool) :
    Wp (fun n => loopN n (L_regex_either_0 (evF tbl n) n (idx, a, b, c, u, ())) (d0, (0 : Int), a, b, c, u, k, lo, up, ks, ())) fun t =>
      t = (d0 || u.any (fun y => eqR y (.mk k lo up ks)), a, b, c, u, k, lo, up, ks, ()) := by
  refine wp_range (N := u.length) (I := fun j s => s = (d0 || (u.take j).any (fun y => eqR y (.mk k lo up ks)), (j : Int), a, b, c, u, k, lo, up, ks, ())) (by simp) ?_ ?_
  · rintro j s hj rfl
    unfold L_regex_either_0
    refine wp_in hj ?_
    refine wp_rd (xs := u) hj ?_
    rw [rx_eta]
    refine wp_bind (wp_or (b := eqR u[j] (.mk k lo up ks)) (fun _ => wp_call (C_regex_Same u[j] (ho _ (List.getElem_mem hj)) _) (wp_some rfl)) (wp_some ?_))
    rw [wrap_succ hj (by omega), List.take_add_one, List.getElem?_eq_getElem hj, List.any_append, ← Bool.or_assoc]
    simp
  · rintro s rfl
    unfold L_regex_either_0
    refine wp_out (wp_some ?_)
    rw [List.take_length]
theorem C_regex_either (l : List Rx) (hl : l.length ≤ 1000000) (ho : ∀ r ∈ l, okRx r) : Calls' tbl N_regex_either [.d (.list .rx) l] [] q_regex_either (eitherR l, ()) := by
  refine calls_of rfl (conv_of t_regex_either rfl (fun O m => x_regex_either O m l) ?_)
  unfold G_regex_either
  have hlen : ∀ (m : List Rx) (u : List Rx), (m.foldl addR u).length ≤ u.length + m.length := by
    intro m
    induction m with
    | nil => intro u; simp
    | cons x m im =>
      intro u
      have h1 := im (addR u x)
      have h2 : (addR u x).length ≤ u.length + 1 := by unfold addR; split <;> simp
      rw [List.foldl_cons, List.length_cons]
      omega
  refine wp_bind (wp_range (N := l.length) (I := fun i s => s = ((i : Int), (0 : Int), (0 : Int), (0 : Int), (l.take i).foldl addR [], ())) rfl ?_ ?_)
  · rintro i s hi rfl
    have hu := hlen (l.take i) []
    rw [List.length_nil, List.length_take] at hu
    have hub : ∀ r ∈ (l.take i).foldl addR [], okRx r := fun r hr => (fold_mem _ [] r hr).elim (fun h => by simp at h) fun h => ho r (List.mem_of_mem_take h)
    have htk : (l.take (i + 1)).foldl addR [] = addR ((l.take i).foldl addR []) l[i] := by
      rw [List.take_add_one, List.getElem?_eq_getElem hi, List.foldl_append]; rfl
    generalize (l.take i).foldl addR [] = u at *
    unfold L_regex_either_1
    refine wp_in hi (wp_bind (wp_get0 hi ?_))
    rw [rx_eta]
    have hx : l[i] = .mk l[i].out.1 l[i].out.2.1 l[i].out.2.2.1 l[i].out.2.2.2.1 := (rx_eta _).symm
    refine wp_call (C_regex_nothing l[i]) (wp_bind (Ev.wp_mono (seen_Either u (by omega) hub (i : Int) 0 0 0 _ _ _ _ (isNo l[i])) ?_))
    rintro t rfl
    rw [← hx]
    have hany : u.any (fun y => eqR y l[i]) = true ↔ l[i] ∈ u := by
      rw [List.any_eq_true]
      constructor
      · rintro ⟨y, h1, h2⟩; rw [← eqR_iff.1 h2]; exact h1
      · exact fun h => ⟨_, h, eqR_iff.2 rfl⟩
    refine wp_bif (fun h => ?_) fun h => ?_
    · have h : (!(isNo l[i] || u.any (fun y => eqR y l[i]))) = true := h
      have hn : ¬ (isNo l[i] = true ∨ l[i] ∈ u) := by
        rw [← hany, ← Bool.or_eq_true]; simpa using h
      refine wp_guard (decide_eq_true ?_) (wp_some (wp_some ?_))
      · show (u.length + 1) * 48 ≤ 140737488355328
        omega
      · have e : addR u l[i] = u ++ [l[i]] := by unfold addR; rw [if_neg hn]
        rw [wrap_succ hi (by omega), htk, e]
    · have h : (!(isNo l[i] || u.any (fun y => eqR y l[i]))) = false := h
      have hy : isNo l[i] = true ∨ l[i] ∈ u := by
        rw [← hany, ← Bool.or_eq_true]
        generalize (isNo l[i] || u.any fun y => eqR y l[i]) = q at h
        cases q
        · cases h
        · rfl
      have e : addR u l[i] = u := by unfold addR; rw [if_pos hy]
      refine wp_some (wp_some ?_)
      rw [wrap_succ hi (by omega), htk, e]
  · rintro s rfl
    unfold L_regex_either_1
    rw [List.take_length]
    refine wp_out (wp_some ?_)
    unfold eitherR
    generalize l.foldl addR [] = u
    refine wp_bif (fun h => ?_) fun h => wp_some ?_
    · have h : ((u.length : Int) == 1) = true := h
      obtain ⟨x, rfl⟩ := len_one (by simpa using h)
      refine wp_idx (by decide) rfl (wp_get rfl (wp_some ?_))
      rw [rx_eta]
    · have h : ((u.length : Int) == 1) = false := h
      match u, h with
      | [], _ => rfl
      | [x], h => simp at h
      | x :: y :: u, _ => rfl
theorem ok_no : okRx noR := ⟨by decide, by decide, by decide, by decide, trivial⟩
theorem ok_em : okRx emR := ⟨by decide, by decide, by decide, by decide, trivial⟩
theorem ok_then {a b : Rx} (ha : okRx a) (hb : okRx b) : okRx (thenR a b) := by
  unfold thenR
  split
  · exact ok_no
  split
  · exact hb
  split
  · exact ha
  · exact ⟨by decide, by decide, by decide, (by show 2 ≤ maxLen; decide), ha, hb, trivial⟩
theorem ok_rest : ∀ (l : List Rx), (∀ r ∈ l, okRx r) → okRx (restR l)
  | [], _ => ok_em
  | r :: l, h => ok_then (h r (List.mem_cons_self ..)) (ok_rest l fun x hx => h x (List.mem_cons_of_mem _ hx))
theorem foldA_len : ∀ (m u : List Rx), (m.foldl addR u).length ≤ u.length + m.length
  | [], u => by simp
  | x :: m, u => by
    have h1 := foldA_len m (addR u x)
    have h2 : (addR u x).length ≤ u.length + 1 := by unfold addR; split <;> simp
    rw [List.foldl_cons, List.length_cons]
    omega
theorem ok_either {l : List Rx} (hl : l.length ≤ maxLen) (h : ∀ r ∈ l, okRx r) : okRx (eitherR l) := by
  have hm : ∀ y ∈ l.foldl addR [], okRx y := fun y hy => (fold_mem l [] y hy).elim (fun h => by simp at h) (h y)
  have hlen := foldA_len l []
  rw [List.length_nil, Nat.zero_add] at hlen
  unfold eitherR
  generalize l.foldl addR [] = u at hm hlen
  split
  · exact hm _ (by simp)
  · exact ⟨by decide, by decide, by decide, Nat.le_trans hlen hl, (okRxs_iff _).2 hm⟩
theorem derA_len : ∀ (ks : List Rx) (n : Int), (derA ks n).length = ks.length
  | [], n => by simp [derA]
  | r :: rs, n => by simp [derA, derA_len rs n]
theorem derS_len : ∀ (ks : List Rx) (n : Int), (derS ks n).length ≤ ks.length
  | [], n => by simp [derS]
  | r :: rs, n => by
    have := derS_len rs n
    rw [derS, List.length_cons, List.length_cons]
    split
    · omega
    · simp
theorem head_ok {l : List Rx} (h : ∀ r ∈ l, okRx r) : okRx (l.headD noR) := by
  cases l with
  | nil => exact ok_no
  | cons x l => exact h x (List.mem_cons_self ..)
theorem ok_der : ∀ (r : Rx), okRx r → ∀ n, okRx (der r n) := by
  refine rx_ind fun k lo hi ks ih hok n => ?_
  obtain ⟨_, _, _, hlen, hk⟩ := hok
  have hk := (okRxs_iff ks).1 hk
  have hA : ∀ (rs : List Rx), (∀ r ∈ rs, r ∈ ks) → ∀ y ∈ derA rs n, okRx y := by
    intro rs
    induction rs with
    | nil => intro _ y hy; simp [derA] at hy
    | cons r rs il =>
      intro hr y hy
      rw [derA] at hy
      rcases List.mem_cons.1 hy with rfl | hy
      · exact ih r (hr r (List.mem_cons_self ..)) (hk r (hr r (List.mem_cons_self ..))) n
      · exact il (fun r h => hr r (List.mem_cons_of_mem _ h)) y hy
  have hS : ∀ (rs : List Rx), (∀ r ∈ rs, r ∈ ks) → ∀ y ∈ derS rs n, okRx y := by
    intro rs
    induction rs with
    | nil => intro _ y hy; simp [derS] at hy
    | cons r rs il =>
      intro hr y hy
      rw [derS] at hy
      rcases List.mem_cons.1 hy with rfl | hy
      · exact ok_then (ih r (hr r (List.mem_cons_self ..)) (hk r (hr r (List.mem_cons_self ..))) n) (ok_rest rs fun x hx => hk x (hr x (List.mem_cons_of_mem _ hx)))
      · split at hy
        · exact il (fun r h => hr r (List.mem_cons_of_mem _ h)) y hy
        · simp at hy
  have a1 := hA ks fun _ h => h
  have s1 := hS ks fun _ h => h
  rw [der]
  split
  · split
    · exact ok_em
    · exact ok_no
  split
  · exact ok_em
  split
  · exact ok_either (Nat.le_trans (derS_len ks n) hlen) s1
  split
  · exact ok_either (by rw [derA_len]; exact hlen) a1
  split
  · exact ok_then (head_ok a1) ⟨by decide, by decide, by decide, (by show 1 ≤ maxLen; decide), head_ok hk, trivial⟩
  split
  · exact head_ok a1
  · exact ok_no
end Go.Proofs.YtifgipebbagfcaaDoor

/-
  DERIVATIVES: the program's derivative, every kind.
-/
import Derived.Test.YtifgipebbagfcaaDoorJLawRegexDer2
set_option linter.unusedVariables false
set_option linter.unusedSimpArgs false
namespace Go.Proofs.YtifgipebbagfcaaDoor
open Go Go.Av Go.Ev Go.Pl
theorem C_regex_derive : ∀ (r : Rx), wellB r = true → okRx r → sz r ≤ 1000000 → ∀ n : Int, Calls' tbl N_regex_derive [.d .rx r, .d tI n] [] q_regex_derive (der r n, ()) := by
  refine rx_ind fun k lo up ks ih hw hok hs n => ?_
  obtain ⟨hlen, hkid⟩ := rx_kid hs
  obtain ⟨hn, hks⟩ := well_iff.1 hw
  have hok' := (okRxs_iff ks).1 hok.2.2.2.2
  have hc : ∀ r ∈ ks, Calls' tbl N_regex_derive [.d .rx r, .d tI n] [] q_regex_derive (der r n, ()) := fun r hr => ih r hr (hks r hr) (hok' r hr) (by have := hkid r hr; omega) n
  have okA : ∀ y ∈ derA ks n, okRx y := by
    intro y hy
    have : ∀ (rs : List Rx), (∀ r ∈ rs, okRx r) → ∀ y ∈ derA rs n, okRx y := by
      intro rs
      induction rs with
      | nil => intro _ y hy; simp [derA] at hy
      | cons r rs il =>
        intro hr y hy
        rw [derA] at hy
        rcases List.mem_cons.1 hy with rfl | hy
        · exact ok_der r (hr r (List.mem_cons_self ..)) n
        · exact il (fun r h => hr r (List.mem_cons_of_mem _ h)) y hy
    exact this ks hok' y hy
  have okS : ∀ y ∈ derS ks n, okRx y := by
    intro y hy
    have : ∀ (rs : List Rx), (∀ r ∈ rs, okRx r) → ∀ y ∈ derS rs n, okRx y := by
      intro rs
      induction rs with
      | nil => intro _ y hy; simp [derS] at hy
      | cons r rs il =>
        intro hr y hy
        rw [derS] at hy
        rcases List.mem_cons.1 hy with rfl | hy
        · exact ok_then (ok_der r (hr r (List.mem_cons_self ..)) n) (ok_rest rs fun x hx => hr x (List.mem_cons_of_mem _ hx))
        · split at hy
          · exact il (fun r h => hr r (List.mem_cons_of_mem _ h)) y hy
          · simp at hy
    exact this ks hok' y hy
  refine calls_of rfl (conv_of t_regex_derive rfl (fun O m => x_regex_derive O m (.mk k lo up ks) n) ?_)
  unfold G_regex_derive
  rcases hn.known with rfl | rfl | rfl | rfl | rfl | rfl | rfl | rfl
  · rw [der, if_neg (by decide), if_neg (by decide), if_neg (by decide), if_neg (by decide), if_neg (by decide), if_neg (by decide)]
    exact wp_id (fun _ => rfl) rfl
  · rw [der, if_pos rfl]
    refine wp_bind (wp_bifT rfl (wp_bind (wp_and (b := decide (n ≤ up)) (fun _ => wp_some rfl) ?_)))
    refine wp_bif (fun h => wp_some (wp_some ?_)) fun h => wp_some (wp_some ?_)
    · have h : (decide (lo ≤ n) && decide (n ≤ up)) = true := h
      simp only [Bool.and_eq_true, decide_eq_true_eq] at h
      rw [if_pos h]
      rfl
    · have h : (decide (lo ≤ n) && decide (n ≤ up)) = false := h
      have hn2 : ¬ (lo ≤ n ∧ n ≤ up) := fun e => by simp [e.1, e.2] at h
      rw [if_neg hn2]
      rfl
  · rw [der, if_neg (by decide), if_pos rfl]
    exact wp_id (fun _ => rfl) rfl
  · rw [der, if_neg (by decide), if_neg (by decide), if_pos rfl]
    refine wp_bind (wp_bifF rfl (wp_bifF rfl (wp_bifT rfl (wp_bind (Ev.wp_mono (seq_derive 3 lo up ks n (by omega) (fun r hr => by have := hkid r hr; omega) hks hc) ?_)))))
    rintro t rfl
    refine wp_call (C_regex_either _ (Nat.le_trans (derS_len ks n) (by omega)) okS) (wp_some (wp_some ?_))
    rw [rx_eta]
  · rw [der, if_neg (by decide), if_neg (by decide), if_neg (by decide), if_pos rfl]
    refine wp_bind (wp_bifF rfl (wp_bifF rfl (wp_bifF rfl (wp_bifT rfl (wp_bind (Ev.wp_mono (alt_derive 4 lo up ks n (by omega) hc) ?_))))))
    rintro t rfl
    refine wp_call (C_regex_either _ (by rw [derA_len]; omega) okA) (wp_some (wp_some ?_))
    rw [rx_eta]
  · obtain ⟨r, rfl⟩ := len_one (hn.one (by simp))
    rw [der, if_neg (by decide), if_neg (by decide), if_neg (by decide), if_neg (by decide), if_pos (by decide)]
    refine wp_bind (wp_bifF rfl (wp_bifF rfl (wp_bifF rfl (wp_bifF rfl (wp_bind (wp_id (a := (true, (0 : Int), (0 : Int), (0 : Int), ())) (fun _ => rfl) (wp_bifT rfl (wp_idx (by decide) rfl ?_))))))))
    refine wp_call (hc r (by simp)) (wp_idx (by decide) rfl (wp_call (C_regex_duplicate r (by have := hkid r (by simp); omega)) (wp_call (C_regex_then _ _) (wp_some (wp_some ?_)))))
    rw [rx_eta]
    rfl
  · obtain ⟨r, rfl⟩ := len_one (hn.one (by simp))
    rw [der, if_neg (by decide), if_neg (by decide), if_neg (by decide), if_neg (by decide), if_pos (by decide)]
    refine wp_bind (wp_bifF rfl (wp_bifF rfl (wp_bifF rfl (wp_bifF rfl (wp_bind (wp_id (a := (true, (0 : Int), (0 : Int), (0 : Int), ())) (fun _ => rfl) (wp_bifT rfl (wp_idx (by decide) rfl ?_))))))))
    refine wp_call (hc r (by simp)) (wp_idx (by decide) rfl (wp_call (C_regex_duplicate r (by have := hkid r (by simp); omega)) (wp_call (C_regex_then _ _) (wp_some (wp_some ?_)))))
    rw [rx_eta]
    rfl
  · obtain ⟨r, rfl⟩ := len_one (hn.one (by simp))
    rw [der, if_neg (by decide), if_neg (by decide), if_neg (by decide), if_neg (by decide), if_neg (by decide), if_pos rfl]
    refine wp_bind (wp_bifF rfl (wp_bifF rfl (wp_bifF rfl (wp_bifF rfl (wp_bind (wp_id (a := (false, (0 : Int), (0 : Int), (0 : Int), ())) (fun _ => rfl) (wp_bifF rfl (wp_bifT rfl (wp_idx (by decide) rfl ?_)))))))))
    refine wp_call (hc r (by simp)) (wp_some (wp_some ?_))
    rw [rx_eta]
    rfl
end Go.Proofs.YtifgipebbagfcaaDoor

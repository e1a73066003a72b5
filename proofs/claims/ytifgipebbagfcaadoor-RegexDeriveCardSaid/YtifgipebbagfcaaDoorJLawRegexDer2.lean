/-
  DERIVATIVES: the program's derivative is the plain one.
-/
import Derived.Test.YtifgipebbagfcaaDoorJLawRegexDer
set_option linter.unusedVariables false
set_option linter.unusedSimpArgs false
namespace Go.Proofs.YtifgipebbagfcaaDoor
open Go Go.Av Go.Ev Go.Pl
theorem seq_derive (k lo up : Int) (ks : List Rx) (n : Int) (hlen : ks.length ≤ 1000000) (hz : ∀ r ∈ ks, sz r ≤ 1000000) (hw : ∀ r ∈ ks, wellB r = true)
    (ih : ∀ r ∈ ks, Calls' tbl N_regex_derive [.d .rx r, .d tI n] [] q_regex_derive (der r n, ())) :
    Wp (fun m => loopN m (L_regex_derive_0 (evF tbl m) m (.mk k lo up ks) n) ((0 : Int), (0 : Int), (0 : Int), (0 : Int), ([] : List Rx), ())) fun t => t = ((0 : Int), (0 : Int), (0 : Int), derS ks n, ()) := by
  refine wp_range (N := ks.length) (I := fun i s => ∃ acc : List Rx, s = ((i : Int), (0 : Int), (0 : Int), (0 : Int), acc, ()) ∧ acc.length = i ∧ acc ++ derS (ks.drop i) n = derS ks n) ⟨[], rfl, rfl, rfl⟩ ?_ ?_
  · rintro i s hi ⟨acc, rfl, hl, ha⟩
    have hm := List.getElem_mem hi
    have hd : ks.drop i = ks[i] :: ks.drop (i + 1) := List.drop_eq_getElem_cons hi
    unfold L_regex_derive_0
    refine wp_in hi (wp_get0 hi ?_)
    rw [rx_eta]
    refine wp_call (ih _ hm) ?_
    rw [wrap_succ hi (by omega)]
    refine wp_guard (decide_eq_true (by omega)) (wp_guard ?_ ?_)
    · show (decide (Int.toNat ((i + 1 : Nat) : Int) ≤ ks.length) && decide (ks.length ≤ ks.length) && decide (ks.length ≤ ks.length)) = true
      simp only [Bool.and_eq_true, decide_eq_true_eq]; omega
    have t2 : (ks.take ks.length).drop (Int.toNat ((i + 1 : Nat) : Int)) = ks.drop (i + 1) := by rw [Int.toNat_natCast, List.take_length]
    have c2 := C_regex_rest (ks.drop (i + 1)) (by rw [List.length_drop]; omega) (fun r hr => hz r (List.mem_of_mem_drop hr))
    rw [← t2] at c2
    refine wp_call c2 ?_
    rw [t2]
    refine wp_call (C_regex_then _ _) (wp_guard (decide_eq_true ?_) (wp_call (C_regex_nullable _ (hw _ hm) (hz _ hm)) ?_))
    · show (acc.length + 1) * 48 ≤ 140737488355328
      omega
    rw [hd, derS] at ha
    refine wp_bif (fun h => wp_some ?_) fun h => wp_some ?_
    · have h : (!nul ks[i]) = true := h
      have hn : ¬ nul ks[i] = true := by simpa using h
      rw [if_neg hn] at ha
      rw [← ha]
      rfl
    · have h : (!nul ks[i]) = false := h
      have hn : nul ks[i] = true := by simpa using h
      rw [if_pos hn] at ha
      exact ⟨acc ++ [thenR (der ks[i] n) (restR (ks.drop (i + 1)))], rfl, by simp [hl], by rw [List.append_assoc]; exact ha⟩
  · rintro s ⟨acc, rfl, hl, ha⟩
    unfold L_regex_derive_0
    rw [List.drop_length] at ha
    refine wp_out (wp_some ?_)
    have : acc = derS ks n := by rw [← ha]; simp [derS]
    rw [this]
theorem alt_derive (k lo up : Int) (ks : List Rx) (n : Int) (hlen : ks.length ≤ 1000000)
    (ih : ∀ r ∈ ks, Calls' tbl N_regex_derive [.d .rx r, .d tI n] [] q_regex_derive (der r n, ())) :
    Wp (fun m => loopN m (L_regex_derive_1 (evF tbl m) m (.mk k lo up ks) n) ((0 : Int), (0 : Int), (0 : Int), (0 : Int), ([] : List Rx), ())) fun t => t = ((0 : Int), (0 : Int), (0 : Int), derA ks n, ()) := by
  refine wp_range (N := ks.length) (I := fun i s => ∃ acc : List Rx, s = ((i : Int), (0 : Int), (0 : Int), (0 : Int), acc, ()) ∧ acc.length = i ∧ acc ++ derA (ks.drop i) n = derA ks n) ⟨[], rfl, rfl, rfl⟩ ?_ ?_
  · rintro i s hi ⟨acc, rfl, hl, ha⟩
    have hm := List.getElem_mem hi
    rw [List.drop_eq_getElem_cons hi, derA] at ha
    unfold L_regex_derive_1
    refine wp_in hi (wp_get0 hi ?_)
    rw [rx_eta]
    refine wp_call (ih _ hm) (wp_guard (decide_eq_true ?_) (wp_some ⟨acc ++ [der ks[i] n], ?_, by simp [hl], by rw [List.append_assoc]; exact ha⟩))
    · show (acc.length + 1) * 48 ≤ 140737488355328
      omega
    · rw [wrap_succ hi (by omega)]
      rfl
  · rintro s ⟨acc, rfl, hl, ha⟩
    unfold L_regex_derive_1
    rw [List.drop_length] at ha
    refine wp_out (wp_some ?_)
    have : acc = derA ks n := by rw [← ha]; simp [derA]
    rw [this]
end Go.Proofs.YtifgipebbagfcaaDoor

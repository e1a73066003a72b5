/-
  'RegexMatch': matching is as defined.
-/
import Derived.Test.YtifgipebbagfcaaDoorULawRegexCheck
import Derived.Test.YtifgipebbagfcaaDoorULawRxMatch15
set_option linter.unusedVariables false
set_option linter.unusedSimpArgs false
namespace Go.Proofs.YtifgipebbagfcaaDoor
open Go Go.Av Go.Ev Go.Pl
theorem nulA_iff : ∀ ks : List Rx, nulA ks = true ↔ ∀ r ∈ ks, nul r = true
  | [] => by simp [nulA]
  | r :: l => by simp [nulA, nulA_iff l]
theorem nulO_iff : ∀ ks : List Rx, nulO ks = false ↔ ∀ r ∈ ks, nul r = false
  | [] => by simp [nulO]
  | r :: l => by simp [nulO, nulO_iff l]
theorem C_regex_nullable : ∀ (r : Rx), wellB r = true → sz r ≤ 1000000 → Calls' tbl N_regex_nullable [.d .rx r] [] q_regex_nullable (nul r, ()) := by
  refine rx_ind fun k lo up ks ih hw hs => ?_
  obtain ⟨hlen, hkid⟩ := rx_kid hs
  obtain ⟨hn, hks⟩ := well_iff.1 hw
  refine calls_of rfl (conv_of t_regex_nullable rfl (fun O m => x_regex_nullable O m (.mk k lo up ks)) ?_)
  unfold G_regex_nullable
  rcases hn.known with rfl | rfl | rfl | rfl | rfl | rfl | rfl | rfl
  · exact wp_id (fun _ => rfl) rfl
  · exact wp_id (fun _ => rfl) rfl
  · exact wp_id (fun _ => rfl) rfl
  · refine wp_bind (wp_bind (wp_id (a := (false, ())) (fun _ => rfl) (wp_bifF rfl (wp_bifF rfl (wp_bifT rfl ?_)))))
    refine wp_bind (wp_allx (xs := ks) (P := fun r => nul r = true) (e := (false, ())) (g := ()) (fun i hi => ?_) ?_ (fun hg => ?_) (fun hb => ?_))
    · unfold L_regex_nullable_0
      refine wp_in hi (wp_get0 hi ?_)
      rw [rx_eta]
      have hr := List.getElem_mem hi
      refine wp_call (ih ks[i] hr (hks _ hr) (by have := hkid _ hr; omega)) (wp_stop ?_ (by rw [wrap_succ hi (by omega)]))
      show (!nul ks[i]) = true ↔ _
      simp
    · unfold L_regex_nullable_0
      exact wp_out (wp_some rfl)
    · refine wp_some (wp_some ?_)
      rw [show nul (.mk 3 lo up ks) = nulA ks from rfl, (nulA_iff ks).2 hg]
    · refine wp_some (wp_some ?_)
      have : nulA ks = false := by
        cases hq : nulA ks
        · rfl
        · exact absurd ((nulA_iff ks).1 hq) hb
      rw [show nul (.mk 3 lo up ks) = nulA ks from rfl, this]
  · refine wp_bind (wp_bind (wp_id (a := (false, ())) (fun _ => rfl) (wp_bifF rfl (wp_bifF rfl (wp_bifF rfl (wp_bifT rfl ?_))))))
    refine wp_bind (wp_allx (xs := ks) (P := fun r => nul r = false) (e := (true, ())) (g := ()) (fun i hi => ?_) ?_ (fun hg => ?_) (fun hb => ?_))
    · unfold L_regex_nullable_1
      refine wp_in hi (wp_get0 hi ?_)
      rw [rx_eta]
      have hr := List.getElem_mem hi
      refine wp_call (ih ks[i] hr (hks _ hr) (by have := hkid _ hr; omega)) (wp_stop ?_ (by rw [wrap_succ hi (by omega)]))
      show nul ks[i] = true ↔ _
      simp
    · unfold L_regex_nullable_1
      exact wp_out (wp_some rfl)
    · refine wp_some (wp_some ?_)
      rw [show nul (.mk 4 lo up ks) = nulO ks from rfl, (nulO_iff ks).2 hg]
    · refine wp_some (wp_some ?_)
      have : nulO ks = true := by
        cases hq : nulO ks
        · exact absurd ((nulO_iff ks).1 hq) hb
        · rfl
      rw [show nul (.mk 4 lo up ks) = nulO ks from rfl, this]
  · exact wp_id (fun _ => rfl) rfl
  · obtain ⟨r1, rfl⟩ := len_one (hn.one (by simp))
    refine wp_bind (wp_bind (wp_id (a := (false, ())) (fun _ => rfl) (wp_bifF rfl (wp_bifT rfl ?_))))
    refine wp_idx (by decide) rfl ?_
    refine wp_call (ih r1 (by simp) (hks _ (by simp)) (by have := hkid r1 (by simp); omega)) (wp_some (wp_some ?_))
    rw [show nul (.mk 6 lo up [r1]) = (nul r1 && true) from rfl, Bool.and_true]
  · exact wp_id (fun _ => rfl) rfl
theorem C_regex_Nullable (r : Rx) (hs : sz r ≤ 1000000) : Calls' tbl N_regex_Nullable [.d .rx r] [] q_regex_Nullable (wellB r && nul r, ()) := by
  refine calls_of rfl (conv_of t_regex_Nullable rfl (fun O m => x_regex_Nullable O m r) ?_)
  unfold G_regex_Nullable
  refine wp_call (C_regex_well r hs) (wp_bind (wp_and (b := nul r) (fun h => wp_call (C_regex_nullable r h hs) (wp_some rfl)) (wp_some rfl)))
theorem match_both {r : Rx} {path : List Int} : (wellB r && (rangeB path && matchG (glu r 0) path)) = (wellB r && matchG (glu r 0) path) := by
  cases hw : wellB r
  · rfl
  · cases hr : rangeB path
    · rw [match_out hw hr]; rfl
    · rfl
theorem law_RegexMatch : LawOk N_law15_RegexMatch [.rx, .list tI] := by
  rintro ⟨r, path, _⟩ ⟨hr, _, _⟩
  have hr : okRx r := hr
  refine ⟨outQ q_law15_RegexMatch (true, ()), ?_, rfl⟩
  refine conv_of t_law15_RegexMatch rfl (fun O n => x_law15_RegexMatch O n r path) ?_
  unfold G_law15_RegexMatch
  refine wp_call (C_law15_Large r hr) ?_
  refine wp_bind (wp_or (b := decide ((path.length : Int) > 40)) (fun _ => wp_some rfl) ?_)
  refine wp_bif (fun _ => wp_call C_awake (wp_id (fun _ => rfl) rfl)) fun hs => ?_
  have hs : sz r ≤ 200 ∧ path.length ≤ 40 := by
    have h : (decide (200 < sz r) || decide ((path.length : Int) > 40)) = false := hs
    simp at h
    omega
  refine wp_call (C_regex_Match r (by omega) path (by omega)) (wp_call (C_ref15_Match r (by omega) path (by omega)) ?_)
  rw [match_both]
  refine wp_bind (wp_and (b := true) (fun _ => ?_) (wp_bind (wp_and (b := true) (fun _ => wp_call C_awake (wp_some rfl)) (wp_some ?_))))
  · refine wp_call (C_regex_Nullable r (by omega)) (wp_call (C_ref15_Match r (by omega) [] (by simp)) (wp_some ?_))
    show (false ^^ ((wellB r && nul r) == (wellB r && (glu r 0).em))) = true
    cases hw : wellB r
    · rfl
    · rw [(glu_well r hw 0).2]; simp
  · simp
end Go.Proofs.YtifgipebbagfcaaDoor

/-
  'RegexDerive': derivatives match the rests of paths.
-/
import Derived.Test.YtifgipebbagfcaaDoorJLawRegexDer3
set_option linter.unusedVariables false
set_option linter.unusedSimpArgs false
namespace Go.Proofs.YtifgipebbagfcaaDoor
open Go Go.Av Go.Ev Go.Pl
noncomputable def derD (r : Rx) (n : Int) : Rx := if wellB r = true ∧ 0 ≤ n ∧ n ≤ 4294967295 then der r n else noR
theorem C_regex_Derive (r : Rx) (hok : okRx r) (hs : sz r ≤ 1000000) (n : Int) : Calls' tbl N_regex_Derive [.d .rx r, .d tI n] [] q_regex_Derive (derD r n, ()) := by
  refine calls_of rfl (conv_of t_regex_Derive rfl (fun O m => x_regex_Derive O m r n) ?_)
  unfold G_regex_Derive
  refine wp_call (C_regex_well r hs) (wp_bind (wp_or (b := decide (n < 0)) (fun _ => wp_some rfl) (wp_bind (wp_or (b := decide (n > 4294967295)) (fun _ => wp_some rfl) ?_))))
  unfold derD
  refine wp_bif (fun h => wp_some ?_) fun h => ?_
  · have h : ((!wellB r || decide (n < 0)) || decide (n > 4294967295)) = true := h
    rw [if_neg (fun e => by
      obtain ⟨e1, e2, e3⟩ := e
      rw [e1] at h
      simp at h
      omega)]
    rfl
  · have h : ((!wellB r || decide (n < 0)) || decide (n > 4294967295)) = false := h
    simp at h
    have hw : wellB r = true := h.1.1
    rw [if_pos ⟨hw, by omega, by omega⟩]
    refine wp_call (C_regex_derive r hw hok hs n) (wp_some ?_)
    rw [rx_eta]
def vM (r : Rx) (p : List Int) : Bool := wellB r && matchG (glu r 0) p
theorem derD_ok (r : Rx) (n : Int) (l : List Int) : wellB (derD r n) = true ∧ vM (derD r n) l = vM r (n :: l) := by
  unfold derD
  split
  · rename_i h
    obtain ⟨h1, h2⟩ := der_ok r h.1 n h.2.1 h.2.2
    refine ⟨h1, ?_⟩
    unfold vM
    rw [h1, h.1, Bool.true_and, Bool.true_and]
    exact Bool.eq_iff_iff.2 ((match_lang _ _).trans ((h2 l).trans (match_lang _ _).symm))
  · rename_i h
    refine ⟨rfl, ?_⟩
    have h1 : vM noR l = false := by
      unfold vM
      cases hq : matchG (glu noR 0) l
      · simp
      · exact absurd ((match_lang _ _).1 hq) lang_no
    rw [h1]
    unfold vM
    cases hw : wellB r
    · rfl
    · rw [match_out hw]
      · rfl
      · cases hq : rangeB (n :: l)
        · rfl
        · simp [rangeB] at hq
          exact absurd ⟨hw, hq.1.1, hq.1.2⟩ h
theorem ok_derD {r : Rx} (h : okRx r) (n : Int) : okRx (derD r n) := by
  unfold derD
  split
  · exact ok_der r h n
  · exact ok_no
theorem C_vM (r : Rx) (hs : sz r ≤ 100000) (path : List Int) (hp : path.length ≤ 1000000) : Calls' tbl N_ref15_Match [.d .rx r, .d (.list tI) path] [] q_ref15_Match (vM r path, ()) := C_ref15_Match r hs path hp
theorem loop_Derive (r : Rx) (hr : okRx r) (hs : sz r ≤ 200) (path : List Int) (hp : path.length ≤ 5) :
    Wp (fun n => loopN n (L_law15_RegexDerive_0 (evF tbl n) n r path) ((0 : Int), r.out.1, r.out.2.1, r.out.2.2.1, r.out.2.2.2.1, ())) fun t => match t with
      | .inl e => e = (true, ())
      | .inr t => ∃ c : Rx, t = (c.out.1, c.out.2.1, c.out.2.2.1, c.out.2.2.2.1, ()) ∧ sz c ≤ 20000 ∧ vM c [] = vM r path := by
  refine wp_range (N := path.length) (I := fun i s => ∃ c : Rx, s = ((i : Int), c.out.1, c.out.2.1, c.out.2.2.1, c.out.2.2.2.1, ()) ∧ okRx c ∧ sz c ≤ 20000 ∧ vM c (path.drop i) = vM r path) ⟨r, rfl, hr, by omega, rfl⟩ ?_ ?_
  · rintro i s hi ⟨c, rfl, hc, hz, hv⟩
    obtain ⟨d1, d2⟩ := derD_ok c path[i] (path.drop (i + 1))
    rw [List.drop_eq_getElem_cons hi] at hv
    rw [hv] at d2
    have hod := ok_derD hc path[i]
    unfold L_law15_RegexDerive_0
    refine wp_in hi (wp_get0 hi ?_)
    rw [rx_eta]
    refine wp_call (C_regex_Derive c hc (by omega) path[i]) ?_
    generalize derD c path[i] = d at *
    rw [rx_eta]
    refine wp_call (C_ref15_Size d hod 20000 (by decide)) (wp_bif (fun _ => wp_call C_awake (wp_some rfl)) fun hq => ?_)
    have hq : decide (((min (sz d) (20000 + 1) : Nat) : Int) > 20000) = false := hq
    have hzd : sz d ≤ 20000 := by
      rw [decide_eq_false_iff_not] at hq
      omega
    refine wp_call (C_ref15_WellFormed d (by omega)) (wp_bif (fun h => ?_) fun _ => ?_)
    · have h : (!wellB d) = true := h
      rw [d1] at h; cases h
    rw [wrap_succ hi (by omega)]
    refine wp_guard (decide_eq_true (by omega)) (wp_guard ?_ ?_)
    · show (decide (Int.toNat ((i + 1 : Nat) : Int) ≤ path.length) && decide (path.length ≤ path.length) && decide (path.length ≤ path.length)) = true
      simp only [Bool.and_eq_true, decide_eq_true_eq]; omega
    have t2 : (path.take path.length).drop (Int.toNat ((i + 1 : Nat) : Int)) = path.drop (i + 1) := by rw [Int.toNat_natCast, List.take_length]
    have c2 := C_vM d (by omega) (path.drop (i + 1)) (by rw [List.length_drop]; omega)
    rw [← t2] at c2
    refine wp_call c2 (wp_call (C_vM r (by omega) path (by omega)) ?_)
    rw [t2, d2]
    refine wp_bif (fun h => ?_) fun _ => wp_some ⟨d, rfl, hod, hzd, d2⟩
    have h : (true ^^ (vM r path == vM r path)) = true := h
    simp at h
  · rintro s ⟨c, rfl, hc, hz, hv⟩
    unfold L_law15_RegexDerive_0
    rw [List.drop_length] at hv
    exact wp_out (wp_some ⟨c, rfl, hz, hv⟩)
theorem law_RegexDerive : LawOk N_law15_RegexDerive [.rx, .list tI] := by
  rintro ⟨r, path, _⟩ ⟨hr, _, _⟩
  have hr : okRx r := hr
  refine ⟨outQ q_law15_RegexDerive (true, ()), ?_, rfl⟩
  refine conv_of t_law15_RegexDerive rfl (fun O n => x_law15_RegexDerive O n r path) ?_
  unfold G_law15_RegexDerive
  refine wp_call (C_law15_Large r hr) (wp_bind (wp_or (b := decide ((path.length : Int) > 5)) (fun _ => wp_some rfl) ?_))
  refine wp_bif (fun _ => wp_call C_awake (wp_id (fun _ => rfl) rfl)) fun hs => ?_
  have hs : sz r ≤ 200 ∧ path.length ≤ 5 := by
    have h : (decide (200 < sz r) || decide ((path.length : Int) > 5)) = false := hs
    simp at h
    omega
  refine wp_bind (Ev.wp_mono (loop_Derive r hr hs.1 path hs.2) ?_)
  rintro (e | t) ht
  · have ht : e = (true, ()) := ht
    subst ht
    exact wp_some rfl
  obtain ⟨c, rfl, hz, hv⟩ := ht
  have c1 := C_regex_Nullable c (by omega)
  rw [← rx_eta c] at c1
  refine wp_call c1 (wp_call (C_vM r (by omega) path (by omega)) ?_)
  rw [rx_eta]
  have hn : (wellB c && nul c) = vM r path := by
    rw [← hv]
    unfold vM
    cases hw : wellB c
    · rfl
    · rw [Bool.true_and, Bool.true_and, ← (glu_well c hw 0).2]; rfl
  rw [hn]
  refine wp_bind (wp_and (b := true) (fun _ => wp_call C_awake (wp_some rfl)) (wp_some ?_))
  simp
end Go.Proofs.YtifgipebbagfcaaDoor

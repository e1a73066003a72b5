/-
  'RegexAlgebra': alternatives and repetitions match what they should.
-/
import Derived.Test.YtifgipebbagfcaaDoorMLawRegexMatch
import Derived.Test.YtifgipebbagfcaaDoorMPlLang
set_option linter.unusedVariables false
set_option linter.unusedSimpArgs false
namespace Go.Proofs.YtifgipebbagfcaaDoor
open Go Go.Av Go.Ev Go.Pl
def mt (r : Rx) (p : List Int) : Bool := wellB r && (rangeB p && matchG (glu r 0) p)
theorem mt_iff {r : Rx} (hw : wellB r = true) {p : List Int} : mt r p = true ↔ rangeB p = true ∧ Lang r p := by
  unfold mt
  rw [hw, Bool.true_and, Bool.and_eq_true, match_lang]
theorem rangeB_app {a b : List Int} : rangeB (a ++ b) = (rangeB a && rangeB b) := List.all_append
theorem langA_one {r : Rx} {l : List Int} : LangA [r] l ↔ Lang r l := by simp [LangA]
theorem lang5 {r : Rx} {l : List Int} : Lang (.mk 5 0 0 [r]) l ↔ Star (Lang r) l := by
  unfold Lang
  rw [if_neg (by decide), if_neg (by decide), if_neg (by decide), if_neg (by decide), if_pos rfl]
  exact star_congr (fun _ => langA_one) l
theorem lang6 {r : Rx} {l : List Int} : Lang (.mk 6 0 0 [r]) l ↔ Cat (Lang r) (Star (Lang r)) l := by
  unfold Lang
  rw [if_neg (by decide), if_neg (by decide), if_neg (by decide), if_neg (by decide), if_neg (by decide), if_pos rfl]
  exact cat_congr (fun _ => langA_one) (star_congr fun _ => langA_one) l
theorem lang7 {r : Rx} {l : List Int} : Lang (.mk 7 0 0 [r]) l ↔ l = [] ∨ Lang r l := by
  rw [Lang, if_neg (by decide), if_neg (by decide), if_neg (by decide), if_neg (by decide), if_neg (by decide), if_neg (by decide), if_pos rfl, langA_one]
theorem lang4 {r s : Rx} {l : List Int} : Lang (.mk 4 0 0 [r, s]) l ↔ Lang r l ∨ Lang s l := by
  rw [Lang, if_neg (by decide), if_neg (by decide), if_neg (by decide), if_pos rfl]
  simp [LangA]
theorem lang3 {r s : Rx} {l : List Int} : Lang (.mk 3 0 0 [r, s]) l ↔ Cat (Lang r) (Lang s) l := by
  rw [Lang, if_neg (by decide), if_neg (by decide), if_pos rfl, LangS]
  refine cat_congr (fun _ => Iff.rfl) (fun l => ?_) l
  rw [LangS]
  constructor
  · rintro ⟨a, b, rfl, h, h2⟩
    have : b = [] := h2
    subst this
    rw [List.append_nil]; exact h
  · exact fun h => ⟨l, [], (List.append_nil l).symm, h, rfl⟩
theorem well_one {r : Rx} (hw : wellB r = true) {k : Int} (hk : k = 5 ∨ k = 6 ∨ k = 7) : wellB (.mk k 0 0 [r]) = true := by
  refine well_iff.2 ⟨nodeE_zero.1 ?_, fun x hx => ?_⟩
  · rcases hk with rfl | rfl | rfl <;> rfl
  · simp only [List.mem_singleton] at hx; subst hx; exact hw
theorem well_two {r s : Rx} (hr : wellB r = true) (hs : wellB s = true) {k : Int} (hk : k = 3 ∨ k = 4) : wellB (.mk k 0 0 [r, s]) = true := by
  refine well_iff.2 ⟨nodeE_zero.1 ?_, fun x hx => ?_⟩
  · rcases hk with rfl | rfl <;> rfl
  · rcases List.mem_cons.1 hx with rfl | hx
    · exact hr
    · simp only [List.mem_singleton] at hx; subst hx; exact hs
theorem sz_one {r : Rx} {k : Int} : sz (.mk k 0 0 [r]) = 1 + sz r := by simp [sz, szs]
theorem sz_two {r s : Rx} {k : Int} : sz (.mk k 0 0 [r, s]) = 1 + (sz r + sz s) := by simp [sz, szs]
section
variable {r s : Rx} (hr : wellB r = true) (hs : wellB s = true) {p : List Int}
include hr
theorem mt_star_nil : mt (.mk 5 0 0 [r]) [] = true := (mt_iff (well_one hr (.inl rfl))).2 ⟨rfl, lang5.2 .nil⟩
theorem mt_plus : mt (.mk 6 0 0 [r]) p = mt (.mk 3 0 0 [r, .mk 5 0 0 [r]]) p := by
  refine Bool.eq_iff_iff.2 ?_
  rw [mt_iff (well_one hr (.inr (.inl rfl))), mt_iff (well_two hr (well_one hr (.inl rfl)) (.inl rfl)), lang6, lang3]
  rw [cat_congr (fun _ => Iff.rfl) (fun l => (lang5 (r := r) (l := l))) p]
theorem mt_opt : mt (.mk 7 0 0 [r]) p = (((p.length : Int) == 0) || mt r p) := by
  refine Bool.eq_iff_iff.2 ?_
  rw [mt_iff (well_one hr (.inr (.inr rfl))), lang7, Bool.or_eq_true, mt_iff hr]
  constructor
  · rintro ⟨h, rfl | h2⟩
    · exact .inl rfl
    · exact .inr ⟨h, h2⟩
  · rintro (h | ⟨h, h2⟩)
    · have : p = [] := List.eq_nil_of_length_eq_zero (by simpa using h)
      subst this
      exact ⟨rfl, .inl rfl⟩
    · exact ⟨h, .inr h2⟩
theorem mt_more {a b : List Int} (ha : mt r a = true) (hb : mt (.mk 5 0 0 [r]) b = true) : mt (.mk 5 0 0 [r]) (a ++ b) = true := by
  obtain ⟨h1, h2⟩ := (mt_iff hr).1 ha
  obtain ⟨h3, h4⟩ := (mt_iff (well_one hr (.inl rfl))).1 hb
  exact (mt_iff (well_one hr (.inl rfl))).2 ⟨by rw [rangeB_app, h1, h3]; rfl, lang5.2 (.cons a b h2 (lang5.1 h4))⟩
include hs
theorem mt_alt : mt (.mk 4 0 0 [r, s]) p = (mt r p || mt s p) := by
  refine Bool.eq_iff_iff.2 ?_
  rw [mt_iff (well_two hr hs (.inr rfl)), lang4, Bool.or_eq_true, mt_iff hr, mt_iff hs]
  constructor
  · rintro ⟨h, h2 | h2⟩
    · exact .inl ⟨h, h2⟩
    · exact .inr ⟨h, h2⟩
  · rintro (⟨h, h2⟩ | ⟨h, h2⟩)
    · exact ⟨h, .inl h2⟩
    · exact ⟨h, .inr h2⟩
end
theorem C_mt (r : Rx) (hs : sz r ≤ 10000) (path : List Int) (hp : path.length ≤ 1000000) : Calls' tbl N_regex_Match [.d .rx r, .d (.list tI) path] [] q_regex_Match (mt r path, ()) := C_regex_Match r hs path hp
theorem law_RegexAlgebra : LawOk N_law15_RegexAlgebra [.rx, .rx, .list tI] := by
  rintro ⟨r, s, path, _⟩ ⟨hr, hs, _, _⟩
  have hr : okRx r := hr
  have hs : okRx s := hs
  refine ⟨outQ q_law15_RegexAlgebra (true, ()), ?_, rfl⟩
  refine conv_of t_law15_RegexAlgebra rfl (fun O n => x_law15_RegexAlgebra O n r s path) ?_
  unfold G_law15_RegexAlgebra
  refine wp_call (C_law15_Large r hr) ?_
  refine wp_bind (wp_or (b := decide (200 < sz s)) (fun _ => wp_call (C_law15_Large s hs) (wp_some rfl)) ?_)
  refine wp_bind (wp_or (b := decide ((path.length : Int) > 12)) (fun _ => wp_some rfl) ?_)
  refine wp_bind (wp_or (b := !wellB r) (fun h => ?_) ?_)
  · have h : ((decide (200 < sz r) || decide (200 < sz s)) || decide ((path.length : Int) > 12)) = false := h
    simp at h
    exact wp_call (C_ref15_WellFormed r (by omega)) (wp_some rfl)
  refine wp_bind (wp_or (b := !wellB s) (fun h => ?_) ?_)
  · have h : (((decide (200 < sz r) || decide (200 < sz s)) || decide ((path.length : Int) > 12)) || !wellB r) = false := h
    simp at h
    exact wp_call (C_ref15_WellFormed s (by omega)) (wp_some rfl)
  refine wp_bif (fun _ => wp_call C_awake (wp_id (fun _ => rfl) rfl)) fun h => ?_
  have h : ((((decide (200 < sz r) || decide (200 < sz s)) || decide ((path.length : Int) > 12)) || !wellB r) || !wellB s) = false := h
  simp at h
  obtain ⟨⟨⟨⟨z1, z2⟩, z3⟩, w1⟩, w2⟩ := h
  have hp : path.length ≤ 1000000 := by omega
  refine wp_call (C_mt (.mk 4 0 0 [r, s]) (by rw [sz_two]; omega) path hp) (wp_call (C_mt r (by omega) path hp) ?_)
  refine wp_bind (wp_or (b := mt s path) (fun _ => wp_call (C_mt s (by omega) path hp) (wp_some rfl)) ?_)
  refine wp_bind (wp_or (b := false) (fun _ => wp_call (C_mt (.mk 5 0 0 [r]) (by rw [sz_one]; omega) [] (by simp)) (wp_some ?_)) ?_)
  · show (!mt (.mk 5 0 0 [r]) []) = false
    rw [mt_star_nil w1]; rfl
  refine wp_bind (wp_or (b := false) (fun _ => wp_call (C_mt (.mk 6 0 0 [r]) (by rw [sz_one]; omega) path hp) (wp_call (C_mt (.mk 3 0 0 [r, .mk 5 0 0 [r]]) (by rw [sz_two, sz_one]; omega) path hp) (wp_some ?_))) ?_)
  · show (true ^^ (mt (.mk 6 0 0 [r]) path == mt (.mk 3 0 0 [r, .mk 5 0 0 [r]]) path)) = false
    rw [mt_plus w1]; simp
  refine wp_bif (fun h => ?_) fun _ => ?_
  · have h : (((true ^^ (mt (.mk 4 0 0 [r, s]) path == (mt r path || mt s path))) || false) || false) = true := h
    rw [mt_alt w1 w2] at h
    simp at h
  refine wp_call (C_mt (.mk 7 0 0 [r]) (by rw [sz_one]; omega) path hp) ?_
  refine wp_bind (wp_or (b := mt r path) (fun _ => wp_call (C_mt r (by omega) path hp) (wp_some rfl)) ?_)
  refine wp_bif (fun h => ?_) fun _ => ?_
  · have h : (true ^^ (mt (.mk 7 0 0 [r]) path == (((path.length : Int) == 0) || mt r path))) = true := h
    rw [mt_opt w1] at h
    simp at h
  have hloop : Wp (fun n => loopN n (L_law15_RegexAlgebra_0 (evF tbl n) n r path) ((0 : Int), (5 : Int), (0 : Int), (0 : Int), ([r] : List Rx), ())) fun t => t = .inr () := by
    refine wp_range (N := path.length + 1) (I := fun i s => s = ((i : Int), (5 : Int), (0 : Int), (0 : Int), ([r] : List Rx), ())) rfl ?_ ?_
    · rintro i s hi rfl
      have hi2 : i ≤ path.length := by omega
      unfold L_law15_RegexAlgebra_0
      refine wp_bifT (decide_eq_true (by show (i : Int) ≤ (path.length : Int); omega)) ?_
      refine wp_guard (decide_eq_true (by show (0 : Int) ≤ (i : Int); omega)) (wp_guard ?_ ?_)
      · show (decide (0 ≤ Int.toNat (i : Int)) && decide (Int.toNat (i : Int) ≤ path.length) && decide (path.length ≤ path.length)) = true
        simp only [Bool.and_eq_true, decide_eq_true_eq]; omega
      have t1 : (path.take (Int.toNat (i : Int))).drop 0 = path.take i := by rw [Int.toNat_natCast]; rfl
      have t2 : (path.take path.length).drop (Int.toNat (i : Int)) = path.drop i := by rw [Int.toNat_natCast, List.take_length]
      have c1 := C_mt r (by omega) (path.take i) (by rw [List.length_take]; omega)
      rw [← t1] at c1
      refine wp_call c1 ?_
      rw [t1]
      refine wp_bind (wp_and (b := mt (.mk 5 0 0 [r]) (path.drop i)) (fun _ => ?_) ?_)
      · refine wp_guard (decide_eq_true (by show (0 : Int) ≤ (i : Int); omega)) (wp_guard ?_ ?_)
        · show (decide (Int.toNat (i : Int) ≤ path.length) && decide (path.length ≤ path.length) && decide (path.length ≤ path.length)) = true
          simp only [Bool.and_eq_true, decide_eq_true_eq]; omega
        have c2 := C_mt (.mk 5 0 0 [r]) (by rw [sz_one]; omega) (path.drop i) (by rw [List.length_drop]; omega)
        rw [← t2] at c2
        refine wp_call c2 (wp_some ?_)
        rw [t2]
      refine wp_bind (wp_and (b := !mt (.mk 5 0 0 [r]) path) (fun _ => wp_call (C_mt (.mk 5 0 0 [r]) (by rw [sz_one]; omega) path hp) (wp_some rfl)) ?_)
      refine wp_bif (fun h => ?_) fun _ => wp_some ?_
      · have h : ((mt r (path.take i) && mt (.mk 5 0 0 [r]) (path.drop i)) && !mt (.mk 5 0 0 [r]) path) = true := h
        simp only [Bool.and_eq_true] at h
        have := mt_more w1 h.1.1 h.1.2
        rw [List.take_append_drop] at this
        rw [this] at h
        simp at h
      · rw [wrap_succ hi (by omega)]
    · rintro s rfl
      unfold L_law15_RegexAlgebra_0
      refine wp_bifF (decide_eq_false (by show ¬ ((path.length + 1 : Nat) : Int) ≤ (path.length : Int); omega)) (wp_some rfl)
  refine wp_bind (Ev.wp_mono hloop ?_)
  rintro t rfl
  exact wp_call C_awake (wp_id (fun _ => rfl) rfl)
end Go.Proofs.YtifgipebbagfcaaDoor

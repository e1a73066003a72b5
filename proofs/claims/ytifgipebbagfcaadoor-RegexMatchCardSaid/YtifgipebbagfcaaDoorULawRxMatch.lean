/-
  MATCHING: both matchers as the plain one.
-/
import Derived.Test.YtifgipebbagfcaaDoorULawRxPlaces
import Derived.Test.YtifgipebbagfcaaDoorUPlMatch
set_option linter.unusedVariables false
set_option linter.unusedSimpArgs false
namespace Go.Proofs.YtifgipebbagfcaaDoor
open Go Go.Av Go.Ev Go.Pl
section
variable {α β : Type}
theorem wp_rd {xs : List α} {i : Nat} {f : Nat → α → Option β} {Q : β → Prop} (h : i < xs.length) (hk : Wp (fun n => f n xs[i]) Q) : Wp (fun n => Option.bind (getI xs (i : Int)) fun _ => Option.bind xs[Int.toNat (i : Int)]? (f n)) Q := by
  refine wp_get0 h ?_
  rw [Int.toNat_natCast]
  exact wp_get (List.getElem?_eq_getElem h) hk
theorem wp_rdB {M i : Nat} {g : Nat → Bool} {f : Nat → Bool → Option β} {Q : β → Prop} (h : i < M) (hk : Wp (fun n => f n (g i)) Q) : Wp (fun n => Option.bind (getI (vecB M g) (i : Int)) fun _ => Option.bind (vecB M g)[Int.toNat (i : Int)]? (f n)) Q := by
  refine wp_rd (by rw [vecB_len]; exact h) ?_
  rw [vecB_get]
  exact hk
end
theorem rows_Match {M : Nat} (hM : M ≤ 1000000) : Wp (fun n => loopN n (L_regex_Match_0 (evF tbl n) n ((M : Int), ())) ((0 : Int), List.replicate (Int.toNat (M : Int)) ([] : List Bool), ())) fun t => t = (matB M [], ()) := by
  have hz : matB M [] = List.replicate M (List.replicate M false) := by
    refine List.ext_getElem (by simp [matB]) fun i h1 h2 => ?_
    rw [matB_get, List.getElem_replicate]
    refine List.ext_getElem (by simp) fun j h3 h4 => by simp
  refine wp_range (N := M) (I := fun i s => s = ((i : Int), (List.replicate M (List.replicate M false)).take i ++ List.replicate (M - i) [], ())) (by simp) ?_ ?_
  · rintro i s hi rfl
    have hln : ((List.replicate M (List.replicate M false)).take i ++ List.replicate (M - i) ([] : List Bool)).length = M := by simp; omega
    have hget : i < ((List.replicate M (List.replicate M false)).take i ++ List.replicate (M - i) ([] : List Bool)).length := by rw [hln]; exact hi
    unfold L_regex_Match_0
    show Wp (fun n => bif decide ((i : Int) < ((List.replicate (Int.toNat (M : Int)) ([] : List Bool)).length : Int)) then _ else _) _
    rw [List.length_replicate, Int.toNat_natCast]
    refine wp_in hi ?_
    show Wp (fun n => guardB _ _) _
    refine wp_guard (by rw [hln]; simp only [Bool.and_eq_true, decide_eq_true_eq]; omega) ?_
    refine wp_get0 hget (wp_guard (decide_eq_true (by omega)) ?_)
    rw [Int.toNat_natCast]
    refine wp_get (List.getElem?_eq_getElem hget) (wp_get (List.getElem?_eq_getElem hget) (wp_guard (Nat.beq_refl _) (wp_get (List.getElem?_eq_getElem hget) (wp_some ?_))))
    rw [wrap_succ hi (by omega), hln, Int.toNat_natCast]
    congr 2
    refine List.ext_getElem? fun j => ?_
    rw [List.getElem?_set]
    by_cases hj : i = j
    · subst hj
      rw [if_pos rfl, if_pos hget, List.getElem?_append_left (by simp; omega), List.take_replicate, List.getElem?_replicate, if_pos (by omega)]
      rfl
    · rw [if_neg hj]
      by_cases h1 : j < i
      · rw [List.getElem?_append_left (by simp; omega), List.getElem?_append_left (by simp; omega)]
        rw [List.take_replicate, List.take_replicate, List.getElem?_replicate, List.getElem?_replicate, if_pos (by omega), if_pos (by omega)]
      · rw [List.getElem?_append_right (by simp; omega), List.getElem?_append_right (by simp; omega)]
        simp only [List.length_take, List.length_replicate, List.getElem?_replicate]
        rw [Nat.min_eq_left (by omega), Nat.min_eq_left (by omega)]
        by_cases h2 : j < M
        · rw [if_pos (by omega), if_pos (by omega)]
        · rw [if_neg (by omega), if_neg (by omega)]
  · rintro s rfl
    unfold L_regex_Match_0
    show Wp (fun n => bif decide ((M : Int) < ((List.replicate (Int.toNat (M : Int)) ([] : List Bool)).length : Int)) then _ else _) _
    rw [List.length_replicate, Int.toNat_natCast]
    refine wp_out (wp_some ?_)
    show (_, _) = (_, _)
    rw [hz]
    simp
theorem firsts_Match {M : Nat} (hM : M ≤ 1000000) (fi la : List Nat) (em : Bool) (lo up : List Int) (F : List (List Bool)) (hfi : ∀ p ∈ fi, p < M) (hl : fi.length ≤ 1000000) :
    Wp (fun n => loopN n (L_regex_Match_1 (evF tbl n) n ((cL fi, cL la, em, ()), lo, up, F, ())) ((0 : Int), lo, up, F, cL fi, cL la, em, vecB M (fun _ => false), ())) fun t => t = (lo, up, F, cL fi, cL la, em, vecB M (fun p => decide (p ∈ fi)), ()) := by
  refine wp_range (N := (cL fi).length) (I := fun i s => s = ((i : Int), lo, up, F, cL fi, cL la, em, vecB M (fun p => decide (p ∈ fi.take i)), ())) (by simp) ?_ ?_
  · rintro i s hi' rfl
    have hi : i < fi.length := by rw [cL_len] at hi'; exact hi'
    have hp := hfi _ (List.getElem_mem hi)
    unfold L_regex_Match_1
    refine wp_in hi' (wp_get0 hi' ?_)
    rw [cL_get hi]
    refine wp_rdB hp (wp_some ?_)
    rw [wrap_succ hi' (by rw [cL_len]; omega), Int.toNat_natCast, vecB_set]
    have e : (vecB M fun j => if j = fi[i] then true else decide (j ∈ fi.take i)) = vecB M fun p => decide (p ∈ fi.take (i + 1)) := vecB_congr fun j _ => by
      have ht : ∀ x, x ∈ fi.take (i + 1) ↔ x ∈ fi.take i ∨ x = fi[i] := fun x => by
        rw [List.take_add_one, List.getElem?_eq_getElem hi, List.mem_append, Option.toList_some, List.mem_singleton]
      by_cases h : j = fi[i]
      · rw [if_pos h, decide_eq_true ((ht j).2 (.inr h))]
      · rw [if_neg h]
        refine decide_eq_decide.2 ⟨fun h1 => (ht j).2 (.inl h1), fun h1 => ((ht j).1 h1).resolve_right h⟩
    rw [e]
  · rintro s rfl
    unfold L_regex_Match_1
    refine wp_out (wp_some ?_)
    rw [cL_len, List.take_length]
theorem next_Match {M : Nat} (hM : M ≤ 1000000) {i : Nat} (hi : i < M) (P : List (Nat × Nat)) (lo up fi la : List Int) (em : Bool) (fc fa0 fa fn : Nat → Bool) :
    Wp (fun n => loopN n (L_regex_Match_2 (evF tbl n) n ((i : Int), matB M P, lo, up, fi, la, em, vecB M fc, vecB M fa0, vecB M fn, ())) ((0 : Int), matB M P, lo, up, fi, la, em, vecB M fc, vecB M fa, vecB M fn, ())) fun t =>
      t = (matB M P, lo, up, fi, la, em, vecB M fc, vecB M fa, vecB M (fun q => fn q || (fa i && decide ((i, q) ∈ P))), ()) := by
  refine wp_range (N := (vecB M fn).length) (I := fun k s => s = ((k : Int), matB M P, lo, up, fi, la, em, vecB M fc, vecB M fa, vecB M (fun q => if q < k then fn q || (fa i && decide ((i, q) ∈ P)) else fn q), ())) (by simp) ?_ ?_
  · rintro k s hk' rfl
    have hk : k < M := by rw [vecB_len] at hk'; exact hk'
    unfold L_regex_Match_2
    refine wp_in hk' (wp_rdB hk ?_)
    rw [if_neg (Nat.lt_irrefl k)]
    refine wp_bind (wp_or (b := fa i && decide ((i, k) ∈ P)) (fun _ => ?_) ?_)
    · refine wp_rdB hi (wp_bind (wp_and (b := decide ((i, k) ∈ P)) (fun _ => ?_) (wp_some rfl)))
      refine wp_get0 (xs := matB M P) (by rw [matB_len]; exact hi) ?_
      rw [matB_get]
      refine wp_get0 (by simpa using hk) (wp_some ?_)
      simp
    · refine wp_rdB hk (wp_some ?_)
      rw [wrap_succ hk' (by rw [vecB_len]; omega), Int.toNat_natCast, vecB_set]
      have e : (vecB M fun j => if j = k then fn k || (fa i && decide ((i, k) ∈ P)) else if j < k then fn j || (fa i && decide ((i, j) ∈ P)) else fn j) = vecB M fun q => if q < k + 1 then fn q || (fa i && decide ((i, q) ∈ P)) else fn q := vecB_congr fun j _ => by
        by_cases h : j = k
        · subst h; simp
        · by_cases h1 : j < k
          · simp [h, h1, show j < k + 1 by omega]
          · simp [h, h1, show ¬ j < k + 1 by omega]
      rw [e]
  · rintro s rfl
    unfold L_regex_Match_2
    refine wp_out (wp_some ?_)
    rw [vecB_len]
    have e : (vecB M fun q => if q < M then fn q || (fa i && decide ((i, q) ∈ P)) else fn q) = vecB M fun q => fn q || (fa i && decide ((i, q) ∈ P)) := vecB_congr fun j hj => by rw [if_pos hj]
    rw [e]
theorem any_range_succ (f : Nat → Bool) (i : Nat) : (List.range (i + 1)).any f = ((List.range i).any f || f i) := by
  rw [List.range_succ, List.any_append]; simp
theorem step_Match {M : Nat} (hM : M ≤ 1000000) (g : G) (hsp : g.sp.length = M) (hpr : ∀ p q, (p, q) ∈ g.pr → p < M) (idx : Int) (fi la : List Int) (em : Bool) (fc fa : Nat → Bool) (v : Int) :
    Wp (fun n => loopN n (L_regex_Match_3 (evF tbl n) n (idx, matB M g.pr, g.sp.map (·.1), g.sp.map (·.2), fi, la, em, vecB M fc, vecB M fa, ()) v) ((0 : Int), matB M g.pr, g.sp.map (·.1), g.sp.map (·.2), fi, la, em, vecB M fc, vecB M fa, vecB M (fun _ => false), ())) fun t =>
      t = (matB M g.pr, g.sp.map (·.1), g.sp.map (·.2), fi, la, em, vecB M (atF g fc v), vecB M (nxF g (atF g fc v)), ()) := by
  refine wp_range (N := (vecB M fa).length) (I := fun i s => s = ((i : Int), matB M g.pr, g.sp.map (·.1), g.sp.map (·.2), fi, la, em, vecB M fc, vecB M (fun j => if j < i then atF g fc v j else fa j), vecB M (fun q => (List.range i).any fun j => atF g fc v j && decide ((j, q) ∈ g.pr)), ())) (by simp) ?_ ?_
  · rintro i s hi' rfl
    have hi : i < M := by rw [vecB_len] at hi'; exact hi'
    have his : i < g.sp.length := by omega
    have hh : hitB g v i = (decide (g.sp[i].1 ≤ v) && decide (v ≤ g.sp[i].2)) := by
      unfold hitB
      rw [List.getElem?_eq_getElem his]
    unfold L_regex_Match_3
    refine wp_in hi' (wp_rdB hi ?_)
    refine wp_bind (wp_and (b := decide (g.sp[i].1 ≤ v)) (fun _ => ?_) ?_)
    · refine wp_rd (xs := g.sp.map (·.1)) (by simpa using his) ?_
      refine wp_some ?_
      simp
    refine wp_bind (wp_and (b := decide (v ≤ g.sp[i].2)) (fun _ => ?_) ?_)
    · refine wp_rd (xs := g.sp.map (·.2)) (by simpa using his) ?_
      refine wp_some ?_
      simp
    refine wp_rdB hi ?_
    have ha : ((fc i && decide (g.sp[i].1 ≤ v)) && decide (v ≤ g.sp[i].2)) = atF g fc v i := by
      unfold atF
      rw [hh, Bool.and_assoc]
    rw [ha, Int.toNat_natCast]
    have e1 : (vecB M fun j => if j < i then atF g fc v j else fa j).set i (atF g fc v i) = vecB M fun j => if j < i + 1 then atF g fc v j else fa j := by
      rw [vecB_set]
      refine vecB_congr fun j _ => ?_
      by_cases h : j = i
      · subst h; simp
      · by_cases h1 : j < i
        · simp [h, h1, show j < i + 1 by omega]
        · simp [h, h1, show ¬ j < i + 1 by omega]
    rw [e1]
    refine wp_bind (Ev.wp_mono (next_Match hM hi g.pr _ _ fi la em fc _ _ _) ?_)
    rintro t rfl
    refine wp_some ?_
    rw [wrap_succ hi' (by rw [vecB_len]; omega)]
    have e2 : (vecB M fun q => ((List.range i).any fun j => atF g fc v j && decide ((j, q) ∈ g.pr)) || ((if i < i + 1 then atF g fc v i else fa i) && decide ((i, q) ∈ g.pr))) = vecB M fun q => (List.range (i + 1)).any fun j => atF g fc v j && decide ((j, q) ∈ g.pr) := vecB_congr fun q _ => by
      rw [any_range_succ, if_pos (Nat.lt_succ_self i)]
    rw [e2]
  · rintro s rfl
    unfold L_regex_Match_3
    refine wp_out (wp_some ?_)
    rw [vecB_len]
    have e1 : (vecB M fun j => if j < M then atF g fc v j else fa j) = vecB M (atF g fc v) := vecB_congr fun j hj => by rw [if_pos hj]
    have e2 : (vecB M fun q => (List.range M).any fun j => atF g fc v j && decide ((j, q) ∈ g.pr)) = vecB M (nxF g (atF g fc v)) := vecB_congr fun q _ => by
      refine Bool.eq_iff_iff.2 ?_
      rw [nxF_iff, List.any_eq_true]
      constructor
      · rintro ⟨p, _, h⟩
        simp only [Bool.and_eq_true, decide_eq_true_eq] at h
        exact ⟨p, h⟩
      · rintro ⟨p, h1, h2⟩
        exact ⟨p, List.mem_range.2 (hpr p q h2), by simp [h1, h2]⟩
    rw [e1, e2]
theorem rangeB_succ {path : List Int} {i : Nat} (h : i < path.length) : rangeB (path.take (i + 1)) = (rangeB (path.take i) && (decide (0 ≤ path[i]) && decide (path[i] ≤ 4294967295))) := by
  unfold rangeB
  rw [List.take_add_one, List.getElem?_eq_getElem h, List.all_append]
  simp
theorem rangeB_take {path : List Int} {i : Nat} (h : rangeB (path.take i) = false) : rangeB path = false := by
  cases e : rangeB path
  · rfl
  · have : rangeB (path.take i) = true := by
      unfold rangeB at e ⊢
      rw [List.all_eq_true] at e ⊢
      exact fun x hx => e x (List.mem_of_mem_take hx)
    rw [this] at h; cases h
theorem path_Match {M : Nat} (hM : M ≤ 1000000) (g : G) (hsp : g.sp.length = M) (hpr : ∀ p q, (p, q) ∈ g.pr → p < M) (fi la : List Int) (em : Bool) (path : List Int) (hp : path.length ≤ 1000000) :
    Wp (fun n => loopN n (L_regex_Match_4 (evF tbl n) n path) ((0 : Int), matB M g.pr, g.sp.map (·.1), g.sp.map (·.2), fi, la, em, vecB M (runF g []).1, vecB M (runF g []).2, ())) fun t => match t with
      | .inl e => e = (false, ()) ∧ rangeB path = false
      | .inr t => rangeB path = true ∧ t = (fi, la, em, vecB M (runF g path).2, ()) := by
  refine wp_range (N := path.length) (I := fun i s => rangeB (path.take i) = true ∧ s = ((i : Int), matB M g.pr, g.sp.map (·.1), g.sp.map (·.2), fi, la, em, vecB M (runF g (path.take i)).1, vecB M (runF g (path.take i)).2, ())) ⟨rfl, by simp⟩ ?_ ?_
  · rintro i s hi ⟨hr, rfl⟩
    have hsu := rangeB_succ hi
    rw [hr, Bool.true_and] at hsu
    unfold L_regex_Match_4
    refine wp_in hi (wp_get0 hi ?_)
    refine wp_bind (wp_or (b := decide (path[i] > 4294967295)) (fun _ => wp_some rfl) ?_)
    refine wp_bif (fun h => wp_some ⟨rfl, ?_⟩) fun h => ?_
    · refine rangeB_take (i := i + 1) ?_
      rw [hsu]
      have h : (decide (path[i] < 0) || decide (path[i] > 4294967295)) = true := h
      simp only [Bool.or_eq_true, decide_eq_true_eq] at h
      simp only [Bool.and_eq_false_iff, decide_eq_false_iff_not]
      omega
    · have h : (decide (path[i] < 0) || decide (path[i] > 4294967295)) = false := h
      simp only [Bool.or_eq_false_iff, decide_eq_false_iff_not] at h
      have hl : (vecB M (runF g (path.take i)).1).length = M := vecB_len _ _
      refine wp_guard ?_ ?_
      · show (decide (0 ≤ ((vecB M (runF g (path.take i)).1).length : Int)) && decide (((vecB M (runF g (path.take i)).1).length : Int) ≤ ((vecB M (runF g (path.take i)).1).length : Int)) && decide (((vecB M (runF g (path.take i)).1).length : Int) ≤ 9223372036854775807) && decide (1 * ((vecB M (runF g (path.take i)).1).length : Int) ≤ 281474976710656)) = true
        rw [hl]
        simp only [Bool.and_eq_true, decide_eq_true_eq]
        omega
      have h3 := step_Match hM g hsp hpr (i : Int) fi la em (runF g (path.take i)).1 (runF g (path.take i)).2 path[i]
      have hz : List.replicate (Int.toNat ((vecB M (runF g (path.take i)).1).length : Int)) (Ty.zero tB) = vecB M fun _ => false := by
        rw [hl, Int.toNat_natCast]; exact vecB_rep M
      rw [← hz] at h3
      refine wp_bind (Ev.wp_mono h3 ?_)
      rintro t rfl
      refine wp_some ⟨?_, ?_⟩
      · rw [hsu]
        simp only [Bool.and_eq_true, decide_eq_true_eq]
        omega
      · rw [wrap_succ hi (by omega), runF_take hi]
        rfl
  · rintro s ⟨hr, rfl⟩
    unfold L_regex_Match_4
    rw [List.take_length] at hr
    refine wp_out (wp_some ⟨hr, ?_⟩)
    rw [List.take_length]
theorem C_regex_Match (r : Rx) (hs : sz r ≤ 10000) (path : List Int) (hp : path.length ≤ 1000000) :
    Calls' tbl N_regex_Match [.d .rx r, .d (.list tI) path] [] q_regex_Match (wellB r && (rangeB path && matchG (glu r 0) path), ()) := by
  refine calls_of rfl (conv_of t_regex_Match rfl (fun O m => x_regex_Match O m r path) ?_)
  unfold G_regex_Match
  refine wp_call (C_regex_well r (by omega)) (wp_bif (fun h => wp_some ?_) fun h => ?_)
  · have h : (!wellB r) = true := h
    have : wellB r = false := by simpa using h
    rw [this]; rfl
  have hw : wellB r = true := by
    have h : (!wellB r) = false := h
    simpa using h
  rw [hw, Bool.true_and]
  have hM : cnt r ≤ 10000 := Nat.le_trans (cnt_le r) hs
  obtain ⟨hsp, _⟩ := glu_well r hw 0
  have hlie := glu_lie r 0
  refine wp_call (C_regex_count r (by omega)) (wp_guard ?_ (wp_bind (Ev.wp_mono (rows_Match (M := cnt r) (by omega)) ?_)))
  · show (decide (0 ≤ (cnt r : Int)) && decide ((cnt r : Int) ≤ (cnt r : Int)) && decide ((cnt r : Int) ≤ 9223372036854775807) && decide (24 * (cnt r : Int) ≤ 281474976710656)) = true
    simp only [Bool.and_eq_true, decide_eq_true_eq]
    omega
  rintro t rfl
  have hwk := C_regex_places_walk (M := cnt r) (by omega) r hw (by omega) [] [] [] rfl (by simp)
  simp only [List.nil_append, List.length_nil] at hwk
  generalize hg : glu r 0 = g at *
  have hl : (matB (cnt r) g.pr).length = cnt r := matB_len _ _
  have hz : List.replicate (Int.toNat ((matB (cnt r) g.pr).length : Int)) (Ty.zero tB) = vecB (cnt r) fun _ => false := by
    rw [hl, Int.toNat_natCast]; exact vecB_rep _
  refine wp_call hwk (wp_guard ?_ ?_)
  · show (decide (0 ≤ ((matB (cnt r) g.pr).length : Int)) && decide (((matB (cnt r) g.pr).length : Int) ≤ ((matB (cnt r) g.pr).length : Int)) && decide (((matB (cnt r) g.pr).length : Int) ≤ 9223372036854775807) && decide (1 * ((matB (cnt r) g.pr).length : Int) ≤ 281474976710656)) = true
    rw [hl]
    simp only [Bool.and_eq_true, decide_eq_true_eq]
    omega
  have h1 := firsts_Match (M := cnt r) (by omega) g.fi g.la g.em (g.sp.map (·.1)) (g.sp.map (·.2)) (matB (cnt r) g.pr) (fun p hp => by have := hlie.fi p hp; omega) (by have := hlie.fl; omega)
  rw [← hz] at h1
  refine wp_bind (Ev.wp_mono h1 ?_)
  rintro t rfl
  have hl2 : (vecB (cnt r) fun p => decide (p ∈ g.fi)).length = cnt r := vecB_len _ _
  have hz2 : List.replicate (Int.toNat ((vecB (cnt r) fun p => decide (p ∈ g.fi)).length : Int)) (Ty.zero tB) = vecB (cnt r) fun _ => false := by
    rw [hl2, Int.toNat_natCast]; exact vecB_rep _
  refine wp_guard ?_ ?_
  · show (decide (0 ≤ ((vecB (cnt r) fun p => decide (p ∈ g.fi)).length : Int)) && decide (((vecB (cnt r) fun p => decide (p ∈ g.fi)).length : Int) ≤ ((vecB (cnt r) fun p => decide (p ∈ g.fi)).length : Int)) && decide (((vecB (cnt r) fun p => decide (p ∈ g.fi)).length : Int) ≤ 9223372036854775807) && decide (1 * ((vecB (cnt r) fun p => decide (p ∈ g.fi)).length : Int) ≤ 281474976710656)) = true
    rw [hl2]
    simp only [Bool.and_eq_true, decide_eq_true_eq]
    omega
  have h4 := path_Match (M := cnt r) (by omega) g hsp (fun p q h => by have := (hlie.pr p q h).1; omega) (cL g.fi) (cL g.la) g.em path hp
  have hst : (vecB (cnt r) (runF g []).2) = List.replicate (Int.toNat ((vecB (cnt r) fun p => decide (p ∈ g.fi)).length : Int)) (Ty.zero tB) := hz2.symm
  rw [hst] at h4
  refine wp_bind (Ev.wp_mono h4 ?_)
  rintro (e | t) ht
  · obtain ⟨rfl, hr⟩ := ht
    refine wp_some ?_
    rw [hr]; rfl
  obtain ⟨hr, rfl⟩ := ht
  rw [hr, Bool.true_and]
  refine wp_bif (fun h => wp_some ?_) fun h => ?_
  · have : path = [] := List.eq_nil_of_length_eq_zero (by
      have h : ((path.length : Int) == 0) = true := h
      simpa using h)
    subst this
    rfl
  · have hne : path.isEmpty = false := by
      cases path with
      | nil => cases h
      | cons => rfl
    have hmg : matchG g path = g.la.any (runF g path).2 := by unfold matchG; rw [hne]; rfl
    rw [hmg]
    have hlast : Wp (fun n => loopN n (L_regex_Match_5 (evF tbl n) n (cL g.fi, cL g.la, g.em, vecB (cnt r) (runF g path).2, ())) ((0 : Int), vecB (cnt r) (runF g path).2, ())) fun t => match t with
        | .inl e => e = (true, ()) ∧ g.la.any (runF g path).2 = true
        | .inr _ => g.la.any (runF g path).2 = false := by
      refine wp_range (N := (cL g.la).length) (I := fun i s => s = ((i : Int), vecB (cnt r) (runF g path).2, ()) ∧ (g.la.take i).any (runF g path).2 = false) ⟨rfl, rfl⟩ ?_ ?_
      · rintro i s hi' ⟨rfl, ha⟩
        have hi : i < g.la.length := by rw [cL_len] at hi'; exact hi'
        have hm := List.getElem_mem hi
        have hlt : g.la[i] < cnt r := by have := hlie.la _ hm; omega
        have hll := hlie.ll
        unfold L_regex_Match_5
        refine wp_in hi' (wp_get0 hi' ?_)
        rw [cL_get hi]
        refine wp_rdB hlt (wp_bif (fun h => wp_some ⟨rfl, ?_⟩) fun h => wp_some ⟨?_, ?_⟩)
        · exact List.any_eq_true.2 ⟨_, hm, h⟩
        · rw [wrap_succ hi' (by rw [cL_len]; omega)]
        · rw [List.take_add_one, List.getElem?_eq_getElem hi, List.any_append, ha]
          simp [h]
      · rintro s ⟨rfl, ha⟩
        unfold L_regex_Match_5
        refine wp_out (wp_some ?_)
        rw [cL_len, List.take_length] at ha
        exact ha
    refine wp_bind (Ev.wp_mono hlast ?_)
    rintro (e | t) ht
    · obtain ⟨rfl, ha⟩ := ht
      refine wp_some ?_
      rw [ha]
    · refine wp_some ?_
      rw [show g.la.any (runF g path).2 = false from ht]
end Go.Proofs.YtifgipebbagfcaaDoor

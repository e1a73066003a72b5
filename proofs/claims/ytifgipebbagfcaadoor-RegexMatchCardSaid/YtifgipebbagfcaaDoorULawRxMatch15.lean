/-
  MATCHING: the reference's matcher as the plain one.
-/
import Derived.Test.YtifgipebbagfcaaDoorULawRxMatch
set_option linter.unusedVariables false
set_option linter.unusedSimpArgs false
namespace Go.Proofs.YtifgipebbagfcaaDoor
open Go Go.Av Go.Ev Go.Pl
structure CurR (M : Nat) (C : List Int) (can : Nat → Bool) : Prop where
  bd : ∀ x ∈ C, 0 ≤ x ∧ x < (M : Int)
  mem : ∀ q : Nat, (q : Int) ∈ C ↔ can q = true
  len : C.length ≤ 100000000
theorem getD_lt {F : List (List Int)} {i : Nat} (h : i < F.length) : F.getD i [] = F[i] := by
  rw [List.getD_eq_getElem?_getD, List.getElem?_eq_getElem h]; rfl
theorem getD_ge {F : List (List Int)} {i : Nat} (h : F.length ≤ i) : F.getD i [] = [] := by
  rw [List.getD_eq_getElem?_getD, List.getElem?_eq_none h]; rfl
def nextL (F : List (List Int)) (H : List Int) : List Int := H.flatMap fun x => F.getD x.toNat []
theorem nextL_len {n : Nat} {F : List (List Int)} {P : List (Nat × Nat)} (hF : FolR n F P) : ∀ (H : List Int), (nextL F H).length ≤ H.length * n
  | [] => by simp [nextL]
  | x :: H => by
    have h1 : (F.getD x.toNat []).length ≤ n := by
      by_cases h : x.toNat < F.length
      · rw [getD_lt h]; exact hF.len1 h
      · rw [getD_ge (by omega)]; exact Nat.zero_le _
    have := nextL_len hF H
    rw [show nextL F (x :: H) = F.getD x.toNat [] ++ nextL F H from rfl, List.length_append, List.length_cons, Nat.add_mul, Nat.one_mul]
    omega
theorem nodupI_len {n : Nat} {H : List Int} (hd : H.Nodup) (hb : ∀ x ∈ H, 0 ≤ x ∧ x < (n : Int)) : H.length ≤ n := by
  have := nodup_len H ((List.range n).map fun (k : Nat) => (k : Int)) hd fun x hx => by
    have := hb x hx
    exact List.mem_map.2 ⟨x.toNat, List.mem_range.2 (by omega), by omega⟩
  simpa using this
theorem hits_Match {M : Nat} (hM : M ≤ 10000) (g : G) (hsp : g.sp.length = M) {F : List (List Int)} (hF : FolR M F g.pr) (hpr : ∀ p q, (p, q) ∈ g.pr → p < M ∧ q < M) {C : List Int} {can : Nat → Bool} (hC : CurR M C can) (idx : Int) (h0 : List Int) (v : Int) :
    Wp (fun n => loopN n (L_ref15_Match_0 (evF tbl n) n (C, idx, F, spZ g.sp, h0, ()) v) ((0 : Int), F, spZ g.sp, [], vecB M (fun _ => false), [], ())) fun t =>
      ∃ H, t = (F, spZ g.sp, H, nextL F H, ()) ∧ CurR M H (atF g can v) ∧ CurR M (nextL F H) (nxF g (atF g can v)) := by
  have hClen := hC.len
  refine wp_range (N := C.length) (I := fun k s => ∃ H : List Int, s = ((k : Int), F, spZ g.sp, H, vecB M (fun p => decide ((p : Int) ∈ H)), nextL F H, ()) ∧ H.Nodup ∧ (∀ x ∈ H, 0 ≤ x ∧ x < (M : Int)) ∧ ∀ p : Nat, (p : Int) ∈ H ↔ (p : Int) ∈ C.take k ∧ hitB g v p = true) ⟨[], by simp [nextL], by simp, by simp, by simp⟩ ?_ ?_
  · rintro k s hk ⟨H, rfl, hd, hb, hm⟩
    have hx := hC.bd _ (List.getElem_mem hk)
    obtain ⟨p, hp⟩ : ∃ p : Nat, C[k] = (p : Int) := ⟨C[k].toNat, by omega⟩
    have hpM : p < M := by omega
    have hps : p < g.sp.length := by omega
    have htk : ∀ x, x ∈ C.take (k + 1) ↔ x ∈ C.take k ∨ x = (p : Int) := fun x => by
      rw [List.take_add_one, List.getElem?_eq_getElem hk, List.mem_append, Option.toList_some, List.mem_singleton, hp]
    have hh : hitB g v p = (decide (g.sp[p].1 ≤ v) && decide (v ≤ g.sp[p].2)) := by
      unfold hitB
      rw [List.getElem?_eq_getElem hps]
    have hHl := nodupI_len hd hb
    have hNl := nextL_len hF H
    have hNl2 : H.length * M ≤ 100000000 := Nat.le_trans (Nat.mul_le_mul (Nat.le_trans hHl hM) hM) (by decide)
    unfold L_ref15_Match_0
    refine wp_in hk ?_
    refine wp_bind (wp_get0 hk ?_)
    rw [hp]
    refine wp_rdB hpM ?_
    refine wp_bind (wp_or (b := decide (v < g.sp[p].1)) (fun _ => ?_) ?_)
    · refine wp_rd (xs := spZ g.sp) (by rw [spZ_len]; exact hps) ?_
      refine wp_some ?_
      simp [spZ]
    refine wp_bind (wp_or (b := decide (v > g.sp[p].2)) (fun _ => ?_) ?_)
    · refine wp_rd (xs := spZ g.sp) (by rw [spZ_len]; exact hps) ?_
      refine wp_some ?_
      simp [spZ]
    refine wp_bif (fun h => ?_) fun h => ?_
    · refine wp_some (wp_some ⟨H, by rw [wrap_succ hk (by omega)], hd, hb, fun q => ?_⟩)
      have h : ((decide ((p : Int) ∈ H) || decide (v < g.sp[p].1)) || decide (v > g.sp[p].2)) = true := h
      simp only [Bool.or_eq_true, decide_eq_true_eq] at h
      rw [hm q, htk]
      constructor
      · rintro ⟨h1, h2⟩; exact ⟨.inl h1, h2⟩
      · rintro ⟨h1, h2⟩
        refine ⟨h1.elim id fun e => ?_, h2⟩
        obtain rfl : q = p := by omega
        rw [hh] at h2
        simp only [Bool.and_eq_true, decide_eq_true_eq] at h2
        rcases h with (h | h) | h
        · exact ((hm q).1 h).1
        · omega
        · omega
    · have h : ((decide ((p : Int) ∈ H) || decide (v < g.sp[p].1)) || decide (v > g.sp[p].2)) = false := h
      simp only [Bool.or_eq_false_iff, decide_eq_false_iff_not] at h
      obtain ⟨⟨h1, h2⟩, h3⟩ := h
      have hpF : p < F.length := by rw [hF.len]; exact hpM
      have hFl := hF.len1 hpF
      have hnx : nextL F (H ++ [(p : Int)]) = nextL F H ++ F[p] := by
        unfold nextL
        rw [List.flatMap_append, List.flatMap_cons, List.flatMap_nil, List.append_nil, Int.toNat_natCast, getD_lt hpF]
      refine wp_rdB hpM (wp_guard (decide_eq_true ?_) (wp_get0 hpF (wp_guard (decide_eq_true ?_) (wp_some (wp_some ⟨H ++ [(p : Int)], ?_, ?_, ?_, ?_⟩)))))
      · show (H.length + 1) * 8 ≤ 140737488355328
        omega
      · show ((nextL F H).length + F[p].length) * 8 ≤ 140737488355328
        omega
      · rw [wrap_succ hk (by omega), hnx, Int.toNat_natCast, vecB_set]
        have e : (vecB M fun j => if j = p then true else decide ((j : Int) ∈ H)) = vecB M fun j => decide ((j : Int) ∈ H ++ [(p : Int)]) := vecB_congr fun j _ => by
          by_cases hj : j = p
          · subst hj; simp
          · have : ¬ (j : Int) = (p : Int) := by omega
            simp [hj, this]
        rw [e]
      · rw [List.nodup_append]
        refine ⟨hd, by simp, fun x hx y hy e => ?_⟩
        simp only [List.mem_singleton] at hy
        subst hy; subst e; exact h1 hx
      · intro x hx
        rcases List.mem_append.1 hx with hx | hx
        · exact hb x hx
        · simp only [List.mem_singleton] at hx; omega
      · intro q
        rw [List.mem_append, hm q, htk, List.mem_singleton]
        constructor
        · rintro (⟨a, b⟩ | a)
          · exact ⟨.inl a, b⟩
          · refine ⟨.inr a, ?_⟩
            obtain rfl : q = p := by omega
            rw [hh]
            simp only [Bool.and_eq_true, decide_eq_true_eq]
            omega
        · rintro ⟨a | a, b⟩
          · exact .inl ⟨a, b⟩
          · exact .inr a
  · rintro s ⟨H, rfl, hd, hb, hm⟩
    have hHl := nodupI_len hd hb
    have hNl := nextL_len hF H
    have hNl2 : H.length * M ≤ 100000000 := Nat.le_trans (Nat.mul_le_mul (Nat.le_trans hHl hM) hM) (by decide)
    rw [List.take_length] at hm
    have hat : ∀ q : Nat, (q : Int) ∈ H ↔ atF g can v q = true := fun q => by
      rw [hm q, hC.mem q]
      unfold atF
      rw [Bool.and_eq_true]
    have hmem : ∀ y, y ∈ nextL F H ↔ ∃ p : Nat, (p : Int) ∈ H ∧ ∃ h : p < F.length, y ∈ F[p] := by
      intro y
      unfold nextL
      rw [List.mem_flatMap]
      constructor
      · rintro ⟨x, h1, h2⟩
        have := hb x h1
        have hp : x.toNat < F.length := by rw [hF.len]; omega
        rw [getD_lt hp] at h2
        exact ⟨x.toNat, by rw [Int.toNat_of_nonneg this.1]; exact h1, hp, h2⟩
      · rintro ⟨p, h1, hp, h2⟩
        exact ⟨p, h1, by rw [Int.toNat_natCast, getD_lt hp]; exact h2⟩
    unfold L_ref15_Match_0
    refine wp_out (wp_some ⟨H, rfl, ⟨hb, hat, by omega⟩, ⟨fun y hy => ?_, fun q => ?_, by omega⟩⟩)
    · obtain ⟨p, _, hp, h2⟩ := (hmem y).1 hy
      exact hF.bd _ (List.getElem_mem hp) y h2
    · rw [hmem, nxF_iff]
      constructor
      · rintro ⟨p, h1, hp, h2⟩
        exact ⟨p, (hat p).1 h1, (hF.mem p hp q).1 h2⟩
      · rintro ⟨p, h1, h2⟩
        have hp : p < F.length := by rw [hF.len]; exact (hpr p q h2).1
        exact ⟨p, (hat p).2 h1, hp, (hF.mem p hp q).2 h2⟩
theorem path_Match15 {M : Nat} (hM : M ≤ 10000) (g : G) (hsp : g.sp.length = M) {F : List (List Int)} (hF : FolR M F g.pr) (hpr : ∀ p q, (p, q) ∈ g.pr → p < M ∧ q < M) {C0 : List Int} (hC0 : CurR M C0 (runF g []).1) (path : List Int) (hp : path.length ≤ 1000000) :
    Wp (fun n => loopN n (L_ref15_Match_1 (evF tbl n) n path) (C0, (0 : Int), F, spZ g.sp, [], ())) fun t => ∃ H, t = (H, ()) ∧ CurR M H (runF g path).2 := by
  refine wp_range (N := path.length) (I := fun i s => ∃ C H : List Int, s = (C, (i : Int), F, spZ g.sp, H, ()) ∧ CurR M C (runF g (path.take i)).1 ∧ CurR M H (runF g (path.take i)).2) ⟨C0, [], rfl, hC0, ⟨by simp, fun q => ⟨fun h => by simp at h, fun h => by cases h⟩, by simp⟩⟩ ?_ ?_
  · rintro i s hi ⟨C, H, rfl, hC, hH⟩
    have hl : (spZ g.sp).length = M := by rw [spZ_len]; exact hsp
    have hz : List.replicate (Int.toNat ((spZ g.sp).length : Int)) (Ty.zero tB) = vecB M fun _ => false := by
      rw [hl, Int.toNat_natCast]; exact vecB_rep M
    unfold L_ref15_Match_1
    refine wp_in hi (wp_get0 hi (wp_guard ?_ ?_))
    · show (decide (0 ≤ ((spZ g.sp).length : Int)) && decide (((spZ g.sp).length : Int) ≤ ((spZ g.sp).length : Int)) && decide (((spZ g.sp).length : Int) ≤ 9223372036854775807) && decide (1 * ((spZ g.sp).length : Int) ≤ 281474976710656)) = true
      rw [hl]
      simp only [Bool.and_eq_true, decide_eq_true_eq]
      omega
    have h3 := hits_Match hM g hsp hF hpr hC (i : Int) H path[i]
    rw [← hz] at h3
    refine wp_bind (Ev.wp_mono h3 ?_)
    rintro t ⟨H2, rfl, h5, h6⟩
    refine wp_some ⟨nextL F H2, H2, ?_, ?_, ?_⟩
    · rw [wrap_succ hi (by omega)]
    · rw [runF_take hi]; exact h6
    · rw [runF_take hi]; exact h5
  · rintro s ⟨C, H, rfl, hC, hH⟩
    unfold L_ref15_Match_1
    rw [List.take_length] at hH
    exact wp_out (wp_some ⟨H, rfl, hH⟩)
theorem last_Match15 (v2 : (List Int) × (List Int) × (List (Int × (Int × Unit))) × (List (List Int)) × Unit) (hv : v2.2.1.length ≤ 1000000) (H : List Int) (hH : H.length ≤ 100000000) :
    Wp (fun n => loopN n (L_ref15_Match_3 (evF tbl n) n v2 (H, ())) ((0 : Int), H, ())) fun t => match t with
      | .inl e => e = (true, ()) ∧ ∃ x ∈ H, x ∈ v2.2.1
      | .inr _ => ∀ x ∈ H, x ∉ v2.2.1 := by
  refine wp_range (N := H.length) (I := fun i s => s = ((i : Int), H, ()) ∧ ∀ x ∈ H.take i, x ∉ v2.2.1) ⟨rfl, by simp⟩ ?_ ?_
  · rintro i s hi ⟨rfl, ha⟩
    unfold L_ref15_Match_3
    refine wp_in hi ?_
    refine wp_rd (xs := H) hi ?_
    have h2 : Wp (fun n => loopN n (L_ref15_Match_2 (evF tbl n) n v2 H[i]) ((0 : Int), H, ())) fun t => match t with
        | .inl e => e = (true, ()) ∧ H[i] ∈ v2.2.1
        | .inr t => t = (H, ()) ∧ H[i] ∉ v2.2.1 := by
      refine wp_range (N := v2.2.1.length) (I := fun j s => s = ((j : Int), H, ()) ∧ H[i] ∉ v2.2.1.take j) ⟨rfl, by simp⟩ ?_ ?_
      · rintro j s hj ⟨rfl, hn⟩
        unfold L_ref15_Match_2
        refine wp_in hj (wp_get0 hj (wp_bif (fun h => wp_some ⟨rfl, ?_⟩) fun h => wp_some ⟨?_, fun hm => ?_⟩))
        · have h : H[i] = v2.2.1[j] := by simpa using h
          rw [h]; exact List.getElem_mem hj
        · rw [wrap_succ hj (by omega)]
        · have h : H[i] ≠ v2.2.1[j] := by simpa using h
          rw [List.take_add_one, List.getElem?_eq_getElem hj, List.mem_append, Option.toList_some, List.mem_singleton] at hm
          exact hm.elim hn h
      · rintro s ⟨rfl, hn⟩
        unfold L_ref15_Match_2
        rw [List.take_length] at hn
        exact wp_out (wp_some ⟨rfl, hn⟩)
    refine wp_bind (Ev.wp_mono h2 ?_)
    rintro (e | t) ht
    · obtain ⟨rfl, hm⟩ := ht
      exact wp_some ⟨rfl, _, List.getElem_mem hi, hm⟩
    · obtain ⟨rfl, hm⟩ := ht
      refine wp_some ⟨by rw [wrap_succ hi (by omega)], fun x hx => ?_⟩
      rw [List.take_add_one, List.getElem?_eq_getElem hi, List.mem_append, Option.toList_some, List.mem_singleton] at hx
      rcases hx with hx | rfl
      · exact ha x hx
      · exact hm
  · rintro s ⟨rfl, ha⟩
    unfold L_ref15_Match_3
    rw [List.take_length] at ha
    exact wp_out (wp_some ha)
theorem C_ref15_Match (r : Rx) (hs : sz r ≤ 10000) (path : List Int) (hp : path.length ≤ 1000000) :
    Calls' tbl N_ref15_Match [.d .rx r, .d (.list tI) path] [] q_ref15_Match (wellB r && matchG (glu r 0) path, ()) := by
  refine calls_of rfl (conv_of t_ref15_Match rfl (fun O m => x_ref15_Match O m r path) ?_)
  unfold G_ref15_Match
  refine wp_call (C_ref15_WellFormed r (by omega)) (wp_bif (fun h => wp_some ?_) fun h => ?_)
  · have h : (!wellB r) = true := h
    have : wellB r = false := by simpa using h
    rw [this]; rfl
  have hw : wellB r = true := by
    have h : (!wellB r) = false := h
    simpa using h
  rw [hw, Bool.true_and]
  have hM : cnt r ≤ 10000 := Nat.le_trans (cnt_le r) hs
  obtain ⟨hsp, hem⟩ := glu_well r hw 0
  have hlie := glu_lie r 0
  refine wp_bif (fun h => ?_) fun h => ?_
  · have : path = [] := List.eq_nil_of_length_eq_zero (by
      have h : ((path.length : Int) == 0) = true := h
      simpa using h)
    subst this
    refine wp_call (C_ref15_Nullable r (by omega)) (wp_some ?_)
    rw [← hem]; rfl
  have hne : path.isEmpty = false := by
    cases path with
    | nil => cases h
    | cons => rfl
  have hmg : matchG (glu r 0) path = (glu r 0).la.any (runF (glu r 0) path).2 := by unfold matchG; rw [hne]; rfl
  rw [hmg]
  obtain ⟨F, hF, hwk⟩ := C_ref15_Walk r hw (by omega) [] [] [] ⟨rfl, by simp, by simp, fun p h => absurd h (by simp)⟩ (by simp) (by simp; omega)
  simp only [List.nil_append, List.length_nil, Nat.zero_add] at hwk hF
  generalize hg : glu r 0 = g at *
  rw [hsp] at hF
  have hfl := hlie.fl
  have hll := hlie.ll
  refine wp_call hwk ?_
  have hC0 : CurR (cnt r) (cL g.fi) (runF g []).1 := ⟨fun x hx => by
    obtain ⟨p, h1, rfl⟩ := List.mem_map.1 hx
    have := hlie.fi p h1
    omega, fun q => by
    show (q : Int) ∈ cL g.fi ↔ decide (q ∈ g.fi) = true
    rw [decide_eq_true_eq]
    constructor
    · intro hx
      obtain ⟨p, h1, h2⟩ := List.mem_map.1 hx
      obtain rfl : p = q := by omega
      exact h1
    · exact fun hx => List.mem_map.2 ⟨q, hx, rfl⟩, by rw [cL_len]; omega⟩
  refine wp_bind (Ev.wp_mono (path_Match15 hM g hsp hF (fun p q h => by have := hlie.pr p q h; omega) hC0 path hp) ?_)
  rintro t ⟨H, rfl, hH⟩
  refine wp_bind (Ev.wp_mono (last_Match15 (cL g.fi, cL g.la, spZ g.sp, F, ()) (by rw [cL_len]; omega) H hH.len) ?_)
  rintro (e | t) ht
  · obtain ⟨rfl, x, h1, h2⟩ := ht
    obtain ⟨p, h3, rfl⟩ := List.mem_map.1 (show x ∈ cL g.la from h2)
    refine wp_some ?_
    rw [List.any_eq_true.2 ⟨p, h3, (hH.mem p).1 h1⟩]
  · refine wp_some ?_
    have : g.la.any (runF g path).2 = false := by
      rw [List.any_eq_false]
      intro p h1 h2
      exact ht (p : Int) ((hH.mem p).2 h2) (List.mem_map.2 ⟨p, h1, rfl⟩)
    rw [this]
end Go.Proofs.YtifgipebbagfcaaDoor

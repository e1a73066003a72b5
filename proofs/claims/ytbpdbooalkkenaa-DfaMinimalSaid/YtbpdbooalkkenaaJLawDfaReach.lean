/-
  dfa: THE STATES THAT CAN BE REACHED, in the order of a search (both of the program and of the reference).
-/
import Derived.Test.YtbpdbooalkkenaaJLawDfaCanon
set_option linter.unusedVariables false
set_option linter.unusedSimpArgs false
namespace Go.Proofs.Ytbpdbooalkkenaa
open Go Go.Av Go.Ev Go.Pl
structure RW (d : DF) : Prop where
  len : 0 < d.2.1.length ∧ d.2.2.1.length = d.2.1.length
  rows : ∀ r ∈ d.2.1, r.length = d.1.length
  start : In d d.2.2.2.1
  to : ∀ r ∈ d.2.1, ∀ t ∈ r, In d t
theorem WF.rw {d : DF} (h : WF d) : RW d := ⟨h.len, h.rows, h.start, h.to⟩
theorem row_at {d : DF} (h : RW d) {s : Int} (hs : In d s) : ∃ h1 : s.toNat < d.2.1.length, d.2.1[s.toNat] = (List.range d.1.length).map (colS d s) := by
  have h1 : s.toNat < d.2.1.length := by have := hs.1; have := hs.2; omega
  refine ⟨h1, ?_⟩
  have hr := h.rows _ (List.getElem_mem h1)
  refine List.ext_getElem (by simp [hr]) fun c g1 g2 => ?_
  simp only [List.getElem_map, List.getElem_range]
  unfold colS
  simp only [List.getD_eq_getElem?_getD, List.getElem?_eq_getElem h1, Option.getD_some, List.getElem?_eq_getElem g1]
theorem col_in {d : DF} (h : RW d) {s : Int} (hs : In d s) {c : Nat} (hc : c < d.1.length) : In d (colS d s c) := by
  obtain ⟨h1, e⟩ := row_at h hs
  refine h.to _ (List.getElem_mem h1) _ ?_
  rw [e]
  exact List.mem_map.2 ⟨c, List.mem_range.2 hc, rfl⟩
abbrev expD (d : DF) (i : Nat) : List Int × List (Nat × Nat) × List (List Nat) := expl (colS d) d.2.2.2.1 (List.range d.1.length) i
def reachS (d : DF) : List Int := (expD d d.2.1.length).1
theorem expD_in {d : DF} (h : RW d) (i : Nat) : ∀ x ∈ (expD d i).1, In d x := fun x hx => by
  obtain ⟨k, hk, rfl⟩ := List.mem_iff_getElem.1 hx
  exact (expl_ok i).inv (P := In d) h.start (fun _ c hc hx => col_in h hx (List.mem_range.1 hc)) k _ (List.getElem?_eq_getElem hk)
theorem in_len {d : DF} {L : List Int} (hn : L.Nodup) (hi : ∀ x ∈ L, In d x) : L.length ≤ d.2.1.length := by
  have := nodup_len L (rangeI d.2.1.length) hn fun x hx => rangeI_mem.2 (hi x hx)
  rwa [rangeI_len] at this
theorem expD_len {d : DF} (h : RW d) (i : Nat) : (expD d i).1.length ≤ d.2.1.length := in_len (expl_ok i).nodup (expD_in h i)
theorem reachS_fin {d : DF} (h : RW d) {i : Nat} (hi : (expD d i).1.length ≤ i) : reachS d = (expD d i).1 := by
  have hl := expD_len h d.2.1.length
  have e1 : expD d (max i d.2.1.length) = expD d i := expl_fin (by omega) hi
  have e2 : expD d (max i d.2.1.length) = expD d d.2.1.length := expl_fin (by omega) hl
  unfold reachS
  rw [← e2, e1]
theorem reachS_closed {d : DF} (h : RW d) : ∀ x ∈ reachS d, ∀ c, c < d.1.length → colS d x c ∈ reachS d := fun x hx c hc => by
  have hl := expD_len h d.2.1.length
  exact expl_closed _ x (by rw [List.take_of_length_le hl]; exact hx) c (List.mem_range.2 hc)
theorem reachS_start {d : DF} : d.2.2.2.1 ∈ reachS d := List.mem_of_getElem? (expl_ok _).head
def marks (n : Nat) (L : List Int) : List Bool := (List.range n).map fun (k : Nat) => decide ((k : Int) ∈ L)
theorem marks_at {n : Nat} {L : List Int} {v : Int} (h0 : 0 ≤ v) (hv : v < (n : Int)) : ∃ h1 : v.toNat < (marks n L).length, (marks n L)[v.toNat] = decide (v ∈ L) := by
  have h1 : v.toNat < (marks n L).length := by simp [marks]; omega
  refine ⟨h1, ?_⟩
  simp only [marks, List.getElem_map, List.getElem_range]
  rw [Int.toNat_of_nonneg h0]
theorem marks_set {n : Nat} {L : List Int} {v : Int} (h0 : 0 ≤ v) : (marks n L).set v.toNat true = marks n (L ++ [v]) := by
  refine List.ext_getElem (by simp [marks]) fun k g1 g2 => ?_
  rw [List.getElem_set]
  simp only [marks, List.getElem_map, List.getElem_range, List.mem_append, List.mem_singleton]
  split
  · rename_i h; subst h; simp [Int.toNat_of_nonneg h0]
  · rename_i h
    have : ¬ (k : Int) = v := fun e => h (by omega)
    simp [this]
theorem marks_one {n : Nat} {v : Int} (h0 : 0 ≤ v) : (List.replicate n false).set v.toNat true = marks n [v] := by
  have : List.replicate n false = marks n [] := by
    refine List.ext_getElem (by simp [marks]) fun k g1 g2 => ?_
    simp [marks]
  rw [this, marks_set h0]; rfl
theorem row_dfa_reachable {d : DF} (hn : d.2.1.length ≤ 16777216) {L : List Int} (hL : L.Nodup) (hi : ∀ x ∈ L, In d x) (r : List Int) (hr : ∀ x ∈ r, In d x) (hrl : r.length ≤ 16777216) :
    Wp (fun n => loopN n (L_dfa_reachable_0 (evF tbl n) n r) ((0 : Int), marks d.2.1.length L, L, ())) fun t => t = (marks d.2.1.length (addAll L r), addAll L r, ()) := by
  refine wp_range (N := r.length) (I := fun i s => s = ((i : Int), marks d.2.1.length (addAll L (r.take i)), addAll L (r.take i), ()) ∧ (addAll L (r.take i)).Nodup ∧ ∀ x ∈ addAll L (r.take i), In d x) ⟨rfl, hL, hi⟩ ?_ ?_
  · rintro i s hir ⟨rfl, h1, h2⟩
    have hx := hr _ (List.getElem_mem hir)
    have hlen := in_len h1 h2
    obtain ⟨g1, g2⟩ := marks_at (L := addAll L (r.take i)) hx.1 hx.2
    have hs : addAll L (r.take (i + 1)) = addAll (addAll L (r.take i)) [r[i]] := by
      rw [List.take_add_one, List.getElem?_eq_getElem hir, addAll_append]; rfl
    unfold L_dfa_reachable_0
    refine wp_in hir (wp_bind (wp_get0 hir (wp_getZ hx.1 g1 (wp_get (x := decide (r[i] ∈ addAll L (r.take i))) (by rw [List.getElem?_eq_getElem g1, g2]) (wp_bif (fun hb => ?_) fun hb => wp_some (wp_some ?_))))))
    · have hb : r[i] ∉ addAll L (r.take i) := by simpa using hb
      refine wp_getZ hx.1 g1 (wp_get (x := decide (r[i] ∈ addAll L (r.take i))) (by rw [List.getElem?_eq_getElem g1, g2]) (wp_guard (decide_eq_true (by simp; omega)) (wp_some (wp_some ?_))))
      have e : addAll (addAll L (r.take i)) [r[i]] = addAll L (r.take i) ++ [r[i]] := addAll_new hb
      rw [hs, e, wrap_succ hir (by omega), marks_set hx.1]
      refine ⟨rfl, ?_, fun x hx' => ?_⟩
      · rw [List.nodup_append]
        exact ⟨h1, by simp, fun a ha b hb' => by simp at hb'; subst hb'; rintro rfl; exact hb ha⟩
      · rcases List.mem_append.1 hx' with h | h
        · exact h2 x h
        · simp at h; subst h; exact hx
    · have hb : r[i] ∈ addAll L (r.take i) := by simpa using hb
      rw [hs, addAll_in hb, wrap_succ hir (by omega)]
      exact ⟨rfl, h1, h2⟩
  · rintro s ⟨rfl, h1, h2⟩
    unfold L_dfa_reachable_0
    refine wp_out (wp_some ?_)
    simp only [List.take_length]
theorem C_dfa_reachable {d : DF} (h : RW d) (hn : d.2.1.length ≤ 16777216) (hk : d.1.length ≤ 16777216) : Calls' tbl N_dfa_reachable [.d (pr [.list tI, .list (.list tI), .list tB, tI]) d] [] q_dfa_reachable (reachS d, ()) := by
  refine calls_of rfl (conv_of t_dfa_reachable rfl (fun O n => x_dfa_reachable O n d) ?_)
  unfold G_dfa_reachable
  have hs := h.start
  have hsn : d.2.2.2.1.toNat < (List.replicate d.2.1.length false).length := by have := hs.1; have := hs.2; simp; omega
  refine wp_guard (by simp only [Bool.and_eq_true, decide_eq_true_eq]; omega) (wp_getZ hs.1 hsn (wp_get (x := false) (show (List.replicate d.2.1.length false)[d.2.2.2.1.toNat]? = some false from by rw [List.getElem?_eq_getElem hsn]; simp) ?_))
  simp only
  refine wp_bind (Go.Ev.wp_loop (σ := Int × List Bool × List Int × Unit) (fun s => ∃ i : Nat, s = ((i : Int), marks d.2.1.length (expD d i).1, (expD d i).1, ()) ∧ i ≤ (expD d i).1.length) (fun s => d.2.1.length - s.1.toNat) ⟨0, ?_, Nat.zero_le _⟩ ?_)
  · rw [show (expD d 0).1 = [d.2.2.2.1] from rfl, ← marks_one hs.1]
    rfl
  rintro s ⟨i, rfl, hil⟩
  have hlen := expD_len h i
  unfold L_dfa_reachable_1
  simp only
  refine wp_bif (fun hb => ?_) fun hb => wp_some (wp_some ?_)
  · have hi : i < (expD d i).1.length := by simp only [decide_eq_true_eq] at hb; omega
    have hx := List.getElem?_eq_getElem hi
    have hin := expD_in h i _ (List.getElem_mem hi)
    obtain ⟨h1, e⟩ := row_at h hin
    refine wp_get0 hi (wp_get (x := (expD d i).1[i]) hx (wp_getZ hin.1 h1 ?_))
    refine wp_bind (Wp.imp (row_dfa_reachable (d := d) hn (expl_ok i).nodup (expD_in h i) _ (h.to _ (List.getElem_mem h1)) (by rw [h.rows _ (List.getElem_mem h1)]; exact hk)) fun r hr => wp_some ?_)
    subst hr
    have es : (expD d (i + 1)).1 = addAll (expD d i).1 d.2.1[(expD d i).1[i].toNat] := by
      unfold expD
      rw [expl_succ_some hx, e]
      simp only
      rw [row_addAll]
    rw [wrap_succ hi (by omega)]
    refine ⟨⟨i + 1, by rw [es], ?_⟩, by simp only [Int.toNat_natCast]; omega⟩
    have := (expl_pre (f := colS d) (s0 := d.2.2.2.1) (ls := List.range d.1.length) i).1.length_le
    exact Nat.le_trans hi this
  · have hi : (expD d i).1.length ≤ i := by simp only [decide_eq_false_iff_not] at hb; omega
    rw [reachS_fin h hi]
theorem row_ref16_reachable {d : DF} (hn : d.2.1.length ≤ 16777216) {L : List Int} (hL : L.Nodup) (hi : ∀ x ∈ L, In d x) (r : List Int) (hr : ∀ x ∈ r, In d x) (hrl : r.length ≤ 16777216) :
    Wp (fun n => loopN n (L_ref16_reachable_0 (evF tbl n) n r) ((0 : Int), marks d.2.1.length L, L, ())) fun t => t = (marks d.2.1.length (addAll L r), addAll L r, ()) := by
  refine wp_range (N := r.length) (I := fun i s => s = ((i : Int), marks d.2.1.length (addAll L (r.take i)), addAll L (r.take i), ()) ∧ (addAll L (r.take i)).Nodup ∧ ∀ x ∈ addAll L (r.take i), In d x) ⟨rfl, hL, hi⟩ ?_ ?_
  · rintro i s hir ⟨rfl, h1, h2⟩
    have hx := hr _ (List.getElem_mem hir)
    have hlen := in_len h1 h2
    obtain ⟨g1, g2⟩ := marks_at (L := addAll L (r.take i)) hx.1 hx.2
    have hs : addAll L (r.take (i + 1)) = addAll (addAll L (r.take i)) [r[i]] := by
      rw [List.take_add_one, List.getElem?_eq_getElem hir, addAll_append]; rfl
    unfold L_ref16_reachable_0
    refine wp_in hir (wp_bind (wp_get0 hir (wp_getZ hx.1 g1 (wp_get (x := decide (r[i] ∈ addAll L (r.take i))) (by rw [List.getElem?_eq_getElem g1, g2]) (wp_bif (fun hb => ?_) fun hb => wp_some (wp_some ?_))))))
    · have hb : r[i] ∉ addAll L (r.take i) := by simpa using hb
      refine wp_getZ hx.1 g1 (wp_get (x := decide (r[i] ∈ addAll L (r.take i))) (by rw [List.getElem?_eq_getElem g1, g2]) (wp_guard (decide_eq_true (by simp; omega)) (wp_some (wp_some ?_))))
      have e : addAll (addAll L (r.take i)) [r[i]] = addAll L (r.take i) ++ [r[i]] := addAll_new hb
      rw [hs, e, wrap_succ hir (by omega), marks_set hx.1]
      refine ⟨rfl, ?_, fun x hx' => ?_⟩
      · rw [List.nodup_append]
        exact ⟨h1, by simp, fun a ha b hb' => by simp at hb'; subst hb'; rintro rfl; exact hb ha⟩
      · rcases List.mem_append.1 hx' with h | h
        · exact h2 x h
        · simp at h; subst h; exact hx
    · have hb : r[i] ∈ addAll L (r.take i) := by simpa using hb
      rw [hs, addAll_in hb, wrap_succ hir (by omega)]
      exact ⟨rfl, h1, h2⟩
  · rintro s ⟨rfl, h1, h2⟩
    unfold L_ref16_reachable_0
    refine wp_out (wp_some ?_)
    simp only [List.take_length]
theorem C_ref16_reachable {d : DF} (h : RW d) (hn : d.2.1.length ≤ 16777216) (hk : d.1.length ≤ 16777216) : Calls' tbl N_ref16_reachable [.d (pr [.list tI, .list (.list tI), .list tB, tI]) d] [] q_ref16_reachable (reachS d, ()) := by
  refine calls_of rfl (conv_of t_ref16_reachable rfl (fun O n => x_ref16_reachable O n d) ?_)
  unfold G_ref16_reachable
  have hs := h.start
  have hsn : d.2.2.2.1.toNat < (List.replicate d.2.1.length false).length := by have := hs.1; have := hs.2; simp; omega
  refine wp_guard (by simp only [Bool.and_eq_true, decide_eq_true_eq]; omega) (wp_getZ hs.1 hsn (wp_get (x := false) (show (List.replicate d.2.1.length false)[d.2.2.2.1.toNat]? = some false from by rw [List.getElem?_eq_getElem hsn]; simp) ?_))
  simp only
  refine wp_bind (Go.Ev.wp_loop (σ := Int × List Bool × List Int × Unit) (fun s => ∃ i : Nat, s = ((i : Int), marks d.2.1.length (expD d i).1, (expD d i).1, ()) ∧ i ≤ (expD d i).1.length) (fun s => d.2.1.length - s.1.toNat) ⟨0, ?_, Nat.zero_le _⟩ ?_)
  · rw [show (expD d 0).1 = [d.2.2.2.1] from rfl, ← marks_one hs.1]
    rfl
  rintro s ⟨i, rfl, hil⟩
  have hlen := expD_len h i
  unfold L_ref16_reachable_1
  simp only
  refine wp_bif (fun hb => ?_) fun hb => wp_some (wp_some ?_)
  · have hi : i < (expD d i).1.length := by simp only [decide_eq_true_eq] at hb; omega
    have hx := List.getElem?_eq_getElem hi
    have hin := expD_in h i _ (List.getElem_mem hi)
    obtain ⟨h1, e⟩ := row_at h hin
    refine wp_get0 hi (wp_get (x := (expD d i).1[i]) hx (wp_getZ hin.1 h1 ?_))
    refine wp_bind (Wp.imp (row_ref16_reachable (d := d) hn (expl_ok i).nodup (expD_in h i) _ (h.to _ (List.getElem_mem h1)) (by rw [h.rows _ (List.getElem_mem h1)]; exact hk)) fun r hr => wp_some ?_)
    subst hr
    have es : (expD d (i + 1)).1 = addAll (expD d i).1 d.2.1[(expD d i).1[i].toNat] := by
      unfold expD
      rw [expl_succ_some hx, e]
      simp only
      rw [row_addAll]
    rw [wrap_succ hi (by omega)]
    refine ⟨⟨i + 1, by rw [es], ?_⟩, by simp only [Int.toNat_natCast]; omega⟩
    have := (expl_pre (f := colS d) (s0 := d.2.2.2.1) (ls := List.range d.1.length) i).1.length_le
    exact Nat.le_trans hi this
  · have hi : (expD d i).1.length ≤ i := by simp only [decide_eq_false_iff_not] at hb; omega
    rw [reachS_fin h hi]
end Go.Proofs.Ytbpdbooalkkenaa

/-
  dfa: THE AUTOMATON OF BLOCKS, with the classes that matter, renumbered, is in canonical form; no program in sight.
-/
import Derived.Test.YtbpdbooalkkenaaJLawDfaBlocksR
set_option linter.unusedVariables false
set_option linter.unusedSimpArgs false
namespace Go.Proofs.Ytbpdbooalkkenaa
open Go Go.Av Go.Ev Go.Pl
def renumC (q : DF) (cs : List Nat) : DF :=
  (cs.map fun c => q.1.getD c 0, (reachS q).map fun b => cs.map fun c => (pos (reachS q) (colS q b c) : Int), (reachS q).map (accS q), 0, ())
structure Keeps (q : DF) (kp : Nat → Bool) : Prop where
  zero : kp 0 = true
  drop : ∀ s ∈ reachS q, ∀ c, c < q.1.length → kp c = false → 0 < c ∧ colS q s c = colS q s (c - 1)
  keep : ∀ c, c + 1 < q.1.length → kp (c + 1) = true → ∃ s ∈ reachS q, colS q s (c + 1) ≠ colS q s c
section
variable {q : DF} {kp : Nat → Bool}
abbrev cls (q : DF) (kp : Nat → Bool) : List Nat := (List.range q.1.length).filter kp
theorem cls_mem {c : Nat} : c ∈ cls q kp ↔ c < q.1.length ∧ kp c = true := by
  rw [List.mem_filter, List.mem_range]
theorem cls_asc : (cls q kp).Pairwise (· < ·) := List.Pairwise.sublist (List.filter_sublist ..) List.pairwise_lt_range
theorem cls_lt {i j : Nat} (hij : i < j) (hj : j < (cls q kp).length) : (cls q kp)[i] < (cls q kp)[j] := List.pairwise_iff_getElem.1 cls_asc i j (by omega) hj hij
theorem cls_bound {i : Nat} (hi : i < (cls q kp).length) : (cls q kp)[i] < q.1.length := (cls_mem.1 (List.getElem_mem hi)).1
theorem cls_zero (hk : Keeps q kp) (hq : 0 < q.1.length) : ∃ h : 0 < (cls q kp).length, (cls q kp)[0] = 0 := by
  have hm : 0 ∈ cls q kp := cls_mem.2 ⟨hq, hk.zero⟩
  have hp := List.length_pos_of_mem hm
  refine ⟨hp, ?_⟩
  obtain ⟨i, hi, e⟩ := List.mem_iff_getElem.1 hm
  rcases Nat.eq_zero_or_pos i with rfl | h0
  · exact e
  · have := cls_lt (q := q) (kp := kp) h0 hi; omega
theorem cls_last (hk : Keeps q kp) : ∀ c, c < q.1.length → ∃ j, ∃ h : j < (cls q kp).length, (cls q kp)[j] ≤ c ∧ (∀ j' (_ : j' < (cls q kp).length), j < j' → c < (cls q kp)[j']) ∧ ∀ s ∈ reachS q, colS q s c = colS q s (cls q kp)[j]
  | 0, hc => by
    obtain ⟨h, e⟩ := cls_zero hk hc
    exact ⟨0, h, by omega, fun j' hj' h0 => by have := cls_lt (q := q) (kp := kp) h0 hj'; omega, fun s _ => by rw [e]⟩
  | c + 1, hc => by
    cases hkc : kp (c + 1)
    · obtain ⟨j, h, h1, h2, h3⟩ := cls_last hk c (by omega)
      refine ⟨j, h, by omega, fun j' hj' h0 => ?_, fun s hs => ?_⟩
      · have := h2 j' hj' h0
        have hm := (cls_mem.1 (List.getElem_mem hj')).2
        rcases Nat.lt_or_eq_of_le (show c + 1 ≤ (cls q kp)[j'] by omega) with h4 | h4
        · exact h4
        · rw [← h4, hkc] at hm; cases hm
      · rw [(hk.drop s hs (c + 1) hc hkc).2]
        exact h3 s hs
    · obtain ⟨j, hj, e⟩ := List.mem_iff_getElem.1 (cls_mem.2 ⟨hc, hkc⟩ : c + 1 ∈ cls q kp)
      exact ⟨j, hj, by omega, fun j' hj' h0 => by have := cls_lt (q := q) (kp := kp) h0 hj'; omega, fun s _ => by rw [e]⟩
theorem getD_at {α : Type} {xs : List α} {i : Nat} {z : α} (h : i < xs.length) : xs.getD i z = xs[i] := by
  simp only [List.getD_eq_getElem?_getD, List.getElem?_eq_getElem h, Option.getD_some]
theorem ren_start_at (hq : RW q) (hs : Starts q.1) (hk : Keeps q kp) {j : Nat} (hj : j < (cls q kp).length) : ∃ h : j < (renumC q (cls q kp)).1.length, (renumC q (cls q kp)).1[j] = q.1[(cls q kp)[j]]'(cls_bound hj) := by
  have h : j < (renumC q (cls q kp)).1.length := by unfold renumC; simpa using hj
  refine ⟨h, ?_⟩
  simp only [renumC, List.getElem_map]
  exact getD_at (cls_bound hj)
theorem ren_len1 (hq : RW q) (hs : Starts q.1) (hk : Keeps q kp) : (renumC q (cls q kp)).1.length = (cls q kp).length := by simp [renumC]
theorem ren_starts (hq : RW q) (hs : Starts q.1) (hk : Keeps q kp) : Starts (renumC q (cls q kp)).1 := by
  obtain ⟨h0, e0⟩ := cls_zero hk hs.1
  refine ⟨by rw [ren_len1 hq hs hk]; exact h0, fun h => ?_, fun i hi => ?_, fun x hx => ?_⟩
  · obtain ⟨_, e⟩ := ren_start_at hq hs hk h0
    rw [e]
    simp only [e0]
    exact hs.2.1 hs.1
  · rw [ren_len1 hq hs hk] at hi
    obtain ⟨_, e1⟩ := ren_start_at hq hs hk (j := i) (by omega)
    obtain ⟨_, e2⟩ := ren_start_at hq hs hk hi
    rw [e1, e2]
    exact starts_lt hs _ _ _ (cls_lt (by omega) hi)
  · obtain ⟨i, hi, rfl⟩ := List.mem_iff_getElem.1 hx
    rw [ren_len1 hq hs hk] at hi
    obtain ⟨_, e1⟩ := ren_start_at hq hs hk hi
    rw [e1]
    exact hs.2.2.2 _ (List.getElem_mem _)
theorem ren_rw (hq : RW q) (hs : Starts q.1) (hk : Keeps q kp) : RW (renumC q (cls q kp)) := by
  have hpos : 0 < (reachS q).length := List.length_pos_of_mem reachS_start
  refine ⟨⟨by simpa [renumC] using hpos, by simp [renumC]⟩, fun r hr => ?_, ⟨Int.le_refl _, by simpa [renumC] using hpos⟩, fun r hr t ht => ?_⟩
  · simp only [renumC, List.mem_map] at hr
    obtain ⟨b, _, rfl⟩ := hr
    simp [renumC]
  · simp only [renumC, List.mem_map] at hr
    obtain ⟨b, hb, rfl⟩ := hr
    obtain ⟨c, hc, rfl⟩ := List.mem_map.1 ht
    have := pos_lt.1 (reachS_closed hq b hb c (cls_mem.1 hc).1)
    refine ⟨by omega, ?_⟩
    simp only [renumC, List.length_map]
    omega
theorem ren_wf (hq : RW q) (hs : Starts q.1) (hk : Keeps q kp) : WF (renumC q (cls q kp)) := by
  have h := ren_rw hq hs hk
  exact ⟨ren_starts hq hs hk, h.len, h.rows, h.start, h.to⟩
theorem ren_col (hq : RW q) (hs : Starts q.1) (hk : Keeps q kp) {b : Int} (hb : b ∈ reachS q) {j : Nat} (hj : j < (cls q kp).length) : colS (renumC q (cls q kp)) (pos (reachS q) b : Int) j = (pos (reachS q) (colS q b (cls q kp)[j]) : Int) := by
  have hp := pos_lt.1 hb
  have e : (reachS q)[pos (reachS q) b]? = some b := by
    unfold pos at hp ⊢
    rw [List.getElem?_eq_getElem hp, List.getElem_idxOf]
  unfold colS
  simp only [renumC, Int.toNat_natCast, List.getD_eq_getElem?_getD, List.getElem?_map, e, Option.map_some, Option.getD_some, List.getElem?_eq_getElem hj]
  rfl
theorem ren_step (hq : RW q) (hs : Starts q.1) (hk : Keeps q kp) {b : Int} (hb : b ∈ reachS q) {v : Int} (hv : 0 ≤ v) : stepS (renumC q (cls q kp)) (pos (reachS q) b : Int) v = (pos (reachS q) (stepS q b v) : Int) := by
  obtain ⟨hc, hc1, hc2⟩ := class_wf hs hv
  obtain ⟨j, hj, h1, h2, h3⟩ := cls_last hk _ hc
  have hcl : classS (renumC q (cls q kp)).1 v = j := by
    obtain ⟨g1, e1⟩ := ren_start_at hq hs hk hj
    refine class_eq ⟨g1, ?_, fun j' hj' hlt => ?_⟩
    · rw [e1]
      rcases Nat.lt_or_eq_of_le h1 with hl | he
      · have := starts_lt hs _ _ hc hl; omega
      · simp only [he]; exact hc1
    · rw [ren_len1 hq hs hk] at hj'
      obtain ⟨_, e2⟩ := ren_start_at hq hs hk hj'
      rw [e2]
      exact hc2 _ _ (h2 j' hj' hlt)
  rw [step_col, hcl, ren_col hq hs hk hb hj, step_col, h3 b hb]
theorem ren_acc (hq : RW q) (hs : Starts q.1) (hk : Keeps q kp) {b : Int} (hb : b ∈ reachS q) : accS (renumC q (cls q kp)) (pos (reachS q) b : Int) = accS q b := by
  have hp := pos_lt.1 hb
  have e : (reachS q)[pos (reachS q) b]? = some b := by
    unfold pos at hp ⊢
    rw [List.getElem?_eq_getElem hp, List.getElem_idxOf]
  unfold accS
  simp only [renumC, Int.toNat_natCast, List.getD_eq_getElem?_getD, List.getElem?_map, e, Option.map_some, Option.getD_some]
  simp only [accS, List.getD_eq_getElem?_getD]
theorem ren_bfs (hq : RW q) (hs : Starts q.1) (hk : Keeps q kp) : ∃ i0, ∀ i, i0 ≤ i → (expl (stepS (renumC q (cls q kp))) (renumC q (cls q kp)).2.2.2.1 (renumC q (cls q kp)).1 i).1 = rangeI (renumC q (cls q kp)).2.1.length := by
  refine ⟨q.2.1.length, fun i hi => ?_⟩
  have hord : (expl (colS q) q.2.2.2.1 (List.range q.1.length) i).1 = reachS q := by
    have := expl_fin (f := colS q) (s0 := q.2.2.2.1) (ls := List.range q.1.length) hi (expD_len hq _)
    rw [this]; rfl
  have hdrop : (expl (colS q) q.2.2.2.1 (cls q kp) i).1 = reachS q := by
    rw [expl_drop i fun x hx c hc hkc => hk.drop x (by rw [← hord]; exact hx) c hc hkc, hord]
  have hrel := expl_rel (f := colS q) (g := stepS (renumC q (cls q kp))) (h := fun c => q.1.getD c 0) (s0 := q.2.2.2.1) (t0 := 0) (ls := cls q kp) (Rel := fun b t => b ∈ reachS q ∧ t = (pos (reachS q) b : Int))
    ⟨reachS_start, ?_⟩ (fun x y c hc ⟨hx, hy⟩ => ?_) (fun a a' b b' ⟨ha, hb⟩ ⟨ha', hb'⟩ => ?_) i
  · have hF := hrel.1
    rw [hdrop] at hF
    have hl := hF.len
    have hN : (renumC q (cls q kp)).2.1.length = (reachS q).length := by simp [renumC]
    rw [hN]
    refine List.ext_getElem? fun k => ?_
    by_cases hkl : k < (reachS q).length
    · have hx := List.getElem?_eq_getElem hkl
      have hy := List.getElem?_eq_getElem (l := (expl (stepS (renumC q (cls q kp))) 0 ((cls q kp).map fun c => q.1.getD c 0) i).1) (i := k) (by omega)
      have hr := (hF.get hx hy).2
      have hp : pos (reachS q) (reachS q)[k] = k := by
        unfold pos
        exact List.Nodup.idxOf_getElem (expl_ok (f := colS q) (s0 := q.2.2.2.1) (ls := List.range q.1.length) _).nodup k hkl
      rw [hp] at hr
      rw [rangeI_get hkl, ← hr]
      exact hy
    · rw [List.getElem?_eq_none (show (rangeI (reachS q).length).length ≤ k by rw [rangeI_len]; omega)]
      exact List.getElem?_eq_none (by show (expl (stepS (renumC q (cls q kp))) 0 ((cls q kp).map fun c => q.1.getD c 0) i).1.length ≤ k; omega)
  · rw [show pos (reachS q) q.2.2.2.1 = 0 from ?_]; rfl
    have h0 : (reachS q)[0]? = some q.2.2.2.1 := (expl_ok _).head
    exact (pos_of (Nat.zero_le _) (fun j z hj => by omega) (fun z hz => by rw [h0] at hz; cases hz; rfl)).symm
  · have hcm := cls_mem.1 hc
    obtain ⟨j, hj, e⟩ := List.mem_iff_getElem.1 hc
    obtain ⟨g1, e1⟩ := ren_start_at hq hs hk hj
    refine ⟨reachS_closed hq x hx c hcm.1, ?_⟩
    rw [hy, getD_at hcm.1]
    have e2 : q.1[c] = (renumC q (cls q kp)).1[j] := by rw [e1]; simp only [e]
    rw [e2, step_at_start (ren_wf hq hs hk) _ g1, ren_col hq hs hk hx hj]
    simp only [e]
  · subst hb hb'
    exact ⟨fun e => by rw [e], fun e => pos_inj ha (by omega)⟩
theorem ren_cols (hq : RW q) (hs : Starts q.1) (hk : Keeps q kp) : ∀ c (h : c + 1 < (renumC q (cls q kp)).1.length), ∃ s, In (renumC q (cls q kp)) s ∧ stepS (renumC q (cls q kp)) s (renumC q (cls q kp)).1[c + 1] ≠ stepS (renumC q (cls q kp)) s (renumC q (cls q kp)).1[c] := by
  intro c h
  have hw := ren_wf hq hs hk
  have h' : c + 1 < (cls q kp).length := by rwa [ren_len1 hq hs hk] at h
  have hlt := cls_lt (q := q) (kp := kp) (show c < c + 1 by omega) h'
  have hb := cls_bound h'
  have hm := cls_mem.1 (List.getElem_mem h')
  obtain ⟨e, he⟩ : ∃ e, (cls q kp)[c + 1] = e + 1 := ⟨(cls q kp)[c + 1] - 1, by omega⟩
  rw [he] at hm hb
  obtain ⟨b, hbm, hne⟩ := hk.keep e hm.1 hm.2
  obtain ⟨j, hj, h1, h2, h3⟩ := cls_last hk e (by omega)
  have hjc : j = c := by
    rcases Nat.lt_trichotomy j c with hl | he' | hl
    · have := h2 c (by omega) hl; omega
    · exact he'
    · rcases Nat.lt_or_eq_of_le (show c + 1 ≤ j by omega) with h5 | rfl
      · have := cls_lt (q := q) (kp := kp) h5 hj; omega
      · omega
  subst hjc
  refine ⟨(pos (reachS q) b : Int), ⟨by omega, ?_⟩, ?_⟩
  · have := pos_lt.1 hbm
    simp only [renumC, List.length_map]
    omega
  · rw [step_at_start hw _ h, step_at_start hw _ (by omega), ren_col hq hs hk hbm h', ren_col hq hs hk hbm hj]
    intro e2
    apply hne
    have hin1 := reachS_closed hq b hbm (e + 1) hm.1
    have e3 := pos_inj (x := colS q b (e + 1)) (y := colS q b (cls q kp)[j]) hin1 (by rw [← he]; omega)
    rw [e3, h3 b hbm]
end
theorem eqvN_C {d : DF} (hd : WF d) {s t : Int} (h : EqvN d s t) : EqvC d s t := by
  have hcol : ∀ (w : List Nat), (∀ c ∈ w, c ∈ List.range d.1.length) → ∀ s, (w.map fun c => d.1.getD c 0).foldl (stepS d) s = w.foldl (colS d) s := by
    intro w
    induction w with
    | nil => intro _ s; rfl
    | cons c w ih =>
      intro hw s
      have hc := List.mem_range.1 (hw c (List.mem_cons_self ..))
      rw [List.map_cons, List.foldl_cons, List.foldl_cons, ih fun x hx => hw x (List.mem_cons_of_mem _ hx)]
      congr 1
      rw [getD_at hc, step_at_start hd _ hc]
  intro w hw
  rw [← hcol w hw, ← hcol w hw]
  refine h _ fun v hv => ?_
  obtain ⟨c, hc, rfl⟩ := List.mem_map.1 hv
  have hc := List.mem_range.1 (hw c hc)
  rw [getD_at hc]
  exact starts_nonneg hd.starts _ (List.getElem_mem hc)
theorem quot_canon {d q : DF} (hd : WF d) (hq : RW q) (h1 : q.1 = d.1) {P : Int → Prop} {B : List Int} {m : Nat} (hB : BlkOk d P B m) (hPr : ∀ s ∈ reachS d, P s) (hst : q.2.2.2.1 = bv B d.2.2.2.1)
    (hcol : ∀ s ∈ reachS d, ∀ c, c < d.1.length → colS q (bv B s) c = bv B (colS d s c)) (hacc : ∀ s ∈ reachS d, accS q (bv B s) = accS d s) {kp : Nat → Bool} (hk : Keeps q kp) :
    Canon (renumC q (cls q kp)) ∧ ∀ w, Valid w → accS (renumC q (cls q kp)) (runD (renumC q (cls q kp)) w) = accS d (runD d w) := by
  have hs : Starts q.1 := h1 ▸ hd.starts
  have hin : ∀ s ∈ reachS d, bv B s ∈ reachS q := by
    intro s hs'
    obtain ⟨k, hkk, rfl⟩ := List.mem_iff_getElem.1 hs'
    refine (expl_ok (f := colS d) (s0 := d.2.2.2.1) (ls := List.range d.1.length) d.2.1.length).inv (P := fun s => s ∈ reachS d ∧ bv B s ∈ reachS q) ⟨reachS_start, by rw [← hst]; exact reachS_start⟩ (fun x c hc ⟨hx, hx2⟩ => ?_) k _ (List.getElem?_eq_getElem hkk) |>.2
    have hc := List.mem_range.1 hc
    exact ⟨reachS_closed hd.rw x hx c hc, by rw [← hcol x hx c hc]; exact reachS_closed hq _ hx2 c (by rw [h1]; exact hc)⟩
  refine mini_canon (ren_wf hq hs hk) (ψ := fun s => (pos (reachS q) (bv B s) : Int)) (P := (· ∈ reachS d)) reachS_start (fun s v hs' hv => ?_) ?_ (fun s v hs' hv => ?_) (fun s hs' => ?_) (fun s t hs' ht' he => ?_) (ren_bfs hq hs hk) (ren_cols hq hs hk)
  · exact reachS_closed hd.rw s hs' _ (class_wf hd.starts hv).1
  · show (pos (reachS q) (bv B d.2.2.2.1) : Int) = 0
    rw [← hst]
    have h0 : (reachS q)[0]? = some q.2.2.2.1 := (expl_ok _).head
    rw [← pos_of (L := reachS q) (y := q.2.2.2.1) (k := 0) (Nat.zero_le _) (fun j z hj => by omega) (fun z hz => by rw [h0] at hz; cases hz; rfl)]
    rfl
  · show (pos (reachS q) (bv B (stepS d s v)) : Int) = _
    rw [ren_step hq hs hk (hin s hs') hv, step_col, step_col, h1, hcol s hs' _ (class_wf hd.starts hv).1]
  · exact (ren_acc hq hs hk (hin s hs')).trans (hacc s hs')
  · show (pos (reachS q) (bv B s) : Int) = (pos (reachS q) (bv B t) : Int)
    rw [(hB.eqv s t (hPr s hs') (hPr t ht')).2 (eqvN_C hd he)]
end Go.Proofs.Ytbpdbooalkkenaa

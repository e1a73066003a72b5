/-
  dfa: THE MINIMAL AUTOMATON (the program's way), 2: the quotient, and its classes.
-/
import Derived.Test.YtbpdbooalkkenaaJLawDfaMin
set_option linter.unusedVariables false
set_option linter.unusedSimpArgs false
namespace Go.Proofs.Ytbpdbooalkkenaa
open Go Go.Av Go.Ev Go.Pl
def selS (q : DF) (kp : Nat → Bool) : DF := ((cls q kp).map fun c => q.1.getD c 0, q.2.1.map fun r => (cls q kp).map fun c => r.getD c 0, q.2.2.1, q.2.2.2.1, ())
theorem sel_col {q : DF} (kp : Nat → Bool) {s : Int} (hs : In q s) {j : Nat} (hj : j < (cls q kp).length) : colS (selS q kp) s j = colS q s (cls q kp)[j] := by
  have h1 : s.toNat < q.2.1.length := by have := hs.1; have := hs.2; omega
  unfold colS
  simp only [selS, List.getD_eq_getElem?_getD, List.getElem?_map, List.getElem?_eq_getElem h1, Option.map_some, Option.getD_some, List.getElem?_eq_getElem hj]
theorem sel_rw {q : DF} (kp : Nat → Bool) (hq : RW q) : RW (selS q kp) := by
  refine ⟨⟨by simpa [selS] using hq.len.1, by simpa [selS] using hq.len.2⟩, fun r hr => ?_, ?_, fun r hr t ht => ?_⟩
  · simp only [selS, List.mem_map] at hr
    obtain ⟨r, _, rfl⟩ := hr
    simp [selS]
  · have := hq.start
    exact ⟨this.1, by simpa [selS] using this.2⟩
  · simp only [selS, List.mem_map] at hr
    obtain ⟨r, hr, rfl⟩ := hr
    obtain ⟨c, hc, rfl⟩ := List.mem_map.1 ht
    have hcl : c < r.length := by rw [hq.rows r hr]; exact (cls_mem.1 hc).1
    rw [getD_at hcl]
    have := hq.to r hr _ (List.getElem_mem hcl)
    exact ⟨this.1, by simpa [selS] using this.2⟩
theorem sel_reach {q : DF} {kp : Nat → Bool} (hq : RW q) (hk : Keeps q kp) : reachS (selS q kp) = reachS q := by
  have hn : (selS q kp).2.1.length = q.2.1.length := by simp [selS]
  have hl : (selS q kp).1.length = (cls q kp).length := by simp [selS]
  have hord : (expl (colS q) q.2.2.2.1 (cls q kp) q.2.1.length).1 = reachS q := by
    rw [expl_drop _ fun x hx c hc hkc => hk.drop x hx c hc hkc]; rfl
  have hrel := expl_rel (f := colS (selS q kp)) (g := colS q) (h := fun j => (cls q kp).getD j 0) (s0 := q.2.2.2.1) (t0 := q.2.2.2.1) (ls := List.range (cls q kp).length) (Rel := fun x y => x = y ∧ In q x)
    ⟨rfl, hq.start⟩ (fun x y c hc ⟨hx, hy⟩ => by
      subst hx
      have hc := List.mem_range.1 hc
      rw [sel_col kp hy hc, getD_at hc]
      exact ⟨rfl, col_in hq hy (cls_bound hc)⟩) (fun a a' b b' ⟨ha, _⟩ ⟨hb, _⟩ => by subst ha hb; exact Iff.rfl) q.2.1.length
  have hmap : (List.range (cls q kp).length).map (fun j => (cls q kp).getD j 0) = cls q kp := by
    refine List.ext_getElem (by simp) fun i h1 h2 => ?_
    simp only [List.getElem_map, List.getElem_range]
    exact getD_at h2
  have hF := hrel.1
  rw [hmap, hord] at hF
  unfold reachS expD
  rw [hn, hl]
  refine List.ext_getElem? fun k => ?_
  have hlen := hF.len
  by_cases hkl : k < (expl (colS (selS q kp)) q.2.2.2.1 (List.range (cls q kp).length) q.2.1.length).1.length
  · have hx := List.getElem?_eq_getElem hkl
    have hy := List.getElem?_eq_getElem (l := reachS q) (i := k) (by omega)
    have := (hF.get hx hy).1
    exact hx.trans ((congrArg some this).trans hy.symm)
  · rw [show (expl (colS (selS q kp)) (selS q kp).2.2.2.1 (List.range (cls q kp).length) q.2.1.length).1[k]? = none from List.getElem?_eq_none (by show (expl (colS (selS q kp)) q.2.2.2.1 (List.range (cls q kp).length) q.2.1.length).1.length ≤ k; omega)]
    exact (List.getElem?_eq_none (show (reachS q).length ≤ k by omega)).symm
theorem sel_ren {q : DF} {kp : Nat → Bool} (hq : RW q) (hk : Keeps q kp) : renumA (selS q kp) = renumC q (cls q kp) := by
  have hr := sel_reach hq hk
  unfold renumA renumC
  rw [hr]
  refine Prod.ext rfl (Prod.ext ?_ (Prod.ext ?_ rfl))
  · refine List.map_congr_left fun b hb => ?_
    have hin := expD_in hq _ b hb
    refine List.ext_getElem (by simp [selS]) fun j h1 h2 => ?_
    have hj : j < (cls q kp).length := by simpa using h2
    simp only [List.getElem_map, List.getElem_range]
    rw [sel_col kp hin hj]
  · rfl
def keepB (NX : List (List Int)) (c : Nat) : Bool := decide (c = 0) || NX.any fun r => r.getD c 0 != r.getD (c - 1) 0
def rowI (k : Nat) (r : List Int) : List Int := r ++ List.replicate (k - r.length) 0
theorem rowI_set {k i : Nat} {r : List Int} {x : Int} (hr : r.length = i) (h : i < k) : (rowI k r).set i x = rowI k (r ++ [x]) := by
  subst hr
  unfold rowI
  rw [List.set_append_right _ _ (Nat.le_refl _), Nat.sub_self]
  obtain ⟨m, hm⟩ : ∃ m, k - r.length = m + 1 := ⟨k - r.length - 1, by omega⟩
  rw [hm, List.replicate_succ, List.set_cons_zero, List.length_append, show k - (r.length + [x].length) = m by simp; omega]
  simp
theorem rowI_len {k : Nat} {r : List Int} (h : r.length ≤ k) : (rowI k r).length = k := by unfold rowI; simp; omega
theorem rowI_full {k : Nat} {r : List Int} (h : r.length = k) : rowI k r = r := by unfold rowI; rw [h]; simp
theorem mix_get {α β : Type} {g g' : α → β} {xs : List α} {j : Nat} (hj : j < xs.length) : ((xs.take j).map g' ++ (xs.drop j).map g)[j]? = some (g xs[j]) := by
  rw [List.getElem?_append_right (by simp; omega)]
  simp [Nat.min_eq_left (Nat.le_of_lt hj), hj]
theorem mix_set {α β : Type} {g g' : α → β} {xs : List α} {j : Nat} (hj : j < xs.length) : ((xs.take j).map g' ++ (xs.drop j).map g).set j (g' xs[j]) = (xs.take (j + 1)).map g' ++ (xs.drop (j + 1)).map g := by
  rw [List.set_append_right _ _ (by simp; omega), List.drop_eq_getElem_cons hj, List.take_add_one, List.getElem?_eq_getElem hj]
  simp only [List.length_map, List.length_take, Nat.min_eq_left (Nat.le_of_lt hj), Nat.sub_self, List.map_cons, List.set_cons_zero, List.map_append, Option.toList_some, List.map_nil, List.append_assoc, List.cons_append, List.nil_append]
structure Quo (d : DF) (B : List Int) (m : Nat) (NX : List (List Int)) (AC : List Bool) : Prop where
  blk : BlkOk d (· ∈ reachS d) B m
  le : m ≤ d.2.1.length
  len : NX.length = m ∧ AC.length = m
  at_ : ∀ s ∈ reachS d, NX[(bv B s).toNat]? = some ((List.range d.1.length).map fun c => bv B (colS d s c)) ∧ AC[(bv B s).toNat]? = some (accS d s)
theorem Quo.rw {d : DF} (hd : RW d) {B : List Int} {m : Nat} {NX : List (List Int)} {AC : List Bool} (h : Quo d B m NX AC) : RW (d.1, NX, AC, bv B d.2.2.2.1, ()) := by
  have hst := h.blk.rng.rng _ (reachS_start (d := d))
  have hrow : ∀ r ∈ NX, ∃ s ∈ reachS d, r = (List.range d.1.length).map fun c => bv B (colS d s c) := fun r hr => by
    obtain ⟨b, hb, rfl⟩ := List.mem_iff_getElem.1 hr
    obtain ⟨s, hs, e⟩ := h.blk.rng.onto b (by rw [← h.len.1]; exact hb)
    refine ⟨s, hs, ?_⟩
    have := (h.at_ s hs).1
    rw [e, Int.toNat_natCast, List.getElem?_eq_getElem hb] at this
    exact Option.some.inj this
  refine ⟨⟨?_, ?_⟩, fun r hr => ?_, ⟨hst.1, ?_⟩, fun r hr t ht => ?_⟩
  · show 0 < NX.length
    rw [h.len.1]; omega
  · show AC.length = NX.length
    rw [h.len.1, h.len.2]
  · obtain ⟨s, _, rfl⟩ := hrow r hr
    simp
  · show bv B d.2.2.2.1 < (NX.length : Int)
    rw [h.len.1]; exact hst.2
  · obtain ⟨s, hs, rfl⟩ := hrow r hr
    obtain ⟨c, hc, rfl⟩ := List.mem_map.1 ht
    have := h.blk.rng.rng _ (reachS_closed hd s hs c (List.mem_range.1 hc))
    refine ⟨this.1, ?_⟩
    show bv B (colS d s c) < (NX.length : Int)
    rw [h.len.1]; exact this.2
theorem Quo.col {d : DF} {B : List Int} {m : Nat} {NX : List (List Int)} {AC : List Bool} (h : Quo d B m NX AC) {s : Int} (hs : s ∈ reachS d) {c : Nat} (hc : c < d.1.length) : colS (d.1, NX, AC, bv B d.2.2.2.1, ()) (bv B s) c = bv B (colS d s c) := by
  show (NX.getD (bv B s).toNat []).getD c 0 = _
  simp only [List.getD_eq_getElem?_getD, (h.at_ s hs).1, Option.getD_some, List.getElem?_map, List.getElem?_range hc, Option.map_some]
theorem Quo.acc {d : DF} {B : List Int} {m : Nat} {NX : List (List Int)} {AC : List Bool} (h : Quo d B m NX AC) {s : Int} (hs : s ∈ reachS d) : accS (d.1, NX, AC, bv B d.2.2.2.1, ()) (bv B s) = accS d s := by
  show AC.getD (bv B s).toNat false = _
  rw [List.getD_eq_getElem?_getD, (h.at_ s hs).2]; rfl
theorem Quo.reach {d : DF} (hd : RW d) {B : List Int} {m : Nat} {NX : List (List Int)} {AC : List Bool} (h : Quo d B m NX AC) {s : Int} (hs : s ∈ reachS d) : bv B s ∈ reachS (d.1, NX, AC, bv B d.2.2.2.1, ()) := by
  obtain ⟨k, hkk, rfl⟩ := List.mem_iff_getElem.1 hs
  refine ((expl_ok (f := colS d) (s0 := d.2.2.2.1) (ls := List.range d.1.length) d.2.1.length).inv (P := fun s => s ∈ reachS d ∧ bv B s ∈ reachS (d.1, NX, AC, bv B d.2.2.2.1, ())) ⟨reachS_start, reachS_start (d := (d.1, NX, AC, bv B d.2.2.2.1, ()))⟩ (fun x c hc ⟨hx, hx2⟩ => ?_) k _ (List.getElem?_eq_getElem hkk)).2
  have hc := List.mem_range.1 hc
  exact ⟨reachS_closed hd x hx c hc, by rw [← h.col hx hc]; exact reachS_closed (h.rw hd) _ hx2 c hc⟩
theorem Quo.keeps {d : DF} (hd : RW d) {B : List Int} {m : Nat} {NX : List (List Int)} {AC : List Bool} (h : Quo d B m NX AC) : Keeps (d.1, NX, AC, bv B d.2.2.2.1, ()) (keepB NX) := by
  have hq := h.rw hd
  have hrow : ∀ b, b ∈ reachS (d.1, NX, AC, bv B d.2.2.2.1, ()) → ∃ r ∈ NX, ∀ c, colS (d.1, NX, AC, bv B d.2.2.2.1, ()) b c = r.getD c 0 := fun b hb => by
    have hin := expD_in hq _ b hb
    have h1 : b.toNat < NX.length := by have := hin.1; have := hin.2; simp only at this; omega
    refine ⟨NX[b.toNat], List.getElem_mem h1, fun c => ?_⟩
    unfold colS
    simp only [List.getD_eq_getElem?_getD, List.getElem?_eq_getElem h1, Option.getD_some]
  refine ⟨rfl, fun b hb c hc hk => ?_, fun c hc hk => ?_⟩
  · simp only [keepB, Bool.or_eq_false_iff, decide_eq_false_iff_not, List.any_eq_false] at hk
    obtain ⟨r, hr, e⟩ := hrow b hb
    refine ⟨by omega, ?_⟩
    rw [e, e]
    simpa using hk.2 r hr
  · simp only [keepB, Bool.or_eq_true, decide_eq_true_eq, List.any_eq_true] at hk
    rcases hk with hk | ⟨r, hr, hk⟩
    · omega
    obtain ⟨b, hb, rfl⟩ := List.mem_iff_getElem.1 hr
    obtain ⟨s, hs, e⟩ := h.blk.rng.onto b (by rw [← h.len.1]; exact hb)
    have hbr := h.reach hd hs
    rw [e] at hbr
    refine ⟨(b : Int), hbr, ?_⟩
    unfold colS
    simp only [Int.toNat_natCast, List.getD_eq_getElem?_getD, List.getElem?_eq_getElem hb, Option.getD_some]
    simpa [List.getD_eq_getElem?_getD] using hk
theorem Quo.canon {d : DF} (hd : WF d) {B : List Int} {m : Nat} {NX : List (List Int)} {AC : List Bool} (h : Quo d B m NX AC) :
    Canon (renumA (selS (d.1, NX, AC, bv B d.2.2.2.1, ()) (keepB NX))) ∧ ∀ w, Valid w → accS (renumA (selS (d.1, NX, AC, bv B d.2.2.2.1, ()) (keepB NX))) (runD (renumA (selS (d.1, NX, AC, bv B d.2.2.2.1, ()) (keepB NX))) w) = accS d (runD d w) := by
  rw [sel_ren (h.rw hd.rw) (h.keeps hd.rw)]
  exact quot_canon hd (h.rw hd.rw) rfl h.blk (fun _ hs => hs) rfl (fun s hs c hc => h.col hs hc) (fun s hs => h.acc hs) (h.keeps hd.rw)
end Go.Proofs.Ytbpdbooalkkenaa

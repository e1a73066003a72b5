/-
  dfa: THE MINIMAL AUTOMATON (the reference's way).
-/
import Derived.Test.YtbpdbooalkkenaaJLawDfaMin3
set_option linter.unusedVariables false
set_option linter.unusedSimpArgs false
namespace Go.Proofs.Ytbpdbooalkkenaa
open Go Go.Av Go.Ev Go.Pl
structure Quo2 (d : DF) (B : List Int) (m : Nat) (NX : List (List Int)) (AC : List Bool) : Prop where
  blk : BlkOk d (· ∈ rangeI d.2.1.length) B m
  len : NX.length = m ∧ AC.length = m
  at_ : ∀ s, In d s → NX[(bv B s).toNat]? = some ((List.range d.1.length).map fun c => bv B (colS d s c)) ∧ AC[(bv B s).toNat]? = some (accS d s)
section
variable {d : DF} {B : List Int} {m : Nat} {NX : List (List Int)} {AC : List Bool}
abbrev qD (d : DF) (B : List Int) (NX : List (List Int)) (AC : List Bool) : DF := (d.1, NX, AC, bv B d.2.2.2.1, ())
theorem Quo2.rw (hd : RW d) (h : Quo2 d B m NX AC) : RW (qD d B NX AC) := by
  have hst := h.blk.rng.rng _ (rangeI_mem.2 hd.start)
  have hrow : ∀ r ∈ NX, ∃ s, In d s ∧ r = (List.range d.1.length).map fun c => bv B (colS d s c) := fun r hr => by
    obtain ⟨b, hb, rfl⟩ := List.mem_iff_getElem.1 hr
    obtain ⟨s, hs, e⟩ := h.blk.rng.onto b (by rw [← h.len.1]; exact hb)
    refine ⟨s, rangeI_mem.1 hs, ?_⟩
    have := (h.at_ s (rangeI_mem.1 hs)).1
    rw [e, Int.toNat_natCast, List.getElem?_eq_getElem hb] at this
    exact Option.some.inj this
  refine ⟨⟨?_, ?_⟩, fun r hr => ?_, ⟨hst.1, ?_⟩, fun r hr t ht => ?_⟩
  · show 0 < NX.length
    rw [h.len.1]; omega
  · show AC.length = NX.length
    rw [h.len.1, h.len.2]
  · obtain ⟨s, _, rfl⟩ := hrow r hr
    simp
  · show bv B d.2.2.2.1 < (NX.length : Int)
    rw [h.len.1]; exact hst.2
  · obtain ⟨s, hs, rfl⟩ := hrow r hr
    obtain ⟨c, hc, rfl⟩ := List.mem_map.1 ht
    have := h.blk.rng.rng _ (rangeI_mem.2 (col_in hd hs (List.mem_range.1 hc)))
    refine ⟨this.1, ?_⟩
    show bv B (colS d s c) < (NX.length : Int)
    rw [h.len.1]; exact this.2
theorem Quo2.col (h : Quo2 d B m NX AC) {s : Int} (hs : In d s) {c : Nat} (hc : c < d.1.length) : colS (qD d B NX AC) (bv B s) c = bv B (colS d s c) := by
  show (NX.getD (bv B s).toNat []).getD c 0 = _
  simp only [List.getD_eq_getElem?_getD, (h.at_ s hs).1, Option.getD_some, List.getElem?_map, List.getElem?_range hc, Option.map_some]
theorem Quo2.acc (h : Quo2 d B m NX AC) {s : Int} (hs : In d s) : accS (qD d B NX AC) (bv B s) = accS d s := by
  show AC.getD (bv B s).toNat false = _
  rw [List.getD_eq_getElem?_getD, (h.at_ s hs).2]; rfl
def keepR (q : DF) (c : Nat) : Bool := decide (c = 0) || (reachS q).any fun s => colS q s c != colS q s (c - 1)
theorem keepR_keeps (q : DF) : Keeps q (keepR q) := by
  refine ⟨rfl, fun b hb c hc hk => ?_, fun c hc hk => ?_⟩
  · simp only [keepR, Bool.or_eq_false_iff, decide_eq_false_iff_not, List.any_eq_false] at hk
    exact ⟨by omega, by simpa using hk.2 b hb⟩
  · simp only [keepR, Bool.or_eq_true, decide_eq_true_eq, List.any_eq_true] at hk
    rcases hk with hk | ⟨b, hb, hk⟩
    · omega
    · exact ⟨b, hb, by simpa using hk⟩
theorem Quo2.canon (hd : WF d) (h : Quo2 d B m NX AC) : Canon (renumC (qD d B NX AC) (cls (qD d B NX AC) (keepR (qD d B NX AC)))) ∧ ∀ w, Valid w → accS (renumC (qD d B NX AC) (cls (qD d B NX AC) (keepR (qD d B NX AC)))) (runD (renumC (qD d B NX AC) (cls (qD d B NX AC) (keepR (qD d B NX AC)))) w) = accS d (runD d w) :=
  quot_canon hd (h.rw hd.rw) rfl h.blk (fun s hs => rangeI_mem.2 (expD_in hd.rw _ s hs)) rfl (fun s hs c hc => h.col (expD_in hd.rw _ s hs) hc) (fun s hs => h.acc (expD_in hd.rw _ s hs)) (keepR_keeps _)
end
theorem find_ref16_Normal {B : List Int} (hBl : B.length ≤ 16777216) (b : Nat) (st : Int) (S1 : List Int) (NX : List (List Int)) (AC : List Bool) (z : Int × Int × List Int × Int × List (List Int) × List Bool × Unit) (hz : z.1 = (b : Int)) :
    Wp (fun n => loopN n (L_ref16_Normal_0 (evF tbl n) n (B, ()) z) ((0 : Int), (0 : Int), S1, st, NX, AC, ())) fun r => ∃ k : Nat, r = ((k : Int), (0 : Int), S1, st, NX, AC, ()) ∧ k ≤ B.length ∧ (∀ h : k < B.length, B[k] = (b : Int)) ∧ (k = B.length → ∀ x ∈ B, x ≠ (b : Int)) := by
  refine Go.Ev.wp_loop (σ := Int × Int × List Int × Int × List (List Int) × List Bool × Unit) (fun s => ∃ k : Nat, s = ((k : Int), (0 : Int), S1, st, NX, AC, ()) ∧ k ≤ B.length ∧ ∀ j (h : j < B.length), j < k → B[j] ≠ (b : Int)) (fun s => B.length - s.1.toNat) ⟨0, rfl, by omega, fun j _ h => absurd h (by omega)⟩ ?_
  rintro s ⟨k, rfl, h1, h2⟩
  unfold L_ref16_Normal_0
  simp only
  by_cases hk : k < B.length
  · refine wp_bind (wp_and (b := decide (B[k] ≠ (b : Int))) (fun _ => wp_get0 hk (wp_some ?_)) ?_)
    · rw [hz]
      by_cases e : B[k] = (b : Int) <;> simp [e]
    · rw [show decide ((k : Int) < (B.length : Int)) = true from decide_eq_true (by omega), Bool.true_and]
      refine wp_bif (fun hc => wp_some ?_) fun hc => wp_some ⟨k, rfl, h1, fun _ => by simpa using hc, fun e => by omega⟩
      have hc : B[k] ≠ (b : Int) := by simpa using hc
      rw [wrap_succ hk (by omega)]
      refine ⟨⟨k + 1, rfl, hk, fun j hj hjk => ?_⟩, by simp only [Int.toNat_natCast]; omega⟩
      rcases Nat.lt_succ_iff_lt_or_eq.1 hjk with hl | rfl
      · exact h2 j hj hl
      · exact hc
  · rw [show decide ((k : Int) < (B.length : Int)) = false from decide_eq_false (by omega)]
    refine wp_bind (wp_some (wp_some ⟨k, rfl, h1, fun h => absurd h hk, fun _ x hx => ?_⟩))
    obtain ⟨j, hj, rfl⟩ := List.mem_iff_getElem.1 hx
    exact h2 j hj (by omega)
theorem quot_ref16_Normal {d : DF} (h : RW d) (hk : d.1.length ≤ 16777216) (hn : d.2.1.length ≤ 16777216) {B : List Int} {m : Nat} (hm : m ≤ d.2.1.length) (hB : BlkOk d (· ∈ rangeI d.2.1.length) B m) (hBl : B.length = d.2.1.length) :
    Wp (fun n => loopN n (L_ref16_Normal_2 (evF tbl n) n d (B, ())) ((0 : Int), (0 : Int), d.1, bv B d.2.2.2.1, ([] : List (List Int)), ([] : List Bool), ()))
      fun r => ∃ NX AC, r = ((0 : Int), d.1, bv B d.2.2.2.1, NX, AC, ()) ∧ Quo2 d B m NX AC := by
  refine Go.Ev.wp_loop (σ := Int × Int × List Int × Int × List (List Int) × List Bool × Unit) (fun s => ∃ (b : Nat) (NX : List (List Int)) (AC : List Bool), s = ((b : Int), (0 : Int), d.1, bv B d.2.2.2.1, NX, AC, ()) ∧ b ≤ m ∧ NX.length = b ∧ AC.length = b ∧
    ∀ s, In d s → bv B s < (b : Int) → NX[(bv B s).toNat]? = some ((List.range d.1.length).map fun c => bv B (colS d s c)) ∧ AC[(bv B s).toNat]? = some (accS d s)) (fun s => m - s.1.toNat)
    ⟨0, [], [], rfl, Nat.zero_le _, rfl, rfl, fun s hs hb => by have := (hB.rng.rng s (rangeI_mem.2 hs)).1; omega⟩ ?_
  rintro s ⟨b, NX, AC, rfl, hbm, hNX, hAC, hat⟩
  unfold L_ref16_Normal_2
  refine wp_bind (Wp.imp (find_ref16_Normal (by omega) b _ _ NX AC _ rfl) fun r hr => ?_)
  obtain ⟨k, rfl, hkl, hfound, hnone⟩ := hr
  simp only
  by_cases hlt : k < B.length
  · have hkin : In d (k : Int) := ⟨by omega, by omega⟩
    have hbk : bv B (k : Int) = (b : Int) := by
      rw [← hfound hlt, ← bv_at (B := B) (s := (k : Int)) (by simpa using hlt)]; rfl
    have hbr := hB.rng.rng _ (rangeI_mem.2 hkin)
    obtain ⟨h1, e⟩ := row_at h hkin
    obtain ⟨h2, e2⟩ := acc_rw h hkin
    rw [show (((k : Int)) == (B.length : Int)) = false from by simp only [beq_eq_false_iff_ne]; omega]
    refine wp_bif (fun h => by cases h) fun _ => wp_getZ hkin.1 h1 ?_
    rw [e]
    refine wp_bind (wp_range (N := d.1.length) (I := fun c s => s = ((c : Int), (0 : Int), d.1, bv B d.2.2.2.1, NX, AC, (List.range c).map (fun c => bv B (colS d (k : Int) c)), ())) rfl ?_ ?_)
    · rintro c s hc rfl
      have hci := col_in h hkin hc
      have hcl : (colS d (k : Int) c).toNat < B.length := by have := hci.1; have := hci.2; omega
      have hml : ((List.range d.1.length).map (colS d (k : Int))).length = d.1.length := by simp
      unfold L_ref16_Normal_1
      rw [hml]
      refine wp_in hc (wp_getn (x := colS d (k : Int) c) (by simp [hc]) (wp_getZ hci.1 hcl (wp_guard (decide_eq_true (by simp; omega)) (wp_some ?_))))
      rw [wrap_succ hc (by omega), bv_at hcl, List.range_succ, List.map_append]
      rfl
    · rintro s rfl
      unfold L_ref16_Normal_1
      have hml : ((List.range d.1.length).map (colS d (k : Int))).length = d.1.length := by simp
      rw [hml]
      refine wp_out (wp_some (wp_guard (decide_eq_true (by simp; omega)) (wp_getZ hkin.1 h2 (wp_guard (decide_eq_true (by simp; omega)) (wp_some ?_)))))
      rw [e2]
      have hw : IntKind.wrap .i64 ((b : Int) + 1) = ((b + 1 : Nat) : Int) := wrap_succ (n := b + 1) (by omega) (by omega)
      refine ⟨⟨b + 1, _, _, by rw [hw], by omega, by simpa using hNX, by simpa using hAC, fun s hs hsb => ?_⟩, ?_⟩
      · have hs0 := (hB.rng.rng s (rangeI_mem.2 hs)).1
        by_cases hsame : bv B s = (b : Int)
        · have he := (hB.eqv s (k : Int) (rangeI_mem.2 hs) (rangeI_mem.2 hkin)).1 (hsame.trans hbk.symm)
          dsimp only
          rw [hsame, Int.toNat_natCast, List.getElem?_append_right (by omega), List.getElem?_append_right (by omega), hNX, hAC, Nat.sub_self]
          refine ⟨?_, by rw [he.nil]; rfl⟩
          show some _ = some _
          congr 1
          refine List.map_congr_left fun c hc => ?_
          have hc' := List.mem_range.1 hc
          exact ((hB.eqv _ _ (rangeI_mem.2 (col_in h hs hc')) (rangeI_mem.2 (col_in h hkin hc'))).2 (he.step hc)).symm
        · dsimp only
          have hlt2 : bv B s < (b : Int) := by omega
          rw [List.getElem?_append_left (show (bv B s).toNat < NX.length by omega), List.getElem?_append_left (show (bv B s).toNat < AC.length by omega)]
          exact hat s hs hlt2
      · rw [hw]
        simp only [Int.toNat_natCast]
        omega
  · have hke : k = B.length := by omega
    rw [show (((k : Int)) == (B.length : Int)) = true from by simp only [beq_iff_eq]; omega]
    refine wp_bif (fun _ => wp_some ⟨NX, AC, rfl, ?_⟩) fun h => by cases h
    have hbe : b = m := by
      refine Classical.byContradiction fun hne => ?_
      obtain ⟨s, hs, e⟩ := hB.rng.onto b (by omega)
      have hs := rangeI_mem.1 hs
      have hsl : s.toNat < B.length := by omega
      exact hnone hke _ (List.getElem_mem hsl) ((bv_at hsl).trans e)
    subst hbe
    exact ⟨hB, ⟨hNX, hAC⟩, fun s hs => hat s hs (hB.rng.rng s (rangeI_mem.2 hs)).2⟩
end Go.Proofs.Ytbpdbooalkkenaa

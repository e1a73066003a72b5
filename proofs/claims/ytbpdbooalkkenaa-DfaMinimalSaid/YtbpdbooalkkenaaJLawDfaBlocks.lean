/-
  dfa: BLOCKS OF EQUIVALENT STATES (the program's way).
-/
import Derived.Test.YtbpdbooalkkenaaJLawDfaPart
set_option linter.unusedVariables false
set_option linter.unusedSimpArgs false
namespace Go.Proofs.Ytbpdbooalkkenaa
open Go Go.Av Go.Ev Go.Pl
def by2 (v : Int) : List Int := [IntKind.wrap .u8 (Int.fdiv v (2 ^ (min (Int.toNat (8 : Int)) (IntKind.bits .i64)))), IntKind.wrap .u8 v]
def tob (n : Int) : UInt8 := UInt8.ofNat n.toNat
def keyL (d : DF) (B : List Int) (s : Int) : List Int := bv B s :: (List.range d.1.length).map fun c => bv B (colS d s c)
def sigS (d : DF) (B : List Int) (s : Int) : List UInt8 := ((keyL d B s).flatMap by2).map tob
theorem tob_inj {x y : Int} (hx : 0 ≤ x ∧ x < 256) (hy : 0 ≤ y ∧ y < 256) (h : tob x = tob y) : x = y := by
  have := congrArg UInt8.toNat h
  unfold tob at this
  rw [UInt8.toNat_ofNat', UInt8.toNat_ofNat'] at this
  omega
theorem by2_eq {v : Int} (h : 0 ≤ v ∧ v < 65536) : by2 v = [v / 256, v % 256] := by
  unfold by2
  rw [wrap_u8, wrap_u8, show (2 : Int) ^ (min (Int.toNat (8 : Int)) (IntKind.bits .i64)) = 256 from rfl, Int.fdiv_eq_ediv_of_nonneg _ (by omega)]
  rw [Int.emod_eq_of_lt (show 0 ≤ v / 256 by omega) (by omega)]
theorem sig_inj : ∀ (l l' : List Int), (∀ v ∈ l, 0 ≤ v ∧ v < 65536) → (∀ v ∈ l', 0 ≤ v ∧ v < 65536) → (l.flatMap by2).map tob = (l'.flatMap by2).map tob → l = l'
  | [], [], _, _, _ => rfl
  | [], v :: l', _, h', h => by
    rw [List.flatMap_cons, by2_eq (h' v (by simp))] at h; simp at h
  | v :: l, [], h', _, h => by
    rw [List.flatMap_cons, by2_eq (h' v (by simp))] at h; simp at h
  | v :: l, u :: l', hl, hl', h => by
    have hv := hl v (by simp)
    have hu := hl' u (by simp)
    rw [List.flatMap_cons, List.flatMap_cons, by2_eq hv, by2_eq hu] at h
    simp only [List.cons_append, List.nil_append, List.map_cons, List.cons.injEq] at h
    have h1 := tob_inj (by omega) (by omega) h.1
    have h2 := tob_inj (by omega) (by omega) h.2.1
    rw [sig_inj l l' (fun x hx => hl x (List.mem_cons_of_mem _ hx)) (fun x hx => hl' x (List.mem_cons_of_mem _ hx)) h.2.2, show v = u by omega]
theorem key_ref {d : DF} {B : List Int} {s t : Int} : keyL d B s = keyL d B t ↔ Ref d B s t := by
  unfold keyL Ref
  rw [List.cons.injEq]
  refine and_congr Iff.rfl ?_
  rw [List.map_inj_left]
  exact ⟨fun h c hc => h c (List.mem_range.2 hc), fun h c hc => h c (List.mem_range.1 hc)⟩
theorem C_dfa_signature {d : DF} (h : RW d) (hk : d.1.length ≤ 16777216) {B : List Int} (hB : B.length = d.2.1.length) {s : Int} (hs : In d s) : Calls' tbl N_dfa_signature [.d (pr [.list tI, .list (.list tI), .list tB, tI]) d, .d (.list tI) B, .d tI s] [] q_dfa_signature (sigS d B s, ()) := by
  refine calls_of rfl (conv_of t_dfa_signature rfl (fun O n => x_dfa_signature O n d B s) ?_)
  unfold G_dfa_signature
  simp only
  rw [wrap_i64 (n := (2 : Int) * (d.1.length : Int)) (by omega) (by omega), wrap_i64 (by omega) (by omega)]
  have hsl : s.toNat < B.length := by have := hs.1; have := hs.2; omega
  obtain ⟨h1, e⟩ := row_at h hs
  refine wp_guard (by simp only [Bool.and_eq_true, decide_eq_true_eq]; omega) (wp_getZ hs.1 hsl (wp_guard rfl (wp_getZ hs.1 hsl (wp_guard rfl (wp_getZ hs.1 h1 ?_)))))
  rw [bv_at hsl, e]
  have hrow : ∀ i (hi : i < ((List.range d.1.length).map (colS d s)).length), ((List.range d.1.length).map (colS d s))[i] = colS d s i := fun i hi => by simp
  refine wp_bind (wp_range (N := ((List.range d.1.length).map (colS d s)).length) (I := fun i t => t = ((i : Int), (bv B s :: (List.range i).map fun c => bv B (colS d s c)).flatMap by2, ())) (by simp [by2]) ?_ ?_)
  · rintro i t hi rfl
    have hik : i < d.1.length := by simpa using hi
    have hin := col_in h hs hik
    have hcl : (colS d s i).toNat < B.length := by have := hin.1; have := hin.2; omega
    unfold L_dfa_signature_0
    refine wp_in hi (wp_get0 hi ?_)
    rw [hrow i hi]
    refine wp_getZ hin.1 hcl (wp_guard rfl (wp_getZ hin.1 hcl (wp_guard (decide_eq_true ?_) (wp_some ?_))))
    · have hfl : ((bv B s :: (List.range i).map fun c => bv B (colS d s c)).flatMap by2).length = 2 * (i + 1) := by
        rw [List.length_flatMap, show (fun a => (by2 a).length) = fun _ => 2 from rfl, List.map_const', List.sum_replicate_nat]
        simp; omega
      simp only [hfl, List.length_cons, List.length_nil]
      omega
    · rw [bv_at hcl, wrap_succ hi (by simp at hi ⊢; omega), List.range_succ, List.map_append, ← List.cons_append, List.flatMap_append]
      simp [by2]
  · rintro t rfl
    unfold L_dfa_signature_0
    refine wp_out (wp_some (wp_some ?_))
    simp only [List.length_map, List.length_range]
    rfl
def kvS : Nat → List (List UInt8) → List (List UInt8 × Int)
  | _, [] => []
  | k, x :: l => (x, (k : Int)) :: kvS (k + 1) l
theorem eqD_str (x y : List UInt8) : eqD tS x y = decide (x = y) := by
  show (x == y) = _
  by_cases h : x = y <;> simp [h]
theorem kvGetS (y : List UInt8) : ∀ (L : List (List UInt8)) (k : Nat), kvGet tS tI (kvS k L) y = if y ∈ L then some (((k + pos L y : Nat) : Int)) else none
  | [], k => by simp [kvS, kvGet]
  | x :: L, k => by
    have ih := kvGetS y L (k + 1)
    simp only [kvS, kvGet]
    rw [eqD_str y x, ih]
    by_cases h : y = x
    · subst h; simp [pos_eq]
    · have h' : x ≠ y := fun e => h e.symm
      rw [decide_eq_false h]
      have e : pos (x :: L) y = pos L y + 1 := pos_ne h'
      simp only [cond_false, List.mem_cons, h, false_or, e]
      split
      · congr 1; omega
      · rfl
theorem kvSetS (y : List UInt8) : ∀ (L : List (List UInt8)) (k : Nat), y ∉ L → kvSet tS tI (kvS k L) y (((k + L.length : Nat) : Int)) = kvS k (L ++ [y])
  | [], k, _ => by simp [kvS, kvSet]
  | x :: L, k, h => by
    have h1 : y ≠ x := fun e => h (by simp [e])
    have h2 : y ∉ L := fun e => h (by simp [e])
    have ih := kvSetS y L (k + 1) h2
    simp only [List.cons_append, kvS, kvSet]
    rw [eqD_str y x, decide_eq_false h1]
    simp only [cond_false, List.length_cons]
    rw [show k + (L.length + 1) = k + 1 + L.length by omega, ih]
theorem kvS_len : ∀ (L : List (List UInt8)) (k : Nat), (kvS k L).length = L.length
  | [], _ => rfl
  | _ :: L, k => by simp [kvS, kvS_len L (k + 1)]
theorem refine_dfa_blocks {d : DF} (h : RW d) (hk : d.1.length ≤ 16777216) {B : List Int} (hB : B.length = d.2.1.length) {l : List Int} (hl : ∀ s ∈ l, In d s) (hll : l.length ≤ 16777216) :
    Wp (fun n => loopN n (L_dfa_blocks_1 (evF tbl n) n d l) ((0 : Int), B, ([] : List (List UInt8 × Int)), List.replicate d.2.1.length 0, ())) fun r => ∃ K B', r = (kvS 0 K, B', ()) ∧ Keyed (sigS d B) l K B' ∧ B'.length = d.2.1.length := by
  refine wp_range (N := l.length) (I := fun i s => ∃ K B', s = ((i : Int), B, kvS 0 K, B', ()) ∧ Keyed (sigS d B) (l.take i) K B' ∧ B'.length = d.2.1.length) ⟨[], List.replicate d.2.1.length 0, rfl, ⟨by simp, by simp, by simp⟩, by simp⟩ ?_ ?_
  · rintro i s hi ⟨K, B', rfl, hK, hB'⟩
    have hin := hl _ (List.getElem_mem hi)
    have hbl : (l[i]).toNat < B'.length := by have := hin.1; have := hin.2; omega
    have htake : l.take (i + 1) = l.take i ++ [l[i]] := by rw [List.take_add_one, List.getElem?_eq_getElem hi]; rfl
    have hnn : ∀ s ∈ l.take i, 0 ≤ s := fun s hs => (hl s (List.mem_of_mem_take hs)).1
    have hKl := hK.len
    have hti : (l.take i).length ≤ l.length := by simp; omega
    unfold L_dfa_blocks_1
    refine wp_in hi (wp_get0 hi (wp_call (C_dfa_signature h hk hB hin) ?_))
    have hkv := kvGetS (sigS d B l[i]) K 0
    by_cases hm : sigS d B l[i] ∈ K
    · rw [if_pos hm] at hkv
      refine wp_bind (wp_bif (fun hc => by rw [hkv] at hc; simp at hc) fun _ => wp_some ?_)
      refine wp_getZ hin.1 hbl (wp_get (x := B'[(l[i]).toNat]) (List.getElem?_eq_getElem hbl) (wp_some ?_))
      rw [hkv, wrap_succ hi (by omega), htake]
      refine ⟨K, B'.set (l[i]).toNat (pos K (sigS d B l[i]) : Int), by simp, hK.old hnn hin.1 hbl hm, by simpa using hB'⟩
    · rw [if_neg hm] at hkv
      have hset := kvSetS (sigS d B l[i]) K 0 hm
      simp only [Nat.zero_add] at hset
      refine wp_bind (wp_bif (fun _ => wp_guard (decide_eq_true (by rw [kvS_len]; simp only [maxLen]; omega)) (wp_some ?_)) fun hc => by rw [hkv] at hc; simp at hc)
      refine wp_getZ hin.1 hbl (wp_get (x := B'[(l[i]).toNat]) (List.getElem?_eq_getElem hbl) (wp_some ?_))
      rw [wrap_succ hi (by omega), htake]
      refine ⟨K ++ [sigS d B l[i]], B'.set (l[i]).toNat (K.length : Int), ?_, hK.new hnn hin.1 hbl hm, by simpa using hB'⟩
      rw [← hset, kvS_len]
  · rintro s ⟨K, B', rfl, hK, hB'⟩
    rw [List.take_length] at hK
    unfold L_dfa_blocks_1
    exact wp_out (wp_some ⟨K, B', rfl, hK, hB'⟩)
theorem C_dfa_blocks {d : DF} (h : RW d) (hk : d.1.length ≤ 16777216) (hn : d.2.1.length ≤ 65536) : ∃ c : List Int × Int × Unit, (∃ m : Nat, c.2.1 = (m : Int) ∧ m ≤ d.2.1.length ∧ BlkOk d (· ∈ reachS d) c.1 m ∧ c.1.length = d.2.1.length) ∧
    Calls' tbl N_dfa_blocks [.d (pr [.list tI, .list (.list tI), .list tB, tI]) d, .d (.list tI) (reachS d)] [] q_dfa_blocks c := by
  refine calls_ex (sh := q_dfa_blocks) (fun _ => rfl) (conv_of t_dfa_blocks rfl (fun O n => x_dfa_blocks O n d (reachS d)) ?_)
  unfold G_dfa_blocks
  have hl : ∀ s ∈ reachS d, In d s := expD_in h _
  have hll : (reachS d).length ≤ d.2.1.length := expD_len h _
  have hl0 : (reachS d)[0]? = some d.2.2.2.1 := (expl_ok _).head
  have hlp : 0 < (reachS d).length := (List.getElem?_eq_some_iff.1 hl0).1
  have hP : ∀ s c, c < d.1.length → s ∈ reachS d → colS d s c ∈ reachS d := fun s c hc hs => reachS_closed h s hs c hc
  have hacc : ∀ s, In d s → ∃ h1 : s.toNat < d.2.2.1.length, d.2.2.1[s.toNat] = accS d s := fun s hs => by
    have h1 : s.toNat < d.2.2.1.length := by have := h.len.2; have := hs.1; have := hs.2; omega
    exact ⟨h1, by unfold accS; simp only [List.getD_eq_getElem?_getD, List.getElem?_eq_getElem h1, Option.getD_some]⟩
  refine wp_guard (by simp only [Bool.and_eq_true, decide_eq_true_eq]; omega) ?_
  refine wp_bind (wp_range (N := (reachS d).length) (I := fun i s => ∃ (B : List Int) (cnt : Int), s = (cnt, (i : Int), B, ()) ∧ B.length = d.2.1.length ∧
      (∀ s, 0 ≤ s → bv B s = if s ∈ (reachS d).take i ∧ accS d s ≠ accS d d.2.2.2.1 then 1 else 0) ∧
      ((cnt = 1 ∧ ∀ s ∈ (reachS d).take i, accS d s = accS d d.2.2.2.1) ∨ (cnt = 2 ∧ ∃ s ∈ (reachS d).take i, accS d s ≠ accS d d.2.2.2.1)))
    ⟨List.replicate d.2.1.length 0, 1, rfl, by simp, fun s _ => by rw [bv_zero]; simp, .inl ⟨rfl, by simp⟩⟩ ?_ ?_)
  · rintro i s hi ⟨B, cnt, rfl, hB, hbv, hcnt⟩
    have hin := hl _ (List.getElem_mem hi)
    obtain ⟨a1, a2⟩ := hacc _ hin
    obtain ⟨b1, b2⟩ := hacc _ h.start
    have htake : (reachS d).take (i + 1) = (reachS d).take i ++ [(reachS d)[i]] := by rw [List.take_add_one, List.getElem?_eq_getElem hi]; rfl
    have hbl : ((reachS d)[i]).toNat < B.length := by have := hin.1; have := hin.2; omega
    unfold L_dfa_blocks_0
    refine wp_in hi (wp_bind (wp_get0 hi (wp_getZ hin.1 a1 (wp_idx (x := d.2.2.2.1) (by simp) hl0 (wp_getZ h.start.1 b1 ?_)))))
    rw [a2, b2]
    refine wp_bif (fun hc => ?_) fun hc => wp_some (wp_some ?_)
    · have hc : accS d (reachS d)[i] ≠ accS d d.2.2.2.1 := by simpa using hc
      refine wp_getZ hin.1 hbl (wp_get (x := B[((reachS d)[i]).toNat]) (List.getElem?_eq_getElem hbl) (wp_some (wp_some ?_)))
      rw [wrap_succ hi (by omega)]
      refine ⟨_, 2, rfl, by simpa using hB, fun s hs => ?_, .inr ⟨rfl, (reachS d)[i], (by rw [htake]; exact List.mem_append_right _ (List.mem_singleton_self _)), hc⟩⟩
      rw [bv_set hin.1 hs hbl, hbv s hs, htake]
      by_cases e : s = (reachS d)[i]
      · rw [if_pos e, if_pos ⟨by rw [e]; exact List.mem_append_right _ (List.mem_singleton_self _), by rw [e]; exact hc⟩]
      · rw [if_neg e]
        have hm : s ∈ (reachS d).take i ++ [(reachS d)[i]] ↔ s ∈ (reachS d).take i := by rw [List.mem_append, List.mem_singleton]; exact ⟨fun h => h.resolve_right e, .inl⟩
        simp only [hm]
    · have hc : accS d (reachS d)[i] = accS d d.2.2.2.1 := by simpa using hc
      rw [wrap_succ hi (by omega)]
      refine ⟨B, cnt, rfl, hB, fun s hs => ?_, ?_⟩
      · rw [hbv s hs, htake]
        by_cases e : s = (reachS d)[i]
        · rw [if_neg fun h => h.2 (by rw [e]; exact hc), if_neg fun h => h.2 (by rw [e]; exact hc)]
        · have hm : s ∈ (reachS d).take i ++ [(reachS d)[i]] ↔ s ∈ (reachS d).take i := by rw [List.mem_append, List.mem_singleton]; exact ⟨fun h => h.resolve_right e, .inl⟩
          simp only [hm]
      · rw [htake]
        rcases hcnt with ⟨h1, h2⟩ | ⟨h1, s, h2, h3⟩
        · refine .inl ⟨h1, fun s hs => ?_⟩
          rcases List.mem_append.1 hs with hs | hs
          · exact h2 s hs
          · simp at hs; subst hs; exact hc
        · exact .inr ⟨h1, s, List.mem_append_left _ h2, h3⟩
  · rintro s ⟨B, cnt, rfl, hB, hbv, hcnt⟩
    rw [List.take_length] at hbv hcnt
    unfold L_dfa_blocks_0
    refine wp_out (wp_some ?_)
    have hst := reachS_start (d := d)
    have hw : Weak d (· ∈ reachS d) B := by
      refine ⟨fun s t hs ht he => ?_, fun s t hs ht he => ?_⟩
      · rw [hbv s (hl s hs).1, hbv t (hl t ht).1, he.nil]
        simp [hs, ht]
      · rw [hbv s (hl s hs).1, hbv t (hl t ht).1] at he
        simp only [hs, ht, true_and] at he
        generalize accS d d.2.2.2.1 = z at he
        cases h1 : accS d s <;> cases h2 : accS d t <;> cases z <;> simp_all
    have hg : ∃ m : Nat, cnt = (m : Int) ∧ Rng (· ∈ reachS d) B m := by
      rcases hcnt with ⟨rfl, h2⟩ | ⟨rfl, s1, h2, h3⟩
      · refine ⟨1, rfl, fun s hs => ?_, fun i hi => ⟨_, hst, ?_⟩⟩
        · rw [hbv s (hl s hs).1]; simp [h2 s hs]
        · rw [hbv _ h.start.1]; simp; omega
      · refine ⟨2, rfl, fun s hs => ?_, fun i hi => ?_⟩
        · rw [hbv s (hl s hs).1]; split <;> omega
        · rcases Nat.eq_zero_or_pos i with rfl | hp
          · exact ⟨_, hst, by rw [hbv _ h.start.1]; simp⟩
          · exact ⟨s1, h2, by rw [hbv _ (hl _ h2).1, if_pos ⟨h2, h3⟩]; omega⟩
    obtain ⟨m, rfl, hg⟩ := hg
    refine wp_bind (Go.Ev.wp_loop (σ := Int × List Int × Unit) (fun s => ∃ (m : Nat) (B : List Int), s = ((m : Int), B, ()) ∧ B.length = d.2.1.length ∧ Weak d (· ∈ reachS d) B ∧ Rng (· ∈ reachS d) B m) (fun s => d.2.1.length + 1 - s.1.toNat) ⟨m, B, rfl, hB, hw, hg⟩ ?_)
    rintro s ⟨m, B, rfl, hB, hw, hg⟩
    have hmn : m ≤ d.2.1.length := Nat.le_trans (rng_len hg) hll
    unfold L_dfa_blocks_2
    refine wp_guard (by simp only [Bool.and_eq_true, decide_eq_true_eq]; omega) (wp_bind (Wp.imp (refine_dfa_blocks h hk hB hl (by omega)) fun r hr => ?_))
    obtain ⟨K, B', rfl, hK, hB'⟩ := hr
    have hr : RefOk d (· ∈ reachS d) B B' K.length := hK.refOk fun s hs t ht => by
      rw [← key_ref]
      have hrange : ∀ s ∈ reachS d, ∀ v ∈ keyL d B s, 0 ≤ v ∧ v < 65536 := fun s hs v hv => by
        have hb : ∀ s ∈ reachS d, 0 ≤ bv B s ∧ bv B s < 65536 := fun s hs => by have := hg.rng s hs; omega
        rcases List.mem_cons.1 hv with rfl | hv
        · exact hb s hs
        · obtain ⟨c, hc, rfl⟩ := List.mem_map.1 hv
          exact hb _ (hP s c (List.mem_range.1 hc) hs)
      exact ⟨fun e => sig_inj _ _ (hrange s hs) (hrange t ht) e, fun e => by unfold sigS; rw [e]⟩
    have hgrow := ref_grow hg hr
    refine wp_bif (fun hc => wp_some (wp_some ⟨_, rfl, K.length, ?_, Nat.le_trans (rng_len hr.rng) hll, ?_, hB'⟩)) fun hc => wp_some ?_
    · rw [kvS_len] at hc
      have hc : (K.length : Int) = (m : Int) := by simpa using hc
      exact hc.symm
    · rw [kvS_len] at hc
      have hc : (K.length : Int) = (m : Int) := by simpa using hc
      have hc : K.length = m := by omega
      rw [hc] at hr ⊢
      exact ref_stop hP hw hg hr
    · rw [kvS_len] at hc ⊢
      have hc : (K.length : Int) ≠ (m : Int) := by simpa using hc
      have hK2 := rng_len hr.rng
      refine ⟨⟨K.length, B', rfl, hB', ref_weak hP hw hr, hr.rng⟩, ?_⟩
      simp only [Int.toNat_natCast]
      omega
end Go.Proofs.Ytbpdbooalkkenaa

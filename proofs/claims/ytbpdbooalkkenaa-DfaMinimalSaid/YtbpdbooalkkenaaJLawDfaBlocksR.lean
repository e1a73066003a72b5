/-
  dfa: BLOCKS OF EQUIVALENT STATES (the reference's way).
-/
import Derived.Test.YtbpdbooalkkenaaJLawDfaBlocks
set_option linter.unusedVariables false
set_option linter.unusedSimpArgs false
namespace Go.Proofs.Ytbpdbooalkkenaa
open Go Go.Av Go.Ev Go.Pl
theorem C_ref16_alike {d : DF} (h : RW d) (hk : d.1.length ≤ 16777216) {B : List Int} (hB : B.length = d.2.1.length) {s t : Int} (hs : In d s) (ht : In d t) : Calls' tbl N_ref16_alike [.d (pr [.list tI, .list (.list tI), .list tB, tI]) d, .d (.list tI) B, .d tI s, .d tI t] [] q_ref16_alike (decide (keyL d B s = keyL d B t), ()) := by
  refine calls_of rfl (conv_of t_ref16_alike rfl (fun O n => x_ref16_alike O n d B s t) ?_)
  unfold G_ref16_alike
  have hsl : s.toNat < B.length := by have := hs.1; have := hs.2; omega
  have htl : t.toNat < B.length := by have := ht.1; have := ht.2; omega
  obtain ⟨h1, e⟩ := row_at h hs
  obtain ⟨h2, e2⟩ := row_at h ht
  refine wp_getZ hs.1 hsl (wp_getZ ht.1 htl ?_)
  rw [bv_at hsl, bv_at htl]
  refine wp_bif (fun hc => wp_some ?_) fun hc => ?_
  · have hc : bv B s ≠ bv B t := by simpa using hc
    rw [decide_eq_false fun e => hc (key_ref.1 e).1]
  have hc : bv B s = bv B t := by simpa using hc
  refine wp_getZ hs.1 h1 ?_
  rw [e]
  refine wp_bind (wp_all (N := ((List.range d.1.length).map (colS d s)).length) (good := fun i => bv B (colS d s i) = bv B (colS d t i)) (e := (false, ())) (g := ()) (fun i hi => ?_) ?_ (fun hg => wp_some ?_) (fun hb => wp_some ?_))
  · have hik : i < d.1.length := by simpa using hi
    have hml : ((List.range d.1.length).map (colS d s)).length = d.1.length := by simp
    have hin := col_in h hs hik
    have hin2 := col_in h ht hik
    have hcl : (colS d s i).toNat < B.length := by have := hin.1; have := hin.2; omega
    have hcl2 : (colS d t i).toNat < B.length := by have := hin2.1; have := hin2.2; omega
    unfold L_ref16_alike_0
    refine wp_in hi (wp_getn (x := colS d s i) (by simp [hik]) (wp_getZ hin.1 hcl (wp_getZ ht.1 h2 ?_)))
    rw [e2]
    refine wp_getn (x := colS d t i) (by simp [hik]) (wp_getZ hin2.1 hcl2 (wp_stop ?_ (by rw [wrap_succ hi (by omega)])))
    rw [bv_at hcl, bv_at hcl2]
    simp
  · unfold L_ref16_alike_0
    exact wp_out (wp_some rfl)
  · rw [decide_eq_true (key_ref.2 ⟨hc, fun c hcc => hg c (by simpa using hcc)⟩)]
  · obtain ⟨i, hi, hn⟩ := hb
    rw [decide_eq_false fun e => hn ((key_ref.1 e).2 i (by simpa using hi))]
theorem find_ref16_blocks {d : DF} (h : RW d) (hk : d.1.length ≤ 16777216) {B : List Int} (hB : B.length = d.2.1.length) {s : Int} (hs : In d s) {F : List Int} (hF : ∀ x ∈ F, In d x) (hFl : F.length ≤ 16777216) (nx : List Int) (z : Int × List Int × List Int × List Int × Unit) (hz : z.1 = s) :
    Wp (fun n => loopN n (L_ref16_blocks_1 (evF tbl n) n d z) ((0 : Int), B, F, nx, ())) fun r => r = ((pos (F.map (keyL d B)) (keyL d B s) : Int), B, F, nx, ()) := by
  subst hz
  refine Go.Ev.wp_loop (σ := Int × List Int × List Int × List Int × Unit) (fun s => ∃ k : Nat, s = ((k : Int), B, F, nx, ()) ∧ k ≤ F.length ∧ ∀ j x, j < k → (F.map (keyL d B))[j]? = some x → x ≠ keyL d B z.1) (fun s => F.length - s.1.toNat) ⟨0, rfl, by omega, fun j x h => absurd h (by omega)⟩ ?_
  rintro s ⟨k, rfl, h1, h2⟩
  unfold L_ref16_blocks_1
  simp only
  by_cases hkl : k < F.length
  · have hx := List.getElem?_eq_getElem hkl
    have hxm : (F.map (keyL d B))[k]? = some (keyL d B F[k]) := by rw [List.getElem?_map, hx]; rfl
    refine wp_bind (wp_and (b := decide (keyL d B F[k] ≠ keyL d B z.1)) (fun _ => wp_get0 hkl (wp_get (x := F[k]) hx (wp_call (C_ref16_alike h hk hB hs (hF _ (List.getElem_mem hkl))) (wp_some ?_)))) ?_)
    · show (!decide (keyL d B z.1 = keyL d B F[k])) = _
      by_cases e : keyL d B z.1 = keyL d B F[k]
      · simp [e]
      · have e' : keyL d B F[k] ≠ keyL d B z.1 := fun h => e h.symm
        simp [e, e']
    · have hlt : decide ((k : Int) < (F.length : Int)) = true := decide_eq_true (by omega)
      rw [hlt, Bool.true_and]
      refine wp_bif (fun hc => wp_some ?_) fun hc => wp_some ?_
      · have hc : keyL d B F[k] ≠ keyL d B z.1 := by simpa using hc
        rw [wrap_succ hkl (by omega)]
        refine ⟨⟨k + 1, rfl, hkl, fun j x hj hx' => ?_⟩, by simp only [Int.toNat_natCast]; omega⟩
        rcases Nat.lt_succ_iff_lt_or_eq.1 hj with hl | rfl
        · exact h2 j x hl hx'
        · rw [hxm] at hx'; cases hx'; exact hc
      · have hc : keyL d B F[k] = keyL d B z.1 := by simpa using hc
        rw [pos_of (by simpa using h1) h2 fun x hx' => by rw [hxm] at hx'; cases hx'; exact hc]
  · have hlt : decide ((k : Int) < (F.length : Int)) = false := decide_eq_false (by omega)
    rw [hlt]
    refine wp_bind (wp_some (wp_some ?_))
    rw [pos_of (by simpa using h1) h2 fun x hx' => by rw [List.getElem?_eq_none (by simp; omega)] at hx'; cases hx']
theorem rangeI_at {n i : Nat} (h : i < n) : ∃ h1 : i < (rangeI n).length, (rangeI n)[i] = (i : Int) := by
  have h1 : i < (rangeI n).length := by rw [rangeI_len]; exact h
  have := rangeI_get h
  rw [List.getElem?_eq_getElem h1] at this
  exact ⟨h1, Option.some.inj this⟩
theorem refine_ref16_blocks {d : DF} (h : RW d) (hk : d.1.length ≤ 16777216) (hn : d.2.1.length ≤ 16777216) {B : List Int} (hB : B.length = d.2.1.length) :
    Wp (fun n => loopN n (L_ref16_blocks_2 (evF tbl n) n d) ((0 : Int), B, ([] : List Int), List.replicate d.2.1.length 0, ())) fun r => ∃ F B', r = (F, B', ()) ∧ Keyed (keyL d B) (rangeI d.2.1.length) (F.map (keyL d B)) B' ∧ B'.length = d.2.1.length := by
  refine wp_range (N := d.2.1.length) (I := fun i s => ∃ F B', s = ((i : Int), B, F, B', ()) ∧ Keyed (keyL d B) ((rangeI d.2.1.length).take i) (F.map (keyL d B)) B' ∧ B'.length = d.2.1.length ∧ ∀ x ∈ F, In d x) ⟨[], List.replicate d.2.1.length 0, rfl, ⟨by simp, by simp, by simp⟩, by simp, by simp⟩ ?_ ?_
  · rintro i s hi ⟨F, B', rfl, hK, hB', hF⟩
    obtain ⟨hi', ei⟩ := rangeI_at hi
    have hin : In d (i : Int) := ⟨by omega, by omega⟩
    have hbl : ((i : Int)).toNat < B'.length := by omega
    have htake : (rangeI d.2.1.length).take (i + 1) = (rangeI d.2.1.length).take i ++ [(i : Int)] := by rw [List.take_add_one, rangeI_get hi]; rfl
    have hnn : ∀ s ∈ (rangeI d.2.1.length).take i, 0 ≤ s := fun s hs => (rangeI_mem.1 (List.mem_of_mem_take hs)).1
    have hFl : F.length ≤ d.2.1.length := by
      have := hK.len
      simp only [List.length_map, List.length_take, rangeI_len] at this
      omega
    unfold L_ref16_blocks_2
    refine wp_in hi (wp_bind (Wp.imp (find_ref16_blocks h hk hB hin hF (by omega) B' _ rfl) fun r hr => ?_))
    subst hr
    simp only
    by_cases hm : keyL d B (i : Int) ∈ F.map (keyL d B)
    · have hlt := pos_lt.1 hm
      rw [List.length_map] at hlt
      have hne : ((pos (F.map (keyL d B)) (keyL d B (i : Int)) : Int) == (F.length : Int)) = false := by simp only [beq_eq_false_iff_ne]; omega
      rw [hne]
      refine wp_bind (wp_some (wp_getZ hin.1 hbl (wp_get (x := B'[((i : Int)).toNat]) (List.getElem?_eq_getElem hbl) (wp_some ?_))))
      rw [wrap_succ hi (by omega), htake]
      exact ⟨F, _, rfl, hK.old hnn hin.1 hbl hm, by simpa using hB', hF⟩
    · have hpos := pos_out hm
      rw [List.length_map] at hpos
      have heq : ((pos (F.map (keyL d B)) (keyL d B (i : Int)) : Int) == (F.length : Int)) = true := by simp only [beq_iff_eq]; omega
      rw [heq]
      refine wp_bind (wp_bif (fun _ => wp_guard (decide_eq_true (by simp; omega)) (wp_some ?_)) fun h => by cases h)
      refine wp_getZ hin.1 hbl (wp_get (x := B'[((i : Int)).toNat]) (List.getElem?_eq_getElem hbl) (wp_some ?_))
      rw [wrap_succ hi (by omega), htake]
      have hnew := hK.new hnn hin.1 hbl hm
      rw [List.length_map] at hnew
      refine ⟨F ++ [(i : Int)], _, rfl, ?_, by simpa using hB', fun x hx => ?_⟩
      · rw [hpos, List.map_append]; exact hnew
      · rcases List.mem_append.1 hx with hx | hx
        · exact hF x hx
        · simp at hx; subst hx; exact hin
  · rintro s ⟨F, B', rfl, hK, hB', _⟩
    rw [List.take_of_length_le (by rw [rangeI_len]; exact Nat.le_refl _)] at hK
    unfold L_ref16_blocks_2
    exact wp_out (wp_some ⟨F, B', rfl, hK, hB'⟩)
theorem C_ref16_blocks {d : DF} (h : RW d) (hk : d.1.length ≤ 16777216) (hn : d.2.1.length ≤ 16777216) : ∃ c : List Int × Unit, (∃ m : Nat, m ≤ d.2.1.length ∧ BlkOk d (· ∈ rangeI d.2.1.length) c.1 m ∧ c.1.length = d.2.1.length) ∧
    Calls' tbl N_ref16_blocks [.d (pr [.list tI, .list (.list tI), .list tB, tI]) d] [] q_ref16_blocks c := by
  refine calls_ex (sh := q_ref16_blocks) (fun _ => rfl) (conv_of t_ref16_blocks rfl (fun O n => x_ref16_blocks O n d) ?_)
  unfold G_ref16_blocks
  have hmem : ∀ s, s ∈ rangeI d.2.1.length ↔ In d s := fun s => rangeI_mem
  have hP : ∀ s c, c < d.1.length → s ∈ rangeI d.2.1.length → colS d s c ∈ rangeI d.2.1.length := fun s c hc hs => (hmem _).2 (col_in h ((hmem s).1 hs) hc)
  have hal := h.len.2
  refine wp_guard (by simp only [Bool.and_eq_true, decide_eq_true_eq]; omega) ?_
  refine wp_bind (wp_range (N := d.2.2.1.length) (I := fun i s => ∃ (B : List Int), s = ((i : Int), B, ()) ∧ B.length = d.2.1.length ∧ (∀ s, 0 ≤ s → bv B s = if s < (i : Int) ∧ accS d s = true then 1 else 0))
    ⟨List.replicate d.2.1.length 0, rfl, by simp, fun s hs => by rw [bv_zero, if_neg fun h => by have := h.1; omega]⟩ ?_ ?_)
  · rintro i s hi ⟨B, rfl, hB, hbv⟩
    have hin : In d (i : Int) := ⟨by omega, by omega⟩
    have hbl : ((i : Int)).toNat < B.length := by omega
    have ea : d.2.2.1[i] = accS d (i : Int) := by
      unfold accS
      simp only [Int.toNat_natCast, List.getD_eq_getElem?_getD, List.getElem?_eq_getElem hi, Option.getD_some]
    unfold L_ref16_blocks_0
    refine wp_in hi (wp_bind (wp_get0 hi ?_))
    rw [ea]
    refine wp_bif (fun hc => ?_) fun hc => wp_some (wp_some ?_)
    · refine wp_getZ hin.1 hbl (wp_get (x := B[((i : Int)).toNat]) (List.getElem?_eq_getElem hbl) (wp_some (wp_some ?_)))
      rw [wrap_succ hi (by omega)]
      refine ⟨_, rfl, by simpa using hB, fun s hs => ?_⟩
      rw [bv_set hin.1 hs hbl, hbv s hs]
      by_cases e : s = (i : Int)
      · rw [if_pos e, if_pos ⟨by omega, by rw [e]; exact hc⟩]
      · rw [if_neg e]
        have hm : s < (i : Int) ↔ s < ((i + 1 : Nat) : Int) := by omega
        simp only [hm]
    · rw [wrap_succ hi (by omega)]
      refine ⟨B, rfl, hB, fun s hs => ?_⟩
      rw [hbv s hs]
      by_cases e : s = (i : Int)
      · rw [if_neg fun h => by have := h.1; omega, if_neg fun h => by rw [e, hc] at h; exact absurd h.2 (by simp)]
      · have hm : s < (i : Int) ↔ s < ((i + 1 : Nat) : Int) := by omega
        simp only [hm]
  · rintro s ⟨B, rfl, hB, hbv⟩
    unfold L_ref16_blocks_0
    refine wp_out (wp_some ?_)
    have hw : Weak d (· ∈ rangeI d.2.1.length) B := by
      refine ⟨fun s t hs ht he => ?_, fun s t hs ht he => ?_⟩
      · have h1 := (hmem s).1 hs
        have h2 := (hmem t).1 ht
        have h1' : s < (d.2.2.1.length : Int) := by have := h1.2; omega
        have h2' : t < (d.2.2.1.length : Int) := by have := h2.2; omega
        rw [hbv s h1.1, hbv t h2.1, he.nil]
        simp [h1', h2']
      · have h1 := (hmem s).1 hs
        have h2 := (hmem t).1 ht
        have h1' : s < (d.2.2.1.length : Int) := by have := h1.2; omega
        have h2' : t < (d.2.2.1.length : Int) := by have := h2.2; omega
        rw [hbv s h1.1, hbv t h2.1] at he
        simp only [h1', h2', true_and] at he
        cases e1 : accS d s <;> cases e2 : accS d t <;> simp_all
    refine wp_bind (Go.Ev.wp_loop (σ := Int × List Int × Unit) (fun s => ∃ (m : Nat) (B : List Int), s = ((m : Int), B, ()) ∧ B.length = d.2.1.length ∧ Weak d (· ∈ rangeI d.2.1.length) B ∧ (m = 0 ∨ Rng (· ∈ rangeI d.2.1.length) B m)) (fun s => d.2.1.length + 1 - s.1.toNat) ⟨0, B, rfl, hB, hw, .inl rfl⟩ ?_)
    rintro s ⟨m, B, rfl, hB, hw, hg⟩
    unfold L_ref16_blocks_3
    refine wp_guard (by simp only [Bool.and_eq_true, decide_eq_true_eq, hB]; omega) ?_
    simp only [hB]
    refine wp_bind (Wp.imp (refine_ref16_blocks h hk hn hB) fun r hr => ?_)
    obtain ⟨F, B', rfl, hK, hB'⟩ := hr
    have hr : RefOk d (· ∈ rangeI d.2.1.length) B B' F.length := by
      have := hK.refOk (B := B) fun s hs t ht => key_ref
      rwa [List.length_map] at this
    have hr0 : 0 < F.length := by
      have h0 := (hK.num _ ((hmem _).2 h.start)).2
      have := List.length_pos_of_mem h0
      rwa [List.length_map] at this
    have hFn : F.length ≤ d.2.1.length := by have := rng_len hr.rng; rwa [rangeI_len] at this
    refine wp_bif (fun hc => wp_some (wp_some ⟨_, rfl, F.length, hFn, ?_, hB'⟩)) fun hc => wp_some ?_
    · have hc : (F.length : Int) = (m : Int) := by simpa using hc
      have hc : F.length = m := by omega
      rcases hg with rfl | hg
      · omega
      · rw [hc] at hr ⊢
        exact ref_stop hP hw hg hr
    · have hc : (F.length : Int) ≠ (m : Int) := by simpa using hc
      refine ⟨⟨F.length, B', rfl, hB', ref_weak hP hw hr, .inr hr.rng⟩, ?_⟩
      have hgrow : m ≤ F.length := by
        rcases hg with rfl | hg
        · exact Nat.zero_le _
        · exact ref_grow hg hr
      simp only [Int.toNat_natCast]
      omega
end Go.Proofs.Ytbpdbooalkkenaa

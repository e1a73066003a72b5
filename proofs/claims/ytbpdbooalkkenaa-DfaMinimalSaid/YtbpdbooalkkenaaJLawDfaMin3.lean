/-
  dfa: THE MINIMAL AUTOMATON (the program's way), 3: the function.
-/
import Derived.Test.YtbpdbooalkkenaaJLawDfaMin2
set_option linter.unusedVariables false
set_option linter.unusedSimpArgs false
namespace Go.Proofs.Ytbpdbooalkkenaa
open Go Go.Av Go.Ev Go.Pl
theorem keepB_succ {NX : List (List Int)} {c j : Nat} (hj : j < NX.length) : (decide (c = 0) || (NX.take (j + 1)).any fun r => r.getD c 0 != r.getD (c - 1) 0) = ((decide (c = 0) || (NX.take j).any fun r => r.getD c 0 != r.getD (c - 1) 0) || (NX[j].getD c 0 != NX[j].getD (c - 1) 0)) := by
  rw [List.take_add_one, List.getElem?_eq_getElem hj, List.any_append]
  simp [Bool.or_assoc]
theorem cols_dfa_minimal {d : DF} (hs : d.1.length ≤ 16777216) {NX : List (List Int)} (AC : List Bool) (st : Int) (hr : ∀ r ∈ NX, r.length = d.1.length) (hn : NX.length ≤ 16777216) :
    Wp (fun n => loopN n (L_dfa_minimal_4 (evF tbl n) n d) ((0 : Int), (0 : Int), st, ([] : List Int), NX, AC, List.replicate NX.length ([] : List Int), ()))
      fun r => r = ((0 : Int), st, ((List.range d.1.length).filter (keepB NX)).map (fun c => d.1.getD c 0), NX, AC, NX.map (fun r => ((List.range d.1.length).filter (keepB NX)).map fun c => r.getD c 0), ()) := by
  refine wp_range (N := d.1.length) (I := fun c s => s = ((c : Int), (0 : Int), st, ((List.range c).filter (keepB NX)).map (fun c => d.1.getD c 0), NX, AC, NX.map (fun r => ((List.range c).filter (keepB NX)).map fun c => r.getD c 0), ())) ?_ ?_ ?_
  · show _ = ((0 : Int), (0 : Int), st, [], NX, AC, NX.map (fun _ => []), ())
    rw [List.map_const']
  · rintro c s hc rfl
    generalize hS : ((List.range c).filter (keepB NX)).map (fun c => d.1.getD c 0) = S1
    have hSl : S1.length ≤ c := by
      rw [← hS, List.length_map]
      exact Nat.le_trans (List.length_filter_le ..) (by simp)
    generalize hg : (fun r : List Int => ((List.range c).filter (keepB NX)).map fun c => r.getD c 0) = g
    have hgl : ∀ r, (g r).length ≤ c := fun r => by
      rw [← hg, List.length_map]
      exact Nat.le_trans (List.length_filter_le ..) (by simp)
    unfold L_dfa_minimal_4
    refine wp_in hc (wp_bind (wp_get0 hc ?_))
    refine wp_bind (wp_range (N := NX.length) (I := fun j s => s = ((decide (c = 0) || (NX.take j).any fun r => r.getD c 0 != r.getD (c - 1) 0), (j : Int), (0 : Int), st, S1, NX, AC, NX.map g, ())) ?_ ?_ ?_)
    · rw [List.take_zero, List.any_nil, Bool.or_false, show (((c : Int) == (0 : Int))) = decide (c = 0) from ?_]
      · rfl
      · by_cases e : c = 0 <;> simp [e]
    · rintro j s hj rfl
      have hjl := hr _ (List.getElem_mem hj)
      unfold L_dfa_minimal_2
      refine wp_in hj (wp_get0 hj (wp_get (x := NX[j]) (List.getElem?_eq_getElem hj) ?_))
      refine wp_bind (wp_or (b := NX[j].getD c 0 != NX[j].getD (c - 1) 0) (fun hf => ?_) (wp_some ?_))
      · have h0 : 0 < c := by
          simp only [Bool.or_eq_false_iff, decide_eq_false_iff_not] at hf
          omega
        rw [wrap_pred h0 (by omega)]
        refine wp_get0 (by omega) (wp_get0 (by omega) (wp_some ?_))
        rw [getD_at (by omega), getD_at (by omega)]
      · rw [wrap_succ hj (by omega), keepB_succ hj]
    · rintro s rfl
      unfold L_dfa_minimal_2
      refine wp_out (wp_some ?_)
      rw [List.take_length]
      have hkc : (decide (c = 0) || NX.any fun r => r.getD c 0 != r.getD (c - 1) 0) = keepB NX c := rfl
      rw [hkc]
      have hfil : (List.range (c + 1)).filter (keepB NX) = (List.range c).filter (keepB NX) ++ (if keepB NX c = true then [c] else []) := by
        rw [List.range_succ, List.filter_append]
        congr 1
        cases h : keepB NX c <;> simp [h]
      refine wp_bif (fun hk => ?_) fun hk => wp_some (wp_some ?_)
      · have hk : keepB NX c = true := hk
        have hg' : (fun r : List Int => ((List.range (c + 1)).filter (keepB NX)).map fun c => r.getD c 0) = fun r => g r ++ [r.getD c 0] := by
          funext r
          rw [hfil, if_pos hk, List.map_append, ← hg]; rfl
        have hS' : ((List.range (c + 1)).filter (keepB NX)).map (fun c => d.1.getD c 0) = S1 ++ [d.1[c]] := by
          rw [hfil, if_pos hk, List.map_append, ← hS, List.map_cons, List.map_nil, getD_at hc]
        refine wp_guard (decide_eq_true (by simp; omega)) ?_
        refine wp_bind (wp_range (N := NX.length) (I := fun j s => s = ((j : Int), (0 : Int), st, S1 ++ [d.1[c]], NX, AC, (NX.take j).map (fun r => g r ++ [r.getD c 0]) ++ (NX.drop j).map g, ())) rfl ?_ ?_)
        · rintro j s hj rfl
          have hjl := hr _ (List.getElem_mem hj)
          have hgj := hgl NX[j]
          have hmx := mix_get (g := g) (g' := fun r => g r ++ [r.getD c 0]) hj
          have hml : j < ((NX.take j).map (fun r => g r ++ [r.getD c 0]) ++ (NX.drop j).map g).length := (List.getElem?_eq_some_iff.1 hmx).1
          unfold L_dfa_minimal_3
          refine wp_in hj (wp_get0 hj (wp_get (x := NX[j]) (List.getElem?_eq_getElem hj) (wp_guard (decide_eq_true (by show (0 : Int) ≤ (j : Int); omega)) ?_)))
          refine wp_get (x := g NX[j]) hmx (wp_getn hmx (wp_get (x := g NX[j]) hmx (wp_guard (by simp) (wp_get0 (by omega) (wp_guard (decide_eq_true (by simp; omega)) ?_)))))
          refine wp_getn hmx (wp_get (x := g NX[j]) hmx (wp_guard (by simp) (wp_get (x := g NX[j]) hmx (wp_some ?_))))
          have hset := mix_set (g := g) (g' := fun r => g r ++ [r.getD c 0]) hj
          simp only [getD_at (show c < NX[j].length by omega)] at hset
          rw [wrap_succ hj (by omega)]
          simp only [Int.toNat_natCast]
          rw [hset]
        · rintro s rfl
          unfold L_dfa_minimal_3
          refine wp_out (wp_some (wp_some (wp_some ?_)))
          rw [wrap_succ hc (by omega), hS', hg', List.take_length, List.drop_length, List.map_nil, List.append_nil]
      · have hk : keepB NX c = false := hk
        have hfil' : (List.range (c + 1)).filter (keepB NX) = (List.range c).filter (keepB NX) := by rw [hfil, hk]; simp
        rw [wrap_succ hc (by omega), hfil', hS, hg]
  · rintro s rfl
    unfold L_dfa_minimal_4
    exact wp_out (wp_some rfl)
theorem mk_guardB {m : Nat} {b : Int} (hb : b ≤ 24) (hm : m ≤ 65536) (h0 : 0 ≤ b) : (decide (0 ≤ (m : Int)) && decide ((m : Int) ≤ (m : Int)) && decide ((m : Int) ≤ 9223372036854775807) && decide (b * (m : Int) ≤ 281474976710656)) = true := by
  have : b * (m : Int) ≤ 24 * 65536 := Int.mul_le_mul hb (by omega) (by omega) (by omega)
  simp only [Bool.and_eq_true, decide_eq_true_eq]; omega
theorem C_dfa_minimal {d : DF} (hd : WF d) (hk : d.1.length ≤ 16777216) (hn : d.2.1.length ≤ 65536) : ∃ c : DF × Unit, ((Canon c.1 ∧ ∀ w, Valid w → accS c.1 (runD c.1 w) = accS d (runD d w)) ∧ c.1.1.length ≤ d.1.length ∧ c.1.2.1.length ≤ d.2.1.length) ∧
    Calls' tbl N_dfa_minimal [.d (pr [.list tI, .list (.list tI), .list tB, tI]) d] [] q_dfa_minimal c := by
  refine calls_ex (sh := q_dfa_minimal) (fun _ => rfl) (conv_of t_dfa_minimal rfl (fun O n => x_dfa_minimal O n d) ?_)
  unfold G_dfa_minimal
  have h := hd.rw
  have hl : ∀ s ∈ reachS d, In d s := expD_in h _
  have hll : (reachS d).length ≤ d.2.1.length := expD_len h _
  obtain ⟨⟨B, mi, _⟩, ⟨m, hmi, hm, hB, hBl⟩, hc⟩ := C_dfa_blocks h hk hn
  simp only at hmi hB hBl
  subst hmi
  have hst : d.2.2.2.1.toNat < B.length := by have := h.start.1; have := h.start.2; omega
  refine wp_call (C_dfa_reachable h (by omega) hk) (wp_call hc ?_)
  refine wp_guard (mk_guardB (m := m) (by omega) (by omega) (by omega)) (wp_guard (mk_guardB (m := m) (by omega) (by omega) (by omega)) (wp_getZ h.start.1 hst ?_))
  rw [bv_at hst]
  refine wp_bind (wp_range (N := (reachS d).length) (I := fun i s => ∃ NX AC, s = ((i : Int), (0 : Int), bv B d.2.2.2.1, NX, AC, ()) ∧ NX.length = m ∧ AC.length = m ∧
      ∀ s ∈ (reachS d).take i, NX[(bv B s).toNat]? = some ((List.range d.1.length).map fun c => bv B (colS d s c)) ∧ AC[(bv B s).toNat]? = some (accS d s))
    ⟨List.replicate m [], List.replicate m false, rfl, by simp, by simp, by simp⟩ ?_ ?_)
  · rintro i s hi ⟨NX, AC, rfl, hNX, hAC, hat⟩
    have hmem := List.getElem_mem hi
    have hin := hl _ hmem
    obtain ⟨h1, e⟩ := row_at h hin
    obtain ⟨h2, e2⟩ := acc_rw h hin
    have hbl : ((reachS d)[i]).toNat < B.length := by have := hin.1; have := hin.2; omega
    have hbr := hB.rng.rng _ hmem
    unfold L_dfa_minimal_1
    refine wp_in hi (wp_get0 hi (wp_guard (by simp only [Bool.and_eq_true, decide_eq_true_eq]; omega) (wp_getZ hin.1 h1 ?_)))
    rw [e]
    refine wp_bind (wp_range (N := d.1.length) (I := fun c s => s = ((c : Int), (0 : Int), bv B d.2.2.2.1, NX, AC, rowI d.1.length ((List.range c).map fun c => bv B (colS d (reachS d)[i] c)), ())) (by rw [List.range_zero, List.map_nil, show rowI d.1.length [] = List.replicate d.1.length 0 from by simp [rowI]]; rfl) ?_ ?_)
    · rintro c s hc rfl
      have hcin := reachS_closed h _ hmem c hc
      have hci := hl _ hcin
      have hcl : (colS d (reachS d)[i] c).toNat < B.length := by have := hci.1; have := hci.2; omega
      have hrl : (rowI d.1.length ((List.range c).map fun c => bv B (colS d (reachS d)[i] c))).length = d.1.length := rowI_len (by simp; omega)
      have hml : ((List.range d.1.length).map (colS d (reachS d)[i])).length = d.1.length := by simp
      unfold L_dfa_minimal_0
      rw [hml]
      refine wp_in hc (wp_getn (x := colS d (reachS d)[i] c) (by simp [hc]) (wp_getZ hci.1 hcl ?_))
      refine wp_get0 (by rw [hrl]; exact hc) (wp_get (x := (rowI d.1.length ((List.range c).map fun c => bv B (colS d (reachS d)[i] c)))[c]'(by rw [hrl]; exact hc)) (List.getElem?_eq_getElem _) (wp_some ?_))
      rw [wrap_succ hc (by omega), bv_at hcl]
      simp only [Int.toNat_natCast]
      rw [rowI_set (by simp) hc, List.range_succ, List.map_append]
      rfl
    · rintro s rfl
      unfold L_dfa_minimal_0
      have hml : ((List.range d.1.length).map (colS d (reachS d)[i])).length = d.1.length := by simp
      rw [hml]
      have hNl : (bv B (reachS d)[i]).toNat < NX.length := by omega
      have hAl : (bv B (reachS d)[i]).toNat < AC.length := by omega
      refine wp_out (wp_some (wp_getZ hin.1 hbl ?_))
      rw [bv_at hbl]
      refine wp_getZ hbr.1 hNl (wp_get (x := NX[(bv B (reachS d)[i]).toNat]) (List.getElem?_eq_getElem hNl) (wp_getZ hin.1 hbl ?_))
      rw [bv_at hbl]
      refine wp_getZ hin.1 h2 (wp_getZ hbr.1 hAl (wp_get (x := AC[(bv B (reachS d)[i]).toNat]) (List.getElem?_eq_getElem hAl) (wp_some ?_)))
      rw [wrap_succ hi (by omega), e2, rowI_full (by simp)]
      refine ⟨_, _, rfl, by simpa using hNX, by simpa using hAC, fun s hs => ?_⟩
      rw [List.take_add_one, List.getElem?_eq_getElem hi] at hs
      have hsm : s ∈ reachS d := by
        rcases List.mem_append.1 hs with h3 | h3
        · exact List.mem_of_mem_take h3
        · simp at h3; subst h3; exact hmem
      have hsr := hB.rng.rng s hsm
      by_cases hsame : bv B s = bv B (reachS d)[i]
      · have he := (hB.eqv s _ hsm hmem).1 hsame
        rw [hsame, List.getElem?_set_self hNl, List.getElem?_set_self hAl]
        refine ⟨?_, by rw [he.nil]⟩
        congr 1
        refine List.map_congr_left fun c hc => ?_
        have hc' := List.mem_range.1 hc
        exact ((hB.eqv _ _ (reachS_closed h s hsm c hc') (reachS_closed h _ hmem c hc')).2 (he.step hc)).symm
      · have hne : (bv B (reachS d)[i]).toNat ≠ (bv B s).toNat := fun e => hsame (by omega)
        rw [List.getElem?_set_ne hne, List.getElem?_set_ne hne]
        rcases List.mem_append.1 hs with h3 | h3
        · exact hat s h3
        · simp at h3; subst h3; exact absurd rfl hsame
  · rintro s ⟨NX, AC, rfl, hNX, hAC, hat⟩
    rw [List.take_length] at hat
    unfold L_dfa_minimal_1
    refine wp_out (wp_some ?_)
    have hQ : Quo d B m NX AC := ⟨hB, hm, ⟨hNX, hAC⟩, hat⟩
    have hQr := hQ.rw h
    refine wp_guard (mk_guardB (m := m) (by omega) (by omega) (by omega)) ?_
    have hcols := cols_dfa_minimal hk (NX := NX) AC (bv B d.2.2.2.1) (fun r hr => hQr.rows r hr) (by omega)
    rw [hNX] at hcols
    refine wp_bind (Wp.imp hcols fun r hr => ?_)
    subst hr
    have hsel := sel_rw (keepB NX) hQr
    refine wp_call (C_dfa_numbered (d := selS (d.1, NX, AC, bv B d.2.2.2.1, ()) (keepB NX)) hsel ?_ ?_) (wp_some ⟨_, rfl, hQ.canon hd, ?_, ?_⟩)
    · simp only [selS, List.length_map]
      exact Nat.le_trans (List.length_filter_le ..) (by simpa using hk)
    · simp only [selS, List.length_map]
      omega
    · simp only [renumA, selS, List.length_map]
      exact Nat.le_trans (List.length_filter_le ..) (by simp)
    · simp only [renumA, List.length_map]
      refine Nat.le_trans (expD_len hsel _) ?_
      simp only [selS, List.length_map]
      omega
end Go.Proofs.Ytbpdbooalkkenaa

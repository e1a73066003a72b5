/-
  dfa: THE MINIMAL AUTOMATON (the reference's way), 2: the function.
-/
import Derived.Test.YtbpdbooalkkenaaJLawDfaNorm
set_option linter.unusedVariables false
set_option linter.unusedSimpArgs false
namespace Go.Proofs.Ytbpdbooalkkenaa
open Go Go.Av Go.Ev Go.Pl
abbrev nI : Nat → Int := fun k => (k : Int)
theorem col_get {q : DF} (h : RW q) {s : Int} (hs : In q s) : ∃ h1 : s.toNat < q.2.1.length, ∀ c, (hc : c < q.1.length) → ∃ h2 : c < q.2.1[s.toNat].length, q.2.1[s.toNat][c] = colS q s c := by
  obtain ⟨h1, e⟩ := row_at h hs
  refine ⟨h1, fun c hc => ?_⟩
  have h2 : c < q.2.1[s.toNat].length := by rw [h.rows _ (List.getElem_mem h1)]; exact hc
  refine ⟨h2, ?_⟩
  unfold colS
  simp only [List.getD_eq_getElem?_getD, List.getElem?_eq_getElem h1, Option.getD_some, List.getElem?_eq_getElem h2]
theorem cols_ref16_Normal {q : DF} (h : RW q) (hk : q.1.length ≤ 16777216) (hn : q.2.1.length ≤ 16777216) :
    Wp (fun n => loopN n (L_ref16_Normal_4 (evF tbl n) n ((0 : Int), q.1, q.2.2.2.1, q.2.1, q.2.2.1, ()) (reachS q, ())) ((0 : Int), (0 : Int), q.1, q.2.1, q.2.2.1, q.2.2.2.1, ([] : List Int), ()))
      fun r => r = ((0 : Int), q.1, q.2.1, q.2.2.1, q.2.2.2.1, (cls q (keepR q)).map nI, ()) := by
  have hl : ∀ s ∈ reachS q, In q s := expD_in h _
  have hll : (reachS q).length ≤ q.2.1.length := expD_len h _
  refine wp_range (N := q.1.length) (I := fun c s => s = ((c : Int), (0 : Int), q.1, q.2.1, q.2.2.1, q.2.2.2.1, ((List.range c).filter (keepR q)).map nI, ())) rfl ?_ ?_
  · rintro c s hc rfl
    generalize hS : ((List.range c).filter (keepR q)).map nI = S1
    have hSl : S1.length ≤ c := by
      rw [← hS, List.length_map]
      exact Nat.le_trans (List.length_filter_le ..) (by simp)
    unfold L_ref16_Normal_4
    refine wp_in hc (wp_bind ?_)
    refine wp_bind (wp_range (N := (reachS q).length) (I := fun j s => s = ((decide (c = 0) || ((reachS q).take j).any fun s => colS q s c != colS q s (c - 1)), (j : Int), (0 : Int), q.1, q.2.1, q.2.2.1, q.2.2.2.1, S1, ())) ?_ ?_ ?_)
    · rw [List.take_zero, List.any_nil, Bool.or_false, show (((c : Int) == (0 : Int))) = decide (c = 0) from ?_]
      · rfl
      · by_cases e : c = 0 <;> simp [e]
    · rintro j s hj rfl
      have hin := hl _ (List.getElem_mem hj)
      obtain ⟨h1, hcol⟩ := col_get h hin
      unfold L_ref16_Normal_3
      refine wp_in hj (wp_get0 hj ?_)
      refine wp_bind (wp_or (b := decide (0 < c) && (colS q (reachS q)[j] c != colS q (reachS q)[j] (c - 1))) (fun hf => wp_bind (wp_and (b := colS q (reachS q)[j] c != colS q (reachS q)[j] (c - 1)) (fun h0 => ?_) (wp_some ?_))) (wp_some ?_))
      · have h0 : 0 < c := by simpa using h0
        obtain ⟨g1, e1⟩ := hcol c hc
        obtain ⟨g2, e2⟩ := hcol (c - 1) (by omega)
        rw [wrap_pred h0 (by omega)]
        refine wp_getZ hin.1 h1 (wp_get0 g1 (wp_getZ hin.1 h1 (wp_get0 g2 (wp_some ?_))))
        rw [e1, e2]
      · congr 1
        exact decide_eq_decide.2 (by omega)
      · rw [wrap_succ hj (by omega), List.take_add_one, List.getElem?_eq_getElem hj, List.any_append]
        congr 1
        by_cases e : c = 0
        · simp [e]
        · simp only [Option.toList_some, List.any_cons, List.any_nil, Bool.or_false, decide_eq_true (show 0 < c by omega), Bool.true_and, Bool.or_assoc]
    · rintro s rfl
      unfold L_ref16_Normal_3
      refine wp_out (wp_some ?_)
      rw [List.take_length]
      have hkc : (decide (c = 0) || (reachS q).any fun s => colS q s c != colS q s (c - 1)) = keepR q c := rfl
      rw [hkc]
      have hfil : (List.range (c + 1)).filter (keepR q) = (List.range c).filter (keepR q) ++ (if keepR q c = true then [c] else []) := by
        rw [List.range_succ, List.filter_append]
        congr 1
        cases h : keepR q c <;> simp [h]
      refine wp_bif (fun hkk => wp_guard (decide_eq_true (by simp; omega)) (wp_some (wp_some ?_))) fun hkk => wp_some (wp_some ?_)
      · have hkk : keepR q c = true := hkk
        rw [wrap_succ hc (by omega), hfil, if_pos hkk, List.map_append, hS]
        rfl
      · have hkk : keepR q c = false := hkk
        rw [wrap_succ hc (by omega), hfil, hkk, if_neg (by simp), List.append_nil, hS]
  · rintro s rfl
    unfold L_ref16_Normal_4
    exact wp_out (wp_some rfl)
theorem C_ref16_Normal {d : DF} (hd : WF d) (hk : d.1.length ≤ 16777216) (hn : d.2.1.length ≤ 65536) : ∃ c : DF × Unit, (Canon c.1 ∧ ∀ w, Valid w → accS c.1 (runD c.1 w) = accS d (runD d w)) ∧
    Calls' tbl N_ref16_Normal [.d (pr [.list tI, .list (.list tI), .list tB, tI]) d] [] q_ref16_Normal c := by
  refine calls_ex (sh := q_ref16_Normal) (fun _ => rfl) (conv_of t_ref16_Normal rfl (fun O n => x_ref16_Normal O n d) ?_)
  unfold G_ref16_Normal
  have h := hd.rw
  obtain ⟨⟨B, _⟩, ⟨m, hm, hB, hBl⟩, hc⟩ := C_ref16_blocks h hk (by omega)
  simp only at hB hBl
  have hst : d.2.2.2.1.toNat < B.length := by have := h.start.1; have := h.start.2; omega
  refine wp_call hc (wp_getZ h.start.1 hst ?_)
  rw [bv_at hst]
  refine wp_bind (Wp.imp (quot_ref16_Normal h hk (by omega) hm hB hBl) fun r hr => ?_)
  obtain ⟨NX, AC, rfl, hQ⟩ := hr
  have hcanon := hQ.canon hd
  have hq := hQ.rw h
  have hqn : (qD d B NX AC).2.1.length ≤ 65536 := by show NX.length ≤ _; rw [hQ.len.1]; omega
  generalize hqe : qD d B NX AC = q at hcanon hq hqn
  have e1 : d.1 = q.1 := by rw [← hqe]
  have e2 : NX = q.2.1 := by rw [← hqe]
  have e3 : AC = q.2.2.1 := by rw [← hqe]
  have e4 : bv B d.2.2.2.1 = q.2.2.2.1 := by rw [← hqe]
  rw [e4, e1, e2, e3]
  rw [e1] at hk
  have hl : ∀ s ∈ reachS q, In q s := expD_in hq _
  have hll : (reachS q).length ≤ q.2.1.length := expD_len hq _
  refine wp_call (C_ref16_reachable (d := q) hq (by omega) hk) ?_
  refine wp_bind (Wp.imp (cols_ref16_Normal hq hk (by omega)) fun r hr => ?_)
  subst hr
  simp only
  generalize hcs : cls q (keepR q) = cs at hcanon
  have hcl : cs.length ≤ q.1.length := by rw [← hcs]; exact Nat.le_trans (List.length_filter_le ..) (by simp)
  have hcb : ∀ c ∈ cs, c < q.1.length := fun c hc => by rw [← hcs] at hc; exact (cls_mem.1 hc).1
  refine wp_guard (by simp only [Bool.and_eq_true, decide_eq_true_eq]; omega) ?_
  refine wp_bind (wp_range (N := (reachS q).length) (I := fun i s => ∃ A : List Int, s = ((i : Int), (0 : Int), q.1, q.2.1, q.2.2.1, q.2.2.2.1, cs.map nI, A, ()) ∧ A.length = q.2.1.length ∧ ∀ x ∈ (reachS q).take i, bv A x = (pos (reachS q) x : Int)) ⟨List.replicate q.2.1.length 0, rfl, by simp, by simp⟩ ?_ ?_)
  · rintro i s hi ⟨A, rfl, hA, hb⟩
    have hin := hl _ (List.getElem_mem hi)
    have hbl : ((reachS q)[i]).toNat < A.length := by have := hin.1; have := hin.2; omega
    unfold L_ref16_Normal_5
    refine wp_in hi (wp_get0 hi (wp_getZ hin.1 hbl (wp_get (x := A[((reachS q)[i]).toNat]) (List.getElem?_eq_getElem hbl) (wp_some ?_))))
    rw [wrap_succ hi (by omega)]
    refine ⟨_, rfl, by simpa using hA, fun x hx => ?_⟩
    rw [List.take_add_one, List.getElem?_eq_getElem hi] at hx
    have hx0 : 0 ≤ x := by
      rcases List.mem_append.1 hx with h1 | h1
      · exact (hl x (List.mem_of_mem_take h1)).1
      · simp at h1; subst h1; exact hin.1
    rw [bv_set hin.1 hx0 hbl]
    split
    · rename_i e; rw [e, pos_at reachS_nodup hi]
    · rename_i e
      rcases List.mem_append.1 hx with h1 | h1
      · exact hb x h1
      · simp at h1; exact absurd h1 e
  · rintro s ⟨A, rfl, hA, hb⟩
    rw [List.take_length] at hb
    unfold L_ref16_Normal_5
    refine wp_out (wp_some ?_)
    have hml : (cs.map nI).length = cs.length := by simp
    have hcat : ∀ j (hj : j < cs.length), (cs.map nI)[j]? = some ((cs[j] : Nat) : Int) := fun j hj => by simp [hj]
    refine wp_bind (wp_range (N := cs.length) (I := fun j s => s = ((j : Int), (0 : Int), q.1, q.2.1, q.2.2.1, q.2.2.2.1, cs.map nI, A, (0 : Int), (cs.take j).map (fun c => q.1.getD c 0), ())) rfl ?_ ?_)
    · rintro j s hj rfl
      have hcj := hcb _ (List.getElem_mem hj)
      unfold L_ref16_Normal_6
      simp only [hml]
      refine wp_in hj (wp_getn (hcat j hj) (wp_get (x := ((cs[j] : Nat) : Int)) (hcat j hj) (wp_get0 hcj (wp_guard (decide_eq_true (by simp; omega)) (wp_some ?_)))))
      rw [wrap_succ hj (by omega), List.take_add_one, List.getElem?_eq_getElem hj, List.map_append, ← getD_at (z := 0) hcj]
      rfl
    · rintro s rfl
      unfold L_ref16_Normal_6
      simp only [hml]
      refine wp_out (wp_some ?_)
      rw [List.take_length]
      generalize hST : cs.map (fun c => q.1.getD c 0) = ST
      refine wp_bind (wp_range (N := (reachS q).length) (I := fun i s => s = ((i : Int), (0 : Int), q.1, q.2.1, q.2.2.1, q.2.2.2.1, cs.map nI, A, (0 : Int), ST, ((reachS q).take i).map (fun b => cs.map fun c => (pos (reachS q) (colS q b c) : Int)), ((reachS q).take i).map (accS q), ())) rfl ?_ ?_)
      · rintro i s hi rfl
        have hin := hl _ (List.getElem_mem hi)
        obtain ⟨h1, hcol⟩ := col_get hq hin
        obtain ⟨h2, ea⟩ := acc_rw hq hin
        generalize hNX : ((reachS q).take i).map (fun b => cs.map fun c => (pos (reachS q) (colS q b c) : Int)) = NO
        generalize hAC : ((reachS q).take i).map (accS q) = AO
        have hNl : NO.length = i := by rw [← hNX]; simp; omega
        have hAl : AO.length = i := by rw [← hAC]; simp; omega
        unfold L_ref16_Normal_8
        refine wp_in hi (wp_get0 hi ?_)
        refine wp_bind (wp_range (N := cs.length) (I := fun j s => s = ((j : Int), (0 : Int), q.1, q.2.1, q.2.2.1, q.2.2.2.1, cs.map nI, A, (0 : Int), ST, NO, AO, (cs.take j).map (fun c => (pos (reachS q) (colS q (reachS q)[i] c) : Int)), ())) rfl ?_ ?_)
        · rintro j s hj rfl
          have hcj := hcb _ (List.getElem_mem hj)
          obtain ⟨g1, eg⟩ := hcol _ hcj
          have hcin := reachS_closed hq _ (List.getElem_mem hi) _ hcj
          have hci := hl _ hcin
          have hcl2 : (colS q (reachS q)[i] cs[j]).toNat < A.length := by have := hci.1; have := hci.2; omega
          unfold L_ref16_Normal_7
          simp only [hml]
          refine wp_in hj (wp_getn (hcat j hj) (wp_get (x := ((cs[j] : Nat) : Int)) (hcat j hj) (wp_getZ hin.1 h1 (wp_get0 g1 ?_))))
          rw [eg]
          refine wp_getZ hci.1 hcl2 (wp_get (x := A[(colS q (reachS q)[i] cs[j]).toNat]) (List.getElem?_eq_getElem hcl2) (wp_guard (decide_eq_true (by simp; omega)) (wp_some ?_)))
          rw [wrap_succ hj (by omega), bv_at hcl2, hb _ hcin, List.take_add_one, List.getElem?_eq_getElem hj, List.map_append]
          rfl
        · rintro s rfl
          unfold L_ref16_Normal_7
          simp only [hml]
          refine wp_out (wp_some (wp_guard (decide_eq_true (by simp; omega)) ?_))
          simp only
          refine wp_getZ hin.1 h2 (wp_guard (decide_eq_true (by simp; omega)) (wp_some ?_))
          rw [wrap_succ hi (by omega), ea, ← hNX, ← hAC, List.take_length]
          simp only [List.take_add_one, List.getElem?_eq_getElem hi, List.map_append, Option.toList_some, List.map_cons, List.map_nil]
      · rintro s rfl
        unfold L_ref16_Normal_8
        refine wp_out (wp_some (wp_some ⟨_, rfl, ?_⟩))
        rw [List.take_length, ← hST]
        exact hcanon
end Go.Proofs.Ytbpdbooalkkenaa

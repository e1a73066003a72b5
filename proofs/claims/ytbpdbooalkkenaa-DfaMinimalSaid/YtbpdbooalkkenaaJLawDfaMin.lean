/-
  dfa: THE MINIMAL AUTOMATON (the program's way).
-/
import Derived.Test.YtbpdbooalkkenaaJLawDfaQuot
set_option linter.unusedVariables false
set_option linter.unusedSimpArgs false
namespace Go.Proofs.Ytbpdbooalkkenaa
open Go Go.Av Go.Ev Go.Pl
theorem rowZ_set' {k i : Nat} {r : List Nat} {n : Nat} (hr : r.length = i) (h : i < k) : (rowZ k r).set i (n : Int) = rowZ k (r ++ [n]) := by
  subst hr; exact rowZ_set h
theorem rowZ_len {k : Nat} {r : List Nat} (h : r.length ≤ k) : (rowZ k r).length = k := by unfold rowZ; simp; omega
theorem rowZ_full {k : Nat} {r : List Nat} (h : r.length = k) : rowZ k r = r.map fun (n : Nat) => (n : Int) := by
  unfold rowZ; rw [h]; simp
def renumA (d : DF) : DF := (d.1, (reachS d).map fun b => (List.range d.1.length).map fun c => (pos (reachS d) (colS d b c) : Int), (reachS d).map (accS d), 0, ())
theorem acc_rw {d : DF} (h : RW d) {s : Int} (hs : In d s) : ∃ h1 : s.toNat < d.2.2.1.length, d.2.2.1[s.toNat] = accS d s := by
  have h1 : s.toNat < d.2.2.1.length := by have := h.len.2; have := hs.1; have := hs.2; omega
  exact ⟨h1, by unfold accS; simp only [List.getD_eq_getElem?_getD, List.getElem?_eq_getElem h1, Option.getD_some]⟩
theorem reachS_nodup {d : DF} : (reachS d).Nodup := (expl_ok (f := colS d) (s0 := d.2.2.2.1) (ls := List.range d.1.length) _).nodup
theorem pos_at {L : List Int} (hn : L.Nodup) {i : Nat} (hi : i < L.length) : pos L L[i] = i := by
  unfold pos; exact List.Nodup.idxOf_getElem hn i hi
theorem C_dfa_numbered {d : DF} (h : RW d) (hk : d.1.length ≤ 16777216) (hn : d.2.1.length ≤ 16777216) : Calls' tbl N_dfa_numbered [.d (pr [.list tI, .list (.list tI), .list tB, tI]) d] [] q_dfa_numbered (renumA d, ()) := by
  refine calls_of rfl (conv_of t_dfa_numbered rfl (fun O n => x_dfa_numbered O n d) ?_)
  unfold G_dfa_numbered
  have hl : ∀ s ∈ reachS d, In d s := expD_in h _
  have hll : (reachS d).length ≤ d.2.1.length := expD_len h _
  refine wp_call (C_dfa_reachable h hn hk) (wp_guard (by simp only [Bool.and_eq_true, decide_eq_true_eq]; omega) ?_)
  refine wp_bind (wp_range (N := (reachS d).length) (I := fun i s => ∃ A : List Int, s = ((i : Int), (0 : Int), A, ()) ∧ A.length = d.2.1.length ∧ ∀ x ∈ (reachS d).take i, bv A x = (pos (reachS d) x : Int)) ⟨List.replicate d.2.1.length 0, rfl, by simp, by simp⟩ ?_ ?_)
  · rintro i s hi ⟨A, rfl, hA, hb⟩
    have hin := hl _ (List.getElem_mem hi)
    have hbl : ((reachS d)[i]).toNat < A.length := by have := hin.1; have := hin.2; omega
    unfold L_dfa_numbered_0
    refine wp_in hi (wp_get0 hi (wp_getZ hin.1 hbl (wp_get (x := A[((reachS d)[i]).toNat]) (List.getElem?_eq_getElem hbl) (wp_some ?_))))
    rw [wrap_succ hi (by omega)]
    refine ⟨_, rfl, by simpa using hA, fun x hx => ?_⟩
    rw [List.take_add_one, List.getElem?_eq_getElem hi] at hx
    have hx0 : 0 ≤ x := by
      rcases List.mem_append.1 hx with h1 | h1
      · exact (hl x (List.mem_of_mem_take h1)).1
      · simp at h1; subst h1; exact hin.1
    rw [bv_set hin.1 hx0 hbl]
    split
    · rename_i e; rw [e, pos_at reachS_nodup hi]
    · rename_i e
      rcases List.mem_append.1 hx with h1 | h1
      · exact hb x h1
      · simp at h1; exact absurd h1 e
  · rintro s ⟨A, rfl, hA, hb⟩
    rw [List.take_length] at hb
    unfold L_dfa_numbered_0
    refine wp_out (wp_some ?_)
    refine wp_bind (wp_range (N := (reachS d).length) (I := fun i s => s = ((i : Int), (0 : Int), A, d.1, (0 : Int), ((reachS d).take i).map (fun b => (List.range d.1.length).map fun c => (pos (reachS d) (colS d b c) : Int)), ((reachS d).take i).map (accS d), ())) rfl ?_ ?_)
    · rintro i s hi rfl
      have hin := hl _ (List.getElem_mem hi)
      obtain ⟨h1, e⟩ := row_at h hin
      obtain ⟨h2, e2⟩ := acc_rw h hin
      unfold L_dfa_numbered_2
      refine wp_in hi (wp_get0 hi (wp_guard (mk_guard (by omega)) (wp_getZ hin.1 h1 ?_)))
      rw [e]
      generalize hNX : ((reachS d).take i).map (fun b => (List.range d.1.length).map fun c => (pos (reachS d) (colS d b c) : Int)) = NX
      generalize hAC : ((reachS d).take i).map (accS d) = AC
      refine wp_bind (wp_range (N := d.1.length) (I := fun c s => s = ((c : Int), (0 : Int), A, d.1, (0 : Int), NX, AC, rowZ d.1.length ((List.range c).map fun c => pos (reachS d) (colS d (reachS d)[i] c)), ())) (by rw [List.range_zero, List.map_nil, show rowZ d.1.length [] = List.replicate d.1.length 0 from by simp [rowZ]]; rfl) ?_ ?_)
      · rintro c s hc rfl
        have hcin := reachS_closed h _ (List.getElem_mem hi) c hc
        have hci := hl _ hcin
        have hcl : (colS d (reachS d)[i] c).toNat < A.length := by have := hci.1; have := hci.2; omega
        have hrl : (rowZ d.1.length ((List.range c).map fun c => pos (reachS d) (colS d (reachS d)[i] c))).length = d.1.length := rowZ_len (by simp; omega)
        have hml : ((List.range d.1.length).map (colS d (reachS d)[i])).length = d.1.length := by simp
        unfold L_dfa_numbered_1
        rw [hml]
        refine wp_in hc (wp_getn (x := colS d (reachS d)[i] c) (by simp [hc]) (wp_getZ hci.1 hcl (wp_get (x := A[(colS d (reachS d)[i] c).toNat]) (List.getElem?_eq_getElem hcl) ?_)))
        refine wp_get0 (by rw [hrl]; exact hc) (wp_get (x := (rowZ d.1.length ((List.range c).map fun c => pos (reachS d) (colS d (reachS d)[i] c)))[c]'(by rw [hrl]; exact hc)) (List.getElem?_eq_getElem _) (wp_some ?_))
        rw [wrap_succ hc (by omega), bv_at hcl, hb _ hcin]
        simp only [Int.toNat_natCast]
        rw [rowZ_set' (by simp) hc, List.range_succ, List.map_append]
        rfl
      · rintro s rfl
        unfold L_dfa_numbered_1
        have hml : ((List.range d.1.length).map (colS d (reachS d)[i])).length = d.1.length := by simp
        rw [hml]
        refine wp_out (wp_some ?_)
        have hNl : NX.length = i := by rw [← hNX]; simp; omega
        have hAl : AC.length = i := by rw [← hAC]; simp; omega
        refine wp_guard (decide_eq_true (by simp; omega)) (wp_getZ hin.1 h2 (wp_guard (decide_eq_true (by simp; omega)) (wp_some ?_)))
        rw [wrap_succ hi (by omega), e2, rowZ_full (by simp), ← hNX, ← hAC]
        simp only [List.take_add_one, List.getElem?_eq_getElem hi, List.map_append, Option.toList_some, List.map_cons, List.map_nil, List.map_map]
        rfl
    · rintro s rfl
      unfold L_dfa_numbered_2
      refine wp_out (wp_some (wp_some ?_))
      simp only [List.take_length]
      rfl
end Go.Proofs.Ytbpdbooalkkenaa

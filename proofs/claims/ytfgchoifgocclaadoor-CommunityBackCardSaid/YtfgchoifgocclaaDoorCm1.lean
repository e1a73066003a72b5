/-
  THE WALKS: lists of communities.
-/
import Derived.Test.YtfgchoifgocclaaDoorCmCode
import Derived.Test.YtfgchoifgocclaaDoorAv22
import Derived.Test.YtfgchoifgocclaaDoorCmLaw
set_option linter.unusedSimpArgs false
namespace Go.Proofs.YtfgchoifgocclaaDoor
open Go Go.Av Go.Cm

theorem hm : Tryd.prog.follows .mixedOrders = true := by kernel_rfl

abbrev u32s (l : List Int) : PV := lst 1 (l.map fun x => .sc (.int .u32 x))

theorem take_succ_mem {l : List Int} {x : Int} {k : Nat} (hk : k < l.length) (h : x ∉ l.take k) (hx : l.getD k 0 ≠ x) : x ∉ l.take (k + 1) := by
  rw [take_succ_getD hk]
  simp only [List.mem_append, List.mem_singleton, not_or]
  exact ⟨h, fun h => hx h.symm⟩
theorem getD_mem' {l : List Int} {k : Nat} (hk : k < l.length) : l.getD k 0 ∈ l := by
  rw [getD_eq _ _ _ hk]; exact List.getElem_mem hk

theorem has_t (l : List Int) (x : Int) (hl : l.length ≤ 9223372036854775807) : PCalls Tryd.prog 33 [u32s l, nv .u32 x] (· = bv (l.contains x)) := by
  refine e33.calls hm (Nat.le_of_ble_eq_true rfl) ?_
  unfold c33
  refine rgs ?_
  simp only [↓r33_0, argFr, ↓XS, ↓XD, ↓XZ, ↓AB, ↓AZ, ↓AL, ↓AG, AK, stp_eq, stv_eq, Nat.reduceAdd, Nat.reduceSub, Nat.reduceMul, Nat.reduceEqDiff, Nat.reduceLT, Nat.reduceLeDiff, ↓reduceIte, reduceCtorEq, true_and, and_true, Bool.not_true, Bool.not_false, Option.some.injEq, true_implies, false_implies, implies_true, ne_eq, not_true_eq_false, not_false_eq_true, Bool.false_eq_true, Bool.true_eq_false, List.length_cons, List.length_nil, List.cons_append, List.nil_append, List.map_cons, List.map_nil, List.mem_singleton, forall_eq, List.set_cons_zero, List.set_cons_succ, List.append_assoc, List.length_append, or_false, false_or, ofCells, List.headD_cons, List.drop_succ_cons, List.drop_zero, List.take_succ_cons, List.take_zero, Int.toNat_natCast, false_and, and_false, List.nil_append]
  refine W.mk (seqA (rgs ?_))
  simp only [↓r33_1, List.length_map, ↓XS, ↓XD, ↓XZ, ↓AB, ↓AZ, ↓AL, ↓AG, AK, stp_eq, stv_eq, Nat.reduceAdd, Nat.reduceSub, Nat.reduceMul, Nat.reduceEqDiff, Nat.reduceLT, Nat.reduceLeDiff, ↓reduceIte, reduceCtorEq, true_and, and_true, Bool.not_true, Bool.not_false, Option.some.injEq, true_implies, false_implies, implies_true, ne_eq, not_true_eq_false, not_false_eq_true, Bool.false_eq_true, Bool.true_eq_false, List.length_cons, List.length_nil, List.cons_append, List.nil_append, List.map_cons, List.map_nil, List.mem_singleton, forall_eq, List.set_cons_zero, List.set_cons_succ, List.append_assoc, List.length_append, or_false, false_or, ofCells, List.headD_cons, List.drop_succ_cons, List.drop_zero, List.take_succ_cons, List.take_zero, Int.toNat_natCast, false_and, and_false, List.nil_append]
  refine W.mk (lpsI (fun k : Nat => ⟨[(9, .v (.int .i64 k)), (8, .v (.int .i64 l.length)), (7, .p (u32s l)), (1, .v (.int .u32 x))], []⟩) (fun k => k ≤ l.length ∧ x ∉ l.take k) (fun k => l.length - k) 0 ⟨Nat.zero_le _, by simp⟩ (weak_fr ?_) fun k ⟨hk, hx⟩ => ?_)
  · simp [subFr, AZ]
  unfold l33_0
  refine rgs ?_
  simp only [↓r33_2, ↓XS, ↓XD, ↓XZ, ↓AB, ↓AZ, ↓AL, ↓AG, AK, stp_eq, stv_eq, Nat.reduceAdd, Nat.reduceSub, Nat.reduceMul, Nat.reduceEqDiff, Nat.reduceLT, Nat.reduceLeDiff, ↓reduceIte, reduceCtorEq, true_and, and_true, Bool.not_true, Bool.not_false, Option.some.injEq, true_implies, false_implies, implies_true, ne_eq, not_true_eq_false, not_false_eq_true, Bool.false_eq_true, Bool.true_eq_false, List.length_cons, List.length_nil, List.cons_append, List.nil_append, List.map_cons, List.map_nil, List.mem_singleton, forall_eq, List.set_cons_zero, List.set_cons_succ, List.append_assoc, List.length_append, or_false, false_or, ofCells, List.headD_cons, List.drop_succ_cons, List.drop_zero, List.take_succ_cons, List.take_zero, Int.toNat_natCast, false_and, and_false, List.nil_append]
  refine W.mk (cdsD rfl (fun hlt => sks (W.mk ?_)) (fun hge => exs (brk ?_)))
  · refine bls (rgs ?_)
    simp only [↓r33_3, List.length_map, Int.toNat_natCast, ↓XS, ↓XD, ↓XZ, ↓AB, ↓AZ, ↓AL, ↓AG, AK, stp_eq, stv_eq, Nat.reduceAdd, Nat.reduceSub, Nat.reduceMul, Nat.reduceEqDiff, Nat.reduceLT, Nat.reduceLeDiff, ↓reduceIte, reduceCtorEq, true_and, and_true, Bool.not_true, Bool.not_false, Option.some.injEq, true_implies, false_implies, implies_true, ne_eq, not_true_eq_false, not_false_eq_true, Bool.false_eq_true, Bool.true_eq_false, List.length_cons, List.length_nil, List.cons_append, List.nil_append, List.map_cons, List.map_nil, List.mem_singleton, forall_eq, List.set_cons_zero, List.set_cons_succ, List.append_assoc, List.length_append, or_false, false_or, ofCells, List.headD_cons, List.drop_succ_cons, List.drop_zero, List.take_succ_cons, List.take_zero, Int.toNat_natCast, false_and, and_false, List.nil_append]
    refine ⟨by omega, hlt, ?_⟩
    rw [getD_map _ _ 0 _ (by omega)]
    simp only [PV.isAgg, PV.cells, ↓XS, ↓XD, ↓XZ, ↓AB, ↓AZ, ↓AL, ↓AG, AK, stp_eq, stv_eq, Nat.reduceAdd, Nat.reduceSub, Nat.reduceMul, Nat.reduceEqDiff, Nat.reduceLT, Nat.reduceLeDiff, ↓reduceIte, reduceCtorEq, true_and, and_true, Bool.not_true, Bool.not_false, Option.some.injEq, true_implies, false_implies, implies_true, ne_eq, not_true_eq_false, not_false_eq_true, Bool.false_eq_true, Bool.true_eq_false, List.length_cons, List.length_nil, List.cons_append, List.nil_append, List.map_cons, List.map_nil, List.mem_singleton, forall_eq, List.set_cons_zero, List.set_cons_succ, List.append_assoc, List.length_append, or_false, false_or, ofCells, List.headD_cons, List.drop_succ_cons, List.drop_zero, List.take_succ_cons, List.take_zero, Int.toNat_natCast, false_and, and_false, List.nil_append]
    refine W.mk (rgs ?_)
    simp only [↓r33_4, ↓XS, ↓XD, ↓XZ, ↓AB, ↓AZ, ↓AL, ↓AG, AK, stp_eq, stv_eq, Nat.reduceAdd, Nat.reduceSub, Nat.reduceMul, Nat.reduceEqDiff, Nat.reduceLT, Nat.reduceLeDiff, ↓reduceIte, reduceCtorEq, true_and, and_true, Bool.not_true, Bool.not_false, Option.some.injEq, true_implies, false_implies, implies_true, ne_eq, not_true_eq_false, not_false_eq_true, Bool.false_eq_true, Bool.true_eq_false, List.length_cons, List.length_nil, List.cons_append, List.nil_append, List.map_cons, List.map_nil, List.mem_singleton, forall_eq, List.set_cons_zero, List.set_cons_succ, List.append_assoc, List.length_append, or_false, false_or, ofCells, List.headD_cons, List.drop_succ_cons, List.drop_zero, List.take_succ_cons, List.take_zero, Int.toNat_natCast, false_and, and_false, List.nil_append]
    refine W.mk (cdE rfl (fun he => ?_) (fun hne => ?_))
    · refine rgs ?_
      simp only [↓r33_5, ↓XS, ↓XD, ↓XZ, ↓AB, ↓AZ, ↓AL, ↓AG, AK, stp_eq, stv_eq, Nat.reduceAdd, Nat.reduceSub, Nat.reduceMul, Nat.reduceEqDiff, Nat.reduceLT, Nat.reduceLeDiff, ↓reduceIte, reduceCtorEq, true_and, and_true, Bool.not_true, Bool.not_false, Option.some.injEq, true_implies, false_implies, implies_true, ne_eq, not_true_eq_false, not_false_eq_true, Bool.false_eq_true, Bool.true_eq_false, List.length_cons, List.length_nil, List.cons_append, List.nil_append, List.map_cons, List.map_nil, List.mem_singleton, forall_eq, List.set_cons_zero, List.set_cons_succ, List.append_assoc, List.length_append, or_false, false_or, ofCells, List.headD_cons, List.drop_succ_cons, List.drop_zero, List.take_succ_cons, List.take_zero, Int.toNat_natCast, false_and, and_false, List.nil_append]
      refine W.mk (fp_ret _ rfl ?_)
      have : x ∈ l := he ▸ getD_mem' (by omega)
      simpa using this
    · refine awp_skip (block_normal (then_normal (rg ?_)))
      simp only [↓r33_6, ↓XS, ↓XD, ↓XZ, ↓AB, ↓AZ, ↓AL, ↓AG, AK, stp_eq, stv_eq, Nat.reduceAdd, Nat.reduceSub, Nat.reduceMul, Nat.reduceEqDiff, Nat.reduceLT, Nat.reduceLeDiff, ↓reduceIte, reduceCtorEq, true_and, and_true, Bool.not_true, Bool.not_false, Option.some.injEq, true_implies, false_implies, implies_true, ne_eq, not_true_eq_false, not_false_eq_true, Bool.false_eq_true, Bool.true_eq_false, List.length_cons, List.length_nil, List.cons_append, List.nil_append, List.map_cons, List.map_nil, List.mem_singleton, forall_eq, List.set_cons_zero, List.set_cons_succ, List.append_assoc, List.length_append, or_false, false_or, ofCells, List.headD_cons, List.drop_succ_cons, List.drop_zero, List.take_succ_cons, List.take_zero, Int.toNat_natCast, false_and, and_false, List.nil_append]
      refine agn (k + 1) ⟨by omega, take_succ_mem (by omega) hx hne⟩ (by omega) (weak_fr ?_)
      simp [subFr, AZ]
      exact wr64 (by omega) (by omega)
  · refine then_normal (rgs ?_)
    simp only [↓r33_7, ↓XS, ↓XD, ↓XZ, ↓AB, ↓AZ, ↓AL, ↓AG, AK, stp_eq, stv_eq, Nat.reduceAdd, Nat.reduceSub, Nat.reduceMul, Nat.reduceEqDiff, Nat.reduceLT, Nat.reduceLeDiff, ↓reduceIte, reduceCtorEq, true_and, and_true, Bool.not_true, Bool.not_false, Option.some.injEq, true_implies, false_implies, implies_true, ne_eq, not_true_eq_false, not_false_eq_true, Bool.false_eq_true, Bool.true_eq_false, List.length_cons, List.length_nil, List.cons_append, List.nil_append, List.map_cons, List.map_nil, List.mem_singleton, forall_eq, List.set_cons_zero, List.set_cons_succ, List.append_assoc, List.length_append, or_false, false_or, ofCells, List.headD_cons, List.drop_succ_cons, List.drop_zero, List.take_succ_cons, List.take_zero, Int.toNat_natCast, false_and, and_false, List.nil_append]
    refine W.mk (fp_ret _ rfl ?_)
    have : k = l.length := by omega
    rw [this, List.take_length] at hx
    simpa using hx

theorem refHas_t (l : List Int) (x : Int) (hl : l.length ≤ 9223372036854775807) : PCalls Tryd.prog 17 [u32s l, nv .u32 x] (· = bv (l.contains x)) := by
  refine e17.calls hm (Nat.le_of_ble_eq_true rfl) ?_
  unfold c17
  refine rgs ?_
  simp only [↓r17_0, argFr, ↓XS, ↓XD, ↓XZ, ↓AB, ↓AZ, ↓AL, ↓AG, AK, stp_eq, stv_eq, Nat.reduceAdd, Nat.reduceSub, Nat.reduceMul, Nat.reduceEqDiff, Nat.reduceLT, Nat.reduceLeDiff, ↓reduceIte, reduceCtorEq, true_and, and_true, Bool.not_true, Bool.not_false, Option.some.injEq, true_implies, false_implies, implies_true, ne_eq, not_true_eq_false, not_false_eq_true, Bool.false_eq_true, Bool.true_eq_false, List.length_cons, List.length_nil, List.cons_append, List.nil_append, List.map_cons, List.map_nil, List.mem_singleton, forall_eq, List.set_cons_zero, List.set_cons_succ, List.append_assoc, List.length_append, or_false, false_or, ofCells, List.headD_cons, List.drop_succ_cons, List.drop_zero, List.take_succ_cons, List.take_zero, Int.toNat_natCast, false_and, and_false, List.nil_append]
  refine W.mk (seqA (rgs ?_))
  simp only [↓r17_1, List.length_map, ↓XS, ↓XD, ↓XZ, ↓AB, ↓AZ, ↓AL, ↓AG, AK, stp_eq, stv_eq, Nat.reduceAdd, Nat.reduceSub, Nat.reduceMul, Nat.reduceEqDiff, Nat.reduceLT, Nat.reduceLeDiff, ↓reduceIte, reduceCtorEq, true_and, and_true, Bool.not_true, Bool.not_false, Option.some.injEq, true_implies, false_implies, implies_true, ne_eq, not_true_eq_false, not_false_eq_true, Bool.false_eq_true, Bool.true_eq_false, List.length_cons, List.length_nil, List.cons_append, List.nil_append, List.map_cons, List.map_nil, List.mem_singleton, forall_eq, List.set_cons_zero, List.set_cons_succ, List.append_assoc, List.length_append, or_false, false_or, ofCells, List.headD_cons, List.drop_succ_cons, List.drop_zero, List.take_succ_cons, List.take_zero, Int.toNat_natCast, false_and, and_false, List.nil_append]
  refine W.mk (lpsI (fun k : Nat => ⟨[(9, .v (.int .i64 k)), (8, .v (.int .i64 l.length)), (7, .p (u32s l)), (1, .v (.int .u32 x))], []⟩) (fun k => k ≤ l.length ∧ x ∉ l.take k) (fun k => l.length - k) 0 ⟨Nat.zero_le _, by simp⟩ (weak_fr ?_) fun k ⟨hk, hx⟩ => ?_)
  · simp [subFr, AZ]
  unfold l17_0
  refine rgs ?_
  simp only [↓r17_2, ↓XS, ↓XD, ↓XZ, ↓AB, ↓AZ, ↓AL, ↓AG, AK, stp_eq, stv_eq, Nat.reduceAdd, Nat.reduceSub, Nat.reduceMul, Nat.reduceEqDiff, Nat.reduceLT, Nat.reduceLeDiff, ↓reduceIte, reduceCtorEq, true_and, and_true, Bool.not_true, Bool.not_false, Option.some.injEq, true_implies, false_implies, implies_true, ne_eq, not_true_eq_false, not_false_eq_true, Bool.false_eq_true, Bool.true_eq_false, List.length_cons, List.length_nil, List.cons_append, List.nil_append, List.map_cons, List.map_nil, List.mem_singleton, forall_eq, List.set_cons_zero, List.set_cons_succ, List.append_assoc, List.length_append, or_false, false_or, ofCells, List.headD_cons, List.drop_succ_cons, List.drop_zero, List.take_succ_cons, List.take_zero, Int.toNat_natCast, false_and, and_false, List.nil_append]
  refine W.mk (cdsD rfl (fun hlt => sks (W.mk ?_)) (fun hge => exs (brk ?_)))
  · refine bls (rgs ?_)
    simp only [↓r17_3, List.length_map, Int.toNat_natCast, ↓XS, ↓XD, ↓XZ, ↓AB, ↓AZ, ↓AL, ↓AG, AK, stp_eq, stv_eq, Nat.reduceAdd, Nat.reduceSub, Nat.reduceMul, Nat.reduceEqDiff, Nat.reduceLT, Nat.reduceLeDiff, ↓reduceIte, reduceCtorEq, true_and, and_true, Bool.not_true, Bool.not_false, Option.some.injEq, true_implies, false_implies, implies_true, ne_eq, not_true_eq_false, not_false_eq_true, Bool.false_eq_true, Bool.true_eq_false, List.length_cons, List.length_nil, List.cons_append, List.nil_append, List.map_cons, List.map_nil, List.mem_singleton, forall_eq, List.set_cons_zero, List.set_cons_succ, List.append_assoc, List.length_append, or_false, false_or, ofCells, List.headD_cons, List.drop_succ_cons, List.drop_zero, List.take_succ_cons, List.take_zero, Int.toNat_natCast, false_and, and_false, List.nil_append]
    refine ⟨by omega, hlt, ?_⟩
    rw [getD_map _ _ 0 _ (by omega)]
    simp only [PV.isAgg, PV.cells, ↓XS, ↓XD, ↓XZ, ↓AB, ↓AZ, ↓AL, ↓AG, AK, stp_eq, stv_eq, Nat.reduceAdd, Nat.reduceSub, Nat.reduceMul, Nat.reduceEqDiff, Nat.reduceLT, Nat.reduceLeDiff, ↓reduceIte, reduceCtorEq, true_and, and_true, Bool.not_true, Bool.not_false, Option.some.injEq, true_implies, false_implies, implies_true, ne_eq, not_true_eq_false, not_false_eq_true, Bool.false_eq_true, Bool.true_eq_false, List.length_cons, List.length_nil, List.cons_append, List.nil_append, List.map_cons, List.map_nil, List.mem_singleton, forall_eq, List.set_cons_zero, List.set_cons_succ, List.append_assoc, List.length_append, or_false, false_or, ofCells, List.headD_cons, List.drop_succ_cons, List.drop_zero, List.take_succ_cons, List.take_zero, Int.toNat_natCast, false_and, and_false, List.nil_append]
    refine W.mk (rgs ?_)
    simp only [↓r17_4, ↓XS, ↓XD, ↓XZ, ↓AB, ↓AZ, ↓AL, ↓AG, AK, stp_eq, stv_eq, Nat.reduceAdd, Nat.reduceSub, Nat.reduceMul, Nat.reduceEqDiff, Nat.reduceLT, Nat.reduceLeDiff, ↓reduceIte, reduceCtorEq, true_and, and_true, Bool.not_true, Bool.not_false, Option.some.injEq, true_implies, false_implies, implies_true, ne_eq, not_true_eq_false, not_false_eq_true, Bool.false_eq_true, Bool.true_eq_false, List.length_cons, List.length_nil, List.cons_append, List.nil_append, List.map_cons, List.map_nil, List.mem_singleton, forall_eq, List.set_cons_zero, List.set_cons_succ, List.append_assoc, List.length_append, or_false, false_or, ofCells, List.headD_cons, List.drop_succ_cons, List.drop_zero, List.take_succ_cons, List.take_zero, Int.toNat_natCast, false_and, and_false, List.nil_append]
    refine W.mk (cdE rfl (fun he => ?_) (fun hne => ?_))
    · refine rgs ?_
      simp only [↓r17_5, ↓XS, ↓XD, ↓XZ, ↓AB, ↓AZ, ↓AL, ↓AG, AK, stp_eq, stv_eq, Nat.reduceAdd, Nat.reduceSub, Nat.reduceMul, Nat.reduceEqDiff, Nat.reduceLT, Nat.reduceLeDiff, ↓reduceIte, reduceCtorEq, true_and, and_true, Bool.not_true, Bool.not_false, Option.some.injEq, true_implies, false_implies, implies_true, ne_eq, not_true_eq_false, not_false_eq_true, Bool.false_eq_true, Bool.true_eq_false, List.length_cons, List.length_nil, List.cons_append, List.nil_append, List.map_cons, List.map_nil, List.mem_singleton, forall_eq, List.set_cons_zero, List.set_cons_succ, List.append_assoc, List.length_append, or_false, false_or, ofCells, List.headD_cons, List.drop_succ_cons, List.drop_zero, List.take_succ_cons, List.take_zero, Int.toNat_natCast, false_and, and_false, List.nil_append]
      refine W.mk (fp_ret _ rfl ?_)
      have : x ∈ l := he ▸ getD_mem' (by omega)
      simpa using this
    · refine awp_skip (block_normal (then_normal (rg ?_)))
      simp only [↓r17_6, ↓XS, ↓XD, ↓XZ, ↓AB, ↓AZ, ↓AL, ↓AG, AK, stp_eq, stv_eq, Nat.reduceAdd, Nat.reduceSub, Nat.reduceMul, Nat.reduceEqDiff, Nat.reduceLT, Nat.reduceLeDiff, ↓reduceIte, reduceCtorEq, true_and, and_true, Bool.not_true, Bool.not_false, Option.some.injEq, true_implies, false_implies, implies_true, ne_eq, not_true_eq_false, not_false_eq_true, Bool.false_eq_true, Bool.true_eq_false, List.length_cons, List.length_nil, List.cons_append, List.nil_append, List.map_cons, List.map_nil, List.mem_singleton, forall_eq, List.set_cons_zero, List.set_cons_succ, List.append_assoc, List.length_append, or_false, false_or, ofCells, List.headD_cons, List.drop_succ_cons, List.drop_zero, List.take_succ_cons, List.take_zero, Int.toNat_natCast, false_and, and_false, List.nil_append]
      refine agn (k + 1) ⟨by omega, take_succ_mem (by omega) hx hne⟩ (by omega) (weak_fr ?_)
      simp [subFr, AZ]
      exact wr64 (by omega) (by omega)
  · refine then_normal (rgs ?_)
    simp only [↓r17_7, ↓XS, ↓XD, ↓XZ, ↓AB, ↓AZ, ↓AL, ↓AG, AK, stp_eq, stv_eq, Nat.reduceAdd, Nat.reduceSub, Nat.reduceMul, Nat.reduceEqDiff, Nat.reduceLT, Nat.reduceLeDiff, ↓reduceIte, reduceCtorEq, true_and, and_true, Bool.not_true, Bool.not_false, Option.some.injEq, true_implies, false_implies, implies_true, ne_eq, not_true_eq_false, not_false_eq_true, Bool.false_eq_true, Bool.true_eq_false, List.length_cons, List.length_nil, List.cons_append, List.nil_append, List.map_cons, List.map_nil, List.mem_singleton, forall_eq, List.set_cons_zero, List.set_cons_succ, List.append_assoc, List.length_append, or_false, false_or, ofCells, List.headD_cons, List.drop_succ_cons, List.drop_zero, List.take_succ_cons, List.take_zero, Int.toNat_natCast, false_and, and_false, List.nil_append]
    refine W.mk (fp_ret _ rfl ?_)
    have : k = l.length := by omega
    rw [this, List.take_length] at hx
    simpa using hx

theorem insert_t (l : List Int) (x : Int) (hl : l.length ≤ 1073741824) : PCalls Tryd.prog 35 [u32s l, nv .u32 x] (· = u32s (ins x l)) := by
  refine e35.calls hm (Nat.le_of_ble_eq_true rfl) ?_
  unfold c35
  refine rgs ?_
  simp only [↓r35_0, argFr, ↓XS, ↓XD, ↓XZ, ↓AB, ↓AZ, ↓AL, ↓AG, AK, stp_eq, stv_eq, Nat.reduceAdd, Nat.reduceSub, Nat.reduceMul, Nat.reduceEqDiff, Nat.reduceLT, Nat.reduceLeDiff, ↓reduceIte, reduceCtorEq, true_and, and_true, Bool.not_true, Bool.not_false, Option.some.injEq, true_implies, false_implies, implies_true, ne_eq, not_true_eq_false, not_false_eq_true, Bool.false_eq_true, Bool.true_eq_false, List.length_cons, List.length_nil, List.cons_append, List.nil_append, List.map_cons, List.map_nil, List.mem_singleton, forall_eq, List.set_cons_zero, List.set_cons_succ, List.append_assoc, List.length_append, or_false, false_or, ofCells, List.headD_cons, List.drop_succ_cons, List.drop_zero, List.take_succ_cons, List.take_zero, Int.toNat_natCast, false_and, and_false, List.nil_append]
  refine W.mk (rgs ?_)
  simp only [↓r35_1, List.length_map, ↓XS, ↓XD, ↓XZ, ↓AB, ↓AZ, ↓AL, ↓AG, AK, stp_eq, stv_eq, Nat.reduceAdd, Nat.reduceSub, Nat.reduceMul, Nat.reduceEqDiff, Nat.reduceLT, Nat.reduceLeDiff, ↓reduceIte, reduceCtorEq, true_and, and_true, Bool.not_true, Bool.not_false, Option.some.injEq, true_implies, false_implies, implies_true, ne_eq, not_true_eq_false, not_false_eq_true, Bool.false_eq_true, Bool.true_eq_false, List.length_cons, List.length_nil, List.cons_append, List.nil_append, List.map_cons, List.map_nil, List.mem_singleton, forall_eq, List.set_cons_zero, List.set_cons_succ, List.append_assoc, List.length_append, or_false, false_or, ofCells, List.headD_cons, List.drop_succ_cons, List.drop_zero, List.take_succ_cons, List.take_zero, Int.toNat_natCast, false_and, and_false, List.nil_append]
  rw [wr64 (by omega) (by omega)]
  refine ⟨by omega, by omega, by omega, by omega, rfl, rfl, ?_⟩
  refine W.mk (rgs ?_)
  simp only [↓r35_2, ↓XS, ↓XD, ↓XZ, ↓AB, ↓AZ, ↓AL, ↓AG, AK, stp_eq, stv_eq, Nat.reduceAdd, Nat.reduceSub, Nat.reduceMul, Nat.reduceEqDiff, Nat.reduceLT, Nat.reduceLeDiff, ↓reduceIte, reduceCtorEq, true_and, and_true, Bool.not_true, Bool.not_false, Option.some.injEq, true_implies, false_implies, implies_true, ne_eq, not_true_eq_false, not_false_eq_true, Bool.false_eq_true, Bool.true_eq_false, List.length_cons, List.length_nil, List.cons_append, List.nil_append, List.map_cons, List.map_nil, List.mem_singleton, forall_eq, List.set_cons_zero, List.set_cons_succ, List.append_assoc, List.length_append, or_false, false_or, ofCells, List.headD_cons, List.drop_succ_cons, List.drop_zero, List.take_succ_cons, List.take_zero, Int.toNat_natCast, false_and, and_false, List.nil_append]
  refine W.mk (seqA (rgs ?_))
  simp only [↓r35_3, List.length_map, ↓XS, ↓XD, ↓XZ, ↓AB, ↓AZ, ↓AL, ↓AG, AK, stp_eq, stv_eq, Nat.reduceAdd, Nat.reduceSub, Nat.reduceMul, Nat.reduceEqDiff, Nat.reduceLT, Nat.reduceLeDiff, ↓reduceIte, reduceCtorEq, true_and, and_true, Bool.not_true, Bool.not_false, Option.some.injEq, true_implies, false_implies, implies_true, ne_eq, not_true_eq_false, not_false_eq_true, Bool.false_eq_true, Bool.true_eq_false, List.length_cons, List.length_nil, List.cons_append, List.nil_append, List.map_cons, List.map_nil, List.mem_singleton, forall_eq, List.set_cons_zero, List.set_cons_succ, List.append_assoc, List.length_append, or_false, false_or, ofCells, List.headD_cons, List.drop_succ_cons, List.drop_zero, List.take_succ_cons, List.take_zero, Int.toNat_natCast, false_and, and_false, List.nil_append]
  refine W.mk (lpsI (fun i : Nat × Bool × List Int => ⟨[(15, .v (.int .i64 i.1)), (14, .v (.int .i64 l.length)), (13, .p (u32s l)), (6, .v (.bool i.2.1)), (5, .b (.sl 0)), (1, .v (.int .u32 x))], [.vec 27 1 (i.2.2.map fun x => .sc (.int .u32 x))]⟩)
    (fun i => i.1 ≤ l.length ∧ i.2.2 ++ insGo x (l.drop i.1) i.2.1 = ins x l ∧ i.2.2.length ≤ 2 * i.1) (fun i => l.length - i.1) (0, false, []) ⟨Nat.zero_le _, by simp, by simp⟩ (weak_fr ?_) fun i ⟨hk, hx, hle⟩ => ?_)
  · simp [subFr, AZ]
  obtain ⟨k, d, out⟩ := i
  simp only at hk hx hle ⊢
  unfold l35_0
  refine rgs ?_
  simp only [↓r35_4, ↓XS, ↓XD, ↓XZ, ↓AB, ↓AZ, ↓AL, ↓AG, AK, stp_eq, stv_eq, Nat.reduceAdd, Nat.reduceSub, Nat.reduceMul, Nat.reduceEqDiff, Nat.reduceLT, Nat.reduceLeDiff, ↓reduceIte, reduceCtorEq, true_and, and_true, Bool.not_true, Bool.not_false, Option.some.injEq, true_implies, false_implies, implies_true, ne_eq, not_true_eq_false, not_false_eq_true, Bool.false_eq_true, Bool.true_eq_false, List.length_cons, List.length_nil, List.cons_append, List.nil_append, List.map_cons, List.map_nil, List.mem_singleton, forall_eq, List.set_cons_zero, List.set_cons_succ, List.append_assoc, List.length_append, or_false, false_or, ofCells, List.headD_cons, List.drop_succ_cons, List.drop_zero, List.take_succ_cons, List.take_zero, Int.toNat_natCast, false_and, and_false, List.nil_append]
  refine W.mk (cdsD rfl (fun hlt => sks (W.mk ?_)) (fun hge => exs (brk ?_)))
  · refine bls (rgs ?_)
    simp only [↓r35_5, List.length_map, Int.toNat_natCast, ↓XS, ↓XD, ↓XZ, ↓AB, ↓AZ, ↓AL, ↓AG, AK, stp_eq, stv_eq, Nat.reduceAdd, Nat.reduceSub, Nat.reduceMul, Nat.reduceEqDiff, Nat.reduceLT, Nat.reduceLeDiff, ↓reduceIte, reduceCtorEq, true_and, and_true, Bool.not_true, Bool.not_false, Option.some.injEq, true_implies, false_implies, implies_true, ne_eq, not_true_eq_false, not_false_eq_true, Bool.false_eq_true, Bool.true_eq_false, List.length_cons, List.length_nil, List.cons_append, List.nil_append, List.map_cons, List.map_nil, List.mem_singleton, forall_eq, List.set_cons_zero, List.set_cons_succ, List.append_assoc, List.length_append, or_false, false_or, ofCells, List.headD_cons, List.drop_succ_cons, List.drop_zero, List.take_succ_cons, List.take_zero, Int.toNat_natCast, false_and, and_false, List.nil_append]
    refine ⟨by omega, hlt, ?_⟩
    rw [getD_map _ _ 0 _ (by omega)]
    simp only [PV.isAgg, PV.cells, ↓XS, ↓XD, ↓XZ, ↓AB, ↓AZ, ↓AL, ↓AG, AK, stp_eq, stv_eq, Nat.reduceAdd, Nat.reduceSub, Nat.reduceMul, Nat.reduceEqDiff, Nat.reduceLT, Nat.reduceLeDiff, ↓reduceIte, reduceCtorEq, true_and, and_true, Bool.not_true, Bool.not_false, Option.some.injEq, true_implies, false_implies, implies_true, ne_eq, not_true_eq_false, not_false_eq_true, Bool.false_eq_true, Bool.true_eq_false, List.length_cons, List.length_nil, List.cons_append, List.nil_append, List.map_cons, List.map_nil, List.mem_singleton, forall_eq, List.set_cons_zero, List.set_cons_succ, List.append_assoc, List.length_append, or_false, false_or, ofCells, List.headD_cons, List.drop_succ_cons, List.drop_zero, List.take_succ_cons, List.take_zero, Int.toNat_natCast, false_and, and_false, List.nil_append]
    have hstep := insGo_step x l k d (by omega)
    rw [hstep] at hx
    generalize l.getD k 0 = y at *
    refine W.mk ?_
    refine cutI (fun i : Bool × List Int => ⟨[(15, .v (.int .i64 k)), (14, .v (.int .i64 l.length)), (13, .p (u32s l)), (8, .v (.int .u32 y)), (6, .v (.bool i.1)), (5, .b (.sl 0)), (1, .v (.int .u32 x))], [.vec 27 1 (i.2.map fun x => .sc (.int .u32 x))]⟩)
      (fun i => i.2 ++ ((if (y != x) = true then [y] else []) ++ insGo x (l.drop (k + 1)) i.1) = ins x l ∧ i.2.length ≤ 2 * k + 1) ?_ fun i ⟨hx, hle⟩ => ?_
    · cases d
      · refine rgs ?_
        simp only [↓r35_6, ↓XS, ↓XD, ↓XZ, ↓AB, ↓AZ, ↓AL, ↓AG, AK, stp_eq, stv_eq, Nat.reduceAdd, Nat.reduceSub, Nat.reduceMul, Nat.reduceEqDiff, Nat.reduceLT, Nat.reduceLeDiff, ↓reduceIte, reduceCtorEq, true_and, and_true, Bool.not_true, Bool.not_false, Option.some.injEq, true_implies, false_implies, implies_true, ne_eq, not_true_eq_false, not_false_eq_true, Bool.false_eq_true, Bool.true_eq_false, List.length_cons, List.length_nil, List.cons_append, List.nil_append, List.map_cons, List.map_nil, List.mem_singleton, forall_eq, List.set_cons_zero, List.set_cons_succ, List.append_assoc, List.length_append, or_false, false_or, ofCells, List.headD_cons, List.drop_succ_cons, List.drop_zero, List.take_succ_cons, List.take_zero, Int.toNat_natCast, false_and, and_false, List.nil_append]
        refine W.mk (cdD rfl (fun hxy => ?_) (fun hxy => ?_))
        · refine rgs ?_
          simp only [↓r35_7, ↓XS, ↓XD, ↓XZ, ↓AB, ↓AZ, ↓AL, ↓AG, AK, stp_eq, stv_eq, Nat.reduceAdd, Nat.reduceSub, Nat.reduceMul, Nat.reduceEqDiff, Nat.reduceLT, Nat.reduceLeDiff, ↓reduceIte, reduceCtorEq, true_and, and_true, Bool.not_true, Bool.not_false, Option.some.injEq, true_implies, false_implies, implies_true, ne_eq, not_true_eq_false, not_false_eq_true, Bool.false_eq_true, Bool.true_eq_false, List.length_cons, List.length_nil, List.cons_append, List.nil_append, List.map_cons, List.map_nil, List.mem_singleton, forall_eq, List.set_cons_zero, List.set_cons_succ, List.append_assoc, List.length_append, or_false, false_or, ofCells, List.headD_cons, List.drop_succ_cons, List.drop_zero, List.take_succ_cons, List.take_zero, Int.toNat_natCast, false_and, and_false, List.nil_append]
          refine ⟨⟨rfl, rfl⟩, rfl, by simp; omega, ?_⟩
          refine W.mk (rg ?_)
          simp only [↓r35_8, ↓XS, ↓XD, ↓XZ, ↓AB, ↓AZ, ↓AL, ↓AG, AK, stp_eq, stv_eq, Nat.reduceAdd, Nat.reduceSub, Nat.reduceMul, Nat.reduceEqDiff, Nat.reduceLT, Nat.reduceLeDiff, ↓reduceIte, reduceCtorEq, true_and, and_true, Bool.not_true, Bool.not_false, Option.some.injEq, true_implies, false_implies, implies_true, ne_eq, not_true_eq_false, not_false_eq_true, Bool.false_eq_true, Bool.true_eq_false, List.length_cons, List.length_nil, List.cons_append, List.nil_append, List.map_cons, List.map_nil, List.mem_singleton, forall_eq, List.set_cons_zero, List.set_cons_succ, List.append_assoc, List.length_append, or_false, false_or, ofCells, List.headD_cons, List.drop_succ_cons, List.drop_zero, List.take_succ_cons, List.take_zero, Int.toNat_natCast, false_and, and_false, List.nil_append]
          refine cutE (true, out ++ [x]) ⟨?_, by simp; omega⟩ (weak_st ?_ (by simp))
          · simpa [hxy] using hx
          · simp [subFr, AZ]
        · refine awp_skip (cutE (false, out) ⟨?_, by simp; omega⟩ (weak_fr ?_))
          · simpa [hxy] using hx
          · simp [subFr, AZ]
      · refine rgs ?_
        simp only [↓r35_6, ↓XS, ↓XD, ↓XZ, ↓AB, ↓AZ, ↓AL, ↓AG, AK, stp_eq, stv_eq, Nat.reduceAdd, Nat.reduceSub, Nat.reduceMul, Nat.reduceEqDiff, Nat.reduceLT, Nat.reduceLeDiff, ↓reduceIte, reduceCtorEq, true_and, and_true, Bool.not_true, Bool.not_false, Option.some.injEq, true_implies, false_implies, implies_true, ne_eq, not_true_eq_false, not_false_eq_true, Bool.false_eq_true, Bool.true_eq_false, List.length_cons, List.length_nil, List.cons_append, List.nil_append, List.map_cons, List.map_nil, List.mem_singleton, forall_eq, List.set_cons_zero, List.set_cons_succ, List.append_assoc, List.length_append, or_false, false_or, ofCells, List.headD_cons, List.drop_succ_cons, List.drop_zero, List.take_succ_cons, List.take_zero, Int.toNat_natCast, false_and, and_false, List.nil_append]
        refine W.mk (cd rfl (fun h => by cases h) (fun _ => ?_))
        refine awp_skip (cutE (true, out) ⟨?_, by simp; omega⟩ (weak_fr ?_))
        · simpa using hx
        · simp [subFr, AZ]
    · obtain ⟨d, out⟩ := i
      simp only at hx hle ⊢
      refine rgs ?_
      simp only [↓r35_9, ↓XS, ↓XD, ↓XZ, ↓AB, ↓AZ, ↓AL, ↓AG, AK, stp_eq, stv_eq, Nat.reduceAdd, Nat.reduceSub, Nat.reduceMul, Nat.reduceEqDiff, Nat.reduceLT, Nat.reduceLeDiff, ↓reduceIte, reduceCtorEq, true_and, and_true, Bool.not_true, Bool.not_false, Option.some.injEq, true_implies, false_implies, implies_true, ne_eq, not_true_eq_false, not_false_eq_true, Bool.false_eq_true, Bool.true_eq_false, List.length_cons, List.length_nil, List.cons_append, List.nil_append, List.map_cons, List.map_nil, List.mem_singleton, forall_eq, List.set_cons_zero, List.set_cons_succ, List.append_assoc, List.length_append, or_false, false_or, ofCells, List.headD_cons, List.drop_succ_cons, List.drop_zero, List.take_succ_cons, List.take_zero, Int.toNat_natCast, false_and, and_false, List.nil_append]
      refine W.mk (cdN rfl (fun hxy => ?_) (fun hxy => ?_))
      · refine rg ?_
        simp only [↓r35_10, ↓XS, ↓XD, ↓XZ, ↓AB, ↓AZ, ↓AL, ↓AG, AK, stp_eq, stv_eq, Nat.reduceAdd, Nat.reduceSub, Nat.reduceMul, Nat.reduceEqDiff, Nat.reduceLT, Nat.reduceLeDiff, ↓reduceIte, reduceCtorEq, true_and, and_true, Bool.not_true, Bool.not_false, Option.some.injEq, true_implies, false_implies, implies_true, ne_eq, not_true_eq_false, not_false_eq_true, Bool.false_eq_true, Bool.true_eq_false, List.length_cons, List.length_nil, List.cons_append, List.nil_append, List.map_cons, List.map_nil, List.mem_singleton, forall_eq, List.set_cons_zero, List.set_cons_succ, List.append_assoc, List.length_append, or_false, false_or, ofCells, List.headD_cons, List.drop_succ_cons, List.drop_zero, List.take_succ_cons, List.take_zero, Int.toNat_natCast, false_and, and_false, List.nil_append]
        refine ⟨⟨rfl, rfl⟩, rfl, by simp; omega, ?_⟩
        refine block_normal (then_normal (rg ?_))
        simp only [↓r35_11, ↓XS, ↓XD, ↓XZ, ↓AB, ↓AZ, ↓AL, ↓AG, AK, stp_eq, stv_eq, Nat.reduceAdd, Nat.reduceSub, Nat.reduceMul, Nat.reduceEqDiff, Nat.reduceLT, Nat.reduceLeDiff, ↓reduceIte, reduceCtorEq, true_and, and_true, Bool.not_true, Bool.not_false, Option.some.injEq, true_implies, false_implies, implies_true, ne_eq, not_true_eq_false, not_false_eq_true, Bool.false_eq_true, Bool.true_eq_false, List.length_cons, List.length_nil, List.cons_append, List.nil_append, List.map_cons, List.map_nil, List.mem_singleton, forall_eq, List.set_cons_zero, List.set_cons_succ, List.append_assoc, List.length_append, or_false, false_or, ofCells, List.headD_cons, List.drop_succ_cons, List.drop_zero, List.take_succ_cons, List.take_zero, Int.toNat_natCast, false_and, and_false, List.nil_append]
        refine agn (k + 1, d, out ++ [y]) ⟨by simp only; omega, ?_, by simp; omega⟩ (by simp only; omega) (weak_st ?_ (by simp))
        · simpa [hxy] using hx
        · simp [subFr, AZ]
          exact wr64 (by omega) (by omega)
      · refine awp_skip (block_normal (then_normal (rg ?_)))
        simp only [↓r35_11, ↓XS, ↓XD, ↓XZ, ↓AB, ↓AZ, ↓AL, ↓AG, AK, stp_eq, stv_eq, Nat.reduceAdd, Nat.reduceSub, Nat.reduceMul, Nat.reduceEqDiff, Nat.reduceLT, Nat.reduceLeDiff, ↓reduceIte, reduceCtorEq, true_and, and_true, Bool.not_true, Bool.not_false, Option.some.injEq, true_implies, false_implies, implies_true, ne_eq, not_true_eq_false, not_false_eq_true, Bool.false_eq_true, Bool.true_eq_false, List.length_cons, List.length_nil, List.cons_append, List.nil_append, List.map_cons, List.map_nil, List.mem_singleton, forall_eq, List.set_cons_zero, List.set_cons_succ, List.append_assoc, List.length_append, or_false, false_or, ofCells, List.headD_cons, List.drop_succ_cons, List.drop_zero, List.take_succ_cons, List.take_zero, Int.toNat_natCast, false_and, and_false, List.nil_append]
        refine agn (k + 1, d, out) ⟨by simp only; omega, ?_, by simp; omega⟩ (by simp only; omega) (weak_fr ?_)
        · simpa [hxy] using hx
        · simp [subFr, AZ]
          exact wr64 (by omega) (by omega)
  · have hk' : k = l.length := by omega
    subst hk'
    refine then_normal (seqA (rgs ?_))
    simp only [↓r35_12, ↓XS, ↓XD, ↓XZ, ↓AB, ↓AZ, ↓AL, ↓AG, AK, stp_eq, stv_eq, Nat.reduceAdd, Nat.reduceSub, Nat.reduceMul, Nat.reduceEqDiff, Nat.reduceLT, Nat.reduceLeDiff, ↓reduceIte, reduceCtorEq, true_and, and_true, Bool.not_true, Bool.not_false, Option.some.injEq, true_implies, false_implies, implies_true, ne_eq, not_true_eq_false, not_false_eq_true, Bool.false_eq_true, Bool.true_eq_false, List.length_cons, List.length_nil, List.cons_append, List.nil_append, List.map_cons, List.map_nil, List.mem_singleton, forall_eq, List.set_cons_zero, List.set_cons_succ, List.append_assoc, List.length_append, or_false, false_or, ofCells, List.headD_cons, List.drop_succ_cons, List.drop_zero, List.take_succ_cons, List.take_zero, Int.toNat_natCast, false_and, and_false, List.nil_append]
    cases d
    · refine W.mk (cds rfl (fun _ => ?_) (fun h => by cases h))
      refine rgs ?_
      simp only [↓r35_13, ↓XS, ↓XD, ↓XZ, ↓AB, ↓AZ, ↓AL, ↓AG, AK, stp_eq, stv_eq, Nat.reduceAdd, Nat.reduceSub, Nat.reduceMul, Nat.reduceEqDiff, Nat.reduceLT, Nat.reduceLeDiff, ↓reduceIte, reduceCtorEq, true_and, and_true, Bool.not_true, Bool.not_false, Option.some.injEq, true_implies, false_implies, implies_true, ne_eq, not_true_eq_false, not_false_eq_true, Bool.false_eq_true, Bool.true_eq_false, List.length_cons, List.length_nil, List.cons_append, List.nil_append, List.map_cons, List.map_nil, List.mem_singleton, forall_eq, List.set_cons_zero, List.set_cons_succ, List.append_assoc, List.length_append, or_false, false_or, ofCells, List.headD_cons, List.drop_succ_cons, List.drop_zero, List.take_succ_cons, List.take_zero, Int.toNat_natCast, false_and, and_false, List.nil_append]
      refine ⟨⟨rfl, rfl⟩, rfl, by simp; omega, ?_⟩
      refine W.mk (rgs ?_)
      simp only [↓r35_14, ↓XS, ↓XD, ↓XZ, ↓AB, ↓AZ, ↓AL, ↓AG, AK, stp_eq, stv_eq, Nat.reduceAdd, Nat.reduceSub, Nat.reduceMul, Nat.reduceEqDiff, Nat.reduceLT, Nat.reduceLeDiff, ↓reduceIte, reduceCtorEq, true_and, and_true, Bool.not_true, Bool.not_false, Option.some.injEq, true_implies, false_implies, implies_true, ne_eq, not_true_eq_false, not_false_eq_true, Bool.false_eq_true, Bool.true_eq_false, List.length_cons, List.length_nil, List.cons_append, List.nil_append, List.map_cons, List.map_nil, List.mem_singleton, forall_eq, List.set_cons_zero, List.set_cons_succ, List.append_assoc, List.length_append, or_false, false_or, ofCells, List.headD_cons, List.drop_succ_cons, List.drop_zero, List.take_succ_cons, List.take_zero, Int.toNat_natCast, false_and, and_false, List.nil_append]
      refine W.mk (fp_ret _ rfl ?_)
      rw [← hx]; simp [insGo, u32s]
    · refine W.mk (cds rfl (fun h => by cases h) (fun _ => sks (W.mk (rgs ?_))))
      simp only [↓r35_14, ↓XS, ↓XD, ↓XZ, ↓AB, ↓AZ, ↓AL, ↓AG, AK, stp_eq, stv_eq, Nat.reduceAdd, Nat.reduceSub, Nat.reduceMul, Nat.reduceEqDiff, Nat.reduceLT, Nat.reduceLeDiff, ↓reduceIte, reduceCtorEq, true_and, and_true, Bool.not_true, Bool.not_false, Option.some.injEq, true_implies, false_implies, implies_true, ne_eq, not_true_eq_false, not_false_eq_true, Bool.false_eq_true, Bool.true_eq_false, List.length_cons, List.length_nil, List.cons_append, List.nil_append, List.map_cons, List.map_nil, List.mem_singleton, forall_eq, List.set_cons_zero, List.set_cons_succ, List.append_assoc, List.length_append, or_false, false_or, ofCells, List.headD_cons, List.drop_succ_cons, List.drop_zero, List.take_succ_cons, List.take_zero, Int.toNat_natCast, false_and, and_false, List.nil_append]
      refine W.mk (fp_ret _ rfl ?_)
      rw [← hx]; simp [insGo, u32s]
end Go.Proofs.YtfgchoifgocclaaDoor

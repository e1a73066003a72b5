/-
  THE WALKS: Parse.
-/
import Derived.Test.YtfgchoifgocclaaDoorCm6
set_option linter.unusedSimpArgs false
set_option maxRecDepth 16000
namespace Go.Proofs.YtfgchoifgocclaaDoor
open Go Go.Av Go.Cm Go.RowKit

/-- No known word. -/
def Unk (s : List UInt8) : Prop := s ≠ t0 ∧ s ≠ t1 ∧ s ≠ t2 ∧ s ≠ t3
theorem unk_plain {s : List UInt8} (h : Unk s) {d : Int} (hd : text d = s) : plain d = s := by
  obtain ⟨h0, h1, h2, h3⟩ := h
  unfold text at hd
  grind
theorem plain_split {s : List UInt8} {k : Nat} {d : Int} (hk : k < s.length) (hno : ∀ b ∈ s.take k, b ≠ 58) (h58 : s.getD k 0 = 58) (h : plain d = s) : s.take k = Lib.decDigits (d / 65536).toNat ∧ s.drop (k + 1) = Lib.decDigits (d % 65536).toNat := by
  have e : s.getD k 0 = s[k] := by simp [List.getD, List.getElem?_eq_getElem hk]
  have hs : s.take k ++ 58 :: s.drop (k + 1) = s := by
    rw [← h58, e, ← List.drop_eq_getElem_cons hk, List.take_append_drop]
  have h' : Lib.decDigits (d / 65536).toNat ++ 58 :: Lib.decDigits (d % 65536).toNat = s.take k ++ 58 :: s.drop (k + 1) := by rw [hs]; exact h
  generalize Lib.decDigits (d % 65536).toNat = b at *
  have hdig := dec_dig (d / 65536).toNat
  generalize Lib.decDigits (d / 65536).toNat = a at *
  generalize s.take k = a', s.drop (k + 1) = b' at *
  clear h hs e h58 hk
  induction a generalizing a' with
  | nil =>
    cases a' with
    | nil => simp at h'; exact ⟨rfl, h'.symm⟩
    | cons y a' => simp at h'; exact absurd h'.1.symm (hno y (by simp))
  | cons x a ih =>
    cases a' with
    | nil =>
      simp at h'
      have := hdig x (by simp)
      rw [h'.1] at this
      unfold isDig at this
      have e : (58 : UInt8).toNat = 58 := rfl
      omega
    | cons y a' =>
      simp at h'
      obtain ⟨e1, e2⟩ := ih (fun z hz => hdig z (by simp [hz])) a' (fun z hz => hno z (by simp [hz])) h'.2
      exact ⟨by rw [h'.1, e1], e2⟩
theorem mem58 (d : Int) : (58 : UInt8) ∈ plain d := by simp [plain]

theorem or16 {a b : Nat} (ha : a ≤ 65535) (hb : b ≤ 65535) : bitsI .u32 .or (IntKind.u32.wrap (IntKind.u32.wrap (a : Int) * 2 ^ 16)) (IntKind.u32.wrap (b : Int)) = ((a * 65536 + b : Nat) : Int) := by
  have e0 : IntKind.u32.wrap (IntKind.u32.wrap (a : Int) * 2 ^ 16) = ((2 ^ 16 * a : Nat) : Int) := by rw [w32, w32]; omega
  have e1 : IntKind.u32.wrap (b : Int) = ((b : Nat) : Int) := by rw [w32]; omega
  rw [e0, e1]
  have f1 : BitVec.ofInt IntKind.u32.bits ((2 ^ 16 * a : Nat) : Int) = BitVec.ofNat 32 (2 ^ 16 * a) := BitVec.ofInt_natCast 32 _
  have f2 : BitVec.ofInt IntKind.u32.bits ((b : Nat) : Int) = BitVec.ofNat 32 b := BitVec.ofInt_natCast 32 _
  show IntKind.u32.wrap ((BitVec.ofInt IntKind.u32.bits ((2 ^ 16 * a : Nat) : Int) ||| BitVec.ofInt IntKind.u32.bits ((b : Nat) : Int)).toNat : Int) = _
  rw [f1, f2]
  show IntKind.u32.wrap ((BitVec.ofNat 32 (2 ^ 16 * a) ||| BitVec.ofNat 32 b).toNat : Int) = _
  rw [BitVec.toNat_or, BitVec.toNat_ofNat, BitVec.toNat_ofNat, Nat.mod_eq_of_lt (by omega : 2 ^ 16 * a < 2 ^ 32), Nat.mod_eq_of_lt (by omega : b < 2 ^ 32), ← Nat.two_pow_add_eq_or_of_lt (by omega : b < 2 ^ 16), w32]
  omega
theorem or_ok (x y : Int) : ok32 (bitsI .u32 .or x y) := by
  show ok32 (IntKind.u32.wrap _)
  rw [w32]
  exact ⟨by omega, by omega⟩

theorem flat_tup2 (a b : Value) : (PV.tup [.sc a, .sc b]).Flat := .tup _ fun i x hx => by
  match i, hx with
  | 0, hx => cases hx; exact .sc _
  | 1, hx => cases hx; exact .sc _

def ParsedP (s : List UInt8) (r : PV) : Prop := ∃ c e, r = .tup [nv .u32 c, nv .i64 e] ∧ Parsed s c e

theorem parse_t (s : ByteArray) (hs : s.size ≤ 1073741824) : PCalls Tryd.prog 13 [sv s] (ParsedP s.toList) := by
  have hsz := size_list s
  refine e13.calls hm (Nat.le_of_ble_eq_true rfl) ?_
  unfold c13
  refine rgs ?_
  simp only [↓r13_0, argFr, ↓XS, ↓XD, ↓XZ, ↓AB, ↓AZ, ↓AL, ↓AG, AK, stp_eq, stv_eq, Nat.reduceAdd, Nat.reduceSub, Nat.reduceMul, Nat.reduceEqDiff, Nat.reduceLT, Nat.reduceLeDiff, ↓reduceIte, reduceCtorEq, true_and, and_true, Bool.not_true, Bool.not_false, Option.some.injEq, true_implies, false_implies, implies_true, ne_eq, not_true_eq_false, not_false_eq_true, Bool.false_eq_true, Bool.true_eq_false, List.length_cons, List.length_nil, List.cons_append, List.nil_append, List.map_cons, List.map_nil, List.mem_singleton, forall_eq, List.set_cons_zero, List.set_cons_succ, List.append_assoc, List.length_append, or_false, false_or, ofCells, List.headD_cons, List.getD_cons_zero, List.getD_cons_succ, List.drop_succ_cons, List.drop_zero, List.take_succ_cons, List.take_zero, Int.toNat_natCast, false_and, and_false, List.nil_append]
  refine W.mk (rgs ?_)
  simp only [↓r13_1, ↓XS, ↓XD, ↓XZ, ↓AB, ↓AZ, ↓AL, ↓AG, AK, stp_eq, stv_eq, Nat.reduceAdd, Nat.reduceSub, Nat.reduceMul, Nat.reduceEqDiff, Nat.reduceLT, Nat.reduceLeDiff, ↓reduceIte, reduceCtorEq, true_and, and_true, Bool.not_true, Bool.not_false, Option.some.injEq, true_implies, false_implies, implies_true, ne_eq, not_true_eq_false, not_false_eq_true, Bool.false_eq_true, Bool.true_eq_false, List.length_cons, List.length_nil, List.cons_append, List.nil_append, List.map_cons, List.map_nil, List.mem_singleton, forall_eq, List.set_cons_zero, List.set_cons_succ, List.append_assoc, List.length_append, or_false, false_or, ofCells, List.headD_cons, List.getD_cons_zero, List.getD_cons_succ, List.drop_succ_cons, List.drop_zero, List.take_succ_cons, List.take_zero, Int.toNat_natCast, false_and, and_false, List.nil_append]
  refine callX_own names_t ?_
  simp only [AV.cells, PV.cells, AV.ok, constB, splice, PV.isAgg, ↓XS, ↓XD, ↓XZ, ↓AB, ↓AZ, ↓AL, ↓AG, AK, stp_eq, stv_eq, Nat.reduceAdd, Nat.reduceSub, Nat.reduceMul, Nat.reduceEqDiff, Nat.reduceLT, Nat.reduceLeDiff, ↓reduceIte, reduceCtorEq, true_and, and_true, Bool.not_true, Bool.not_false, Option.some.injEq, true_implies, false_implies, implies_true, ne_eq, not_true_eq_false, not_false_eq_true, Bool.false_eq_true, Bool.true_eq_false, List.length_cons, List.length_nil, List.cons_append, List.nil_append, List.map_cons, List.map_nil, List.mem_singleton, forall_eq, List.set_cons_zero, List.set_cons_succ, List.append_assoc, List.length_append, or_false, false_or, ofCells, List.headD_cons, List.getD_cons_zero, List.getD_cons_succ, List.drop_succ_cons, List.drop_zero, List.take_succ_cons, List.take_zero, Int.toNat_natCast, false_and, and_false, List.nil_append]
  refine ⟨rfl, rfl, ?_⟩
  refine W.mk (seqA (rgs ?_))
  simp only [↓r13_2, AV.cells, ↓XS, ↓XD, ↓XZ, ↓AB, ↓AZ, ↓AL, ↓AG, AK, stp_eq, stv_eq, Nat.reduceAdd, Nat.reduceSub, Nat.reduceMul, Nat.reduceEqDiff, Nat.reduceLT, Nat.reduceLeDiff, ↓reduceIte, reduceCtorEq, true_and, and_true, Bool.not_true, Bool.not_false, Option.some.injEq, true_implies, false_implies, implies_true, ne_eq, not_true_eq_false, not_false_eq_true, Bool.false_eq_true, Bool.true_eq_false, List.length_cons, List.length_nil, List.cons_append, List.nil_append, List.map_cons, List.map_nil, List.mem_singleton, forall_eq, List.set_cons_zero, List.set_cons_succ, List.append_assoc, List.length_append, or_false, false_or, ofCells, List.headD_cons, List.getD_cons_zero, List.getD_cons_succ, List.drop_succ_cons, List.drop_zero, List.take_succ_cons, List.take_zero, Int.toNat_natCast, false_and, and_false, List.nil_append]
  refine W.mk (lpsI (fun k : Nat => ⟨[(19, .v (.int .i64 k)), (18, .agg [.pv (sv (bs t0)), .pv (sv (bs t1)), .pv (sv (bs t2)), .pv (sv (bs t3))]), (4, .b (.ptr 0 0)), (0, .v (.string s))], [.box 45 [.pv (nv .u32 4294901760), .pv (nv .u32 4294967041), .pv (nv .u32 4294967042), .pv (nv .u32 4294967043)], .box 46 [.pv (sv (bs t0)), .pv (sv (bs t1)), .pv (sv (bs t2)), .pv (sv (bs t3))]]⟩)
    (fun k => k ≤ 4 ∧ (0 < k → s.toList ≠ t0) ∧ (1 < k → s.toList ≠ t1) ∧ (2 < k → s.toList ≠ t2) ∧ (3 < k → s.toList ≠ t3)) (fun k => 4 - k) 0 (by omega) (weak_st ?_ rfl) fun k ⟨hk, n0, n1, n2, n3⟩ => ?_)
  · simp [subFr, AZ]
  unfold l13_0
  refine rgs ?_
  simp only [↓r13_3, ↓XS, ↓XD, ↓XZ, ↓AB, ↓AZ, ↓AL, ↓AG, AK, stp_eq, stv_eq, Nat.reduceAdd, Nat.reduceSub, Nat.reduceMul, Nat.reduceEqDiff, Nat.reduceLT, Nat.reduceLeDiff, ↓reduceIte, reduceCtorEq, true_and, and_true, Bool.not_true, Bool.not_false, Option.some.injEq, true_implies, false_implies, implies_true, ne_eq, not_true_eq_false, not_false_eq_true, Bool.false_eq_true, Bool.true_eq_false, List.length_cons, List.length_nil, List.cons_append, List.nil_append, List.map_cons, List.map_nil, List.mem_singleton, forall_eq, List.set_cons_zero, List.set_cons_succ, List.append_assoc, List.length_append, or_false, false_or, ofCells, List.headD_cons, List.getD_cons_zero, List.getD_cons_succ, List.drop_succ_cons, List.drop_zero, List.take_succ_cons, List.take_zero, Int.toNat_natCast, false_and, and_false, List.nil_append]
  refine W.mk (cdsD rfl (fun hlt => sks (W.mk ?_)) (fun hge => exs (brk ?_)))
  · refine bls (rgs ?_)
    have hk4 : k = 0 ∨ k = 1 ∨ k = 2 ∨ k = 3 := by omega
    rcases hk4 with rfl | rfl | rfl | rfl
    · simp only [↓r13_4, ↓XS, ↓XD, ↓XZ, ↓AB, ↓AZ, ↓AL, ↓AG, AK, stp_eq, stv_eq, Nat.reduceAdd, Nat.reduceSub, Nat.reduceMul, Nat.reduceEqDiff, Nat.reduceLT, Nat.reduceLeDiff, ↓reduceIte, reduceCtorEq, true_and, and_true, Bool.not_true, Bool.not_false, Option.some.injEq, true_implies, false_implies, implies_true, ne_eq, not_true_eq_false, not_false_eq_true, Bool.false_eq_true, Bool.true_eq_false, List.length_cons, List.length_nil, List.cons_append, List.nil_append, List.map_cons, List.map_nil, List.mem_singleton, forall_eq, List.set_cons_zero, List.set_cons_succ, List.append_assoc, List.length_append, or_false, false_or, ofCells, List.headD_cons, List.getD_cons_zero, List.getD_cons_succ, List.drop_succ_cons, List.drop_zero, List.take_succ_cons, List.take_zero, Int.toNat_natCast, false_and, and_false, List.nil_append]
      refine ⟨by decide, by decide, rfl, rfl, ?_⟩
      refine W.mk (rgs ?_)
      simp only [↓r13_5, PV.sub, PV.cells, bs_list, ↓XS, ↓XD, ↓XZ, ↓AB, ↓AZ, ↓AL, ↓AG, AK, stp_eq, stv_eq, Nat.reduceAdd, Nat.reduceSub, Nat.reduceMul, Nat.reduceEqDiff, Nat.reduceLT, Nat.reduceLeDiff, ↓reduceIte, reduceCtorEq, true_and, and_true, Bool.not_true, Bool.not_false, Option.some.injEq, true_implies, false_implies, implies_true, ne_eq, not_true_eq_false, not_false_eq_true, Bool.false_eq_true, Bool.true_eq_false, List.length_cons, List.length_nil, List.cons_append, List.nil_append, List.map_cons, List.map_nil, List.mem_singleton, forall_eq, List.set_cons_zero, List.set_cons_succ, List.append_assoc, List.length_append, or_false, false_or, ofCells, List.headD_cons, List.getD_cons_zero, List.getD_cons_succ, List.drop_succ_cons, List.drop_zero, List.take_succ_cons, List.take_zero, Int.toNat_natCast, false_and, and_false, List.nil_append]
      cases he : (s.toList == t0)
      · refine W.mk (cd rfl (fun h => by cases h) (fun _ => ?_))
        have hne : s.toList ≠ t0 := fun h => by rw [h] at he; simp at he
        refine awp_skip (block_normal (then_normal (rg ?_)))
        simp only [↓r13_7, ↓XS, ↓XD, ↓XZ, ↓AB, ↓AZ, ↓AL, ↓AG, AK, stp_eq, stv_eq, Nat.reduceAdd, Nat.reduceSub, Nat.reduceMul, Nat.reduceEqDiff, Nat.reduceLT, Nat.reduceLeDiff, ↓reduceIte, reduceCtorEq, true_and, and_true, Bool.not_true, Bool.not_false, Option.some.injEq, true_implies, false_implies, implies_true, ne_eq, not_true_eq_false, not_false_eq_true, Bool.false_eq_true, Bool.true_eq_false, List.length_cons, List.length_nil, List.cons_append, List.nil_append, List.map_cons, List.map_nil, List.mem_singleton, forall_eq, List.set_cons_zero, List.set_cons_succ, List.append_assoc, List.length_append, or_false, false_or, ofCells, List.headD_cons, List.getD_cons_zero, List.getD_cons_succ, List.drop_succ_cons, List.drop_zero, List.take_succ_cons, List.take_zero, Int.toNat_natCast, false_and, and_false, List.nil_append]
        refine agn 1 ⟨by omega, fun _ => hne, fun h => absurd h (by decide), fun h => absurd h (by decide), fun h => absurd h (by decide)⟩ (by omega) (weak_st ?_ rfl)
        simp [subFr, AZ]
        rfl
      · refine W.mk (cd rfl (fun _ => rgs ?_) (fun h => by cases h))
        simp only [↓r13_6, ↓XS, ↓XD, ↓XZ, ↓AB, ↓AZ, ↓AL, ↓AG, AK, stp_eq, stv_eq, Nat.reduceAdd, Nat.reduceSub, Nat.reduceMul, Nat.reduceEqDiff, Nat.reduceLT, Nat.reduceLeDiff, ↓reduceIte, reduceCtorEq, true_and, and_true, Bool.not_true, Bool.not_false, Option.some.injEq, true_implies, false_implies, implies_true, ne_eq, not_true_eq_false, not_false_eq_true, Bool.false_eq_true, Bool.true_eq_false, List.length_cons, List.length_nil, List.cons_append, List.nil_append, List.map_cons, List.map_nil, List.mem_singleton, forall_eq, List.set_cons_zero, List.set_cons_succ, List.append_assoc, List.length_append, or_false, false_or, ofCells, List.headD_cons, List.getD_cons_zero, List.getD_cons_succ, List.drop_succ_cons, List.drop_zero, List.take_succ_cons, List.take_zero, Int.toNat_natCast, false_and, and_false, List.nil_append]
        refine ⟨by decide, by decide, ?_⟩
        refine W.mk (fp_ret _ rfl ⟨4294901760, 0, rfl, ?_⟩)
        rw [eq_of_beq he, show t0 = text 4294901760 from by simp [text]]
        exact Parsed.known ⟨by decide, by decide⟩
    · simp only [↓r13_4, ↓XS, ↓XD, ↓XZ, ↓AB, ↓AZ, ↓AL, ↓AG, AK, stp_eq, stv_eq, Nat.reduceAdd, Nat.reduceSub, Nat.reduceMul, Nat.reduceEqDiff, Nat.reduceLT, Nat.reduceLeDiff, ↓reduceIte, reduceCtorEq, true_and, and_true, Bool.not_true, Bool.not_false, Option.some.injEq, true_implies, false_implies, implies_true, ne_eq, not_true_eq_false, not_false_eq_true, Bool.false_eq_true, Bool.true_eq_false, List.length_cons, List.length_nil, List.cons_append, List.nil_append, List.map_cons, List.map_nil, List.mem_singleton, forall_eq, List.set_cons_zero, List.set_cons_succ, List.append_assoc, List.length_append, or_false, false_or, ofCells, List.headD_cons, List.getD_cons_zero, List.getD_cons_succ, List.drop_succ_cons, List.drop_zero, List.take_succ_cons, List.take_zero, Int.toNat_natCast, false_and, and_false, List.nil_append]
      refine ⟨by decide, by decide, rfl, rfl, ?_⟩
      refine W.mk (rgs ?_)
      simp only [↓r13_5, PV.sub, PV.cells, bs_list, ↓XS, ↓XD, ↓XZ, ↓AB, ↓AZ, ↓AL, ↓AG, AK, stp_eq, stv_eq, Nat.reduceAdd, Nat.reduceSub, Nat.reduceMul, Nat.reduceEqDiff, Nat.reduceLT, Nat.reduceLeDiff, ↓reduceIte, reduceCtorEq, true_and, and_true, Bool.not_true, Bool.not_false, Option.some.injEq, true_implies, false_implies, implies_true, ne_eq, not_true_eq_false, not_false_eq_true, Bool.false_eq_true, Bool.true_eq_false, List.length_cons, List.length_nil, List.cons_append, List.nil_append, List.map_cons, List.map_nil, List.mem_singleton, forall_eq, List.set_cons_zero, List.set_cons_succ, List.append_assoc, List.length_append, or_false, false_or, ofCells, List.headD_cons, List.getD_cons_zero, List.getD_cons_succ, List.drop_succ_cons, List.drop_zero, List.take_succ_cons, List.take_zero, Int.toNat_natCast, false_and, and_false, List.nil_append]
      cases he : (s.toList == t1)
      · refine W.mk (cd rfl (fun h => by cases h) (fun _ => ?_))
        have hne : s.toList ≠ t1 := fun h => by rw [h] at he; simp at he
        refine awp_skip (block_normal (then_normal (rg ?_)))
        simp only [↓r13_7, ↓XS, ↓XD, ↓XZ, ↓AB, ↓AZ, ↓AL, ↓AG, AK, stp_eq, stv_eq, Nat.reduceAdd, Nat.reduceSub, Nat.reduceMul, Nat.reduceEqDiff, Nat.reduceLT, Nat.reduceLeDiff, ↓reduceIte, reduceCtorEq, true_and, and_true, Bool.not_true, Bool.not_false, Option.some.injEq, true_implies, false_implies, implies_true, ne_eq, not_true_eq_false, not_false_eq_true, Bool.false_eq_true, Bool.true_eq_false, List.length_cons, List.length_nil, List.cons_append, List.nil_append, List.map_cons, List.map_nil, List.mem_singleton, forall_eq, List.set_cons_zero, List.set_cons_succ, List.append_assoc, List.length_append, or_false, false_or, ofCells, List.headD_cons, List.getD_cons_zero, List.getD_cons_succ, List.drop_succ_cons, List.drop_zero, List.take_succ_cons, List.take_zero, Int.toNat_natCast, false_and, and_false, List.nil_append]
        refine agn 2 ⟨by omega, fun _ => n0 (by decide), fun _ => hne, fun h => absurd h (by decide), fun h => absurd h (by decide)⟩ (by omega) (weak_st ?_ rfl)
        simp [subFr, AZ]
        rfl
      · refine W.mk (cd rfl (fun _ => rgs ?_) (fun h => by cases h))
        simp only [↓r13_6, ↓XS, ↓XD, ↓XZ, ↓AB, ↓AZ, ↓AL, ↓AG, AK, stp_eq, stv_eq, Nat.reduceAdd, Nat.reduceSub, Nat.reduceMul, Nat.reduceEqDiff, Nat.reduceLT, Nat.reduceLeDiff, ↓reduceIte, reduceCtorEq, true_and, and_true, Bool.not_true, Bool.not_false, Option.some.injEq, true_implies, false_implies, implies_true, ne_eq, not_true_eq_false, not_false_eq_true, Bool.false_eq_true, Bool.true_eq_false, List.length_cons, List.length_nil, List.cons_append, List.nil_append, List.map_cons, List.map_nil, List.mem_singleton, forall_eq, List.set_cons_zero, List.set_cons_succ, List.append_assoc, List.length_append, or_false, false_or, ofCells, List.headD_cons, List.getD_cons_zero, List.getD_cons_succ, List.drop_succ_cons, List.drop_zero, List.take_succ_cons, List.take_zero, Int.toNat_natCast, false_and, and_false, List.nil_append]
        refine ⟨by decide, by decide, ?_⟩
        refine W.mk (fp_ret _ rfl ⟨4294967041, 0, rfl, ?_⟩)
        rw [eq_of_beq he, show t1 = text 4294967041 from by simp [text]]
        exact Parsed.known ⟨by decide, by decide⟩
    · simp only [↓r13_4, ↓XS, ↓XD, ↓XZ, ↓AB, ↓AZ, ↓AL, ↓AG, AK, stp_eq, stv_eq, Nat.reduceAdd, Nat.reduceSub, Nat.reduceMul, Nat.reduceEqDiff, Nat.reduceLT, Nat.reduceLeDiff, ↓reduceIte, reduceCtorEq, true_and, and_true, Bool.not_true, Bool.not_false, Option.some.injEq, true_implies, false_implies, implies_true, ne_eq, not_true_eq_false, not_false_eq_true, Bool.false_eq_true, Bool.true_eq_false, List.length_cons, List.length_nil, List.cons_append, List.nil_append, List.map_cons, List.map_nil, List.mem_singleton, forall_eq, List.set_cons_zero, List.set_cons_succ, List.append_assoc, List.length_append, or_false, false_or, ofCells, List.headD_cons, List.getD_cons_zero, List.getD_cons_succ, List.drop_succ_cons, List.drop_zero, List.take_succ_cons, List.take_zero, Int.toNat_natCast, false_and, and_false, List.nil_append]
      refine ⟨by decide, by decide, rfl, rfl, ?_⟩
      refine W.mk (rgs ?_)
      simp only [↓r13_5, PV.sub, PV.cells, bs_list, ↓XS, ↓XD, ↓XZ, ↓AB, ↓AZ, ↓AL, ↓AG, AK, stp_eq, stv_eq, Nat.reduceAdd, Nat.reduceSub, Nat.reduceMul, Nat.reduceEqDiff, Nat.reduceLT, Nat.reduceLeDiff, ↓reduceIte, reduceCtorEq, true_and, and_true, Bool.not_true, Bool.not_false, Option.some.injEq, true_implies, false_implies, implies_true, ne_eq, not_true_eq_false, not_false_eq_true, Bool.false_eq_true, Bool.true_eq_false, List.length_cons, List.length_nil, List.cons_append, List.nil_append, List.map_cons, List.map_nil, List.mem_singleton, forall_eq, List.set_cons_zero, List.set_cons_succ, List.append_assoc, List.length_append, or_false, false_or, ofCells, List.headD_cons, List.getD_cons_zero, List.getD_cons_succ, List.drop_succ_cons, List.drop_zero, List.take_succ_cons, List.take_zero, Int.toNat_natCast, false_and, and_false, List.nil_append]
      cases he : (s.toList == t2)
      · refine W.mk (cd rfl (fun h => by cases h) (fun _ => ?_))
        have hne : s.toList ≠ t2 := fun h => by rw [h] at he; simp at he
        refine awp_skip (block_normal (then_normal (rg ?_)))
        simp only [↓r13_7, ↓XS, ↓XD, ↓XZ, ↓AB, ↓AZ, ↓AL, ↓AG, AK, stp_eq, stv_eq, Nat.reduceAdd, Nat.reduceSub, Nat.reduceMul, Nat.reduceEqDiff, Nat.reduceLT, Nat.reduceLeDiff, ↓reduceIte, reduceCtorEq, true_and, and_true, Bool.not_true, Bool.not_false, Option.some.injEq, true_implies, false_implies, implies_true, ne_eq, not_true_eq_false, not_false_eq_true, Bool.false_eq_true, Bool.true_eq_false, List.length_cons, List.length_nil, List.cons_append, List.nil_append, List.map_cons, List.map_nil, List.mem_singleton, forall_eq, List.set_cons_zero, List.set_cons_succ, List.append_assoc, List.length_append, or_false, false_or, ofCells, List.headD_cons, List.getD_cons_zero, List.getD_cons_succ, List.drop_succ_cons, List.drop_zero, List.take_succ_cons, List.take_zero, Int.toNat_natCast, false_and, and_false, List.nil_append]
        refine agn 3 ⟨by omega, fun _ => n0 (by decide), fun _ => n1 (by decide), fun _ => hne, fun h => absurd h (by decide)⟩ (by omega) (weak_st ?_ rfl)
        simp [subFr, AZ]
        rfl
      · refine W.mk (cd rfl (fun _ => rgs ?_) (fun h => by cases h))
        simp only [↓r13_6, ↓XS, ↓XD, ↓XZ, ↓AB, ↓AZ, ↓AL, ↓AG, AK, stp_eq, stv_eq, Nat.reduceAdd, Nat.reduceSub, Nat.reduceMul, Nat.reduceEqDiff, Nat.reduceLT, Nat.reduceLeDiff, ↓reduceIte, reduceCtorEq, true_and, and_true, Bool.not_true, Bool.not_false, Option.some.injEq, true_implies, false_implies, implies_true, ne_eq, not_true_eq_false, not_false_eq_true, Bool.false_eq_true, Bool.true_eq_false, List.length_cons, List.length_nil, List.cons_append, List.nil_append, List.map_cons, List.map_nil, List.mem_singleton, forall_eq, List.set_cons_zero, List.set_cons_succ, List.append_assoc, List.length_append, or_false, false_or, ofCells, List.headD_cons, List.getD_cons_zero, List.getD_cons_succ, List.drop_succ_cons, List.drop_zero, List.take_succ_cons, List.take_zero, Int.toNat_natCast, false_and, and_false, List.nil_append]
        refine ⟨by decide, by decide, ?_⟩
        refine W.mk (fp_ret _ rfl ⟨4294967042, 0, rfl, ?_⟩)
        rw [eq_of_beq he, show t2 = text 4294967042 from by simp [text]]
        exact Parsed.known ⟨by decide, by decide⟩
    · simp only [↓r13_4, ↓XS, ↓XD, ↓XZ, ↓AB, ↓AZ, ↓AL, ↓AG, AK, stp_eq, stv_eq, Nat.reduceAdd, Nat.reduceSub, Nat.reduceMul, Nat.reduceEqDiff, Nat.reduceLT, Nat.reduceLeDiff, ↓reduceIte, reduceCtorEq, true_and, and_true, Bool.not_true, Bool.not_false, Option.some.injEq, true_implies, false_implies, implies_true, ne_eq, not_true_eq_false, not_false_eq_true, Bool.false_eq_true, Bool.true_eq_false, List.length_cons, List.length_nil, List.cons_append, List.nil_append, List.map_cons, List.map_nil, List.mem_singleton, forall_eq, List.set_cons_zero, List.set_cons_succ, List.append_assoc, List.length_append, or_false, false_or, ofCells, List.headD_cons, List.getD_cons_zero, List.getD_cons_succ, List.drop_succ_cons, List.drop_zero, List.take_succ_cons, List.take_zero, Int.toNat_natCast, false_and, and_false, List.nil_append]
      refine ⟨by decide, by decide, rfl, rfl, ?_⟩
      refine W.mk (rgs ?_)
      simp only [↓r13_5, PV.sub, PV.cells, bs_list, ↓XS, ↓XD, ↓XZ, ↓AB, ↓AZ, ↓AL, ↓AG, AK, stp_eq, stv_eq, Nat.reduceAdd, Nat.reduceSub, Nat.reduceMul, Nat.reduceEqDiff, Nat.reduceLT, Nat.reduceLeDiff, ↓reduceIte, reduceCtorEq, true_and, and_true, Bool.not_true, Bool.not_false, Option.some.injEq, true_implies, false_implies, implies_true, ne_eq, not_true_eq_false, not_false_eq_true, Bool.false_eq_true, Bool.true_eq_false, List.length_cons, List.length_nil, List.cons_append, List.nil_append, List.map_cons, List.map_nil, List.mem_singleton, forall_eq, List.set_cons_zero, List.set_cons_succ, List.append_assoc, List.length_append, or_false, false_or, ofCells, List.headD_cons, List.getD_cons_zero, List.getD_cons_succ, List.drop_succ_cons, List.drop_zero, List.take_succ_cons, List.take_zero, Int.toNat_natCast, false_and, and_false, List.nil_append]
      cases he : (s.toList == t3)
      · refine W.mk (cd rfl (fun h => by cases h) (fun _ => ?_))
        have hne : s.toList ≠ t3 := fun h => by rw [h] at he; simp at he
        refine awp_skip (block_normal (then_normal (rg ?_)))
        simp only [↓r13_7, ↓XS, ↓XD, ↓XZ, ↓AB, ↓AZ, ↓AL, ↓AG, AK, stp_eq, stv_eq, Nat.reduceAdd, Nat.reduceSub, Nat.reduceMul, Nat.reduceEqDiff, Nat.reduceLT, Nat.reduceLeDiff, ↓reduceIte, reduceCtorEq, true_and, and_true, Bool.not_true, Bool.not_false, Option.some.injEq, true_implies, false_implies, implies_true, ne_eq, not_true_eq_false, not_false_eq_true, Bool.false_eq_true, Bool.true_eq_false, List.length_cons, List.length_nil, List.cons_append, List.nil_append, List.map_cons, List.map_nil, List.mem_singleton, forall_eq, List.set_cons_zero, List.set_cons_succ, List.append_assoc, List.length_append, or_false, false_or, ofCells, List.headD_cons, List.getD_cons_zero, List.getD_cons_succ, List.drop_succ_cons, List.drop_zero, List.take_succ_cons, List.take_zero, Int.toNat_natCast, false_and, and_false, List.nil_append]
        refine agn 4 ⟨by omega, fun _ => n0 (by decide), fun _ => n1 (by decide), fun _ => n2 (by decide), fun _ => hne⟩ (by omega) (weak_st ?_ rfl)
        simp [subFr, AZ]
        rfl
      · refine W.mk (cd rfl (fun _ => rgs ?_) (fun h => by cases h))
        simp only [↓r13_6, ↓XS, ↓XD, ↓XZ, ↓AB, ↓AZ, ↓AL, ↓AG, AK, stp_eq, stv_eq, Nat.reduceAdd, Nat.reduceSub, Nat.reduceMul, Nat.reduceEqDiff, Nat.reduceLT, Nat.reduceLeDiff, ↓reduceIte, reduceCtorEq, true_and, and_true, Bool.not_true, Bool.not_false, Option.some.injEq, true_implies, false_implies, implies_true, ne_eq, not_true_eq_false, not_false_eq_true, Bool.false_eq_true, Bool.true_eq_false, List.length_cons, List.length_nil, List.cons_append, List.nil_append, List.map_cons, List.map_nil, List.mem_singleton, forall_eq, List.set_cons_zero, List.set_cons_succ, List.append_assoc, List.length_append, or_false, false_or, ofCells, List.headD_cons, List.getD_cons_zero, List.getD_cons_succ, List.drop_succ_cons, List.drop_zero, List.take_succ_cons, List.take_zero, Int.toNat_natCast, false_and, and_false, List.nil_append]
        refine ⟨by decide, by decide, ?_⟩
        refine W.mk (fp_ret _ rfl ⟨4294967043, 0, rfl, ?_⟩)
        rw [eq_of_beq he, show t3 = text 4294967043 from by simp [text]]
        exact Parsed.known ⟨by decide, by decide⟩
  · have hk4 : k = 4 := by omega
    subst hk4
    have hunk : Unk s.toList := ⟨n0 (by decide), n1 (by decide), n2 (by decide), n3 (by decide)⟩
    refine then_normal (seqA (rgs ?_))
    simp only [↓r13_8, ↓XS, ↓XD, ↓XZ, ↓AB, ↓AZ, ↓AL, ↓AG, AK, stp_eq, stv_eq, Nat.reduceAdd, Nat.reduceSub, Nat.reduceMul, Nat.reduceEqDiff, Nat.reduceLT, Nat.reduceLeDiff, ↓reduceIte, reduceCtorEq, true_and, and_true, Bool.not_true, Bool.not_false, Option.some.injEq, true_implies, false_implies, implies_true, ne_eq, not_true_eq_false, not_false_eq_true, Bool.false_eq_true, Bool.true_eq_false, List.length_cons, List.length_nil, List.cons_append, List.nil_append, List.map_cons, List.map_nil, List.mem_singleton, forall_eq, List.set_cons_zero, List.set_cons_succ, List.append_assoc, List.length_append, or_false, false_or, ofCells, List.headD_cons, List.getD_cons_zero, List.getD_cons_succ, List.drop_succ_cons, List.drop_zero, List.take_succ_cons, List.take_zero, Int.toNat_natCast, false_and, and_false, List.nil_append]
    refine W.mk (lpsI (fun k : Nat => ⟨[(32, .v (.int .i64 k)), (31, .v (.int .i64 s.size)), (0, .v (.string s))], []⟩) (fun k => k ≤ s.size ∧ ∀ b ∈ s.toList.take k, b ≠ 58) (fun k => s.size - k) 0 ⟨Nat.zero_le _, by simp⟩ (weak_drop (hp' := []) (ext := _) ?_ rfl rfl rfl) fun k ⟨hk, hno⟩ => ?_)
    · simp [subFr, AZ]
    unfold l13_1
    refine rgs ?_
    simp only [↓r13_9, ↓XS, ↓XD, ↓XZ, ↓AB, ↓AZ, ↓AL, ↓AG, AK, stp_eq, stv_eq, Nat.reduceAdd, Nat.reduceSub, Nat.reduceMul, Nat.reduceEqDiff, Nat.reduceLT, Nat.reduceLeDiff, ↓reduceIte, reduceCtorEq, true_and, and_true, Bool.not_true, Bool.not_false, Option.some.injEq, true_implies, false_implies, implies_true, ne_eq, not_true_eq_false, not_false_eq_true, Bool.false_eq_true, Bool.true_eq_false, List.length_cons, List.length_nil, List.cons_append, List.nil_append, List.map_cons, List.map_nil, List.mem_singleton, forall_eq, List.set_cons_zero, List.set_cons_succ, List.append_assoc, List.length_append, or_false, false_or, ofCells, List.headD_cons, List.getD_cons_zero, List.getD_cons_succ, List.drop_succ_cons, List.drop_zero, List.take_succ_cons, List.take_zero, Int.toNat_natCast, false_and, and_false, List.nil_append]
    refine W.mk (cdsD rfl (fun hlt => sks (W.mk ?_)) (fun hge => exs (brk ?_)))
    · refine bls (rgs ?_)
      simp only [↓r13_10, ↓XS, ↓XD, ↓XZ, ↓AB, ↓AZ, ↓AL, ↓AG, AK, stp_eq, stv_eq, Nat.reduceAdd, Nat.reduceSub, Nat.reduceMul, Nat.reduceEqDiff, Nat.reduceLT, Nat.reduceLeDiff, ↓reduceIte, reduceCtorEq, true_and, and_true, Bool.not_true, Bool.not_false, Option.some.injEq, true_implies, false_implies, implies_true, ne_eq, not_true_eq_false, not_false_eq_true, Bool.false_eq_true, Bool.true_eq_false, List.length_cons, List.length_nil, List.cons_append, List.nil_append, List.map_cons, List.map_nil, List.mem_singleton, forall_eq, List.set_cons_zero, List.set_cons_succ, List.append_assoc, List.length_append, or_false, false_or, ofCells, List.headD_cons, List.getD_cons_zero, List.getD_cons_succ, List.drop_succ_cons, List.drop_zero, List.take_succ_cons, List.take_zero, Int.toNat_natCast, false_and, and_false, List.nil_append]
      refine W.mk (seqA (rgs ?_))
      simp only [↓r13_11, ↓XS, ↓XD, ↓XZ, ↓AB, ↓AZ, ↓AL, ↓AG, AK, stp_eq, stv_eq, Nat.reduceAdd, Nat.reduceSub, Nat.reduceMul, Nat.reduceEqDiff, Nat.reduceLT, Nat.reduceLeDiff, ↓reduceIte, reduceCtorEq, true_and, and_true, Bool.not_true, Bool.not_false, Option.some.injEq, true_implies, false_implies, implies_true, ne_eq, not_true_eq_false, not_false_eq_true, Bool.false_eq_true, Bool.true_eq_false, List.length_cons, List.length_nil, List.cons_append, List.nil_append, List.map_cons, List.map_nil, List.mem_singleton, forall_eq, List.set_cons_zero, List.set_cons_succ, List.append_assoc, List.length_append, or_false, false_or, ofCells, List.headD_cons, List.getD_cons_zero, List.getD_cons_succ, List.drop_succ_cons, List.drop_zero, List.take_succ_cons, List.take_zero, Int.toNat_natCast, false_and, and_false, List.nil_append]
      refine ⟨by omega, by omega, ?_⟩
      have hkl : k < s.toList.length := by omega
      have hstep := take_getD hkl
      have hsplit : ∀ d, s.toList.getD k 0 = 58 → text d = s.toList → s.toList.take k = Lib.decDigits (d / 65536).toNat ∧ s.toList.drop (k + 1) = Lib.decDigits (d % 65536).toNat := fun d h58 hd => plain_split hkl hno h58 (unk_plain hunk hd)
      have hb58 : ((s.toList.getD k 0).toNat : Int) = 58 ↔ s.toList.getD k 0 = 58 := by
        constructor
        · intro h; apply UInt8.toNat_inj.1; have e : (58 : UInt8).toNat = 58 := rfl; omega
        · intro h; rw [h]; rfl
      generalize s.toList.getD k 0 = b at *
      refine W.mk (cdsN rfl (fun hne => exs ?_) (fun he => sks (W.mk (rgs ?_))))
      · refine block_exit (then_normal (rg ?_))
        simp only [↓r13_18, ↓XS, ↓XD, ↓XZ, ↓AB, ↓AZ, ↓AL, ↓AG, AK, stp_eq, stv_eq, Nat.reduceAdd, Nat.reduceSub, Nat.reduceMul, Nat.reduceEqDiff, Nat.reduceLT, Nat.reduceLeDiff, ↓reduceIte, reduceCtorEq, true_and, and_true, Bool.not_true, Bool.not_false, Option.some.injEq, true_implies, false_implies, implies_true, ne_eq, not_true_eq_false, not_false_eq_true, Bool.false_eq_true, Bool.true_eq_false, List.length_cons, List.length_nil, List.cons_append, List.nil_append, List.map_cons, List.map_nil, List.mem_singleton, forall_eq, List.set_cons_zero, List.set_cons_succ, List.append_assoc, List.length_append, or_false, false_or, ofCells, List.headD_cons, List.getD_cons_zero, List.getD_cons_succ, List.drop_succ_cons, List.drop_zero, List.take_succ_cons, List.take_zero, Int.toNat_natCast, false_and, and_false, List.nil_append]
        refine agn (k + 1) ⟨by omega, ?_⟩ (by omega) (weak_st ?_ rfl)
        · intro x hx
          rw [hstep] at hx
          simp only [List.mem_append, List.mem_singleton] at hx
          rcases hx with hx | rfl
          · exact hno x hx
          · intro h; exact hne (hb58.2 h)
        · simp [subFr, AZ]
          exact wr64 (by omega) (by omega)
      · have h58 := hb58.1 he
        simp only [↓r13_12, ↓XS, ↓XD, ↓XZ, ↓AB, ↓AZ, ↓AL, ↓AG, AK, stp_eq, stv_eq, Nat.reduceAdd, Nat.reduceSub, Nat.reduceMul, Nat.reduceEqDiff, Nat.reduceLT, Nat.reduceLeDiff, ↓reduceIte, reduceCtorEq, true_and, and_true, Bool.not_true, Bool.not_false, Option.some.injEq, true_implies, false_implies, implies_true, ne_eq, not_true_eq_false, not_false_eq_true, Bool.false_eq_true, Bool.true_eq_false, List.length_cons, List.length_nil, List.cons_append, List.nil_append, List.map_cons, List.map_nil, List.mem_singleton, forall_eq, List.set_cons_zero, List.set_cons_succ, List.append_assoc, List.length_append, or_false, false_or, ofCells, List.headD_cons, List.getD_cons_zero, List.getD_cons_succ, List.drop_succ_cons, List.drop_zero, List.take_succ_cons, List.take_zero, Int.toNat_natCast, false_and, and_false, List.nil_append]
        refine ⟨by omega, by omega, by omega, ?_⟩
        have x1 : (s.extract 0 k).toList = s.toList.take k := by rw [list_extract]; simp
        refine callX_some (number_t _ (by rw [size_list, x1, List.length_take]; omega)) fun r ⟨h, e, hr, hnum⟩ => ⟨fun _ => hr ▸ flat_tup2 _ _, ?_⟩
        subst hr
        simp only [↓XS, ↓XD, ↓XZ, ↓AB, ↓AZ, ↓AL, ↓AG, AK, stp_eq, stv_eq, Nat.reduceAdd, Nat.reduceSub, Nat.reduceMul, Nat.reduceEqDiff, Nat.reduceLT, Nat.reduceLeDiff, ↓reduceIte, reduceCtorEq, true_and, and_true, Bool.not_true, Bool.not_false, Option.some.injEq, true_implies, false_implies, implies_true, ne_eq, not_true_eq_false, not_false_eq_true, Bool.false_eq_true, Bool.true_eq_false, List.length_cons, List.length_nil, List.cons_append, List.nil_append, List.map_cons, List.map_nil, List.mem_singleton, forall_eq, List.set_cons_zero, List.set_cons_succ, List.append_assoc, List.length_append, or_false, false_or, ofCells, List.headD_cons, List.getD_cons_zero, List.getD_cons_succ, List.drop_succ_cons, List.drop_zero, List.take_succ_cons, List.take_zero, Int.toNat_natCast, false_and, and_false, List.nil_append]
        refine W.mk (rgs ?_)
        simp only [↓r13_13, ↓XS, ↓XD, ↓XZ, ↓AB, ↓AZ, ↓AL, ↓AG, AK, stp_eq, stv_eq, Nat.reduceAdd, Nat.reduceSub, Nat.reduceMul, Nat.reduceEqDiff, Nat.reduceLT, Nat.reduceLeDiff, ↓reduceIte, reduceCtorEq, true_and, and_true, Bool.not_true, Bool.not_false, Option.some.injEq, true_implies, false_implies, implies_true, ne_eq, not_true_eq_false, not_false_eq_true, Bool.false_eq_true, Bool.true_eq_false, List.length_cons, List.length_nil, List.cons_append, List.nil_append, List.map_cons, List.map_nil, List.mem_singleton, forall_eq, List.set_cons_zero, List.set_cons_succ, List.append_assoc, List.length_append, or_false, false_or, ofCells, List.headD_cons, List.getD_cons_zero, List.getD_cons_succ, List.drop_succ_cons, List.drop_zero, List.take_succ_cons, List.take_zero, Int.toNat_natCast, false_and, and_false, List.nil_append]
        rw [wr64 (by omega) (by omega), show ((k : Int) + 1).toNat = k + 1 by omega]
        refine ⟨by omega, by omega, by omega, ?_⟩
        have x2 : (s.extract (k + 1) s.size).toList = s.toList.drop (k + 1) := by rw [list_extract, List.take_of_length_le (by omega)]
        refine callX_some (number_t _ (by rw [size_list, x2, List.length_drop]; omega)) fun r ⟨l, f, hr, hnum2⟩ => ⟨fun _ => hr ▸ flat_tup2 _ _, ?_⟩
        subst hr
        simp only [↓XS, ↓XD, ↓XZ, ↓AB, ↓AZ, ↓AL, ↓AG, AK, stp_eq, stv_eq, Nat.reduceAdd, Nat.reduceSub, Nat.reduceMul, Nat.reduceEqDiff, Nat.reduceLT, Nat.reduceLeDiff, ↓reduceIte, reduceCtorEq, true_and, and_true, Bool.not_true, Bool.not_false, Option.some.injEq, true_implies, false_implies, implies_true, ne_eq, not_true_eq_false, not_false_eq_true, Bool.false_eq_true, Bool.true_eq_false, List.length_cons, List.length_nil, List.cons_append, List.nil_append, List.map_cons, List.map_nil, List.mem_singleton, forall_eq, List.set_cons_zero, List.set_cons_succ, List.append_assoc, List.length_append, or_false, false_or, ofCells, List.headD_cons, List.getD_cons_zero, List.getD_cons_succ, List.drop_succ_cons, List.drop_zero, List.take_succ_cons, List.take_zero, Int.toNat_natCast, false_and, and_false, List.nil_append]
        rw [x1] at hnum
        rw [x2] at hnum2
        have m1 : min (Int.toNat 16) IntKind.u32.bits = 16 := rfl
        refine W.mk (rgs ?_)
        simp only [↓r13_14, m1, ↓XS, ↓XD, ↓XZ, ↓AB, ↓AZ, ↓AL, ↓AG, AK, stp_eq, stv_eq, Nat.reduceAdd, Nat.reduceSub, Nat.reduceMul, Nat.reduceEqDiff, Nat.reduceLT, Nat.reduceLeDiff, ↓reduceIte, reduceCtorEq, true_and, and_true, Bool.not_true, Bool.not_false, Option.some.injEq, true_implies, false_implies, implies_true, ne_eq, not_true_eq_false, not_false_eq_true, Bool.false_eq_true, Bool.true_eq_false, List.length_cons, List.length_nil, List.cons_append, List.nil_append, List.map_cons, List.map_nil, List.mem_singleton, forall_eq, List.set_cons_zero, List.set_cons_succ, List.append_assoc, List.length_append, or_false, false_or, ofCells, List.headD_cons, List.getD_cons_zero, List.getD_cons_succ, List.drop_succ_cons, List.drop_zero, List.take_succ_cons, List.take_zero, Int.toNat_natCast, false_and, and_false, List.nil_append]
        refine ⟨by decide, ?_⟩
        have key : ∀ d, ok32 d → text d = s.toList → e = 0 ∧ f = 0 ∧ bitsI .u32 .or (IntKind.u32.wrap (IntKind.u32.wrap h * 2 ^ 16)) (IntKind.u32.wrap l) = d := by
          intro d hd ht
          obtain ⟨q1, q2⟩ := hsplit d h58 ht
          obtain ⟨d1, d2⟩ := hd
          obtain ⟨r1, r2⟩ := hnum _ (by omega) q1
          obtain ⟨r3, r4⟩ := hnum2 _ (by omega) q2
          refine ⟨r2, r4, ?_⟩
          rw [r1, r3, or16 (by omega) (by omega)]
          omega
        have hc := or_ok (IntKind.u32.wrap (IntKind.u32.wrap h * 2 ^ 16)) (IntKind.u32.wrap l)
        generalize bitsI .u32 .or (IntKind.u32.wrap (IntKind.u32.wrap h * 2 ^ 16)) (IntKind.u32.wrap l) = c at *
        refine W.mk (seqA (rgs ?_))
        cases he0 : (e != 0)
        · cases hf0 : (f != 0)
          · simp only [↓r13_15, he0, hf0, ↓XS, ↓XD, ↓XZ, ↓AB, ↓AZ, ↓AL, ↓AG, AK, stp_eq, stv_eq, Nat.reduceAdd, Nat.reduceSub, Nat.reduceMul, Nat.reduceEqDiff, Nat.reduceLT, Nat.reduceLeDiff, ↓reduceIte, reduceCtorEq, true_and, and_true, Bool.not_true, Bool.not_false, Option.some.injEq, true_implies, false_implies, implies_true, ne_eq, not_true_eq_false, not_false_eq_true, Bool.false_eq_true, Bool.true_eq_false, List.length_cons, List.length_nil, List.cons_append, List.nil_append, List.map_cons, List.map_nil, List.mem_singleton, forall_eq, List.set_cons_zero, List.set_cons_succ, List.append_assoc, List.length_append, or_false, false_or, ofCells, List.headD_cons, List.getD_cons_zero, List.getD_cons_succ, List.drop_succ_cons, List.drop_zero, List.take_succ_cons, List.take_zero, Int.toNat_natCast, false_and, and_false, List.nil_append]
            refine callX_use (text_t c hc) (fun _ => .sc _) ?_
            simp only [bs_list, ↓XS, ↓XD, ↓XZ, ↓AB, ↓AZ, ↓AL, ↓AG, AK, stp_eq, stv_eq, Nat.reduceAdd, Nat.reduceSub, Nat.reduceMul, Nat.reduceEqDiff, Nat.reduceLT, Nat.reduceLeDiff, ↓reduceIte, reduceCtorEq, true_and, and_true, Bool.not_true, Bool.not_false, Option.some.injEq, true_implies, false_implies, implies_true, ne_eq, not_true_eq_false, not_false_eq_true, Bool.false_eq_true, Bool.true_eq_false, List.length_cons, List.length_nil, List.cons_append, List.nil_append, List.map_cons, List.map_nil, List.mem_singleton, forall_eq, List.set_cons_zero, List.set_cons_succ, List.append_assoc, List.length_append, or_false, false_or, ofCells, List.headD_cons, List.getD_cons_zero, List.getD_cons_succ, List.drop_succ_cons, List.drop_zero, List.take_succ_cons, List.take_zero, Int.toNat_natCast, false_and, and_false, List.nil_append]
            cases ht : (text c == s.toList)
            · simp only [ht, ↓XS, ↓XD, ↓XZ, ↓AB, ↓AZ, ↓AL, ↓AG, AK, stp_eq, stv_eq, Nat.reduceAdd, Nat.reduceSub, Nat.reduceMul, Nat.reduceEqDiff, Nat.reduceLT, Nat.reduceLeDiff, ↓reduceIte, reduceCtorEq, true_and, and_true, Bool.not_true, Bool.not_false, Option.some.injEq, true_implies, false_implies, implies_true, ne_eq, not_true_eq_false, not_false_eq_true, Bool.false_eq_true, Bool.true_eq_false, List.length_cons, List.length_nil, List.cons_append, List.nil_append, List.map_cons, List.map_nil, List.mem_singleton, forall_eq, List.set_cons_zero, List.set_cons_succ, List.append_assoc, List.length_append, or_false, false_or, ofCells, List.headD_cons, List.getD_cons_zero, List.getD_cons_succ, List.drop_succ_cons, List.drop_zero, List.take_succ_cons, List.take_zero, Int.toNat_natCast, false_and, and_false, List.nil_append]
              refine W.mk (cds rfl (fun _ => rgs ?_) (fun h => by cases h))
              simp only [↓r13_16, ↓XS, ↓XD, ↓XZ, ↓AB, ↓AZ, ↓AL, ↓AG, AK, stp_eq, stv_eq, Nat.reduceAdd, Nat.reduceSub, Nat.reduceMul, Nat.reduceEqDiff, Nat.reduceLT, Nat.reduceLeDiff, ↓reduceIte, reduceCtorEq, true_and, and_true, Bool.not_true, Bool.not_false, Option.some.injEq, true_implies, false_implies, implies_true, ne_eq, not_true_eq_false, not_false_eq_true, Bool.false_eq_true, Bool.true_eq_false, List.length_cons, List.length_nil, List.cons_append, List.nil_append, List.map_cons, List.map_nil, List.mem_singleton, forall_eq, List.set_cons_zero, List.set_cons_succ, List.append_assoc, List.length_append, or_false, false_or, ofCells, List.headD_cons, List.getD_cons_zero, List.getD_cons_succ, List.drop_succ_cons, List.drop_zero, List.take_succ_cons, List.take_zero, Int.toNat_natCast, false_and, and_false, List.nil_append]
              refine W.mk (rts (fp_ret _ rfl ⟨0, 2, rfl, .inr ⟨fun d hd hq => ?_, rfl, rfl⟩⟩))
              rw [(key d hd hq).2.2, hq] at ht
              simp at ht
            · simp only [ht, ↓XS, ↓XD, ↓XZ, ↓AB, ↓AZ, ↓AL, ↓AG, AK, stp_eq, stv_eq, Nat.reduceAdd, Nat.reduceSub, Nat.reduceMul, Nat.reduceEqDiff, Nat.reduceLT, Nat.reduceLeDiff, ↓reduceIte, reduceCtorEq, true_and, and_true, Bool.not_true, Bool.not_false, Option.some.injEq, true_implies, false_implies, implies_true, ne_eq, not_true_eq_false, not_false_eq_true, Bool.false_eq_true, Bool.true_eq_false, List.length_cons, List.length_nil, List.cons_append, List.nil_append, List.map_cons, List.map_nil, List.mem_singleton, forall_eq, List.set_cons_zero, List.set_cons_succ, List.append_assoc, List.length_append, or_false, false_or, ofCells, List.headD_cons, List.getD_cons_zero, List.getD_cons_succ, List.drop_succ_cons, List.drop_zero, List.take_succ_cons, List.take_zero, Int.toNat_natCast, false_and, and_false, List.nil_append]
              refine W.mk (cds rfl (fun h => by cases h) (fun _ => sks (W.mk (rgs ?_))))
              simp only [↓r13_17, ↓XS, ↓XD, ↓XZ, ↓AB, ↓AZ, ↓AL, ↓AG, AK, stp_eq, stv_eq, Nat.reduceAdd, Nat.reduceSub, Nat.reduceMul, Nat.reduceEqDiff, Nat.reduceLT, Nat.reduceLeDiff, ↓reduceIte, reduceCtorEq, true_and, and_true, Bool.not_true, Bool.not_false, Option.some.injEq, true_implies, false_implies, implies_true, ne_eq, not_true_eq_false, not_false_eq_true, Bool.false_eq_true, Bool.true_eq_false, List.length_cons, List.length_nil, List.cons_append, List.nil_append, List.map_cons, List.map_nil, List.mem_singleton, forall_eq, List.set_cons_zero, List.set_cons_succ, List.append_assoc, List.length_append, or_false, false_or, ofCells, List.headD_cons, List.getD_cons_zero, List.getD_cons_succ, List.drop_succ_cons, List.drop_zero, List.take_succ_cons, List.take_zero, Int.toNat_natCast, false_and, and_false, List.nil_append]
              exact W.mk (fp_ret _ rfl ⟨c, 0, rfl, .inl ⟨hc, eq_of_beq ht, rfl⟩⟩)
          · simp only [↓r13_15, he0, hf0, ↓XS, ↓XD, ↓XZ, ↓AB, ↓AZ, ↓AL, ↓AG, AK, stp_eq, stv_eq, Nat.reduceAdd, Nat.reduceSub, Nat.reduceMul, Nat.reduceEqDiff, Nat.reduceLT, Nat.reduceLeDiff, ↓reduceIte, reduceCtorEq, true_and, and_true, Bool.not_true, Bool.not_false, Option.some.injEq, true_implies, false_implies, implies_true, ne_eq, not_true_eq_false, not_false_eq_true, Bool.false_eq_true, Bool.true_eq_false, List.length_cons, List.length_nil, List.cons_append, List.nil_append, List.map_cons, List.map_nil, List.mem_singleton, forall_eq, List.set_cons_zero, List.set_cons_succ, List.append_assoc, List.length_append, or_false, false_or, ofCells, List.headD_cons, List.getD_cons_zero, List.getD_cons_succ, List.drop_succ_cons, List.drop_zero, List.take_succ_cons, List.take_zero, Int.toNat_natCast, false_and, and_false, List.nil_append]
            refine W.mk (cds rfl (fun _ => rgs ?_) (fun h => by cases h))
            simp only [↓r13_16, ↓XS, ↓XD, ↓XZ, ↓AB, ↓AZ, ↓AL, ↓AG, AK, stp_eq, stv_eq, Nat.reduceAdd, Nat.reduceSub, Nat.reduceMul, Nat.reduceEqDiff, Nat.reduceLT, Nat.reduceLeDiff, ↓reduceIte, reduceCtorEq, true_and, and_true, Bool.not_true, Bool.not_false, Option.some.injEq, true_implies, false_implies, implies_true, ne_eq, not_true_eq_false, not_false_eq_true, Bool.false_eq_true, Bool.true_eq_false, List.length_cons, List.length_nil, List.cons_append, List.nil_append, List.map_cons, List.map_nil, List.mem_singleton, forall_eq, List.set_cons_zero, List.set_cons_succ, List.append_assoc, List.length_append, or_false, false_or, ofCells, List.headD_cons, List.getD_cons_zero, List.getD_cons_succ, List.drop_succ_cons, List.drop_zero, List.take_succ_cons, List.take_zero, Int.toNat_natCast, false_and, and_false, List.nil_append]
            refine W.mk (rts (fp_ret _ rfl ⟨0, 2, rfl, .inr ⟨fun d hd hq => ?_, rfl, rfl⟩⟩))
            rw [(key d hd hq).2.1] at hf0
            simp at hf0
        · simp only [↓r13_15, he0, ↓XS, ↓XD, ↓XZ, ↓AB, ↓AZ, ↓AL, ↓AG, AK, stp_eq, stv_eq, Nat.reduceAdd, Nat.reduceSub, Nat.reduceMul, Nat.reduceEqDiff, Nat.reduceLT, Nat.reduceLeDiff, ↓reduceIte, reduceCtorEq, true_and, and_true, Bool.not_true, Bool.not_false, Option.some.injEq, true_implies, false_implies, implies_true, ne_eq, not_true_eq_false, not_false_eq_true, Bool.false_eq_true, Bool.true_eq_false, List.length_cons, List.length_nil, List.cons_append, List.nil_append, List.map_cons, List.map_nil, List.mem_singleton, forall_eq, List.set_cons_zero, List.set_cons_succ, List.append_assoc, List.length_append, or_false, false_or, ofCells, List.headD_cons, List.getD_cons_zero, List.getD_cons_succ, List.drop_succ_cons, List.drop_zero, List.take_succ_cons, List.take_zero, Int.toNat_natCast, false_and, and_false, List.nil_append]
          refine W.mk (cds rfl (fun _ => rgs ?_) (fun h => by cases h))
          simp only [↓r13_16, ↓XS, ↓XD, ↓XZ, ↓AB, ↓AZ, ↓AL, ↓AG, AK, stp_eq, stv_eq, Nat.reduceAdd, Nat.reduceSub, Nat.reduceMul, Nat.reduceEqDiff, Nat.reduceLT, Nat.reduceLeDiff, ↓reduceIte, reduceCtorEq, true_and, and_true, Bool.not_true, Bool.not_false, Option.some.injEq, true_implies, false_implies, implies_true, ne_eq, not_true_eq_false, not_false_eq_true, Bool.false_eq_true, Bool.true_eq_false, List.length_cons, List.length_nil, List.cons_append, List.nil_append, List.map_cons, List.map_nil, List.mem_singleton, forall_eq, List.set_cons_zero, List.set_cons_succ, List.append_assoc, List.length_append, or_false, false_or, ofCells, List.headD_cons, List.getD_cons_zero, List.getD_cons_succ, List.drop_succ_cons, List.drop_zero, List.take_succ_cons, List.take_zero, Int.toNat_natCast, false_and, and_false, List.nil_append]
          refine W.mk (rts (fp_ret _ rfl ⟨0, 2, rfl, .inr ⟨fun d hd hq => ?_, rfl, rfl⟩⟩))
          rw [(key d hd hq).1] at he0
          simp at he0
    · refine then_normal (rgs ?_)
      simp only [↓r13_19, ↓XS, ↓XD, ↓XZ, ↓AB, ↓AZ, ↓AL, ↓AG, AK, stp_eq, stv_eq, Nat.reduceAdd, Nat.reduceSub, Nat.reduceMul, Nat.reduceEqDiff, Nat.reduceLT, Nat.reduceLeDiff, ↓reduceIte, reduceCtorEq, true_and, and_true, Bool.not_true, Bool.not_false, Option.some.injEq, true_implies, false_implies, implies_true, ne_eq, not_true_eq_false, not_false_eq_true, Bool.false_eq_true, Bool.true_eq_false, List.length_cons, List.length_nil, List.cons_append, List.nil_append, List.map_cons, List.map_nil, List.mem_singleton, forall_eq, List.set_cons_zero, List.set_cons_succ, List.append_assoc, List.length_append, or_false, false_or, ofCells, List.headD_cons, List.getD_cons_zero, List.getD_cons_succ, List.drop_succ_cons, List.drop_zero, List.take_succ_cons, List.take_zero, Int.toNat_natCast, false_and, and_false, List.nil_append]
      refine W.mk (fp_ret _ rfl ⟨0, 2, rfl, .inr ⟨fun d hd hq => ?_, rfl, rfl⟩⟩)
      rw [List.take_of_length_le (by omega), ← unk_plain hunk hq] at hno
      exact hno 58 (mem58 d) rfl
end Go.Proofs.YtfgchoifgocclaaDoor

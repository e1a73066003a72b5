/-
  THE WALKS: numerals and texts.
-/
import Derived.Test.YtfgchoifgocclaaDoorCm3
import Derived.Test.YtfgchoifgocclaaDoorCmText
import Derived.Test.YtfgchoifgocclaaDoorShelf
set_option linter.unusedSimpArgs false
set_option maxRecDepth 16000
namespace Go.Proofs.YtfgchoifgocclaaDoor
open Go Go.Av Go.Cm Go.RowKit

theorem itoa_t (n : Int) (h0 : 0 ≤ n) (h1 : n ≤ 65535) : PCalls Tryd.prog 37 [nv .i64 n] (· = sv (bs (Lib.decDigits n.toNat))) := by
  intro w D vs hG hD hl hv
  match vs, hl with
  | [v], _ =>
    have := hv 0 v _ rfl rfl
    cases this
    refine (Tryd.strconv_Itoa n (by omega) (by omega) w hG).mono fun e w' ⟨he, k, os, hw⟩ => ⟨_, _, he, ?_, ?_, .sc _⟩
    · rw [Lib.itoa, if_neg (by omega)]; rfl
    · rw [hw]; exact Lib.below_grow _ _ (Nat.le_refl _) _ _

theorem decimal_t (n : Int) (h0 : 0 ≤ n) (h1 : n ≤ 65535) : PCalls Tryd.prog 30 [nv .i64 n] (· = sv (bs (Lib.decDigits n.toNat))) := by
  refine e30.calls hm (Nat.le_of_ble_eq_true rfl) ?_
  unfold c30
  refine rgs ?_
  simp only [↓r30_0, argFr, ↓XS, ↓XD, ↓XZ, ↓AB, ↓AZ, ↓AL, ↓AG, AK, stp_eq, stv_eq, Nat.reduceAdd, Nat.reduceSub, Nat.reduceMul, Nat.reduceEqDiff, Nat.reduceLT, Nat.reduceLeDiff, ↓reduceIte, reduceCtorEq, true_and, and_true, Bool.not_true, Bool.not_false, Option.some.injEq, true_implies, false_implies, implies_true, ne_eq, not_true_eq_false, not_false_eq_true, Bool.false_eq_true, Bool.true_eq_false, List.length_cons, List.length_nil, List.cons_append, List.nil_append, List.map_cons, List.map_nil, List.mem_singleton, forall_eq, List.set_cons_zero, List.set_cons_succ, List.append_assoc, List.length_append, or_false, false_or, ofCells, List.headD_cons, List.getD_cons_zero, List.getD_cons_succ, List.drop_succ_cons, List.drop_zero, List.take_succ_cons, List.take_zero, Int.toNat_natCast, false_and, and_false, List.nil_append]
  refine W.mk (rgs ?_)
  simp only [↓r30_1, ↓XS, ↓XD, ↓XZ, ↓AB, ↓AZ, ↓AL, ↓AG, AK, stp_eq, stv_eq, Nat.reduceAdd, Nat.reduceSub, Nat.reduceMul, Nat.reduceEqDiff, Nat.reduceLT, Nat.reduceLeDiff, ↓reduceIte, reduceCtorEq, true_and, and_true, Bool.not_true, Bool.not_false, Option.some.injEq, true_implies, false_implies, implies_true, ne_eq, not_true_eq_false, not_false_eq_true, Bool.false_eq_true, Bool.true_eq_false, List.length_cons, List.length_nil, List.cons_append, List.nil_append, List.map_cons, List.map_nil, List.mem_singleton, forall_eq, List.set_cons_zero, List.set_cons_succ, List.append_assoc, List.length_append, or_false, false_or, ofCells, List.headD_cons, List.getD_cons_zero, List.getD_cons_succ, List.drop_succ_cons, List.drop_zero, List.take_succ_cons, List.take_zero, Int.toNat_natCast, false_and, and_false, List.nil_append]
  refine callX_use (itoa_t n h0 h1) (fun _ => .sc _) ?_
  simp only [↓XS, ↓XD, ↓XZ, ↓AB, ↓AZ, ↓AL, ↓AG, AK, stp_eq, stv_eq, Nat.reduceAdd, Nat.reduceSub, Nat.reduceMul, Nat.reduceEqDiff, Nat.reduceLT, Nat.reduceLeDiff, ↓reduceIte, reduceCtorEq, true_and, and_true, Bool.not_true, Bool.not_false, Option.some.injEq, true_implies, false_implies, implies_true, ne_eq, not_true_eq_false, not_false_eq_true, Bool.false_eq_true, Bool.true_eq_false, List.length_cons, List.length_nil, List.cons_append, List.nil_append, List.map_cons, List.map_nil, List.mem_singleton, forall_eq, List.set_cons_zero, List.set_cons_succ, List.append_assoc, List.length_append, or_false, false_or, ofCells, List.headD_cons, List.getD_cons_zero, List.getD_cons_succ, List.drop_succ_cons, List.drop_zero, List.take_succ_cons, List.take_zero, Int.toNat_natCast, false_and, and_false, List.nil_append]
  exact W.mk (fp_ret _ rfl rfl)

theorem w8 (n : Int) : IntKind.u8.wrap n = n % 256 := by simp [IntKind.wrap, IntKind.bits, IntKind.signed]
theorem w32 (n : Int) : IntKind.u32.wrap n = n % 4294967296 := by simp [IntKind.wrap, IntKind.bits, IntKind.signed]
theorem w64 (n : Int) : IntKind.u64.wrap n = n % 18446744073709551616 := by simp [IntKind.wrap, IntKind.bits, IntKind.signed]
theorem bs_append (a b : List UInt8) : bs a ++ bs b = bs (a ++ b) := bs_inj (by rw [list_append, bs_list, bs_list, bs_list])

theorem dec_len : ∀ (n k : Nat), n < 10 ^ (k + 1) → (Lib.decDigits n).length ≤ k + 1
  | n, 0, h => by
    rw [Lib.decDigits, dif_pos (by omega)]
    simp
  | n, k + 1, h => by
    rw [Lib.decDigits]
    split
    · simp
    · have := dec_len (n / 10) k (by rw [Nat.pow_succ] at h; omega)
      simp only [List.length_append, List.length_singleton]
      omega
theorem dec_len5 {n : Nat} (h : n ≤ 65535) : (Lib.decDigits n).length ≤ 5 := dec_len n 4 (by omega)

theorem digits_t : ∀ (n : Nat), n ≤ 65535 → PCalls Tryd.prog 39 [nv .u64 n] (· = sv (bs (Lib.decDigits n))) := by
  intro n
  induction n using Nat.strongRecOn with
  | ind n ih =>
    intro hn
    refine e39.calls hm (Nat.le_of_ble_eq_true rfl) ?_
    unfold c39
    refine rgs ?_
    simp only [↓r39_0, argFr, ↓XS, ↓XD, ↓XZ, ↓AB, ↓AZ, ↓AL, ↓AG, AK, stp_eq, stv_eq, Nat.reduceAdd, Nat.reduceSub, Nat.reduceMul, Nat.reduceEqDiff, Nat.reduceLT, Nat.reduceLeDiff, ↓reduceIte, reduceCtorEq, true_and, and_true, Bool.not_true, Bool.not_false, Option.some.injEq, true_implies, false_implies, implies_true, ne_eq, not_true_eq_false, not_false_eq_true, Bool.false_eq_true, Bool.true_eq_false, List.length_cons, List.length_nil, List.cons_append, List.nil_append, List.map_cons, List.map_nil, List.mem_singleton, forall_eq, List.set_cons_zero, List.set_cons_succ, List.append_assoc, List.length_append, or_false, false_or, ofCells, List.headD_cons, List.getD_cons_zero, List.getD_cons_succ, List.drop_succ_cons, List.drop_zero, List.take_succ_cons, List.take_zero, Int.toNat_natCast, false_and, and_false, List.nil_append]
    refine W.mk (rgs ?_)
    simp only [↓r39_1, ↓XS, ↓XD, ↓XZ, ↓AB, ↓AZ, ↓AL, ↓AG, AK, stp_eq, stv_eq, Nat.reduceAdd, Nat.reduceSub, Nat.reduceMul, Nat.reduceEqDiff, Nat.reduceLT, Nat.reduceLeDiff, ↓reduceIte, reduceCtorEq, true_and, and_true, Bool.not_true, Bool.not_false, Option.some.injEq, true_implies, false_implies, implies_true, ne_eq, not_true_eq_false, not_false_eq_true, Bool.false_eq_true, Bool.true_eq_false, List.length_cons, List.length_nil, List.cons_append, List.nil_append, List.map_cons, List.map_nil, List.mem_singleton, forall_eq, List.set_cons_zero, List.set_cons_succ, List.append_assoc, List.length_append, or_false, false_or, ofCells, List.headD_cons, List.getD_cons_zero, List.getD_cons_succ, List.drop_succ_cons, List.drop_zero, List.take_succ_cons, List.take_zero, Int.toNat_natCast, false_and, and_false, List.nil_append]
    have e1 : IntKind.u8.wrap (IntKind.u64.wrap (48 + (n : Int).tmod 10)) = ((48 + n % 10 : Nat) : Int) := by
      rw [w8, w64, Int.tmod_eq_emod_of_nonneg (by omega)]; omega
    have e2 : strOfNums [((48 + n % 10 : Nat) : Int)] = bs [UInt8.ofNat (48 + n % 10)] := by
      simp only [strOfNums, bs, List.map_cons, List.map_nil]
      rfl
    rw [e1]
    refine ⟨by omega, ⟨rfl, rfl⟩, ?_⟩
    simp only [bytesOf, Option.map_some, ↓XS, ↓XD, ↓XZ, ↓AB, ↓AZ, ↓AL, ↓AG, AK, stp_eq, stv_eq, Nat.reduceAdd, Nat.reduceSub, Nat.reduceMul, Nat.reduceEqDiff, Nat.reduceLT, Nat.reduceLeDiff, ↓reduceIte, reduceCtorEq, true_and, and_true, Bool.not_true, Bool.not_false, Option.some.injEq, true_implies, false_implies, implies_true, ne_eq, not_true_eq_false, not_false_eq_true, Bool.false_eq_true, Bool.true_eq_false, List.length_cons, List.length_nil, List.cons_append, List.nil_append, List.map_cons, List.map_nil, List.mem_singleton, forall_eq, List.set_cons_zero, List.set_cons_succ, List.append_assoc, List.length_append, or_false, false_or, ofCells, List.headD_cons, List.getD_cons_zero, List.getD_cons_succ, List.drop_succ_cons, List.drop_zero, List.take_succ_cons, List.take_zero, Int.toNat_natCast, false_and, and_false, List.nil_append]
    rw [bindA_some, e2]
    refine W.mk (seqA (rgs ?_))
    simp only [↓r39_2, ↓XS, ↓XD, ↓XZ, ↓AB, ↓AZ, ↓AL, ↓AG, AK, stp_eq, stv_eq, Nat.reduceAdd, Nat.reduceSub, Nat.reduceMul, Nat.reduceEqDiff, Nat.reduceLT, Nat.reduceLeDiff, ↓reduceIte, reduceCtorEq, true_and, and_true, Bool.not_true, Bool.not_false, Option.some.injEq, true_implies, false_implies, implies_true, ne_eq, not_true_eq_false, not_false_eq_true, Bool.false_eq_true, Bool.true_eq_false, List.length_cons, List.length_nil, List.cons_append, List.nil_append, List.map_cons, List.map_nil, List.mem_singleton, forall_eq, List.set_cons_zero, List.set_cons_succ, List.append_assoc, List.length_append, or_false, false_or, ofCells, List.headD_cons, List.getD_cons_zero, List.getD_cons_succ, List.drop_succ_cons, List.drop_zero, List.take_succ_cons, List.take_zero, Int.toNat_natCast, false_and, and_false, List.nil_append]
    refine W.mk (cdsD rfl (fun hlt => rgs ?_) (fun hge => sks (W.mk (rgs ?_))))
    · simp only [↓r39_3, ↓XS, ↓XD, ↓XZ, ↓AB, ↓AZ, ↓AL, ↓AG, AK, stp_eq, stv_eq, Nat.reduceAdd, Nat.reduceSub, Nat.reduceMul, Nat.reduceEqDiff, Nat.reduceLT, Nat.reduceLeDiff, ↓reduceIte, reduceCtorEq, true_and, and_true, Bool.not_true, Bool.not_false, Option.some.injEq, true_implies, false_implies, implies_true, ne_eq, not_true_eq_false, not_false_eq_true, Bool.false_eq_true, Bool.true_eq_false, List.length_cons, List.length_nil, List.cons_append, List.nil_append, List.map_cons, List.map_nil, List.mem_singleton, forall_eq, List.set_cons_zero, List.set_cons_succ, List.append_assoc, List.length_append, or_false, false_or, ofCells, List.headD_cons, List.getD_cons_zero, List.getD_cons_succ, List.drop_succ_cons, List.drop_zero, List.take_succ_cons, List.take_zero, Int.toNat_natCast, false_and, and_false, List.nil_append]
      refine W.mk (rts (fp_ret _ rfl ?_))
      rw [Lib.decDigits, dif_pos (by omega), Nat.mod_eq_of_lt (by omega)]
    · simp only [↓r39_4, ↓XS, ↓XD, ↓XZ, ↓AB, ↓AZ, ↓AL, ↓AG, AK, stp_eq, stv_eq, Nat.reduceAdd, Nat.reduceSub, Nat.reduceMul, Nat.reduceEqDiff, Nat.reduceLT, Nat.reduceLeDiff, ↓reduceIte, reduceCtorEq, true_and, and_true, Bool.not_true, Bool.not_false, Option.some.injEq, true_implies, false_implies, implies_true, ne_eq, not_true_eq_false, not_false_eq_true, Bool.false_eq_true, Bool.true_eq_false, List.length_cons, List.length_nil, List.cons_append, List.nil_append, List.map_cons, List.map_nil, List.mem_singleton, forall_eq, List.set_cons_zero, List.set_cons_succ, List.append_assoc, List.length_append, or_false, false_or, ofCells, List.headD_cons, List.getD_cons_zero, List.getD_cons_succ, List.drop_succ_cons, List.drop_zero, List.take_succ_cons, List.take_zero, Int.toNat_natCast, false_and, and_false, List.nil_append]
      refine ⟨by omega, ?_⟩
      have e3 : IntKind.u64.wrap ((n : Int).tdiv 10) = ((n / 10 : Nat) : Int) := by
        rw [w64, Int.tdiv_eq_ediv_of_nonneg (by omega)]; omega
      rw [e3]
      refine callX_use (ih (n / 10) (by omega) (by omega)) (fun _ => .sc _) ?_
      simp only [↓XS, ↓XD, ↓XZ, ↓AB, ↓AZ, ↓AL, ↓AG, AK, stp_eq, stv_eq, Nat.reduceAdd, Nat.reduceSub, Nat.reduceMul, Nat.reduceEqDiff, Nat.reduceLT, Nat.reduceLeDiff, ↓reduceIte, reduceCtorEq, true_and, and_true, Bool.not_true, Bool.not_false, Option.some.injEq, true_implies, false_implies, implies_true, ne_eq, not_true_eq_false, not_false_eq_true, Bool.false_eq_true, Bool.true_eq_false, List.length_cons, List.length_nil, List.cons_append, List.nil_append, List.map_cons, List.map_nil, List.mem_singleton, forall_eq, List.set_cons_zero, List.set_cons_succ, List.append_assoc, List.length_append, or_false, false_or, ofCells, List.headD_cons, List.getD_cons_zero, List.getD_cons_succ, List.drop_succ_cons, List.drop_zero, List.take_succ_cons, List.take_zero, Int.toNat_natCast, false_and, and_false, List.nil_append]
      have hl := dec_len5 (show n / 10 ≤ 65535 by omega)
      refine ⟨by rw [bs_size, bs_size]; simp; omega, ?_⟩
      refine W.mk (fp_ret _ rfl ?_)
      rw [bs_append]
      conv => rhs; rw [Lib.decDigits, dif_neg (by omega)]

theorem refDecimal_t (n : Int) (h0 : 0 ≤ n) (h1 : n ≤ 65535) : PCalls Tryd.prog 32 [nv .i64 n] (· = sv (bs (Lib.decDigits n.toNat))) := by
  refine e32.calls hm (Nat.le_of_ble_eq_true rfl) ?_
  unfold c32
  refine rgs ?_
  simp only [↓r32_0, argFr, ↓XS, ↓XD, ↓XZ, ↓AB, ↓AZ, ↓AL, ↓AG, AK, stp_eq, stv_eq, Nat.reduceAdd, Nat.reduceSub, Nat.reduceMul, Nat.reduceEqDiff, Nat.reduceLT, Nat.reduceLeDiff, ↓reduceIte, reduceCtorEq, true_and, and_true, Bool.not_true, Bool.not_false, Option.some.injEq, true_implies, false_implies, implies_true, ne_eq, not_true_eq_false, not_false_eq_true, Bool.false_eq_true, Bool.true_eq_false, List.length_cons, List.length_nil, List.cons_append, List.nil_append, List.map_cons, List.map_nil, List.mem_singleton, forall_eq, List.set_cons_zero, List.set_cons_succ, List.append_assoc, List.length_append, or_false, false_or, ofCells, List.headD_cons, List.getD_cons_zero, List.getD_cons_succ, List.drop_succ_cons, List.drop_zero, List.take_succ_cons, List.take_zero, Int.toNat_natCast, false_and, and_false, List.nil_append]
  refine W.mk (seqA (rgs ?_))
  simp only [↓r32_1, ↓XS, ↓XD, ↓XZ, ↓AB, ↓AZ, ↓AL, ↓AG, AK, stp_eq, stv_eq, Nat.reduceAdd, Nat.reduceSub, Nat.reduceMul, Nat.reduceEqDiff, Nat.reduceLT, Nat.reduceLeDiff, ↓reduceIte, reduceCtorEq, true_and, and_true, Bool.not_true, Bool.not_false, Option.some.injEq, true_implies, false_implies, implies_true, ne_eq, not_true_eq_false, not_false_eq_true, Bool.false_eq_true, Bool.true_eq_false, List.length_cons, List.length_nil, List.cons_append, List.nil_append, List.map_cons, List.map_nil, List.mem_singleton, forall_eq, List.set_cons_zero, List.set_cons_succ, List.append_assoc, List.length_append, or_false, false_or, ofCells, List.headD_cons, List.getD_cons_zero, List.getD_cons_succ, List.drop_succ_cons, List.drop_zero, List.take_succ_cons, List.take_zero, Int.toNat_natCast, false_and, and_false, List.nil_append]
  refine W.mk (cdsD rfl (fun hlt => absurd hlt (by omega)) (fun hge => sks (W.mk (rgs ?_))))
  simp only [↓r32_3, ↓XS, ↓XD, ↓XZ, ↓AB, ↓AZ, ↓AL, ↓AG, AK, stp_eq, stv_eq, Nat.reduceAdd, Nat.reduceSub, Nat.reduceMul, Nat.reduceEqDiff, Nat.reduceLT, Nat.reduceLeDiff, ↓reduceIte, reduceCtorEq, true_and, and_true, Bool.not_true, Bool.not_false, Option.some.injEq, true_implies, false_implies, implies_true, ne_eq, not_true_eq_false, not_false_eq_true, Bool.false_eq_true, Bool.true_eq_false, List.length_cons, List.length_nil, List.cons_append, List.nil_append, List.map_cons, List.map_nil, List.mem_singleton, forall_eq, List.set_cons_zero, List.set_cons_succ, List.append_assoc, List.length_append, or_false, false_or, ofCells, List.headD_cons, List.getD_cons_zero, List.getD_cons_succ, List.drop_succ_cons, List.drop_zero, List.take_succ_cons, List.take_zero, Int.toNat_natCast, false_and, and_false, List.nil_append]
  have e : IntKind.u64.wrap n = ((n.toNat : Nat) : Int) := by rw [w64]; omega
  rw [e]
  refine callX_use (digits_t n.toNat (by omega)) (fun _ => .sc _) ?_
  simp only [↓XS, ↓XD, ↓XZ, ↓AB, ↓AZ, ↓AL, ↓AG, AK, stp_eq, stv_eq, Nat.reduceAdd, Nat.reduceSub, Nat.reduceMul, Nat.reduceEqDiff, Nat.reduceLT, Nat.reduceLeDiff, ↓reduceIte, reduceCtorEq, true_and, and_true, Bool.not_true, Bool.not_false, Option.some.injEq, true_implies, false_implies, implies_true, ne_eq, not_true_eq_false, not_false_eq_true, Bool.false_eq_true, Bool.true_eq_false, List.length_cons, List.length_nil, List.cons_append, List.nil_append, List.map_cons, List.map_nil, List.mem_singleton, forall_eq, List.set_cons_zero, List.set_cons_succ, List.append_assoc, List.length_append, or_false, false_or, ofCells, List.headD_cons, List.getD_cons_zero, List.getD_cons_succ, List.drop_succ_cons, List.drop_zero, List.take_succ_cons, List.take_zero, Int.toNat_natCast, false_and, and_false, List.nil_append]
  exact W.mk (fp_ret _ rfl rfl)

theorem shr16 {c : Int} (h : ok32 c) : IntKind.i64.wrap (c.fdiv (2 ^ 16)) = c / 65536 := by
  obtain ⟨h1, h2⟩ := h
  rw [IntKind.wrap_i64, Int.fdiv_eq_ediv_of_nonneg _ (by omega)]
  omega
theorem and16 {c : Int} (h : ok32 c) : bitsI .u32 .and c 65535 = c % 65536 := by
  obtain ⟨h1, h2⟩ := h
  obtain ⟨n, rfl⟩ : ∃ n : Nat, c = n := ⟨c.toNat, by omega⟩
  have e : (BitVec.ofInt IntKind.u32.bits (n : Int) &&& BitVec.ofInt IntKind.u32.bits 65535).toNat = n % 65536 := by
    have e1 : BitVec.ofInt IntKind.u32.bits (n : Int) = BitVec.ofNat 32 n := by simp [IntKind.bits]
    have e2 : BitVec.ofInt IntKind.u32.bits 65535 = BitVec.ofNat 32 65535 := rfl
    rw [e1, e2]
    show (BitVec.ofNat 32 n &&& BitVec.ofNat 32 65535).toNat = _
    rw [BitVec.toNat_and, BitVec.toNat_ofNat, BitVec.toNat_ofNat, Nat.mod_eq_of_lt (by omega : n < 2 ^ 32), Nat.mod_eq_of_lt (by omega : 65535 < 2 ^ 32), show 65535 = 2 ^ 16 - 1 from rfl, Nat.and_two_pow_sub_one_eq_mod]
  show IntKind.u32.wrap ((BitVec.ofInt IntKind.u32.bits (n : Int) &&& BitVec.ofInt IntKind.u32.bits 65535).toNat : Int) = _
  rw [e, w32]
  omega
theorem and16' {c : Int} (h : ok32 c) : IntKind.i64.wrap (bitsI .u32 .and c 65535) = c % 65536 := by
  rw [and16 h, IntKind.wrap_i64]; omega

theorem plain_len (c : Int) (h : ok32 c) : (Lib.decDigits (c / 65536).toNat).length ≤ 5 ∧ (Lib.decDigits (c % 65536).toNat).length ≤ 5 := by
  obtain ⟨h1, h2⟩ := h
  exact ⟨dec_len5 (by omega), dec_len5 (by omega)⟩
theorem sv_text {c : Int} : bs (Lib.decDigits (c / 65536).toNat) ++ ⟨#[58]⟩ ++ bs (Lib.decDigits (c % 65536).toNat) = bs (plain c) := by
  show bs (Lib.decDigits (c / 65536).toNat) ++ bs [58] ++ _ = _
  rw [bs_append, bs_append]
  congr 1
  simp [plain]

theorem refText_t (c : Int) (hc : ok32 c) : PCalls Tryd.prog 14 [nv .u32 c] (· = sv (bs (text c))) := by
  have hpl := plain_len c hc
  refine e14.calls hm (Nat.le_of_ble_eq_true rfl) ?_
  unfold c14
  refine rgs ?_
  simp only [↓r14_0, argFr, ↓XS, ↓XD, ↓XZ, ↓AB, ↓AZ, ↓AL, ↓AG, AK, stp_eq, stv_eq, Nat.reduceAdd, Nat.reduceSub, Nat.reduceMul, Nat.reduceEqDiff, Nat.reduceLT, Nat.reduceLeDiff, ↓reduceIte, reduceCtorEq, true_and, and_true, Bool.not_true, Bool.not_false, Option.some.injEq, true_implies, false_implies, implies_true, ne_eq, not_true_eq_false, not_false_eq_true, Bool.false_eq_true, Bool.true_eq_false, List.length_cons, List.length_nil, List.cons_append, List.nil_append, List.map_cons, List.map_nil, List.mem_singleton, forall_eq, List.set_cons_zero, List.set_cons_succ, List.append_assoc, List.length_append, or_false, false_or, ofCells, List.headD_cons, List.getD_cons_zero, List.getD_cons_succ, List.drop_succ_cons, List.drop_zero, List.take_succ_cons, List.take_zero, Int.toNat_natCast, false_and, and_false, List.nil_append]
  refine W.mk (seqA (rgs ?_))
  simp only [↓r14_1, ↓XS, ↓XD, ↓XZ, ↓AB, ↓AZ, ↓AL, ↓AG, AK, stp_eq, stv_eq, Nat.reduceAdd, Nat.reduceSub, Nat.reduceMul, Nat.reduceEqDiff, Nat.reduceLT, Nat.reduceLeDiff, ↓reduceIte, reduceCtorEq, true_and, and_true, Bool.not_true, Bool.not_false, Option.some.injEq, true_implies, false_implies, implies_true, ne_eq, not_true_eq_false, not_false_eq_true, Bool.false_eq_true, Bool.true_eq_false, List.length_cons, List.length_nil, List.cons_append, List.nil_append, List.map_cons, List.map_nil, List.mem_singleton, forall_eq, List.set_cons_zero, List.set_cons_succ, List.append_assoc, List.length_append, or_false, false_or, ofCells, List.headD_cons, List.getD_cons_zero, List.getD_cons_succ, List.drop_succ_cons, List.drop_zero, List.take_succ_cons, List.take_zero, Int.toNat_natCast, false_and, and_false, List.nil_append]
  refine W.mk (bls (rgs ?_))
  simp only [↓r14_2, ↓XS, ↓XD, ↓XZ, ↓AB, ↓AZ, ↓AL, ↓AG, AK, stp_eq, stv_eq, Nat.reduceAdd, Nat.reduceSub, Nat.reduceMul, Nat.reduceEqDiff, Nat.reduceLT, Nat.reduceLeDiff, ↓reduceIte, reduceCtorEq, true_and, and_true, Bool.not_true, Bool.not_false, Option.some.injEq, true_implies, false_implies, implies_true, ne_eq, not_true_eq_false, not_false_eq_true, Bool.false_eq_true, Bool.true_eq_false, List.length_cons, List.length_nil, List.cons_append, List.nil_append, List.map_cons, List.map_nil, List.mem_singleton, forall_eq, List.set_cons_zero, List.set_cons_succ, List.append_assoc, List.length_append, or_false, false_or, ofCells, List.headD_cons, List.getD_cons_zero, List.getD_cons_succ, List.drop_succ_cons, List.drop_zero, List.take_succ_cons, List.take_zero, Int.toNat_natCast, false_and, and_false, List.nil_append]
  refine W.mk (cdE rfl (fun h => rgs ?_) (fun h0 => rgs ?_))
  · simp only [↓r14_3, ↓XS, ↓XD, ↓XZ, ↓AB, ↓AZ, ↓AL, ↓AG, AK, stp_eq, stv_eq, Nat.reduceAdd, Nat.reduceSub, Nat.reduceMul, Nat.reduceEqDiff, Nat.reduceLT, Nat.reduceLeDiff, ↓reduceIte, reduceCtorEq, true_and, and_true, Bool.not_true, Bool.not_false, Option.some.injEq, true_implies, false_implies, implies_true, ne_eq, not_true_eq_false, not_false_eq_true, Bool.false_eq_true, Bool.true_eq_false, List.length_cons, List.length_nil, List.cons_append, List.nil_append, List.map_cons, List.map_nil, List.mem_singleton, forall_eq, List.set_cons_zero, List.set_cons_succ, List.append_assoc, List.length_append, or_false, false_or, ofCells, List.headD_cons, List.getD_cons_zero, List.getD_cons_succ, List.drop_succ_cons, List.drop_zero, List.take_succ_cons, List.take_zero, Int.toNat_natCast, false_and, and_false, List.nil_append]
    refine W.mk (fp_ret _ rfl ?_)
    rw [text, if_pos h]; rfl
  simp only [↓r14_4, ↓XS, ↓XD, ↓XZ, ↓AB, ↓AZ, ↓AL, ↓AG, AK, stp_eq, stv_eq, Nat.reduceAdd, Nat.reduceSub, Nat.reduceMul, Nat.reduceEqDiff, Nat.reduceLT, Nat.reduceLeDiff, ↓reduceIte, reduceCtorEq, true_and, and_true, Bool.not_true, Bool.not_false, Option.some.injEq, true_implies, false_implies, implies_true, ne_eq, not_true_eq_false, not_false_eq_true, Bool.false_eq_true, Bool.true_eq_false, List.length_cons, List.length_nil, List.cons_append, List.nil_append, List.map_cons, List.map_nil, List.mem_singleton, forall_eq, List.set_cons_zero, List.set_cons_succ, List.append_assoc, List.length_append, or_false, false_or, ofCells, List.headD_cons, List.getD_cons_zero, List.getD_cons_succ, List.drop_succ_cons, List.drop_zero, List.take_succ_cons, List.take_zero, Int.toNat_natCast, false_and, and_false, List.nil_append]
  refine W.mk (cdE rfl (fun h => rgs ?_) (fun h1 => rgs ?_))
  · simp only [↓r14_5, ↓XS, ↓XD, ↓XZ, ↓AB, ↓AZ, ↓AL, ↓AG, AK, stp_eq, stv_eq, Nat.reduceAdd, Nat.reduceSub, Nat.reduceMul, Nat.reduceEqDiff, Nat.reduceLT, Nat.reduceLeDiff, ↓reduceIte, reduceCtorEq, true_and, and_true, Bool.not_true, Bool.not_false, Option.some.injEq, true_implies, false_implies, implies_true, ne_eq, not_true_eq_false, not_false_eq_true, Bool.false_eq_true, Bool.true_eq_false, List.length_cons, List.length_nil, List.cons_append, List.nil_append, List.map_cons, List.map_nil, List.mem_singleton, forall_eq, List.set_cons_zero, List.set_cons_succ, List.append_assoc, List.length_append, or_false, false_or, ofCells, List.headD_cons, List.getD_cons_zero, List.getD_cons_succ, List.drop_succ_cons, List.drop_zero, List.take_succ_cons, List.take_zero, Int.toNat_natCast, false_and, and_false, List.nil_append]
    refine W.mk (fp_ret _ rfl ?_)
    rw [text, if_neg h0, if_pos h]; rfl
  simp only [↓r14_6, ↓XS, ↓XD, ↓XZ, ↓AB, ↓AZ, ↓AL, ↓AG, AK, stp_eq, stv_eq, Nat.reduceAdd, Nat.reduceSub, Nat.reduceMul, Nat.reduceEqDiff, Nat.reduceLT, Nat.reduceLeDiff, ↓reduceIte, reduceCtorEq, true_and, and_true, Bool.not_true, Bool.not_false, Option.some.injEq, true_implies, false_implies, implies_true, ne_eq, not_true_eq_false, not_false_eq_true, Bool.false_eq_true, Bool.true_eq_false, List.length_cons, List.length_nil, List.cons_append, List.nil_append, List.map_cons, List.map_nil, List.mem_singleton, forall_eq, List.set_cons_zero, List.set_cons_succ, List.append_assoc, List.length_append, or_false, false_or, ofCells, List.headD_cons, List.getD_cons_zero, List.getD_cons_succ, List.drop_succ_cons, List.drop_zero, List.take_succ_cons, List.take_zero, Int.toNat_natCast, false_and, and_false, List.nil_append]
  refine W.mk (cdE rfl (fun h => rgs ?_) (fun h2 => rgs ?_))
  · simp only [↓r14_7, ↓XS, ↓XD, ↓XZ, ↓AB, ↓AZ, ↓AL, ↓AG, AK, stp_eq, stv_eq, Nat.reduceAdd, Nat.reduceSub, Nat.reduceMul, Nat.reduceEqDiff, Nat.reduceLT, Nat.reduceLeDiff, ↓reduceIte, reduceCtorEq, true_and, and_true, Bool.not_true, Bool.not_false, Option.some.injEq, true_implies, false_implies, implies_true, ne_eq, not_true_eq_false, not_false_eq_true, Bool.false_eq_true, Bool.true_eq_false, List.length_cons, List.length_nil, List.cons_append, List.nil_append, List.map_cons, List.map_nil, List.mem_singleton, forall_eq, List.set_cons_zero, List.set_cons_succ, List.append_assoc, List.length_append, or_false, false_or, ofCells, List.headD_cons, List.getD_cons_zero, List.getD_cons_succ, List.drop_succ_cons, List.drop_zero, List.take_succ_cons, List.take_zero, Int.toNat_natCast, false_and, and_false, List.nil_append]
    refine W.mk (fp_ret _ rfl ?_)
    rw [text, if_neg h0, if_neg h1, if_pos h]; rfl
  simp only [↓r14_8, ↓XS, ↓XD, ↓XZ, ↓AB, ↓AZ, ↓AL, ↓AG, AK, stp_eq, stv_eq, Nat.reduceAdd, Nat.reduceSub, Nat.reduceMul, Nat.reduceEqDiff, Nat.reduceLT, Nat.reduceLeDiff, ↓reduceIte, reduceCtorEq, true_and, and_true, Bool.not_true, Bool.not_false, Option.some.injEq, true_implies, false_implies, implies_true, ne_eq, not_true_eq_false, not_false_eq_true, Bool.false_eq_true, Bool.true_eq_false, List.length_cons, List.length_nil, List.cons_append, List.nil_append, List.map_cons, List.map_nil, List.mem_singleton, forall_eq, List.set_cons_zero, List.set_cons_succ, List.append_assoc, List.length_append, or_false, false_or, ofCells, List.headD_cons, List.getD_cons_zero, List.getD_cons_succ, List.drop_succ_cons, List.drop_zero, List.take_succ_cons, List.take_zero, Int.toNat_natCast, false_and, and_false, List.nil_append]
  refine W.mk (cdE rfl (fun h => rgs ?_) (fun h3 => ?_))
  · simp only [↓r14_9, ↓XS, ↓XD, ↓XZ, ↓AB, ↓AZ, ↓AL, ↓AG, AK, stp_eq, stv_eq, Nat.reduceAdd, Nat.reduceSub, Nat.reduceMul, Nat.reduceEqDiff, Nat.reduceLT, Nat.reduceLeDiff, ↓reduceIte, reduceCtorEq, true_and, and_true, Bool.not_true, Bool.not_false, Option.some.injEq, true_implies, false_implies, implies_true, ne_eq, not_true_eq_false, not_false_eq_true, Bool.false_eq_true, Bool.true_eq_false, List.length_cons, List.length_nil, List.cons_append, List.nil_append, List.map_cons, List.map_nil, List.mem_singleton, forall_eq, List.set_cons_zero, List.set_cons_succ, List.append_assoc, List.length_append, or_false, false_or, ofCells, List.headD_cons, List.getD_cons_zero, List.getD_cons_succ, List.drop_succ_cons, List.drop_zero, List.take_succ_cons, List.take_zero, Int.toNat_natCast, false_and, and_false, List.nil_append]
    refine W.mk (fp_ret _ rfl ?_)
    rw [text, if_neg h0, if_neg h1, if_neg h2, if_pos h]; rfl
  refine awp_skip (block_normal (then_normal (rgs ?_)))
  have m1 : min (Int.toNat 16) IntKind.u32.bits = 16 := rfl
  simp only [↓r14_10, m1, shr16 hc, and16' hc, ↓XS, ↓XD, ↓XZ, ↓AB, ↓AZ, ↓AL, ↓AG, AK, stp_eq, stv_eq, Nat.reduceAdd, Nat.reduceSub, Nat.reduceMul, Nat.reduceEqDiff, Nat.reduceLT, Nat.reduceLeDiff, ↓reduceIte, reduceCtorEq, true_and, and_true, Bool.not_true, Bool.not_false, Option.some.injEq, true_implies, false_implies, implies_true, ne_eq, not_true_eq_false, not_false_eq_true, Bool.false_eq_true, Bool.true_eq_false, List.length_cons, List.length_nil, List.cons_append, List.nil_append, List.map_cons, List.map_nil, List.mem_singleton, forall_eq, List.set_cons_zero, List.set_cons_succ, List.append_assoc, List.length_append, or_false, false_or, ofCells, List.headD_cons, List.getD_cons_zero, List.getD_cons_succ, List.drop_succ_cons, List.drop_zero, List.take_succ_cons, List.take_zero, Int.toNat_natCast, false_and, and_false, List.nil_append]
  refine ⟨by decide, ?_⟩
  obtain ⟨c1, c2⟩ := hc
  refine callX_use (refDecimal_t _ (by omega) (by omega)) (fun _ => .sc _) ?_
  simp only [m1, and16' ⟨c1, c2⟩, ↓XS, ↓XD, ↓XZ, ↓AB, ↓AZ, ↓AL, ↓AG, AK, stp_eq, stv_eq, Nat.reduceAdd, Nat.reduceSub, Nat.reduceMul, Nat.reduceEqDiff, Nat.reduceLT, Nat.reduceLeDiff, ↓reduceIte, reduceCtorEq, true_and, and_true, Bool.not_true, Bool.not_false, Option.some.injEq, true_implies, false_implies, implies_true, ne_eq, not_true_eq_false, not_false_eq_true, Bool.false_eq_true, Bool.true_eq_false, List.length_cons, List.length_nil, List.cons_append, List.nil_append, List.map_cons, List.map_nil, List.mem_singleton, forall_eq, List.set_cons_zero, List.set_cons_succ, List.append_assoc, List.length_append, or_false, false_or, ofCells, List.headD_cons, List.getD_cons_zero, List.getD_cons_succ, List.drop_succ_cons, List.drop_zero, List.take_succ_cons, List.take_zero, Int.toNat_natCast, false_and, and_false, List.nil_append]
  refine ⟨by rw [bs_size]; show _ + 1 ≤ _; omega, ?_⟩
  refine callX_use (refDecimal_t _ (by omega) (by omega)) (fun _ => .sc _) ?_
  simp only [↓XS, ↓XD, ↓XZ, ↓AB, ↓AZ, ↓AL, ↓AG, AK, stp_eq, stv_eq, Nat.reduceAdd, Nat.reduceSub, Nat.reduceMul, Nat.reduceEqDiff, Nat.reduceLT, Nat.reduceLeDiff, ↓reduceIte, reduceCtorEq, true_and, and_true, Bool.not_true, Bool.not_false, Option.some.injEq, true_implies, false_implies, implies_true, ne_eq, not_true_eq_false, not_false_eq_true, Bool.false_eq_true, Bool.true_eq_false, List.length_cons, List.length_nil, List.cons_append, List.nil_append, List.map_cons, List.map_nil, List.mem_singleton, forall_eq, List.set_cons_zero, List.set_cons_succ, List.append_assoc, List.length_append, or_false, false_or, ofCells, List.headD_cons, List.getD_cons_zero, List.getD_cons_succ, List.drop_succ_cons, List.drop_zero, List.take_succ_cons, List.take_zero, Int.toNat_natCast, false_and, and_false, List.nil_append]
  refine ⟨by rw [ByteArray.size_append, bs_size, bs_size]; show _ + 1 + _ ≤ _; omega, ?_⟩
  refine W.mk (fp_ret _ rfl ?_)
  rw [sv_text, text, if_neg h0, if_neg h1, if_neg h2, if_neg h3]
end Go.Proofs.YtfgchoifgocclaaDoor

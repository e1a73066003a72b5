/-
  THE ABSTRACT LAYER, 6: the soundness of each operation that leaves the objects alone.
-/
import Derived.Test.YtfgchoifgocclaaDoorAv5
namespace Go.Av
open Go Go.RowKit

def Res (c : Ctx) (θ : List Loc) (st : St) (a : Act) (K : AV → Prop) : Value → World → Prop := fun v w' => ∃ x D', K x ∧ Inv c θ D' st a w' ∧ RelA θ D' w' v x

section
variable {P : Program} {o : Oper} {c : Ctx} {θ : List Loc} {D : Nat → Prop} {st : St} {a : Act} {w : World} {K : AV → Prop}

theorem Res.same (hI : Inv c θ D st a w) {v : Value} {x : AV} (hk : K x) (hv : RelA θ D w v x) : Res c θ st a K v w := ⟨x, D, hk, hI, hv⟩

theorem yields_same {v : Value} {x : AV} (hI : Inv c θ D st a w) (hr : (execOp a.eval o).run P w = .ok (.value v) w) (hk : K x) (hv : RelA θ D w v x) : Yields P o a w (Res c θ st a K) :=
  ⟨v, w, hr, Res.same hI hk hv⟩

theorem sound_mv (hI : Inv c θ D st a w) {x : Operand} (ho : o.op = .move x ∨ o.op = .assign x) (h : sev P st (.mv (.of x)) K) : Yields P o a w (Res c θ st a K) := by
  obtain ⟨av, hx, hk⟩ := h
  refine yields_same hI ?_ hk (hI.get hx)
  rcases ho with ho | ho <;> simp [execOp, ho]

theorem sound_const (hI : Inv c θ D st a w) {v : Value} (hr : (execOp a.eval o).run P w = .ok (.value v) w) (h : sev P st (.mv (.c v)) K) : Yields P o a w (Res c θ st a K) := by
  obtain ⟨av, hx, hk⟩ := h
  simp [St.get] at hx
  subst hx
  exact yields_same hI hr hk (relA_const v)

theorem sound_pick (hI : Inv c θ D st a w) {x y z : Operand} (ho : o.op = .pick x y z) (h : sev P st (.pick (.of x) (.of y) (.of z)) K) : Yields P o a w (Res c θ st a K) := by
  obtain ⟨av, hx, hv⟩ := h
  obtain ⟨b, hb, ht, hf⟩ := relA_isV (hI.get hx) hv
  cases b
  · obtain ⟨az, hz, hk⟩ := hf rfl
    exact yields_same hI (by simp [execOp, ho, hb, asBool]) hk (hI.get hz)
  · obtain ⟨ay, hy, hk⟩ := ht rfl
    exact yields_same hI (by simp [execOp, ho, hb, asBool]) hk (hI.get hy)

theorem sound_bin (hI : Inv c θ D st a w) {op : BinOp} {t t' : TypeId} {x y : Operand} (ho : o.op = .binOp op t x y t') (h : sev P st (.bin op (.of x) (.of y)) K) : Yields P o a w (Res c θ st a K) := by
  obtain ⟨ax, hx, ay, hy, hv⟩ := h
  have h1 := relA_isV (hI.get hx) hv
  have h2 := relA_isV (hI.get hy) h1
  obtain ⟨v, hk, hr⟩ := run_binV (P := P) (w := w) (t := t) (x := x) (y := y) h2
  refine yields_same hI ?_ hk (RelP.sc v)
  simp only [execOp, ho]
  rw [Sem.run_bind, hr]
  rfl

theorem sound_eqB (hI : Inv c θ D st a w) {neg : Bool} {t t' : TypeId} {x y : Operand} (ho : o.op = .binOp (if neg then .neq else .eql) t x y t') (ht : P.underlying t = some .bool) (h : sev P st (.eqB neg (.of x) (.of y)) K) : Yields P o a w (Res c θ st a K) := by
  obtain ⟨ax, hx, ay, hy, hv⟩ := h
  have h1 := relA_isV (hI.get hx) hv
  have h2 := relA_isV (hI.get hy) h1
  obtain ⟨p, hp, q, hq, hk⟩ := h2
  refine yields_same hI ?_ hk (RelP.sc _)
  simp only [execOp, ho, hp, hq]
  rw [Sem.run_bind, run_eqB ht neg]
  rfl

theorem sound_un (hI : Inv c θ D st a w) {op : UnOp} {t : TypeId} {x : Operand} (ho : o.op = .unOp op t x) (h : sev P st (.un op (.of x)) K) : Yields P o a w (Res c θ st a K) := by
  obtain ⟨ax, hx, hv⟩ := h
  obtain ⟨v, hk, hr⟩ := run_unV (P := P) (w := w) (relA_isV (hI.get hx) hv)
  refine yields_same hI ?_ hk (RelP.sc v)
  simp only [execOp, ho]
  rw [Sem.run_bind, hr]
  rfl

theorem sound_len (hI : Inv c θ D st a w) {x : Operand} {t e : TypeId} {cl : Call} (ho : o.op = .call cl) (hcl : cl.callee = .builtin .len) (hargs : cl.args = #[x]) (htys : cl.argTypes = #[t])
    (ht : P.underlying t = some (.slice e)) (h : sev P st (.len false (.of x)) K) : Yields P o a w (Res c θ st a K) := by
  obtain ⟨ax, hx, hl⟩ := h
  obtain ⟨n, b, cap, hk, hv⟩ := relA_len hI.ok (hI.get hx) hl
  refine yields_same hI ?_ hk (RelP.sc _)
  simp [execOp, ho, resolve, hcl, hargs, htys, invoke, builtin, Builtin.len_, run_underlying ht, hv, goInt]

theorem sound_lenS (hI : Inv c θ D st a w) {x : Operand} {t : TypeId} {cl : Call} (ho : o.op = .call cl) (hcl : cl.callee = .builtin .len) (hargs : cl.args = #[x]) (htys : cl.argTypes = #[t])
    (ht : P.underlying t = some .string) (h : sev P st (.len true (.of x)) K) : Yields P o a w (Res c θ st a K) := by
  obtain ⟨ax, hx, hl⟩ := h
  obtain ⟨s, hs, hk⟩ := relA_isV (hI.get hx) hl
  refine yields_same hI ?_ hk (RelP.sc _)
  simp [execOp, ho, resolve, hcl, hargs, htys, invoke, builtin, Builtin.len_, run_underlying ht, hs, goInt]

theorem sound_idxS (hI : Inv c θ D st a w) {t : TypeId} {x i : Operand} (ho : o.op = .index t x i) (ht : P.underlying t = some .string) (h : sev P st (.idxS (.of x) (.of i)) K) : Yields P o a w (Res c θ st a K) := by
  obtain ⟨ax, hx, ai, hi, hv⟩ := h
  have h1 := relA_isV (hI.get hx) hv
  have h2 := relA_isV (hI.get hi) h1
  obtain ⟨k, n, hn, s, hs, h0, hlt, hk⟩ := h2
  refine yields_same hI ?_ hk (RelP.sc _)
  have hlt' : n.toNat < s.size := by omega
  have hg : s[n.toNat]? = some (s[n.toNat]) := by
    rw [getElem?_pos s n.toNat hlt']
  have e1 : s.toList.getD n.toNat 0 = s[n.toNat] := by
    have : s.toList = s.data.toList := ByteArray.toList_eq s
    rw [this]
    simp only [List.getD, Array.getElem?_toList]
    have h4 : n.toNat < s.data.size := hlt'
    rw [Array.getElem?_eq_getElem h4]
    rfl
  rw [e1]
  simp [execOp, ho, hn, hs, Instr.index, asIntOf, run_underlying ht, h0, hg]

end
end Go.Av

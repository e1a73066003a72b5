/-
  THE ABSTRACT LAYER, 14: one loaded operation, by its abstract form; regions in lexical order.
-/
import Derived.Test.YtfgchoifgocclaaDoorAv13
namespace Go.Av
open Go Go.RowKit

section
variable {P : Program} {o : Oper} {c : Ctx} {θ : List Loc} {D : Nat → Prop} {st : St} {a : Act} {w : World}

theorem array_one {α : Type} {xs : Array α} {x : α} (h : xs.toList = [x]) : xs = #[x] := by
  apply Array.ext'; simpa using h
theorem array_two {α : Type} {xs : Array α} {x y : α} (h : xs.toList = [x, y]) : xs = #[x, y] := by
  apply Array.ext'; simpa using h

theorem elemT_some {t e : TypeId} (h : elemT P t = some e) : P.underlying t = some (.slice e) := by
  unfold elemT at h
  split at h
  · cases h; assumption
  · cases h

theorem canon_eq {s s' : SOp} (h : s.canon = s') (h1 : ∀ e z l ps, s' ≠ .bslice false e z l ps) (h2 : ∀ f xs, s' ≠ .call false f xs) : s = s' := by
  cases s <;> simp only [SOp.canon] at h <;> first | exact h | exact absurd h.symm (h1 _ _ _ _) | exact absurd h.symm (h2 _ _)

theorem bnd_get (hI : Inv c θ D st a w) {q : Option Operand} {dflt : Nat} {K' : Nat → Prop} (h : bnd st (q.map SX.of) dflt K') :
    ∃ n, K' n ∧ ((q = none ∧ n = dflt) ∨ ∃ x k, ∃ m : Int, q = some x ∧ a.eval x = .int k m ∧ 0 ≤ m ∧ n = m.toNat) := by
  cases q with
  | none => exact ⟨dflt, h, .inl ⟨rfl, rfl⟩⟩
  | some x =>
    obtain ⟨av, hav, h⟩ := h
    obtain ⟨k, m, hm, h0, hk⟩ := relA_isV (hI.get hav) h
    exact ⟨_, hk, .inr ⟨x, k, m, rfl, hm, h0, rfl⟩⟩

theorem run_bound {k : IntKind} {m : Int} {y : Nat} {code : BoundsCode} (h0 : 0 ≤ m) (h1 : m.toNat ≤ y) : (Instr.sliceBound (.int k m) y code).run P w = .ok m.toNat w := by
  have h2 : m ≤ (y : Int) := by omega
  simp only [Instr.sliceBound, asIntOf, Sem.run_bind, Sem.run_pure, Result.andThen_ok]
  rw [if_pos ⟨h0, h2⟩]
  rfl

theorem run_bounds (hI : Inv c θ D st a w) {lo hi mx : Option Operand} {isS : Bool} {len cap l h m : Nat}
    (hl : (lo = none ∧ l = 0) ∨ ∃ x k, ∃ m : Int, lo = some x ∧ a.eval x = .int k m ∧ 0 ≤ m ∧ l = m.toNat) (hh : (hi = none ∧ h = len) ∨ ∃ x k, ∃ m : Int, hi = some x ∧ a.eval x = .int k m ∧ 0 ≤ m ∧ h = m.toNat)
    (hm : (mx = none ∧ m = len) ∨ ∃ x k, ∃ m' : Int, mx = some x ∧ a.eval x = .int k m' ∧ 0 ≤ m' ∧ m = m'.toNat) (hmh : mx.isSome = true → hi.isSome = true) (h1 : l ≤ h) (h2 : h ≤ m) (h3 : m ≤ len) (h4 : len ≤ cap) :
    (Instr.sliceBounds isS len cap (lo.map a.eval) (hi.map a.eval) (mx.map a.eval)).run P w = .ok (l, h, if mx.isSome then m else cap) w := by
  have _ := hI
  rcases hm with ⟨rfl, rfl⟩ | ⟨x3, k3, m3, rfl, e3, g3, rfl⟩ <;> rcases hh with ⟨rfl, rfl⟩ | ⟨x2, k2, m2, rfl, e2, g2, rfl⟩ <;> rcases hl with ⟨rfl, rfl⟩ | ⟨x1, k1, m1, rfl, e1, g1, rfl⟩
  · simp [Instr.sliceBounds]
  · simp [Instr.sliceBounds, e1, run_bound g1 h1]
  · simp [Instr.sliceBounds, e2, run_bound (y := cap) g2 (by omega)]
  · simp [Instr.sliceBounds, e2, e1, run_bound (y := cap) g2 (by omega), run_bound g1 h1]
  · simp at hmh
  · simp at hmh
  · simp [Instr.sliceBounds, e3, e2, run_bound (y := cap) g3 (by omega), run_bound g2 h2]
  · simp [Instr.sliceBounds, e3, e2, e1, run_bound (y := cap) g3 (by omega), run_bound g2 h2, run_bound g1 h1]

theorem sound_slc (hI : Inv c θ D st a w) {K : AV → Prop} {t e : TypeId} {sz : Nat} {x : Operand} {lo hi mx : Option Operand} (ho : o.op = .slice t x lo hi mx) (ht : P.underlying t = some (.slice e)) (hs : sizeT P e = some sz)
    (h : sev P st (.slc sz (.of x) (lo.map .of) (hi.map .of) (mx.map .of)) K) : Yields P o a w (Res c θ st a K) := by
  obtain ⟨ax, hx, L, rfl, hb⟩ := h
  obtain ⟨b, cap, hv, hcap, hcells⟩ := relP_lst (relA_p (hI.get hx))
  obtain ⟨l, hb, hl⟩ := bnd_get hI hb
  obtain ⟨hn, hb, hh⟩ := bnd_get hI hb
  obtain ⟨m, ⟨hmh, h1, h2, h3, hk⟩, hm⟩ := bnd_get hI hb
  have hmh' : mx.isSome = true → hi.isSome = true := by simpa using hmh
  have hr := run_bounds (P := P) (isS := true) hI hl hh hm hmh' h1 h2 h3 hcap
  generalize hmm : (if mx.isSome then m else cap) = mm at hr
  have hmm1 : hn ≤ mm ∧ mm ≤ cap := by rw [← hmm]; split <;> omega
  refine yields_same hI (v := .slice (if mm = l then b else b.map (·.add (l * sz))) (hn - l) (mm - l)) ?_ hk ?_
  · simp only [execOp, ho, Instr.sliceAt, Sem.run_bind, run_underlying ht, Result.andThen_ok, Instr.slice, hv, hr, run_sizeOf hs, Sem.run_pure]
  · show RelP D w _ (lst sz ((L.take hn).drop l))
    have hlen : ((L.take hn).drop l).length = hn - l := by simp; omega
    rw [← hlen]
    refine relP_lst_mk (by omega) fun hpos => ?_
    obtain ⟨g, og, rfl, hg, hsz, hc⟩ := hcells (by omega)
    rw [if_neg (by omega)]
    refine ⟨g, og + l * sz, by simp [addr_add], hg, fun p hp => hsz p (List.mem_of_mem_take (List.mem_of_mem_drop hp)), fun i j p q hp hq => ?_⟩
    rw [List.getElem?_drop, List.getElem?_take] at hp
    split at hp
    · obtain ⟨u, e1, e2⟩ := hc (l + i) j p q hp hq
      refine ⟨u, ?_, e2⟩
      rw [← e1, Nat.add_mul]
      congr 2
      omega
    · cases hp

theorem sound_slcS (hI : Inv c θ D st a w) {K : AV → Prop} {t : TypeId} {x : Operand} {lo hi : Option Operand} (ho : o.op = .slice t x lo hi none) (ht : P.underlying t = some .string)
    (h : sev P st (.slcS (.of x) (lo.map .of) (hi.map .of)) K) : Yields P o a w (Res c θ st a K) := by
  obtain ⟨ax, hx, hv⟩ := h
  obtain ⟨s, hs, hb⟩ := relA_isV (hI.get hx) hv
  obtain ⟨l, hb, hl⟩ := bnd_get hI hb
  obtain ⟨hn, ⟨h1, h2, hk⟩, hh⟩ := bnd_get hI hb
  have hr := run_bounds (P := P) (isS := false) (mx := none) (m := s.size) hI hl hh (.inl ⟨rfl, rfl⟩) (by simp) h1 h2 (Nat.le_refl _) (Nat.le_refl _)
  refine yields_same hI ?_ hk (RelP.sc _)
  simp only [Option.map_none] at hr
  simp [execOp, ho, Instr.sliceAt, run_underlying ht, Instr.slice, hs, hr]

end
end Go.Av

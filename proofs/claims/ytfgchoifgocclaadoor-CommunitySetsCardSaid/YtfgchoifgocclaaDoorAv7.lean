/-
  THE ABSTRACT LAYER, 7: indexes, fields, loads, slices.
-/
import Derived.Test.YtfgchoifgocclaaDoorAv6
namespace Go.Av
open Go Go.RowKit

section
variable {P : Program} {o : Oper} {c : Ctx} {θ : List Loc} {D : Nat → Prop} {st : St} {a : Act} {w : World} {K : AV → Prop}

theorem relP_sub {v : Array Value} {p : PV} {off sz : Nat} {ag : Bool} (h : RelP D w (.agg v) p) (hp : p.isAgg = true) (hle : off + sz ≤ p.cells.length) (hag : ag = false → sz = 1) :
    v.size = p.cells.length ∧ RelP D w (partV ag v off sz) (p.sub off sz ag) := by
  have hp' := cells_isAgg hp
  obtain ⟨q, rfl⟩ : ∃ q, p = .agg q := ⟨_, hp'⟩
  simp only [PV.cells] at hle
  cases h with
  | agg vs xs hs hh =>
    refine ⟨hs, ?_⟩
    cases ag
    · have := hag rfl
      subst this
      have h1 : off < q.length := by omega
      have h2 : off < v.size := by omega
      simp only [partV, PV.sub, PV.cells, List.getD, List.getElem?_eq_getElem h1, Option.getD_some, Array.getElem?_eq_getElem h2]
      exact hh off _ _ (Array.getElem?_eq_getElem h2) (List.getElem?_eq_getElem h1)
    · simp only [partV, PV.sub, PV.cells]
      refine .agg _ _ (by simp; omega) fun i u x hu hx => ?_
      rw [List.getElem?_take] at hx
      split at hx
      · rename_i hi
        rw [List.getElem?_drop] at hx
        rw [Array.getElem?_extract] at hu
        split at hu
        · exact hh (off + i) u x hu hx
        · cases hu
      · cases hx

theorem run_part {t : TypeId} {d : TypeDesc} {s off : Nat} {cs : Array Value} (hd : P.underlying t = some d) (hs : sizeT P t = some s) (hle : off + s ≤ cs.size) (hag : aggT P t = false → s = 1) :
    Sem.run P (part t cs off) w = .ok (partV (aggT P t) cs off s) w := by
  simp only [part, Sem.run_bind, run_isAgg hd, Result.andThen_ok]
  cases hb : aggT P t
  · have := hag hb
    have h2 : off < cs.size := by omega
    simp [partV, Array.getElem?_eq_getElem h2]
  · simp [partV, run_sizeOf hs]

theorem relA_isAgg {v : Value} {x : AV} {p : PV} (h : RelA θ D w v x) (hx : x.toPV = some p) (hp : p.isAgg = true) : ∃ vs : Array Value, v = .agg vs ∧ RelP D w (.agg vs) p := by
  have h1 := relA_toPV h hx
  have hp' := cells_isAgg hp
  rw [hp'] at h1 ⊢
  cases h1 with
  | agg vs xs hs hh => exact ⟨vs, rfl, .agg vs _ hs hh⟩

theorem sound_idxV (hI : Inv c θ D st a w) {n sz : Nat} {t e : TypeId} {d : TypeDesc} {x i : Operand} (ho : o.op = .index t x i) (ht : P.underlying t = some (.array n e)) (hd : P.underlying e = some d) (hs : sizeT P e = some sz)
    (h : sev P st (.idxV n sz (aggT P e) (.of x) (.of i)) K) : Yields P o a w (Res c θ st a K) := by
  obtain ⟨ax, hx, ai, hi, hv⟩ := h
  obtain ⟨k, m, hm, p, hp, h0, hlt, hag, hlen, hpa, hk⟩ := relA_isV (hI.get hi) hv
  obtain ⟨vs, he, hrel⟩ := relA_isAgg (hI.get hx) hp hpa
  have hmul : m.toNat * sz + sz ≤ n * sz := by
    have : m.toNat + 1 ≤ n := by omega
    have := Nat.mul_le_mul_right sz this
    rw [Nat.add_mul, Nat.one_mul] at this
    exact this
  obtain ⟨hsz, hsub⟩ := relP_sub hrel hpa (by rw [hlen]; exact hmul) hag
  refine yields_same hI ?_ hk hsub
  have hpart := run_part (P := P) (w := w) (t := e) (cs := vs) (off := m.toNat * sz) hd hs (by rw [hsz, hlen]; exact hmul) hag
  have hlt' : m < (n : Int) := hlt
  simp only [execOp, ho, hm, he, Instr.index, asIntOf, Sem.run_bind, Sem.run_pure, Result.andThen_ok, run_underlying ht]
  rw [if_pos ⟨h0, hlt'⟩]
  simp only [Sem.run_bind, run_sizeOf hs, Result.andThen_ok, hpart]

theorem sound_idxA (hI : Inv c θ D st a w) {sz : Nat} {t e : TypeId} {x i : Operand} (ho : o.op = .indexAddr t x i) (ht : P.underlying t = some (.slice e)) (hs : sizeT P e = some sz)
    (h : sev P st (.idxA sz (.of x) (.of i)) K) : Yields P o a w (Res c θ st a K) := by
  obtain ⟨ax, hx, ai, hi, hv⟩ := h
  obtain ⟨k, n, hn, hcase⟩ := relA_isV (hI.get hi) hv
  have hX := hI.get hx
  have run : ∀ (b o' len cap : Nat), a.eval x = .slice (some ⟨b, o', none⟩) len cap → 0 ≤ n → n < (len : Int) → (execOp a.eval o).run P w = .ok (.value (.pointer (some ⟨b, o' + n.toNat * sz, none⟩))) w := by
    intro b o' len cap he h0 h1
    simp only [execOp, ho, hn, he, Instr.indexAt, asIntOf, Sem.run_bind, Sem.run_pure, Result.andThen_ok, run_underlying ht]
    rw [if_pos ⟨h0, h1⟩]
    simp [run_sizeOf hs, addr_add]
  rcases hcase with ⟨L, rfl, h0, hlt, hk⟩ | ⟨id, rfl, ob, hob, e', L, rfl, h0, hlt, hk⟩
  · obtain ⟨b, cap, he, hcap, hcells⟩ := relP_lst (relA_p hX)
    obtain ⟨g, o', rfl, hg, hsz, hc⟩ := hcells (by omega)
    have hlt' : n.toNat < L.length := by omega
    refine yields_same hI (run g o' L.length cap he h0 hlt) hk (relP_pto_mk hg fun j y hy => ?_)
    have hget : L[n.toNat]? = some (L.getD n.toNat .any) := by simp [List.getD, List.getElem?_eq_getElem hlt']
    exact hc n.toNat j _ y hget hy
  · obtain ⟨l, hl, hh⟩ := hX
    have hro := hI.ok.objs id l _ hl hob
    cases l <;> simp only [RelO, Loc.head] at hro hh
    · subst hro; simp at hlt; omega
    · rename_i g m cap s
      obtain ⟨rfl, rfl, _⟩ := hro
      refine yields_same hI (run g 0 _ cap hh h0 hlt) hk ?_
      exact ⟨g, _, cap, s, hl, by simp⟩

theorem sound_idxP (hI : Inv c θ D st a w) {n sz : Nat} {t e : TypeId} {x i : Operand} (ho : o.op = .indexAddr t x i) (ht : P.underlying t = some (.array n e)) (hs : sizeT P e = some sz)
    (h : sev P st (.idxP n sz (.of x) (.of i)) K) : Yields P o a w (Res c θ st a K) := by
  obtain ⟨ax, hx, ai, hi, hv⟩ := h
  obtain ⟨k, m, hm, h0, hlt, id, off, rfl, hk⟩ := relA_isV (hI.get hi) hv
  obtain ⟨g, hg, he⟩ := hI.get hx
  refine yields_same hI (v := .pointer (some ⟨g, off + m.toNat * sz, none⟩)) ?_ hk ⟨g, hg, rfl⟩
  simp only [execOp, ho, hm, he, Instr.indexAt, asIntOf, Sem.run_bind, Sem.run_pure, Result.andThen_ok, run_underlying ht, Instr.sureAddr]
  rw [if_pos ⟨h0, hlt⟩]
  simp [run_sizeOf hs, addr_add]

theorem sound_fldA (hI : Inv c θ D st a w) {s : TypeId} {f : Nat} {x : Operand} {fd : Field} {sz : Nat} (ho : o.op = .fieldAddr s x f) (hf : fieldOf P s f = some fd) (hs : sizeT P fd.type = some sz) (hsz : sz ≠ 0)
    (h : sev P st (.fldA fd.offset sz (aggT P fd.type) (.of x)) K) : Yields P o a w (Res c θ st a K) := by
  obtain ⟨ax, hx, hcase⟩ := h
  have hX := hI.get hx
  have run : ∀ (b o' : Nat), a.eval x = .pointer (some ⟨b, o', none⟩) → (execOp a.eval o).run P w = .ok (.value (.pointer (some ⟨b, o' + fd.offset, none⟩))) w := by
    intro b o' he
    unfold fieldOf at hf
    split at hf
    · rename_i fs hfs
      simp [execOp, ho, he, Instr.fieldAt, run_underlying hfs, hf, Instr.sureAddr, fieldPlace, run_sizeOf hs, hsz, addr_add]
    · cases hf
  rcases hcase with ⟨p, rfl, hle, hag, hia, hk⟩ | ⟨id, o', rfl, hk⟩ | ⟨id, i, o', rfl, hk⟩
  · obtain ⟨b, o', he, hb, hc⟩ := relP_pto (relA_p hX)
    refine yields_same hI (run b o' he) hk (relP_pto_mk hb fun j y hy => ?_)
    cases hag' : aggT P fd.type
    · rw [hag'] at hy hag
      have := hag rfl
      subst this
      rw [hag'] at hia
      rw [cells_notAgg hia] at hy
      cases j with
      | zero =>
        simp at hy
        subst hy
        have := hc fd.offset _ ((sub_cells (p := p) (off := fd.offset) hag hle).2 rfl)
        simpa [Nat.add_assoc] using this
      | succ j => simp at hy
    · rw [hag'] at hy
      rw [(sub_cells (p := p) (off := fd.offset) (sz := sz) (ag := true) (fun h => by cases h) hle).1 rfl, List.getElem?_take] at hy
      split at hy
      · rw [List.getElem?_drop] at hy
        have := hc (fd.offset + j) y hy
        rwa [← Nat.add_assoc] at this
      · cases hy
  · obtain ⟨g, hg, he⟩ := hX
    exact yields_same hI (run g o' he) hk ⟨g, hg, rfl⟩
  · obtain ⟨g, n, cap, s', hg, he⟩ := hX
    refine yields_same hI (run g _ he) hk ⟨g, n, cap, s', hg, ?_⟩
    rw [Nat.add_assoc]

end
end Go.Av

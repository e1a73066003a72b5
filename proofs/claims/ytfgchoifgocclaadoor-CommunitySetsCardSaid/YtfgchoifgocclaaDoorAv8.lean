/-
  THE ABSTRACT LAYER, 8: fields of values, loads, conversions, slices of slices, tuples, aggregates, calls.
-/
import Derived.Test.YtfgchoifgocclaaDoorAv7
namespace Go.Av
open Go Go.RowKit

section
variable {P : Program} {o : Oper} {c : Ctx} {θ : List Loc} {D : Nat → Prop} {st : St} {a : Act} {w : World} {K : AV → Prop}

theorem relA_ofCells {vs : Array Value} {cs : List BV} {off sz : Nat} {ag : Bool} (hl : vs.size = cs.length) (h : ∀ (i : Nat) (u : Value) (x : BV), vs[i]? = some u → cs[i]? = some x → RelB θ D w u x) (hle : off + sz ≤ cs.length) (hag : ag = false → sz = 1) :
    RelA θ D w (partV ag vs off sz) (ofCells ag ((cs.drop off).take sz)) := by
  cases ag
  · have := hag rfl
    subst this
    have h1 : off < cs.length := by omega
    have h2 : off < vs.size := by omega
    have e : (cs.drop off).take 1 = [cs[off]] := by
      rw [List.drop_eq_getElem_cons h1]; rfl
    simp only [partV, ofCells, e, List.headD_cons, Array.getElem?_eq_getElem h2, Option.getD_some]
    exact h off _ _ (Array.getElem?_eq_getElem h2) (List.getElem?_eq_getElem h1)
  · refine ⟨_, rfl, by simp; omega, fun i u x hu hx => ?_⟩
    rw [List.getElem?_take] at hx
    split at hx
    · rename_i hi
      rw [List.getElem?_drop] at hx
      rw [Array.getElem?_extract] at hu
      split at hu
      · exact h (off + i) u x hu hx
      · cases hu
    · cases hx

theorem sound_fld (hI : Inv c θ D st a w) {t : TypeId} {f : Nat} {x : Operand} {fd : Field} {d : TypeDesc} {sz : Nat} (ho : o.op = .field t x f) (hf : fieldOf P t f = some fd) (hd : P.underlying fd.type = some d) (hs : sizeT P fd.type = some sz)
    (h : sev P st (.fld fd.offset sz (aggT P fd.type) (.of x)) K) : Yields P o a w (Res c θ st a K) := by
  obtain ⟨ax, hx, hcase⟩ := h
  have hX := hI.get hx
  unfold fieldOf at hf
  split at hf
  · rename_i fs hfs
    rcases hcase with ⟨p, rfl, hpa, hle, hag, hk⟩ | ⟨cs, rfl, hle, hag, hk⟩
    · obtain ⟨vs, he, hrel⟩ := relA_isAgg (p := p) hX rfl hpa
      obtain ⟨hsz, hsub⟩ := relP_sub hrel hpa hle hag
      refine yields_same hI ?_ hk hsub
      have hpart := run_part (P := P) (w := w) (t := fd.type) (cs := vs) (off := fd.offset) hd hs (by rw [hsz]; exact hle) hag
      simp [execOp, ho, he, Instr.field, run_underlying hfs, hf, asAgg, hpart]
    · obtain ⟨vs, he, h1, h2⟩ := hX
      refine yields_same hI ?_ hk (relA_ofCells h1 h2 hle hag)
      have hpart := run_part (P := P) (w := w) (t := fd.type) (cs := vs) (off := fd.offset) hd hs (by rw [h1]; exact hle) hag
      simp [execOp, ho, he, Instr.field, run_underlying hfs, hf, asAgg, hpart]
  · cases hf

theorem partV_whole (ag : Bool) (c : Array Value) (off sz : Nat) (hag : ag = false → sz = 1) (hle : off + sz ≤ c.size) : wholeV ag (c.extract off (off + sz)).toList = partV ag c off sz := by
  cases ag
  · have := hag rfl
    subst this
    have h2 : off < c.size := by omega
    simp only [wholeV, partV, List.headD_eq_head?_getD, List.head?_eq_getElem?, Array.getElem?_toList, Array.getElem?_extract]
    rw [if_pos (by omega)]
    rfl
  · show Value.agg _ = Value.agg _
    rw [Array.toArray_toList]

theorem sound_load (hI : Inv c θ D st a w) {t : TypeId} {x : Operand} {d : TypeDesc} {sz : Nat} (ho : o.op = .load t x) (hd : P.underlying t = some d) (hs : sizeT P t = some sz)
    (h : sev P st (.load sz (aggT P t) (.of x)) K) : Yields P o a w (Res c θ st a K) := by
  obtain ⟨ax, hx, hcase⟩ := h
  have hX := hI.get hx
  have run : ∀ (b o' : Nat) (cs : List Value), a.eval x = .pointer (some ⟨b, o', none⟩) → cs.length = sz → (aggT P t = false → sz = 1) → (∀ (j : Nat) (v : Value), cs[j]? = some v → w.cell? ⟨b, o' + j, none⟩ = some v) →
      (execOp a.eval o).run P w = .ok (.value (wholeV (aggT P t) cs)) w := by
    intro b o' cs he hl hag hc
    have := run_loadVar (P := P) (w := w) hd hs cs hl hag hc
    simp [execOp, ho, he, Instr.loadAt, Instr.sureAddr, this]
  unfold loadA at hcase
  split at hcase
  · rename_i p
    obtain ⟨hpa, hlen, hk⟩ := hcase
    obtain ⟨b, o', he, hb, hc⟩ := relP_pto (relA_p hX)
    obtain ⟨cs, hl, hcs⟩ := choose_list (n := sz) (p := fun j u => w.cell? ⟨b, o' + j, none⟩ = some u ∧ ∀ y, p.cells[j]? = some y → RelP D w u y) (fun j hj => by
      obtain ⟨u, h1, h2⟩ := hc j (p.cells[j]'(by omega)) (List.getElem?_eq_getElem (by omega))
      exact ⟨u, h1, fun y hy => by rw [List.getElem?_eq_getElem (by omega : j < p.cells.length)] at hy; cases hy; exact h2⟩)
    have hag : aggT P t = false → sz = 1 := fun h => by
      rw [← hpa] at h
      rw [← hlen, cells_notAgg h]; rfl
    refine yields_same hI (run b o' cs he hl hag fun j v hj => (hcs j v hj).1) hk ?_
    rw [← hpa]
    exact relP_whole (by omega) fun j u y hu hy => (hcs j u hu).2 y hy
  · rename_i id off
    obtain ⟨ob, hob, t', cs, rfl, hle, hag, hk⟩ := hcase
    obtain ⟨g, hg, he⟩ := hX
    obtain ⟨cv, h1, h2, h3⟩ := hI.ok.objs id _ _ hg hob
    have hle' : off + sz ≤ cv.size := by omega
    have hr := run g off (cv.extract off (off + sz)).toList he (by simp; omega) hag (fun j v hj => by
      rw [cell_of_row w g _ cv t' (0, 0) h1]
      simp only [Array.getElem?_toList, Array.getElem?_extract] at hj
      split at hj
      · exact hj
      · cases hj)
    rw [partV_whole _ _ _ _ hag hle'] at hr
    exact yields_same hI hr hk (relA_ofCells h2 h3 hle hag)
  · rename_i id i off
    obtain ⟨ob, hob, e, s, xs, rfl, hi, hle, hag, hcase⟩ := hcase
    obtain ⟨g, n, cap, s', hg, he⟩ := hX
    obtain ⟨rfl, rfl, h3, h4, h5, cv, h6, h7, h8⟩ := hI.ok.objs id _ _ hg hob
    obtain ⟨p0, hx0⟩ : ∃ p0, xs[i]? = some p0 := ⟨_, List.getElem?_eq_getElem hi⟩
    have hgd : xs.getD i .any = p0 := getD_of_some hx0
    rw [hgd] at hcase
    have hxl : p0.cells.length = s' := h5 _ (List.mem_of_getElem? hx0)
    have hpos : i * s' + s' ≤ cv.size := by
      rw [h7]
      have : i + 1 ≤ cap := by omega
      have := Nat.mul_le_mul_right s' this
      rw [Nat.add_mul, Nat.one_mul] at this
      exact this
    have hr := run g (i * s' + off) (cv.extract (i * s' + off) (i * s' + off + sz)).toList he (by simp; omega) hag (fun j v hj => by
      rw [cell_of_row w g _ cv e (0, 0) h6]
      simp only [Array.getElem?_toList, Array.getElem?_extract] at hj
      split at hj
      · exact hj
      · cases hj)
    have hcell : ∀ (j : Nat) (u : Value) (y : PV), cv[i * s' + j]? = some u → p0.cells[j]? = some y → RelP D w u y := fun j u y hu hy => by
      obtain ⟨u', h9, h10⟩ := h8 i j _ y hx0 hy
      rw [hu] at h9; cases h9; exact h10
    rcases hcase with ⟨rfl, rfl, hia, hk⟩ | ⟨hne, hk⟩
    · refine yields_same hI hr hk ?_
      rw [← hia]
      refine relP_whole (by simp only [Array.length_toList, Array.size_extract]; omega) fun j u y hu hy => hcell j u y ?_ hy
      simp only [Array.getElem?_toList, Array.getElem?_extract] at hu
      split at hu
      · rw [Nat.add_zero] at hu; exact hu
      · cases hu
    · rw [partV_whole _ _ _ _ hag (by omega)] at hr
      refine yields_same hI hr hk ?_
      show RelP D w _ _
      cases hb : aggT P t
      · have := hag hb
        subst this
        have h9 : off < p0.cells.length := by omega
        have h10 : i * s' + off < cv.size := by omega
        simp only [partV, PV.sub, Array.getElem?_eq_getElem h10, Option.getD_some]
        refine hcell off _ _ (Array.getElem?_eq_getElem h10) ?_
        rw [List.getElem?_eq_getElem h9]
        simp [List.getD, List.getElem?_eq_getElem h9]
      · simp only [partV, PV.sub]
        refine .agg _ _ (by simp only [Array.size_extract, List.length_take, List.length_drop]; omega) fun k u y hu hy => ?_
        rw [List.getElem?_take] at hy
        split at hy
        · rename_i hk'
          rw [List.getElem?_drop] at hy
          rw [Array.getElem?_extract] at hu
          split at hu
          · exact hcell (off + k) u y (by rw [← Nat.add_assoc]; exact hu) hy
          · cases hu
        · cases hy
  · exact hcase.elim

theorem sound_cvtI (hI : Inv c θ D st a w) {s d : TypeId} {x : Operand} {k : IntKind} {ds : TypeDesc} (ho : o.op = .convert s d x) (hds : P.underlying s = some ds) (hd : P.underlying d = some (.int k)) (h : sev P st (.cvtI k (.of x)) K) : Yields P o a w (Res c θ st a K) := by
  obtain ⟨ax, hx, hv⟩ := h
  obtain ⟨k', n, hn, hk⟩ := relA_isV (hI.get hx) hv
  refine yields_same hI ?_ hk (RelP.sc _)
  simp only [execOp, ho, hn, convert, Sem.run_bind, run_underlying hds, run_underlying hd, Result.andThen_ok]
  cases ds <;> simp [Conv.intToInt]

theorem sound_ext (hI : Inv c θ D st a w) {x : Operand} {i : Nat} (ho : o.op = .extract x i) (h : sev P st (.ext (.of x) i) K) : Yields P o a w (Res c θ st a K) := by
  obtain ⟨ax, hx, xs, rfl, p, hp, hk⟩ := h
  have hX : RelP D w (a.eval x) (.tup xs) := hI.get hx
  generalize hv : a.eval x = v at hX
  cases hX with
  | tup vs xs hs hh =>
    have hlt : i < vs.size := by rw [hs]; exact (List.getElem?_eq_some_iff.1 hp).1
    refine yields_same hI (v := vs[i]) ?_ hk (hh i _ p (Array.getElem?_eq_getElem hlt) hp)
    simp [execOp, ho, hv, Instr.extract, Array.getElem?_eq_getElem hlt]

theorem sound_nilc (hI : Inv c θ D st a w) {x : Operand} (ho : o.op = .nilCheck x) (h : sev P st (.nilc (.of x)) K) : Yields P o a w (Res c θ st a K) := by
  obtain ⟨ax, hx, hcase, hk⟩ := h
  have hX := hI.get hx
  rcases hcase with ⟨p, rfl⟩ | ⟨id, o', rfl⟩ | ⟨id, i, o', rfl⟩ | ⟨f, ps, rfl⟩ | ⟨f, ids, rfl⟩
  · obtain ⟨b, o', he, _⟩ := relP_pto (relA_p hX)
    refine yields_same hI (v := a.eval x) ?_ hk hX
    simp [execOp, ho, he]
  · obtain ⟨g, _, he⟩ := hX
    refine yields_same hI (v := a.eval x) ?_ hk (hI.get hx)
    simp [execOp, ho, he]
  · obtain ⟨g, _, _, _, _, he⟩ := hX
    refine yields_same hI (v := a.eval x) ?_ hk (hI.get hx)
    simp [execOp, ho, he]
  · have hX' : RelP D w (a.eval x) (.fn (.func f) ps) := hX
    refine yields_same hI (v := a.eval x) ?_ hk (hI.get hx)
    generalize hv : a.eval x = v at hX'
    cases hX' with
    | fn f' vs xs hs hh => simp [execOp, ho, hv]
  · obtain ⟨gs, _, _, he⟩ := hX
    refine yields_same hI (v := a.eval x) ?_ hk (hI.get hx)
    simp [execOp, ho, he]

end
end Go.Av

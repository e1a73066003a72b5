/-
  THE ABSTRACT LAYER, 5: the soundness of the operations that leave the objects alone.
-/
import Derived.Test.YtfgchoifgocclaaDoorAv4
namespace Go.Av
open Go Go.RowKit

/-- The operation hands back a value, in some world. -/
def Yields (P : Program) (o : Oper) (a : Act) (w : World) (R : Value → World → Prop) : Prop :=
  ∃ v w', (execOp a.eval o).run P w = .ok (.value v) w' ∧ R v w'

theorem Yields.wp {P : Program} {o : Oper} {a : Act} {w : World} {R : Value → World → Prop} {next : Act → World → Prop} {Q : Exit → Act → World → Prop} (h : Yields P o a w R) (hn : ∀ v w', R v w' → next (a.put o.dst v) w') : o.wp P a w next Q := by
  obtain ⟨v, w', h1, h2⟩ := h
  unfold Oper.wp
  rw [h1]
  exact hn v w' h2

theorem run_binV {P : Program} {w : World} {op : BinOp} {t : TypeId} {x y : Operand} {a b : Value} {K : Value → Prop} (h : binV op a b K) :
    ∃ v, K v ∧ Sem.run P (do eqGuard op t x y a b; binOp op t a b) w = .ok v w := by
  cases a <;> cases b <;> simp only [binV] at h
  case int.int k m k' n =>
    cases op <;> simp only at h
    case shl => obtain ⟨h1, h2⟩ := h; refine ⟨_, h2, ?_⟩; simp [eqGuard, binOp, Op.shift, Int.not_lt.2 h1]
    case shr => obtain ⟨h1, h2⟩ := h; refine ⟨_, h2, ?_⟩; simp [eqGuard, binOp, Op.shift, Int.not_lt.2 h1]
    case quo => obtain ⟨rfl, h1, h2⟩ := h; refine ⟨_, h2, ?_⟩; simp [eqGuard, binOp, Op.intDiv, h1]
    case rem => obtain ⟨rfl, h1, h2⟩ := h; refine ⟨_, h2, ?_⟩; simp [eqGuard, binOp, Op.intDiv, h1]
    all_goals (obtain ⟨rfl, h⟩ := h; refine ⟨_, h, ?_⟩; simp [eqGuard, binOp, Op.intArith, Op.intBits, Op.intCmp, bitsI])
  case string.string s r =>
    cases op <;> simp only at h
    case add =>
      obtain ⟨h1, h2⟩ := h
      refine ⟨_, h2, ?_⟩
      have h3 : IntKind.i64.max = 9223372036854775807 := rfl
      simp [h3, eqGuard, binOp, Op.stringOp]
      omega
    all_goals first | exact h.elim | (refine ⟨_, h, ?_⟩; simp [eqGuard, binOp, Op.stringOp])

theorem run_eqB {P : Program} {w : World} {t : TypeId} {x y : Operand} {a b : Bool} (ht : P.underlying t = some .bool) (neg : Bool) :
    Sem.run P (do eqGuard (if neg then .neq else .eql) t x y (.bool a) (.bool b); binOp (if neg then .neq else .eql) t (.bool a) (.bool b)) w = .ok (.bool (neg ^^ (a == b))) w := by
  have he : Sem.run P (Op.equal t (.bool a) (.bool b)) w = .ok (a == b) w := by
    show Sem.run P (Op.equalIn (9999 + 1) t (.bool a) (.bool b)) w = _
    rw [Op.equalIn]
    simp [run_underlying ht]
  cases neg
  · show Sem.run P (do eqGuard .eql t x y (.bool a) (.bool b); binOp .eql t (.bool a) (.bool b)) w = _
    have h1 : binOp .eql t (.bool a) (.bool b) = (do pure (.bool (← Op.equal t (.bool a) (.bool b)))) := rfl
    rw [h1]
    simp [eqGuard, he]
  · show Sem.run P (do eqGuard .neq t x y (.bool a) (.bool b); binOp .neq t (.bool a) (.bool b)) w = _
    have h1 : binOp .neq t (.bool a) (.bool b) = (do pure (.bool (!(← Op.equal t (.bool a) (.bool b))))) := rfl
    rw [h1]
    simp [eqGuard, he]

theorem run_unV {P : Program} {w : World} {op : UnOp} {a : Value} {K : Value → Prop} (h : unV op a K) : ∃ v, K v ∧ Sem.run P (Op.unary op a) w = .ok v w := by
  unfold unV at h
  split at h
  · exact ⟨_, h, by simp [Op.unary]⟩
  · exact ⟨_, h, by simp [Op.unary, Op.intArith]⟩
  · exact h.elim

section
variable {P : Program} {w : World}

theorem run_sizeOf {t : TypeId} {s : Nat} (h : sizeT P t = some s) : Sem.run P (sizeOf t) w = .ok s w := by
  simp only [sizeT, Option.map_eq_some_iff] at h
  obtain ⟨i, hi, rfl⟩ := h
  simp [sizeOf, typeInfo, hi]

theorem run_isAgg {t : TypeId} {d : TypeDesc} (h : P.underlying t = some d) : Sem.run P (isAgg t) w = .ok (aggT P t) w := by
  simp only [isAgg, aggT, Sem.run_bind, run_underlying h, Result.andThen_ok]
  cases d <;> simp [h]

theorem addr_add (b o i : Nat) : (⟨b, o, none⟩ : Addr).add i = ⟨b, o + i, none⟩ := by
  unfold Addr.add; split <;> simp_all

def partV (ag : Bool) (vs : Array Value) (off sz : Nat) : Value := match ag with
  | true => .agg (vs.extract off (off + sz))
  | false => (vs[off]?).getD undef
def wholeV (ag : Bool) (cs : List Value) : Value := match ag with
  | true => .agg cs.toArray
  | false => cs.headD undef

/-- A variable that is read cell by cell. -/
theorem run_loadVar {t : TypeId} {d : TypeDesc} {s b o : Nat} (hd : P.underlying t = some d) (hs : sizeT P t = some s) (cs : List Value) (hl : cs.length = s) (hag : aggT P t = false → s = 1)
    (hc : ∀ (j : Nat) (v : Value), cs[j]? = some v → w.cell? ⟨b, o + j, none⟩ = some v) :
    Sem.run P (loadVar t ⟨b, o, none⟩) w = .ok (wholeV (aggT P t) cs) w := by
  simp only [loadVar, Sem.run_bind, run_isAgg hd, Result.andThen_ok]
  cases hb : aggT P t
  · simp only [Bool.false_eq_true, if_false]
    have h1 := hag hb
    match cs, hl with
    | [v], _ =>
      have := hc 0 v rfl
      rw [run_load]
      simp at this
      simp [this, wholeV]
    | [], hl => simp at hl; omega
    | _ :: _ :: _, hl => simp at hl; omega
  · simp only [if_true, Sem.run_bind, run_sizeOf hs, Result.andThen_ok]
    have := run_loadCells_list (P := P) (w := w) ⟨b, o, none⟩ cs (fun j v hj => by rw [addr_add]; exact hc j v hj)
    rw [hl] at this
    simp [this, wholeV]

theorem choose_list {α : Type} [Inhabited α] {n : Nat} {p : Nat → α → Prop} (h : ∀ j, j < n → ∃ u, p j u) : ∃ l : List α, l.length = n ∧ ∀ (j : Nat) (u : α), l[j]? = some u → p j u := by
  induction n with
  | zero => exact ⟨[], rfl, fun j u h => by simp at h⟩
  | succ n ih =>
    obtain ⟨l, h1, h2⟩ := ih fun j hj => h j (by omega)
    obtain ⟨u, hu⟩ := h n (by omega)
    refine ⟨l ++ [u], by simp [h1], fun j v hv => ?_⟩
    rcases Nat.lt_or_ge j l.length with h3 | h3
    · rw [List.getElem?_append_left h3] at hv; exact h2 j v hv
    · rw [List.getElem?_append_right h3] at hv
      have : j - l.length = 0 := by
        rcases Nat.eq_zero_or_pos (j - l.length) with h4 | h4
        · exact h4
        · rw [List.getElem?_eq_none (show [u].length ≤ j - l.length from h4)] at hv; cases hv
      rw [this] at hv
      simp at hv
      subst hv
      have : j = n := by omega
      subst this
      exact hu

/-- What a load of such cells yields. -/
theorem relP_ofCells {D : Nat → Prop} {cs : List Value} {ps : List PV} (hl : cs.length = ps.length) (h : ∀ (j : Nat) (u : Value) (y : PV), cs[j]? = some u → ps[j]? = some y → RelP D w u y) :
    RelP D w (.agg cs.toArray) (.agg ps) :=
  .agg _ _ (by simp [hl]) fun i v x hv hx => h i v x (by simpa using hv) hx

theorem cells_isAgg {p : PV} : p.isAgg = true → p = .agg p.cells := by
  cases p <;> simp [PV.isAgg, PV.cells]
theorem cells_notAgg {p : PV} : p.isAgg = false → p.cells = [p] := by
  cases p <;> simp [PV.isAgg, PV.cells]

theorem relP_whole {D : Nat → Prop} {cs : List Value} {p : PV} (hl : cs.length = p.cells.length) (h : ∀ (j : Nat) (u : Value) (y : PV), cs[j]? = some u → p.cells[j]? = some y → RelP D w u y) :
    RelP D w (wholeV p.isAgg cs) p := by
  cases hp : p.isAgg
  · have h1 := cells_notAgg hp
    rw [h1] at hl h
    match cs, hl, h with
    | [u], _, h => exact h 0 u p rfl rfl
  · have h1 := cells_isAgg hp
    rw [h1]
    simp only [PV.cells] at hl h ⊢
    exact relP_ofCells hl (fun j u y hu hy => h j u y hu hy)

theorem getD_of_some {α : Type} {l : List α} {i : Nat} {x d : α} (h : l[i]? = some x) : l.getD i d = x := by simp [List.getD, h]

theorem sub_cells {p : PV} {off sz : Nat} {ag : Bool} (hag : ag = false → sz = 1) (hle : off + sz ≤ p.cells.length) :
    (ag = true → (p.sub off sz ag).cells = (p.cells.drop off).take sz) ∧ (ag = false → p.cells[off]? = some (p.sub off sz ag)) := by
  constructor
  · rintro rfl; rfl
  · rintro rfl
    have := hag rfl
    have hlt : off < p.cells.length := by omega
    simp [PV.sub, List.getElem?_eq_getElem hlt]
end

end Go.Av

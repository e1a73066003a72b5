/-
  THE ABSTRACT LAYER, 20: functions that hand back a slice of their own making; small helps.
-/
import Derived.Test.YtfgchoifgocclaaDoorAv19
namespace Go.Av
open Go Go.RowKit

def opost (r : Nat) (e : TypeId) (sz : Nat) (R : List PV → Prop) : AE → St → Prop := fun en st => match en with
  | .exit _ => False
  | _ => ∃ id xs, look st.fr r = some (.b (.sl id)) ∧ st.hp[id]? = some (.vec e sz xs) ∧ R xs

theorem Entry.ocalls {P : Program} {f : FuncId} {x : AC} {r n : Nat} (he : Entry P f x [.tm r] n) (hm : P.follows .mixedOrders = true) {ps : List PV} {e : TypeId} {sz : Nat} {R : List PV → Prop} (hlen : ps.length ≤ n) (h : awp P x (opost r e sz R) ⟨argFr 0 ps, []⟩) : OCalls P f ps e sz R := by
  obtain ⟨fn, hf, hc, hok, hr, rfl⟩ := he
  simp only [Option.bind_eq_some_iff] at hc
  obtain ⟨code, hb, hc⟩ := hc
  intro w D vs hG hDlt hvl hvs
  have hres : fn.results.toList = [.tmp r] := by
    obtain ⟨h1, h2⟩ := mapM_some hr
    match hq : fn.results.toList, h1 with
    | [q], _ =>
      rw [hq] at h2
      have := h2 0 q _ rfl rfl
      cases q with
      | tmp t => simp only [compRes, Option.some.injEq, RV.tm.injEq] at this; rw [this]
      | cell a t =>
        simp only [compRes, Option.bind_eq_some_iff] at this
        obtain ⟨s, _, h3⟩ := this
        split at h3 <;> simp at h3
  have hres' : fn.results = #[.tmp r] := by apply Array.ext'; simpa using hres
  refine calls_of_wp hf hb (wp_mono (awp_sound hm (c := ⟨fn.ntmps, w, D, fun _ => False, fun w' hk => hG.below hk.below⟩) rfl code x _ ⟨argFr 0 ps, []⟩ { tmps := vs.toArray ++ Array.replicate (fn.ntmps - vs.toArray.size) undef, defers := [] } w hc hok h ?_) fun en a w' he => ?_)
  · refine ⟨[], D, ⟨by simp; omega, rfl, ⟨rfl, hDlt, fun i j li lj g hi => by simp at hi, fun i l g hi => by simp at hi, fun i l o hi => by simp at hi⟩, Keep.refl _ _, fun _ h => h, fun _ h => .inl h, fun i l g hi => by simp at hi, fun k y hk => ?_⟩⟩
    obtain ⟨i, p, rfl, hp, rfl⟩ := look_argFr ps 0 k y hk
    have hi : i < vs.length := by rw [hvl]; exact (List.getElem?_eq_some_iff.1 hp).1
    have hv := List.getElem?_eq_getElem hi
    have : (vs.toArray ++ Array.replicate (fn.ntmps - vs.toArray.size) undef).getD (0 + i) undef = vs[i] := by
      simp [Array.getElem?_append, hi]
    rw [this]
    exact hvs i _ p hv hp
  · obtain ⟨e', st, rfl, hq, θ, D1, hI⟩ := he
    have hrun : (results fn a.tmps).run P w' = .ok (a.tmps.getD r undef) w' := by
      rw [results_eq, hres', Array.mapM_eq_mapM_toList]
      simp [resM]
    have fin : (∃ id xs, look st.fr r = some (.b (.sl id)) ∧ st.hp[id]? = some (.vec e sz xs) ∧ R xs) → a.defers = [] ∧ ∃ v, (results fn a.tmps).run P w' = .ok v w' ∧ ∃ u xs, Ending.returned v = .returned u ∧ R xs ∧ Below w.heap.size w w' ∧
        ((xs = [] ∧ u = .slice none 0 0) ∨ ∃ g cap, ∃ c : Array Value, u = .slice (some ⟨g, 0, none⟩) xs.length cap ∧ w.heap.size ≤ g ∧ g < w'.heap.size ∧ xs.length ≤ cap ∧ cap ≤ maxLen ∧ (∀ x ∈ xs, x.cells.length = sz) ∧ w'.heap[g]? = some (.cells c e (0, 0)) ∧ c.size = cap * sz ∧
          ∀ (i j : Nat) (x y : PV), xs[i]? = some x → x.cells[j]? = some y → ∃ u, c[i * sz + j]? = some u ∧ RelP (fun b => D b ∨ (w.heap.size ≤ b ∧ b < w'.heap.size ∧ b ≠ g)) w' u y) := by
      rintro ⟨id, xs, hlk, hob, hR⟩
      refine ⟨hI.defers, _, hrun, _, xs, rfl, hR, hI.keep.below, ?_⟩
      obtain ⟨l, hl, hh⟩ := hI.fr r _ hlk
      have hro := hI.ok.objs id l _ hl hob
      cases l <;> simp only [RelO, Loc.head] at hro hh
      · exact .inl ⟨hro, hh⟩
      · rename_i g m cap s
        obtain ⟨rfl, rfl, h3, h4, h5, cv, h6, h7, h8⟩ := hro
        have hg := hI.ok.olt id _ g hl rfl
        have hgw : w.heap.size ≤ g := by
          rcases hI.onew id _ g hl rfl with h | h
          · exact h.elim
          · exact h
        refine .inr ⟨g, cap, cv, hh, hgw, hg.1, h3, h4, h5, h6, h7, fun i j x y hx hy => ?_⟩
        obtain ⟨u, e1, e2⟩ := h8 i j x y hx hy
        refine ⟨u, e1, e2.mono (fun b hb => ?_) (fun _ _ => rfl)⟩
        rcases hI.dnew b hb with h1 | h1 | h1
        · exact .inl h1
        · exact h1.elim
        · exact .inr ⟨h1, hI.ok.dlt b hb, fun e => hg.2 (e ▸ hb)⟩
    cases e' with
    | normal => exact fin hq
    | ret => exact fin hq
    | exit i => exact hq.elim

/-! ### Small helps -/
theorem wr64 {x : Int} (h1 : -9223372036854775808 ≤ x) (h2 : x ≤ 9223372036854775807) : IntKind.i64.wrap x = x := by rw [IntKind.wrap_i64]; omega

theorem getD_map {α : Type} (f : α → PV) (l : List α) (d : α) (i : Nat) (h : i < l.length) : (l.map f).getD i .any = f (l.getD i d) := by
  simp [List.getD, List.getElem?_eq_getElem h]
theorem getD_eq {α : Type} (l : List α) (d : α) (i : Nat) (h : i < l.length) : l.getD i d = l[i] := by
  simp [List.getD, List.getElem?_eq_getElem h]

/-- Lists of numbers. -/
def nums (k : IntKind) (l : List Int) : PV := lst 1 (l.map fun x => .sc (.int k x))
abbrev nv (k : IntKind) (n : Int) : PV := .sc (.int k n)
abbrev bv (b : Bool) : PV := .sc (.bool b)
abbrev sv (s : ByteArray) : PV := .sc (.string s)

section
variable {P : Program} {Q : AE → St → Prop} {st : St}
/-- A loop is left by its own block's exit. -/
theorem brk {f : St → Prop} {i : Nat} (h : Q .normal st) : AE.then f (AE.inBlock i Q) (.exit i) st := by
  show (if i = i then Q .normal st else Q (.exit i) st)
  rw [if_pos rfl]; exact h
theorem op_ret {r : Nat} {e : TypeId} {sz : Nat} {R : List PV → Prop} {s : St} (id : Nat) (xs : List PV) (h : look s.fr r = some (.b (.sl id))) (h2 : s.hp[id]? = some (.vec e sz xs)) (hR : R xs) : opost r e sz R .ret s := ⟨id, xs, h, h2, hR⟩
end
/-- A contract at a call, with its result named. -/
theorem PCalls.use {P : Program} {f : FuncId} {ps : List PV} {r : PV} {R : PV → Prop} (h : PCalls P f ps (· = r)) (hk : R r) : PCalls P f ps R := h.mono fun p hp => by rw [hp]; exact hk
theorem OCalls.use {P : Program} {f : FuncId} {ps : List PV} {e : TypeId} {sz : Nat} {r : List PV} {R : List PV → Prop} (h : OCalls P f ps e sz (· = r)) (hk : R r) : OCalls P f ps e sz R := h.mono fun p hp => by rw [hp]; exact hk
/-- What is handed back as the caller's own reads as data too. -/
theorem OCalls.pcalls {P : Program} {f : FuncId} {ps : List PV} {e : TypeId} {sz : Nat} {R : List PV → Prop} {R' : PV → Prop} (h : OCalls P f ps e sz R) (hk : ∀ xs, R xs → R' (lst sz xs)) : PCalls P f ps R' := by
  intro w D vs h0 h1 h2 h3
  refine (h w D vs h0 h1 h2 h3).mono fun en w' ⟨v, xs, he, hR, hb, hcase⟩ => ⟨v, lst sz xs, he, hk xs hR, hb, ?_⟩
  rcases hcase with ⟨rfl, rfl⟩ | ⟨g, cap, c, rfl, g1, g2, g3, g4, g5, g6, g7, g8⟩
  · exact .nil none 0
  · refine relP_lst_mk g3 fun _ => ⟨g, 0, rfl, .inr ⟨g1, g2⟩, g5, fun i j x y hx hy => ?_⟩
    obtain ⟨u, e1, e2⟩ := g8 i j x y hx hy
    refine ⟨u, ?_, e2.mono (fun b hb => hb.imp id fun h => ⟨h.1, h.2.1⟩) (fun _ _ => rfl)⟩
    rw [Nat.zero_add, cell_of_row w' g _ c e (0, 0) g6]
    exact e1
end Go.Av

/-
  THE ABSTRACT LAYER, 18: whole bodies, and the contract of a function.
-/
import Derived.Test.YtfgchoifgocclaaDoorAv17
namespace Go.Av
open Go Go.RowKit

/-! ### The loaded code, as abstract code -/
inductive AC where
  | skip
  | region (ops : List SOper)
  | draw (k : Nat) (ops : List SOper) (after : List (List Nat))
  | seq (a b : AC)
  | cond (c : SX) (thn els : AC)
  | block (id : Nat) (body : AC)
  | loop (body : AC)
  | exit (id : Nat)
  | ret
  deriving Inhabited

def dstOk (n : Nat) (d : Option Nat) : Bool := match d with
  | some k => decide (k < n)
  | none => true

def compOperF (P : Program) (n : Nat) (ops : Array Oper) (o : Oper) : Option SOper :=
  (compOp P o).bind fun s =>
    if dstOk n o.dst = true then
      match o.guard with
      | none => some ⟨o.dst, s, none⟩
      | some (j, want) => ((ops[j]?).bind (·.dst)).map fun t => ⟨o.dst, s, some (t, want)⟩
    else none

def compCode (P : Program) (n : Nat) : Code → Option AC
  | .skip => some .skip
  | .region _ ops dr => (ops.toList.mapM (compOperF P n ops)).map fun ss => if dr then .draw 0 ss (afterOf ops) else .region ss
  | .seq a b => (compCode P n a).bind fun x => (compCode P n b).map fun y => .seq x y
  | .cond c a b => (compCode P n a).bind fun x => (compCode P n b).map fun y => .cond (.of c) x y
  | .block id a => (compCode P n a).map (.block id)
  | .loop a => (compCode P n a).map .loop
  | .exit id => some (.exit id)
  | .ret => some .ret
  | _ => none

def SOper.canon (o : SOper) : SOper := { o with op := o.op.canon }
def AC.canon : AC → AC
  | .region ops => .region (ops.map SOper.canon)
  | .draw _ ops af => .draw 0 (ops.map SOper.canon) af
  | .seq a b => .seq a.canon b.canon
  | .cond c a b => .cond c a.canon b.canon
  | .block id a => .block id a.canon
  | .loop a => .loop a.canon
  | x => x
def AC.okB : AC → Bool
  | .draw k ops af => lowB af && drawOk ops (ancs [] af) k && decide (k ≤ ops.length)
  | .seq a b => a.okB && b.okB
  | .cond _ a b => a.okB && b.okB
  | .block _ a => a.okB
  | .loop a => a.okB
  | _ => true

/-! ### What abstract code asks of a state -/
inductive AE where
  | normal
  | exit (id : Nat)
  | ret

/-- Whatever is as s says is as s' says. -/
def Weak (s s' : St) : Prop := ∀ (c : Ctx) (a : Act) (w : World), Rel c s a w → Rel c s' a w
/-- On with s, or with what it gives. -/
def W (f : St → Prop) (s : St) : Prop := ∃ s', Weak s s' ∧ f s'
theorem W.mk {f : St → Prop} {s : St} (h : f s) : W f s := ⟨s, fun _ _ _ h => h, h⟩
theorem W.to {f : St → Prop} {s : St} (s' : St) (hw : Weak s s') (h : f s') : W f s := ⟨s', hw, h⟩

def AE.then (f : St → Prop) (Q : AE → St → Prop) : AE → St → Prop
  | .normal, s => W f s
  | e, s => Q e s
def AE.inBlock (id : Nat) (Q : AE → St → Prop) : AE → St → Prop
  | .exit i, s => if i = id then Q .normal s else Q (.exit i) s
  | e, s => Q e s

def aloop (body : (AE → St → Prop) → St → Prop) (Q : AE → St → Prop) : Nat → St → Prop
  | 0, _ => False
  | n + 1, st => body (AE.then (aloop body Q n) Q) st

def awp (P : Program) : AC → (AE → St → Prop) → St → Prop
  | .skip, Q, st => Q .normal st
  | .region ss, Q, st => sops P ss st (Q .normal)
  | .draw k ss _, Q, st => sdraw P k ss st (Q .normal)
  | .seq a b, Q, st => awp P a (AE.then (awp P b Q) Q) st
  | .cond c a b, Q, st => bindA (st.get c) fun v => isV v fun v => isBool v fun t => (t = true → awp P a Q st) ∧ (t = false → awp P b Q st)
  | .block id a, Q, st => awp P a (AE.inBlock id Q) st
  | .loop a, Q, st => W (fun s => ∃ n, aloop (awp P a) Q n s) st
  | .exit id, Q, st => Q (.exit id) st
  | .ret, Q, st => Q .ret st

def AE.toExit : AE → Exit
  | .normal => .normal
  | .exit i => .exit i
  | .ret => .ret

theorem ac_skip {x : AC} (h : AC.skip = x.canon) : x = .skip := by cases x <;> simp_all [AC.canon]
theorem ac_region {x : AC} {s : List SOper} (h : AC.region s = x.canon) : ∃ ss, x = .region ss ∧ s = ss.map SOper.canon := by cases x <;> simp_all [AC.canon]
theorem ac_draw {x : AC} {s : List SOper} {af : List (List Nat)} (h : AC.draw 0 s af = x.canon) : ∃ k ss, x = .draw k ss af ∧ s = ss.map SOper.canon := by
  cases x <;> simp_all [AC.canon]
  exact ⟨_, _, ⟨rfl, rfl⟩, rfl⟩
theorem ac_seq {x p q : AC} (h : AC.seq p q = x.canon) : ∃ a b, x = .seq a b ∧ p = a.canon ∧ q = b.canon := by
  cases x <;> simp_all [AC.canon]
  exact ⟨_, _, ⟨rfl, rfl⟩, rfl, rfl⟩
theorem ac_cond {x p q : AC} {s : SX} (h : AC.cond s p q = x.canon) : ∃ a b, x = .cond s a b ∧ p = a.canon ∧ q = b.canon := by
  cases x <;> simp_all [AC.canon]
  exact ⟨_, _, ⟨rfl, rfl⟩, rfl, rfl⟩
theorem ac_block {x p : AC} {i : Nat} (h : AC.block i p = x.canon) : ∃ a, x = .block i a ∧ p = a.canon := by cases x <;> simp_all [AC.canon]
theorem ac_loop {x p : AC} (h : AC.loop p = x.canon) : ∃ a, x = .loop a ∧ p = a.canon := by cases x <;> simp_all [AC.canon]
theorem ac_exit {x : AC} {i : Nat} (h : AC.exit i = x.canon) : x = .exit i := by cases x <;> simp_all [AC.canon]
theorem ac_ret {x : AC} (h : AC.ret = x.canon) : x = .ret := by cases x <;> simp_all [AC.canon]

section
variable {P : Program} {c : Ctx}

/-- What an abstract postcondition says of the machine. -/
def conc (c : Ctx) (Q : AE → St → Prop) : Exit → Act → World → Prop := fun e a w => ∃ e' st, e = e'.toExit ∧ Q e' st ∧ Rel c st a w

theorem conc_then {f : St → Prop} {Q : AE → St → Prop} {e : Exit} {a : Act} {w : World} (h : conc c (AE.then f Q) e a w) : Exit.then (fun a w => ∃ st, f st ∧ Rel c st a w) (conc c Q) e a w := by
  obtain ⟨e', st, rfl, hq, hr⟩ := h
  cases e' with
  | normal => obtain ⟨s', hw, hq⟩ := hq; exact ⟨s', hq, hw _ _ _ hr⟩
  | exit i => exact ⟨.exit i, st, rfl, hq, hr⟩
  | ret => exact ⟨.ret, st, rfl, hq, hr⟩

theorem conc_block {id : Nat} {Q : AE → St → Prop} {e : Exit} {a : Act} {w : World} (h : conc c (AE.inBlock id Q) e a w) : Exit.inBlock id (conc c Q) e a w := by
  obtain ⟨e', st, rfl, hq, hr⟩ := h
  cases e' with
  | normal => exact ⟨.normal, st, rfl, hq, hr⟩
  | exit i =>
    simp only [AE.toExit, Exit.inBlock]
    simp only [AE.inBlock] at hq
    split
    · rename_i h; rw [if_pos h] at hq; exact ⟨.normal, st, rfl, hq, hr⟩
    · rename_i h; rw [if_neg h] at hq; exact ⟨.exit i, st, rfl, hq, hr⟩
  | ret => exact ⟨.ret, st, rfl, hq, hr⟩

theorem compOperF_ok {n : Nat} {ops : Array Oper} {o : Oper} {s : SOper} (h : compOperF P n ops o = some s.canon) : compOper P n ops o s := by
  unfold compOperF at h
  simp only [Option.bind_eq_some_iff] at h
  obtain ⟨sop, h1, h2⟩ := h
  split at h2
  · rename_i hd
    have hdst : ∀ k, o.dst = some k → k < n := fun k hk => by rw [hk] at hd; simpa [dstOk] using hd
    unfold compOper
    cases hg : o.guard with
    | none =>
      rw [hg] at h2
      simp only [Option.some.injEq, SOper.canon] at h2
      cases s
      simp only [SOper.mk.injEq] at h2
      obtain ⟨e1, e2, e3⟩ := h2
      exact ⟨by rw [h1, e2], e1.symm, hdst, e3.symm⟩
    | some jw =>
      obtain ⟨j, want⟩ := jw
      rw [hg] at h2
      simp only [Option.map_eq_some_iff] at h2
      obtain ⟨t, ht, h2⟩ := h2
      cases s
      simp only [SOper.canon, SOper.mk.injEq] at h2
      obtain ⟨e1, e2, e3⟩ := h2
      exact ⟨by rw [h1, e2], e1.symm, hdst, t, ht, e3.symm⟩
  · cases h2

theorem compOpsF_ok {n : Nat} {ops : Array Oper} : ∀ {l : List Oper} {ss : List SOper}, l.mapM (compOperF P n ops) = some (ss.map SOper.canon) → compOps P n ops l ss
  | [], ss, h => by
    simp at h
    cases ss with
    | nil => trivial
    | cons s ss => simp at h
  | o :: l, ss, h => by
    simp only [List.mapM_cons, Option.bind_eq_bind, Option.pure_def, Option.bind_eq_some_iff, Option.some.injEq] at h
    obtain ⟨s', h1, m, h2, h3⟩ := h
    cases ss with
    | nil => simp at h3
    | cons s ss =>
      simp only [List.map_cons, List.cons.injEq] at h3
      obtain ⟨rfl, rfl⟩ := h3
      exact ⟨compOperF_ok h1, compOpsF_ok h2⟩

theorem awp_sound (hm : P.follows .mixedOrders = true) {n : Nat} (hn : c.n = n) : ∀ (code : Code) (x : AC) (Q : AE → St → Prop) (st : St) (a : Act) (w : World), compCode P n code = some x.canon → x.okB = true → awp P x Q st → Rel c st a w → code.wp P (conc c Q) a w := by
  intro code
  induction code with
  | skip =>
    intro x Q st a w hc hok h hr
    simp only [compCode, Option.some.injEq] at hc
    cases ac_skip hc
    exact wp_skip ⟨.normal, st, rfl, h, hr⟩
  | region id ops dr =>
    intro x Q st a w hc hok h hr
    simp only [compCode, Option.map_eq_some_iff] at hc
    obtain ⟨ss', hss, hc⟩ := hc
    cases dr
    · simp only [Bool.false_eq_true, if_false] at hc
      obtain ⟨ss, rfl, rfl⟩ := ac_region hc
      exact region_sound hn (compOpsF_ok hss) h hr fun a w ⟨st', h1, h2⟩ => ⟨.normal, st', rfl, h1, h2⟩
    · simp only [if_true] at hc
      obtain ⟨k, ss, rfl, rfl⟩ := ac_draw hc
      simp only [AC.okB, Bool.and_eq_true, decide_eq_true_eq] at hok
      exact draw_sound hm hn (compOpsF_ok hss) rfl hok.1.1 hok.1.2 hok.2 h hr fun a w ⟨st', h1, h2⟩ => ⟨.normal, st', rfl, h1, h2⟩
  | seq p q ihp ihq =>
    intro x Q st a w hc hok h hr
    simp only [compCode, Option.bind_eq_some_iff, Option.map_eq_some_iff] at hc
    obtain ⟨x1, h1, x2, h2, hc⟩ := hc
    obtain ⟨y1, y2, rfl, rfl, rfl⟩ := ac_seq hc
    simp only [AC.okB, Bool.and_eq_true] at hok
    refine wp_seq (wp_mono (ihp _ _ st a w h1 hok.1 h hr) fun e a w he => ?_)
    have := conc_then he
    cases e <;> first | (obtain ⟨st', h3, h4⟩ := this; exact ihq _ _ st' a w h2 hok.2 h3 h4) | exact this
  | cond cc p q ihp ihq =>
    intro x Q st a w hc hok h hr
    simp only [compCode, Option.bind_eq_some_iff, Option.map_eq_some_iff] at hc
    obtain ⟨x1, h1, x2, h2, hc⟩ := hc
    obtain ⟨y1, y2, rfl, rfl, rfl⟩ := ac_cond hc
    simp only [AC.okB, Bool.and_eq_true] at hok
    obtain ⟨av, hav, hv⟩ := h
    have hr0 := hr
    obtain ⟨θ, D, hI⟩ := hr
    obtain ⟨t, ht, h3, h4⟩ := relA_isV (hI.get hav) hv
    exact wp_cond_split ht (fun e => ihp _ _ st a w h1 hok.1 (h3 e) hr0) (fun e => ihq _ _ st a w h2 hok.2 (h4 e) hr0)
  | block id p ihp =>
    intro x Q st a w hc hok h hr
    simp only [compCode, Option.map_eq_some_iff] at hc
    obtain ⟨x1, h1, hc⟩ := hc
    obtain ⟨y1, rfl, rfl⟩ := ac_block hc
    exact wp_block (wp_mono (ihp _ _ st a w h1 hok h hr) fun e a w he => conc_block he)
  | loop p ihp =>
    intro x Q st a w hc hok h hr
    simp only [compCode, Option.map_eq_some_iff] at hc
    obtain ⟨x1, h1, hc⟩ := hc
    obtain ⟨y, rfl, rfl⟩ := ac_loop hc
    obtain ⟨s0, hw, m, h⟩ := h
    have key : ∀ (m : Nat) (s : St) (a : Act) (w : World), aloop (awp P y) Q m s → Rel c s a w → Code.rounds P p (conc c Q) m a w := by
      intro m
      induction m with
      | zero => intro s a w h _; exact h.elim
      | succ m ih =>
        intro s a w h hr
        rw [rounds_succ]
        refine wp_mono (ihp _ _ s a w h1 hok h hr) fun e a w he => ?_
        have := conc_then he
        cases e <;> first | (obtain ⟨st', h3, h4⟩ := this; exact ih st' a w h3 h4) | exact this
    exact wp_loop_rounds m (key m s0 a w h (hw _ _ _ hr))
  | exit id =>
    intro x Q st a w hc hok h hr
    simp only [compCode, Option.some.injEq] at hc
    cases ac_exit hc
    exact wp_exit ⟨.exit id, st, rfl, h, hr⟩
  | ret =>
    intro x Q st a w hc hok h hr
    simp only [compCode, Option.some.injEq] at hc
    cases ac_ret hc
    exact wp_ret ⟨.ret, st, rfl, h, hr⟩
  | rangeFunc => intro x Q st a w hc; cases hc
  | scope => intro x Q st a w hc; cases hc
  | label => intro x Q st a w hc; cases hc
  | goto => intro x Q st a w hc; cases hc
  | refuse => intro x Q st a w hc; cases hc

end

/-! ### The contract of a function -/
inductive RV where
  | tm (k : Nat)
  | cell (k sz : Nat) (ag : Bool)

def compRes (P : Program) : ResultVar → Option RV
  | .tmp t => some (.tm t)
  | .cell a t => (sizeT P t).bind fun s => if (P.underlying t).isSome then some (.cell a s (aggT P t)) else none

def retB (hp : List AObj) : BV → Option PV
  | .pv p => some p
  | .nils => some (.list 0 [])
  | .sl id => match hp[id]? with
    | some (.vec _ sz xs) => some (lst sz xs)
    | _ => none
  | _ => none
def retA (hp : List AObj) : AV → Option PV
  | .b x => retB hp x
  | .agg xs => (xs.mapM (retB hp)).map .agg
def retV (st : St) : RV → Option PV
  | .tm k => (look st.fr k).bind (retA st.hp)
  | .cell k sz ag => (look st.fr k).bind fun
    | .b (.ptr id off) => match st.hp[id]? with
      | some (.box _ cs) => if off + sz ≤ cs.length ∧ (ag = false → sz = 1) then retA st.hp (ofCells ag ((cs.drop off).take sz)) else none
      | _ => none
    | _ => none
def retP (st : St) : List RV → Option PV
  | [r] => retV st r
  | rs => (rs.mapM (retV st)).map .tup

def argFr : Nat → List PV → List (Nat × AV)
  | _, [] => []
  | k, p :: ps => (k, .p p) :: argFr (k + 1) ps

theorem look_argFr : ∀ (ps : List PV) (k t : Nat) (x : AV), look (argFr k ps) t = some x → ∃ i p, t = k + i ∧ ps[i]? = some p ∧ x = .p p
  | [], k, t, x, h => by cases h
  | p :: ps, k, t, x, h => by
    simp only [argFr, look] at h
    split at h
    · rename_i h1
      cases h
      exact ⟨0, p, by omega, rfl, rfl⟩
    · obtain ⟨i, q, h1, h2, h3⟩ := look_argFr ps (k + 1) t x h
      exact ⟨i + 1, q, by omega, by simpa using h2, h3⟩

section
variable {θ : List Loc} {D D' : Nat → Prop} {hp : List AObj} {w : World}
theorem relB_ret (hok : Ok θ D hp w) (hD : ∀ b, D b → D' b) (hO : ∀ (i : Nat) (l : Loc) (g : Nat), θ[i]? = some l → l.own = some g → D' g) {v : Value} {x : BV} {p : PV} (h : RelB θ D w v x) (hx : retB hp x = some p) : RelP D' w v p := by
  cases x <;> simp only [retB] at hx
  case pv q => cases hx; exact RelP.mono hD (fun _ _ => rfl) h
  case nils => cases hx; cases h; exact .nil none 0
  case sl id =>
    split at hx
    · rename_i e sz xs ho
      cases hx
      obtain ⟨l, hl, hh⟩ := h
      have hro := hok.objs id l _ hl ho
      cases l <;> simp only [RelO, Loc.head] at hro hh
      · subst hro; subst hh; exact .nil none 0
      · rename_i g n cap s
        obtain ⟨rfl, rfl, h3, h4, h5, c, h6, h7, h8⟩ := hro
        subst hh
        refine relP_lst_mk h3 fun _ => ⟨g, 0, rfl, hO id _ g hl rfl, h5, fun i j x y hx hy => ?_⟩
        obtain ⟨u, e1, e2⟩ := h8 i j x y hx hy
        refine ⟨u, ?_, e2.mono hD (fun _ _ => rfl)⟩
        rw [Nat.zero_add, cell_of_row w g _ c e (0, 0) h6]
        exact e1
    · cases hx
  all_goals cases hx

theorem relA_ret (hok : Ok θ D hp w) (hD : ∀ b, D b → D' b) (hO : ∀ (i : Nat) (l : Loc) (g : Nat), θ[i]? = some l → l.own = some g → D' g) {v : Value} {x : AV} {p : PV} (h : RelA θ D w v x) (hx : retA hp x = some p) : RelP D' w v p := by
  cases x with
  | b x => exact relB_ret hok hD hO h hx
  | agg xs =>
    obtain ⟨vs, rfl, h1, h2⟩ := h
    simp only [retA, Option.map_eq_some_iff] at hx
    obtain ⟨ps, hps, rfl⟩ := hx
    obtain ⟨h3, h4⟩ := mapM_some hps
    refine RelP.agg _ _ (by rw [h1, h3]) fun i u p hu hp => ?_
    obtain ⟨x, hx⟩ := getElem?_of_len h3 hp
    exact relB_ret hok hD hO (h2 i u x hu hx) (h4 i x p hx hp)
end

section
variable {P : Program}
/-- One result, as it is handed back. -/
def resM (tmps : Array Value) (r : ResultVar) : Sem Value := match r with
  | .tmp t => pure (tmps.getD t undef)
  | .cell b t => do loadVar t (← asAddr (tmps.getD b undef))

theorem results_eq (fn : Func) (tmps : Array Value) : results fn tmps = (do let vs ← fn.results.mapM (resM tmps); pure (if h : vs.size = 1 then vs[0] else .tuple vs)) := rfl

theorem run_retV {c : Ctx} {θ : List Loc} {D D' : Nat → Prop} {st : St} {a : Act} {w : World} (hI : Inv c θ D st a w) (hD : ∀ b, D b → D' b) (hO : ∀ (i : Nat) (l : Loc) (g : Nat), θ[i]? = some l → l.own = some g → D' g) {r : ResultVar} {rv : RV} {p : PV} (hc : compRes P r = some rv) (hr : retV st rv = some p) :
    ∃ v, (resM a.tmps r).run P w = .ok v w ∧ RelP D' w v p := by
  cases r with
  | tmp t =>
    simp only [compRes, Option.some.injEq] at hc
    subst hc
    simp only [retV, Option.bind_eq_some_iff] at hr
    obtain ⟨x, hx, hr⟩ := hr
    exact ⟨_, rfl, relA_ret hI.ok hD hO (hI.fr t x hx) hr⟩
  | cell b t =>
    simp only [compRes, Option.bind_eq_some_iff] at hc
    obtain ⟨s, hs, hc⟩ := hc
    split at hc
    · rename_i hd
      obtain ⟨d, hd⟩ := Option.isSome_iff_exists.1 hd
      cases hc
      simp only [retV, Option.bind_eq_some_iff] at hr
      obtain ⟨x, hx, hr⟩ := hr
      split at hr
      · rename_i id off
        split at hr
        · rename_i t' cs ho
          split at hr
          · rename_i hcond
            obtain ⟨hle, hag⟩ := hcond
            obtain ⟨g, hg, he⟩ := hI.fr b _ hx
            obtain ⟨cv, h1, h2, h3⟩ := hI.ok.objs id _ _ hg ho
            have hle' : off + s ≤ cv.size := by omega
            have hr' := run_loadVar (P := P) (w := w) (b := g) (o := off) hd hs (cv.extract off (off + s)).toList (by simp; omega) hag (fun j v hj => by
              rw [cell_of_row w g _ cv t' (0, 0) h1]
              simp only [Array.getElem?_toList, Array.getElem?_extract] at hj
              split at hj
              · exact hj
              · cases hj)
            rw [partV_whole _ _ _ _ hag hle'] at hr'
            refine ⟨_, ?_, relA_ret hI.ok hD hO (relA_ofCells h2 h3 hle hag) hr⟩
            simp only [resM, he, asAddr, Sem.run_bind, Sem.run_pure, Result.andThen_ok, hr']
          · cases hr
        · cases hr
      · cases hr
    · cases hc

/-- THE CONTRACT OF A FUNCTION, BY ITS ABSTRACT BODY. -/
theorem pcalls_of {f : FuncId} {fn : Func} {code : Code} {x : AC} {rs : List RV} {ps : List PV} {R : PV → Prop} (hm : P.follows .mixedOrders = true) (hf : P.funcs[f]? = some fn) (hb : fn.body = some code) (hc : compCode P fn.ntmps code = some x.canon) (hok : x.okB = true)
    (hres : fn.results.toList.mapM (compRes P) = some rs) (hlen : ps.length ≤ fn.ntmps) (h : awp P x (fun e st => match e with | .exit _ => False | _ => bindA (retP st rs) R) ⟨argFr 0 ps, []⟩) : PCalls P f ps R := by
  intro w D vs hG hDlt hvl hvs
  refine calls_of_wp hf hb (wp_mono (awp_sound hm (c := ⟨fn.ntmps, w, D, fun _ => False, fun w' hk => hG.below hk.below⟩) rfl code x _ ⟨argFr 0 ps, []⟩ { tmps := vs.toArray ++ Array.replicate (fn.ntmps - vs.toArray.size) undef, defers := [] } w hc hok h ?_) fun e a w' he => ?_)
  · refine ⟨[], D, ⟨by simp; omega, rfl, ⟨rfl, hDlt, fun i j li lj g hi => by simp at hi, fun i l g hi => by simp at hi, fun i l o hi => by simp at hi⟩, Keep.refl _ _, fun _ h => h, fun _ h => .inl h, fun i l g hi => by simp at hi, fun k y hk => ?_⟩⟩
    obtain ⟨i, p, rfl, hp, rfl⟩ := look_argFr ps 0 k y hk
    have hi : i < vs.length := by rw [hvl]; exact (List.getElem?_eq_some_iff.1 hp).1
    have hv := List.getElem?_eq_getElem hi
    have : (vs.toArray ++ Array.replicate (fn.ntmps - vs.toArray.size) undef).getD (0 + i) undef = vs[i] := by
      simp [Array.getElem?_append, hi]
    rw [this]
    exact hvs i _ p hv hp
  · obtain ⟨e', st, rfl, hq, θ, D1, hI⟩ := he
    -- at the end all that the call has made is stable
    have hD' : ∀ b, D1 b → D b ∨ (w.heap.size ≤ b ∧ b < w'.heap.size) := fun b hb => by
      rcases hI.dnew b hb with h1 | h1 | h1
      · exact .inl h1
      · exact h1.elim
      · exact .inr ⟨h1, hI.ok.dlt b hb⟩
    have hO : ∀ (i : Nat) (l : Loc) (g : Nat), θ[i]? = some l → l.own = some g → D g ∨ (w.heap.size ≤ g ∧ g < w'.heap.size) := fun i l g hi hg => by
      rcases hI.onew i l g hi hg with h1 | h1
      · exact h1.elim
      · exact .inr ⟨h1, (hI.ok.olt i l g hi hg).1⟩
    have fin : ∀ p, retP st rs = some p → R p → a.defers = [] ∧ ∃ v, (results fn a.tmps).run P w' = .ok v w' ∧ ∃ u q, Ending.returned v = .returned u ∧ R q ∧ Below w.heap.size w w' ∧ RelP (fun b => D b ∨ (w.heap.size ≤ b ∧ b < w'.heap.size)) w' u q := by
      intro p hp hR
      refine ⟨hI.defers, ?_⟩
      -- each result by itself
      have each : ∀ (l : List ResultVar) (rl : List RV) (pl : List PV), l.mapM (compRes P) = some rl → rl.mapM (retV st) = some pl → ∃ ul : List Value, (l.mapM (resM a.tmps)).run P w' = .ok ul w' ∧ ul.length = pl.length ∧ ∀ (i : Nat) (u : Value) (q : PV), ul[i]? = some u → pl[i]? = some q → RelP (fun b => D b ∨ (w.heap.size ≤ b ∧ b < w'.heap.size)) w' u q := by
        intro l
        induction l with
        | nil =>
          intro rl pl h1 h2
          simp at h1; subst h1
          simp at h2; subst h2
          exact ⟨[], rfl, rfl, fun i u q hu => by simp at hu⟩
        | cons r l ih =>
          intro rl pl h1 h2
          simp only [List.mapM_cons, Option.bind_eq_bind, Option.pure_def, Option.bind_eq_some_iff, Option.some.injEq] at h1
          obtain ⟨rv, hrv, rl', hrl, rfl⟩ := h1
          simp only [List.mapM_cons, Option.bind_eq_bind, Option.pure_def, Option.bind_eq_some_iff, Option.some.injEq] at h2
          obtain ⟨q0, hq0, pl', hpl, rfl⟩ := h2
          obtain ⟨u0, e1, e2⟩ := run_retV hI hD' hO hrv hq0
          obtain ⟨ul, e3, e4, e5⟩ := ih rl' pl' hrl hpl
          refine ⟨u0 :: ul, ?_, by simp [e4], fun i u q hu hq => ?_⟩
          · rw [List.mapM_cons, Sem.run_bind, e1]
            simp only [Result.andThen_ok, Sem.run_bind, e3, Sem.run_pure]
          · cases i with
            | zero => simp at hu hq; subst hu; subst hq; exact e2
            | succ i => exact e5 i u q (by simpa using hu) (by simpa using hq)
      have shape : ∃ pl, rs.mapM (retV st) = some pl ∧ ((pl = [p] ∧ rs.length = 1) ∨ (p = .tup pl ∧ rs.length ≠ 1)) := by
        match rs, hp with
        | [], hp =>
          simp only [retP, Option.map_eq_some_iff] at hp
          obtain ⟨pl, h1, rfl⟩ := hp
          exact ⟨pl, h1, .inr ⟨rfl, by simp⟩⟩
        | [r], hp =>
          simp only [retP] at hp
          exact ⟨[p], by simp [hp], .inl ⟨rfl, rfl⟩⟩
        | r :: r' :: l, hp =>
          simp only [retP, Option.map_eq_some_iff] at hp
          obtain ⟨pl, h1, rfl⟩ := hp
          exact ⟨pl, h1, .inr ⟨rfl, by simp⟩⟩
      obtain ⟨pl, hpl, hsh⟩ := shape
      obtain ⟨ul, e1, e2, e3⟩ := each _ _ _ hres hpl
      have hl1 := (mapM_some hpl).1
      have hrun : (results fn a.tmps).run P w' = .ok (if h : ul.toArray.size = 1 then ul.toArray[0] else .tuple ul.toArray) w' := by
        rw [results_eq, Array.mapM_eq_mapM_toList]
        simp only [Sem.run_bind, Sem.run_map]
        rw [e1]
        rfl
      rw [hrun]
      refine ⟨_, rfl, _, p, rfl, hR, hI.keep.below, ?_⟩
      rcases hsh with ⟨rfl, h1⟩ | ⟨rfl, h1⟩
      · match ul, e2, e3 with
        | [u], _, e3 => exact e3 0 u p rfl rfl
      · rw [dif_neg (by simp; omega)]
        exact .tup _ _ (by simp [e2]) fun i u q hu hq => e3 i u q (by simpa using hu) hq
    cases e' with
    | normal => obtain ⟨p, hp, hR⟩ := hq; exact fin p hp hR
    | ret => obtain ⟨p, hp, hR⟩ := hq; exact fin p hp hR
    | exit i => exact hq.elim

end
end Go.Av

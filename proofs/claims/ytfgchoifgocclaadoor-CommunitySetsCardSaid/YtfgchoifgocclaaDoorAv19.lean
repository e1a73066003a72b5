/-
  THE ABSTRACT LAYER, 19: the rules by which bodies are gone through.
-/
import Derived.Test.YtfgchoifgocclaaDoorAv18
namespace Go.Av
open Go Go.RowKit

/-- The abstract code of a loaded function. -/
def Entry (P : Program) (f : FuncId) (x : AC) (rs : List RV) (n : Nat) : Prop :=
  ∃ fn, P.funcs[f]? = some fn ∧ fn.body.bind (compCode P fn.ntmps) = some x.canon ∧ x.okB = true ∧ fn.results.toList.mapM (compRes P) = some rs ∧ fn.ntmps = n

def fpost (rs : List RV) (R : PV → Prop) : AE → St → Prop := fun e st => match e with
  | .exit _ => False
  | _ => bindA (retP st rs) R

theorem Entry.calls {P : Program} {f : FuncId} {x : AC} {rs : List RV} {n : Nat} (he : Entry P f x rs n) (hm : P.follows .mixedOrders = true) {ps : List PV} {R : PV → Prop} (hlen : ps.length ≤ n) (h : awp P x (fpost rs R) ⟨argFr 0 ps, []⟩) : PCalls P f ps R := by
  obtain ⟨fn, hf, hc, hok, hr, rfl⟩ := he
  simp only [Option.bind_eq_some_iff] at hc
  obtain ⟨code, hb, hc⟩ := hc
  exact pcalls_of hm hf hb hc hok hr hlen h

/-! ### Weakening -/
def subFr : List (Nat × AV) → List (Nat × AV) → Prop
  | [], _ => True
  | (k, x) :: l, fr => look fr k = some x ∧ subFr l fr

theorem subFr_look : ∀ {l fr : List (Nat × AV)}, subFr l fr → ∀ k x, look l k = some x → look fr k = some x
  | [], _, _, k, x, h => by cases h
  | (j, y) :: l, fr, hs, k, x, h => by
    obtain ⟨h1, h2⟩ := hs
    simp only [look] at h
    split at h
    · rename_i e; cases h; rw [e]; exact h1
    · exact subFr_look h2 k x h

theorem weak_fr {fr fr' : List (Nat × AV)} {hp : List AObj} (h : subFr fr' fr) : Weak ⟨fr, hp⟩ ⟨fr', hp⟩ :=
  fun _ _ _ ⟨θ, D, hI⟩ => ⟨θ, D, hI.size, hI.defers, hI.ok, hI.keep, hI.dsub, hI.dnew, hI.onew, fun k x hk => hI.fr k x (subFr_look h k x hk)⟩

theorem Weak.refl (s : St) : Weak s s := fun _ _ _ h => h
theorem Weak.trans {a b c : St} (h : Weak a b) (k : Weak b c) : Weak a c := fun _ _ _ hr => k _ _ _ (h _ _ _ hr)

def BV.closed (n : Nat) : BV → Bool
  | .sl i => decide (i < n)
  | .ptr i _ => decide (i < n)
  | .elt i _ _ => decide (i < n)
  | .clo _ ids => ids.all fun i => decide (i < n)
  | _ => true
def AV.closed (n : Nat) : AV → Bool
  | .b x => x.closed n
  | .agg xs => xs.all (BV.closed n)
def AObj.closed (n : Nat) : AObj → Bool
  | .box _ cs => cs.all (BV.closed n)
  | _ => true

theorem take_get {α : Type} {l : List α} {n i : Nat} {x : α} (h : l[i]? = some x) (hi : i < n) : (l.take n)[i]? = some x := by
  rw [List.getElem?_take, if_pos hi]; exact h

theorem RelB.take {θ : List Loc} {D : Nat → Prop} {w : World} {v : Value} {x : BV} {n : Nat} (hc : x.closed n = true) (h : RelB θ D w v x) : RelB (θ.take n) D w v x := by
  cases x <;> simp only [RelB] at h ⊢ <;> simp only [BV.closed, decide_eq_true_eq] at hc
  · exact h
  · exact h
  · obtain ⟨l, h1, h2⟩ := h; exact ⟨l, take_get h1 hc, h2⟩
  · obtain ⟨g, h1, h2⟩ := h; exact ⟨g, take_get h1 hc, h2⟩
  · obtain ⟨g, m, cap, sz, h1, h2⟩ := h; exact ⟨g, m, cap, sz, take_get h1 hc, h2⟩
  · obtain ⟨gs, h1, h2, h3⟩ := h
    refine ⟨gs, h1, fun k id g e1 e2 => take_get (h2 k id g e1 e2) ?_, h3⟩
    simp only [List.all_eq_true, decide_eq_true_eq] at hc
    exact hc id (List.mem_of_getElem? e1)

theorem RelA.take {θ : List Loc} {D : Nat → Prop} {w : World} {v : Value} {x : AV} {n : Nat} (hc : x.closed n = true) (h : RelA θ D w v x) : RelA (θ.take n) D w v x := by
  cases x with
  | b x => exact RelB.take hc h
  | agg xs =>
    obtain ⟨vs, rfl, h1, h2⟩ := h
    simp only [AV.closed, List.all_eq_true] at hc
    exact ⟨vs, rfl, h1, fun i u x hu hx => (h2 i u x hu hx).take (hc x (List.mem_of_getElem? hx))⟩

/-- Objects that nothing names any more. -/
theorem weak_drop {fr fr' : List (Nat × AV)} {hp hp' ext : List AObj} (h : subFr fr' fr) (he : hp = hp' ++ ext) (h1 : (fr'.all fun x => x.2.closed hp'.length) = true) (h2 : hp'.all (AObj.closed hp'.length) = true) : Weak ⟨fr, hp⟩ ⟨fr', hp'⟩ := by
  rintro c a w ⟨θ, D, hI⟩
  subst he
  have hlen : θ.length = hp'.length + ext.length := by have := hI.ok.len; simpa using this
  have sub : ∀ (i : Nat) (l : Loc), (θ.take hp'.length)[i]? = some l → θ[i]? = some l ∧ i < hp'.length := fun i l hi => by
    rw [List.getElem?_take] at hi
    split at hi
    · exact ⟨hi, by assumption⟩
    · cases hi
  refine ⟨θ.take hp'.length, D, hI.size, hI.defers, ⟨by simp; omega, hI.ok.dlt, fun i j li lj g hi hj => hI.ok.inj i j li lj g (sub i li hi).1 (sub j lj hj).1, fun i l g hi => hI.ok.olt i l g (sub i l hi).1, fun i l o hi ho => ?_⟩, hI.keep, hI.dsub, hI.dnew, fun i l g hi => hI.onew i l g (sub i l hi).1, fun k x hk => ?_⟩
  · have hro := hI.ok.objs i l o (sub i l hi).1 (by rw [List.getElem?_append_left (sub i l hi).2]; exact ho)
    have hcl : o.closed hp'.length = true := by
      simp only [List.all_eq_true] at h2
      exact h2 o (List.mem_of_getElem? ho)
    cases l <;> cases o <;> simp only [RelO] at hro ⊢ <;> try exact hro
    obtain ⟨cv, e1, e2, e3⟩ := hro
    simp only [AObj.closed, List.all_eq_true] at hcl
    exact ⟨cv, e1, e2, fun j u x hu hx => (e3 j u x hu hx).take (hcl x (List.mem_of_getElem? hx))⟩
  · have hx : x.closed hp'.length = true := by
      simp only [List.all_eq_true] at h1
      have : ∀ (l : List (Nat × AV)), look l k = some x → ∃ j, (j, x) ∈ l := by
        intro l
        induction l with
        | nil => intro h; cases h
        | cons y l ih =>
          obtain ⟨j, y⟩ := y
          intro h
          simp only [look] at h
          split at h
          · cases h; exact ⟨j, by simp⟩
          · obtain ⟨j', hj'⟩ := ih h; exact ⟨j', by simp [hj']⟩
      obtain ⟨j, hj⟩ := this fr' hk
      exact h1 _ hj
    exact (hI.fr k x (subFr_look h k x hk)).take hx

/-- A nil slice in a slot, as the call's own. -/
theorem weak_adopt {s : St} (k : Nat) (e : TypeId) (sz : Nat) (h : look s.fr k = some (.b .nils)) : Weak s ⟨(k, .b (.sl s.hp.length)) :: s.fr, s.hp ++ [.vec e sz []]⟩ := by
  rintro c a w ⟨θ, D, hI⟩
  have hp := hI.push (l := .nil) (o := .vec e sz []) rfl (fun g hg => by cases hg)
  refine ⟨θ ++ [.nil], D, hp.size, hp.defers, hp.ok, hp.keep, hp.dsub, hp.dnew, hp.onew, fun j x hj => ?_⟩
  simp only [look] at hj
  split at hj
  · rename_i e
    cases hj; subst e
    have := hI.fr j _ h
    exact ⟨.nil, by rw [← hI.ok.len]; simp, this⟩
  · exact hp.fr j x hj

/-! ### Monotonicity of whole bodies -/
section
variable {P : Program}
theorem storeA_mono {hp : List AObj} {sz : Nat} {a v : AV} {K K' : List AObj → Prop} (h : storeA hp sz a v K) (hk : ∀ x, K x → K' x) : storeA hp sz a v K' := by
  unfold storeA at h ⊢
  split at h
  · exact bindA_mono h fun _ ⟨t, cs, h1, h2, h3, h4, h5⟩ => ⟨t, cs, h1, h2, h3, h4, hk _ h5⟩
  · refine bindA_mono h fun _ ⟨e, s, xs, h1, h2, h3⟩ => ⟨e, s, xs, h1, h2, bindA_mono h3 fun p ⟨h4, h5, h6⟩ => ⟨h4, h5, ?_⟩⟩
    rcases h6 with ⟨h7, h8, h9⟩ | ⟨h7, h8, h9⟩
    · exact .inl ⟨h7, h8, hk _ h9⟩
    · exact .inr ⟨h7, h8, hk _ h9⟩
  · exact h
theorem sexec_mono {d : Option Nat} {s : SOp} {st : St} {K K' : St → Prop} (h : sexec P d s st K) (hk : ∀ x, K x → K' x) : sexec P d s st K' := by
  unfold sexec at h ⊢
  split at h
  · exact bindA_mono h fun _ h => bindA_mono h fun _ h => ⟨h.1, storeA_mono h.2 fun _ h => hk _ h⟩
  · exact hk _ h
  · exact bindA_mono h fun _ h => ⟨h.1, hk _ h.2⟩
  · exact bindA_mono h fun _ ⟨h1, h2, h3, h4, h5⟩ => ⟨h1, h2, h3, h4, hk _ h5⟩
  · exact bindA_mono h fun _ h => bindA_mono h fun _ h => isV_mono h fun _ h => isV_mono h fun _ h => isInt_mono h fun _ _ h => isInt_mono h fun _ _ ⟨h1, h2, h3, h4, h5, h6, h7⟩ => ⟨h1, h2, h3, h4, h5, h6, bindA_mono h7 fun _ h => ⟨h.1, hk _ h.2⟩⟩
  · refine bindA_mono h fun _ h => bindA_mono h fun _ h => isList_mono h fun _ ⟨h1, h2⟩ => ⟨h1, ?_⟩
    rcases h2 with ⟨id, h3, h4⟩ | ⟨h3, h4, h5⟩
    · exact .inl ⟨id, h3, bindA_mono h4 fun _ ⟨xs, h5, h6, h7⟩ => ⟨xs, h5, h6, hk _ h7⟩⟩
    · exact .inr ⟨h3, h4, hk _ h5⟩
  · exact bindA_mono h fun _ h => OCalls.mono h fun _ h => ⟨h.1, hk _ h.2⟩
  · exact sev_mono h fun _ h => hk _ h
theorem sstep_mono {o : SOper} {st : St} {K K' : St → Prop} (h : sstep P o st K) (hk : ∀ x, K x → K' x) : sstep P o st K' := by
  unfold sstep at h ⊢
  split at h
  · exact sexec_mono h hk
  · exact bindA_mono h fun _ h => isV_mono h fun _ h => ⟨fun e => sexec_mono (h.1 e) hk, fun e => hk _ (h.2 e)⟩
theorem sops_mono : ∀ {l : List SOper} {st : St} {K K' : St → Prop}, sops P l st K → (∀ x, K x → K' x) → sops P l st K'
  | [], _, _, _, h, hk => hk _ h
  | _ :: _, _, _, _, h, hk => sstep_mono h fun _ h => sops_mono h hk
theorem sdraw_mono : ∀ {k : Nat} {l : List SOper} {st : St} {K K' : St → Prop}, sdraw P k l st K → (∀ x, K x → K' x) → sdraw P k l st K'
  | 0, _, _, _, _, h, hk => sops_mono h hk
  | _ + 1, [], _, _, _, h, hk => hk _ h
  | _ + 1, _ :: _, _, _, _, ⟨x, h1, h2⟩, hk => ⟨x, h1, sdraw_mono h2 hk⟩
theorem then_mono {f f' : St → Prop} {Q Q' : AE → St → Prop} (hf : ∀ s, f s → f' s) (hq : ∀ e s, Q e s → Q' e s) : ∀ e s, AE.then f Q e s → AE.then f' Q' e s
  | .normal, _, ⟨s', hw, h⟩ => ⟨s', hw, hf _ h⟩
  | .exit _, _, h => hq _ _ h
  | .ret, _, h => hq _ _ h
theorem inBlock_mono {id : Nat} {Q Q' : AE → St → Prop} (hq : ∀ e s, Q e s → Q' e s) : ∀ e s, AE.inBlock id Q e s → AE.inBlock id Q' e s
  | .normal, _, h => hq _ _ h
  | .exit i, s, h => by
    simp only [AE.inBlock] at h ⊢
    split
    · rename_i e; rw [if_pos e] at h; exact hq _ _ h
    · rename_i e; rw [if_neg e] at h; exact hq _ _ h
  | .ret, _, h => hq _ _ h
theorem awp_mono : ∀ (x : AC) {Q Q' : AE → St → Prop} {s : St}, awp P x Q s → (∀ e s, Q e s → Q' e s) → awp P x Q' s
  | .skip, _, _, _, h, hq => hq _ _ h
  | .region _, _, _, _, h, hq => sops_mono h fun _ h => hq _ _ h
  | .draw _ _ _, _, _, _, h, hq => sdraw_mono h fun _ h => hq _ _ h
  | .seq a b, _, _, _, h, hq => awp_mono a h (then_mono (fun _ h => awp_mono b h hq) hq)
  | .cond _ a b, _, _, _, h, hq => bindA_mono h fun _ h => isV_mono h fun _ h => isBool_mono h fun _ h => ⟨fun e => awp_mono a (h.1 e) hq, fun e => awp_mono b (h.2 e) hq⟩
  | .block _ a, _, _, _, h, hq => awp_mono a h (inBlock_mono hq)
  | .loop a, Q, Q', _, ⟨s', hw, n, h⟩, hq => by
    refine ⟨s', hw, n, ?_⟩
    revert s'
    have key : ∀ n s', aloop (awp P a) Q n s' → aloop (awp P a) Q' n s' := by
      intro n
      induction n with
      | zero => intro s' h; exact h
      | succ n ih => intro s' h; exact awp_mono a h (then_mono (ih) hq)
    exact fun s' _ h => key n s' h
  | .exit _, _, _, _, h, hq => hq _ _ h
  | .ret, _, _, _, h, hq => hq _ _ h
end

/-! ### Rules -/
section
variable {P : Program} {Q : AE → St → Prop} {st : St}
theorem awp_seq {a b : AC} (h : awp P a (AE.then (awp P b Q) Q) st) : awp P (.seq a b) Q st := h
theorem awp_region {ss : List SOper} (h : ∀ K : St → Prop, (∀ s, Q .normal s → K s) → sops P ss st K) : awp P (.region ss) Q st := h _ fun _ h => h
theorem awp_draw {k : Nat} {ss : List SOper} {af : List (List Nat)} (h : ∀ K : St → Prop, (∀ s, Q .normal s → K s) → sdraw P k ss st K) : awp P (.draw k ss af) Q st := h _ fun _ h => h
theorem awp_cond {c : SX} {a b : AC} {t : Bool} (hc : st.get c = some (.v (.bool t))) (h1 : t = true → awp P a Q st) (h2 : t = false → awp P b Q st) : awp P (.cond c a b) Q st := ⟨_, hc, _, rfl, _, rfl, h1, h2⟩
theorem awp_block {id : Nat} {a : AC} (h : awp P a (AE.inBlock id Q) st) : awp P (.block id a) Q st := h
theorem awp_skip (h : Q .normal st) : awp P .skip Q st := h
theorem awp_exit {id : Nat} (h : Q (.exit id) st) : awp P (.exit id) Q st := h
theorem awp_ret (h : Q .ret st) : awp P .ret Q st := h
theorem then_normal {f : St → Prop} (h : f st) : AE.then f Q .normal st := W.mk h
theorem then_exit {f : St → Prop} {i : Nat} (h : Q (.exit i) st) : AE.then f Q (.exit i) st := h
theorem then_ret {f : St → Prop} (h : Q .ret st) : AE.then f Q .ret st := h
theorem block_normal {i : Nat} (h : Q .normal st) : AE.inBlock i Q .normal st := h
theorem block_ret {i : Nat} (h : Q .ret st) : AE.inBlock i Q .ret st := h
theorem block_exit {i : Nat} (h : Q .normal st) : AE.inBlock i Q (.exit i) st := by simp only [AE.inBlock, if_true]; exact h
theorem block_other {i j : Nat} (hj : j ≠ i) (h : Q (.exit j) st) : AE.inBlock i Q (.exit j) st := by simp only [AE.inBlock, if_neg hj]; exact h

/-- A LOOP: a family of states, a measure. -/
theorem awp_loop {a : AC} {ι : Type} (S : ι → St) (μ : ι → Nat) (i0 : ι) (h0 : Weak st (S i0)) (h : ∀ i, awp P a (AE.then (fun s => ∃ j, μ j < μ i ∧ s = S j) Q) (S i)) : awp P (.loop a) Q st := by
  refine ⟨S i0, h0, μ i0 + 1, ?_⟩
  have key : ∀ n i, μ i < n → aloop (awp P a) Q n (S i) := by
    intro n
    induction n with
    | zero => intro i hi; omega
    | succ n ih =>
      intro i hi
      refine awp_mono a (h i) fun e s hs => ?_
      cases e with
      | normal =>
        obtain ⟨s', hw, j, hj, rfl⟩ := hs
        exact ⟨_, hw, ih j (by omega)⟩
      | exit i => exact hs
      | ret => exact hs
  exact key _ i0 (Nat.lt_succ_self _)
end

/-! ### The walk: rules for pieces in sequence -/
section
variable {P : Program} {Q : AE → St → Prop} {st : St}
theorem rg {ss : List SOper} (h : sops P ss st (Q .normal)) : awp P (.region ss) Q st := h
theorem rgs {ss : List SOper} {b : AC} (h : sops P ss st (W (awp P b Q))) : awp P (.seq (.region ss) b) Q st := h
theorem dw {k : Nat} {ss : List SOper} {af : List (List Nat)} (h : sdraw P k ss st (Q .normal)) : awp P (.draw k ss af) Q st := h
theorem dws {k : Nat} {ss : List SOper} {af : List (List Nat)} {b : AC} (h : sdraw P k ss st (W (awp P b Q))) : awp P (.seq (.draw k ss af) b) Q st := h
theorem seqA {a b c : AC} (h : awp P (.seq a (.seq b c)) Q st) : awp P (.seq (.seq a b) c) Q st := by
  refine awp_mono a h fun e s hs => ?_
  cases e <;> exact hs
/-- A test whose two ways go on together. -/
theorem cds {c : SX} {x y b : AC} {t : Bool} (hc : st.get c = some (.v (.bool t))) (h1 : t = true → awp P (.seq x b) Q st) (h2 : t = false → awp P (.seq y b) Q st) : awp P (.seq (.cond c x y) b) Q st := ⟨_, hc, _, rfl, _, rfl, h1, h2⟩
theorem cdsD {c : SX} {x y b : AC} {p : Prop} [Decidable p] (hc : st.get c = some (.v (.bool (decide p)))) (h1 : p → awp P (.seq x b) Q st) (h2 : ¬ p → awp P (.seq y b) Q st) : awp P (.seq (.cond c x y) b) Q st :=
  cds hc (fun h => h1 (of_decide_eq_true h)) (fun h => h2 (of_decide_eq_false h))
theorem cd {c : SX} {x y : AC} {t : Bool} (hc : st.get c = some (.v (.bool t))) (h1 : t = true → awp P x Q st) (h2 : t = false → awp P y Q st) : awp P (.cond c x y) Q st := ⟨_, hc, _, rfl, _, rfl, h1, h2⟩
theorem cdD {c : SX} {x y : AC} {p : Prop} [Decidable p] (hc : st.get c = some (.v (.bool (decide p)))) (h1 : p → awp P x Q st) (h2 : ¬ p → awp P y Q st) : awp P (.cond c x y) Q st :=
  cd hc (fun h => h1 (of_decide_eq_true h)) (fun h => h2 (of_decide_eq_false h))
theorem cdE {c : SX} {x y : AC} {m n : Int} (hc : st.get c = some (.v (.bool (m == n)))) (h1 : m = n → awp P x Q st) (h2 : m ≠ n → awp P y Q st) : awp P (.cond c x y) Q st :=
  cd hc (fun h => h1 (by simpa using h)) (fun h => h2 (by simpa using h))
theorem cdsE {c : SX} {x y b : AC} {m n : Int} (hc : st.get c = some (.v (.bool (m == n)))) (h1 : m = n → awp P (.seq x b) Q st) (h2 : m ≠ n → awp P (.seq y b) Q st) : awp P (.seq (.cond c x y) b) Q st :=
  cds hc (fun h => h1 (by simpa using h)) (fun h => h2 (by simpa using h))
theorem cdN {c : SX} {x y : AC} {m n : Int} (hc : st.get c = some (.v (.bool (m != n)))) (h1 : m ≠ n → awp P x Q st) (h2 : m = n → awp P y Q st) : awp P (.cond c x y) Q st :=
  cd hc (fun h => h1 (by simpa using h)) (fun h => h2 (by simpa using h))
theorem cdsN {c : SX} {x y b : AC} {m n : Int} (hc : st.get c = some (.v (.bool (m != n)))) (h1 : m ≠ n → awp P (.seq x b) Q st) (h2 : m = n → awp P (.seq y b) Q st) : awp P (.seq (.cond c x y) b) Q st :=
  cds hc (fun h => h1 (by simpa using h)) (fun h => h2 (by simpa using h))
theorem sks {b : AC} (h : W (awp P b Q) st) : awp P (.seq .skip b) Q st := h
theorem exs {b : AC} {i : Nat} (h : Q (.exit i) st) : awp P (.seq (.exit i) b) Q st := h
theorem rts {b : AC} (h : Q .ret st) : awp P (.seq .ret b) Q st := h
/-- A block in sequence. -/
theorem bls {i : Nat} {a b : AC} (h : awp P a (AE.inBlock i (AE.then (awp P b Q) Q)) st) : awp P (.seq (.block i a) b) Q st := h
/-- A loop in a block, left by its exit alone or by return. -/
theorem lps {i : Nat} {a b : AC} {ι : Type} (S : ι → St) (μ : ι → Nat) (i0 : ι) (h0 : Weak st (S i0)) (h : ∀ j, awp P a (AE.then (fun s => ∃ j', μ j' < μ j ∧ s = S j') (AE.inBlock i (AE.then (awp P b Q) Q))) (S j)) : awp P (.seq (.block i (.loop a)) b) Q st :=
  awp_loop S μ i0 h0 h
end

section
variable {P : Program} {Q : AE → St → Prop} {st : St}
/-- The same, with what holds of the index. -/
theorem lpsI {i : Nat} {a b : AC} {ι : Type} (S : ι → St) (I : ι → Prop) (μ : ι → Nat) (i0 : ι) (hI : I i0) (h0 : Weak st (S i0)) (h : ∀ j, I j → awp P a (AE.then (fun s => ∃ j', I j' ∧ μ j' < μ j ∧ s = S j') (AE.inBlock i (AE.then (awp P b Q) Q))) (S j)) : awp P (.seq (.block i (.loop a)) b) Q st := by
  refine lps (ι := { j // I j }) (fun j => S j.1) (fun j => μ j.1) ⟨i0, hI⟩ h0 fun j => awp_mono a (h j.1 j.2) ?_
  refine then_mono (fun s h => ?_) (fun _ _ h => h)
  obtain ⟨j', h1, h2, h3⟩ := h
  exact ⟨⟨j', h1⟩, h2, h3⟩
theorem lpI {i : Nat} {a : AC} {ι : Type} (S : ι → St) (I : ι → Prop) (μ : ι → Nat) (i0 : ι) (hI : I i0) (h0 : Weak st (S i0)) (h : ∀ j, I j → awp P a (AE.then (fun s => ∃ j', I j' ∧ μ j' < μ j ∧ s = S j') (AE.inBlock i Q)) (S j)) : awp P (.block i (.loop a)) Q st := by
  refine awp_loop (ι := { j // I j }) (fun j => S j.1) (fun j => μ j.1) ⟨i0, hI⟩ h0 fun j => awp_mono a (h j.1 j.2) ?_
  refine then_mono (fun s h => ?_) (fun _ _ h => h)
  obtain ⟨j', h1, h2, h3⟩ := h
  exact ⟨⟨j', h1⟩, h2, h3⟩
/-- The end of a round. -/
theorem again {ι : Type} {S : ι → St} {I : ι → Prop} {μ : ι → Nat} {j : ι} {s : St} (j' : ι) (hI : I j') (hm : μ j' < μ j) (hw : Weak s (S j')) : AE.then (fun s => ∃ j', I j' ∧ μ j' < μ j ∧ s = S j') Q .normal s := ⟨S j', hw, j', hI, hm, rfl⟩
theorem fp_ret {rs : List RV} {R : PV → Prop} {s : St} (p : PV) (h : retP s rs = some p) (hR : R p) : fpost rs R .ret s := ⟨p, h, hR⟩
end

/-! ### The simp set -/
theorem look_hit (k : Nat) (x : AV) (l : List (Nat × AV)) : look ((k, x) :: l) k = some x := by simp [look]
theorem look_cons (k t : Nat) (x : AV) (l : List (Nat × AV)) : look ((k, x) :: l) t = if t = k then some x else look l t := rfl
theorem isLst_ok (sz : Nat) (L : List PV) : (lst sz L).isAgg = false := by cases L <;> rfl
theorem lst_cells (sz : Nat) (L : List PV) : (lst sz L).cells = [lst sz L] := by cases L <;> rfl
theorem lst_cellOk (sz : Nat) (L : List PV) : (lst sz L).cellOk = true := by cases L <;> rfl
theorem idxA_lst (P : Program) (st : St) (sz : Nat) (x i : SX) (K : AV → Prop) (L : List PV) (k : IntKind) (n : Int) (hx : st.get x = some (.p (lst sz L))) (hi : st.get i = some (.v (.int k n))) (h : 0 ≤ n ∧ n < L.length ∧ K (.p (.pto (L.getD n.toNat .any)))) : sev P st (.idxA sz x i) K :=
  ⟨_, hx, _, hi, _, rfl, k, n, rfl, .inl ⟨L, rfl, h⟩⟩

/-- The element of a list of plain data. -/
def elP (hp : List AObj) (sz : Nat) (a : AV) (n : Int) (K : AV → Prop) : Prop :=
  (∃ L, a = .p (lst sz L) ∧ 0 ≤ n ∧ n < L.length ∧ K (.p (.pto (L.getD n.toNat .any)))) ∨ (∃ id, a = .b (.sl id) ∧ bindA hp[id]? fun o => ∃ e L, o = .vec e sz L ∧ 0 ≤ n ∧ n < L.length ∧ K (.b (.elt id n.toNat 0)))
theorem elP_lst (hp : List AObj) (sz : Nat) (L : List PV) (n : Int) (K : AV → Prop) : elP hp sz (.b (.pv (lst sz L))) n K = (0 ≤ n ∧ n < L.length ∧ K (.p (.pto (L.getD n.toNat .any)))) := by
  simp only [elP, AV.p, eq_iff_iff]
  constructor
  · rintro (⟨L', h, hk⟩ | ⟨id, h, _⟩)
    · simp only [AV.b.injEq, BV.pv.injEq] at h
      rw [lst_inj h]; exact hk
    · simp at h
  · exact fun h => .inl ⟨L, rfl, h⟩
theorem elP_sl (hp : List AObj) (sz id : Nat) (n : Int) (K : AV → Prop) : elP hp sz (.b (.sl id)) n K = bindA hp[id]? fun o => ∃ e L, o = .vec e sz L ∧ 0 ≤ n ∧ n < L.length ∧ K (.b (.elt id n.toNat 0)) := by
  simp only [elP, AV.p, eq_iff_iff]
  constructor
  · rintro (⟨L', h, _⟩ | ⟨id', h, hk⟩)
    · simp at h
    · simp only [AV.b.injEq, BV.sl.injEq] at h; subst h; exact hk
  · exact fun h => .inr ⟨id, rfl, h⟩
theorem vec_ex (e : TypeId) (sz : Nat) (L : List PV) (K : TypeId → List PV → Prop) : (∃ e' L', AObj.vec e sz L = .vec e' sz L' ∧ K e' L') = K e L := by
  apply propext
  constructor
  · rintro ⟨e', L', h, hk⟩; cases h; exact hk
  · exact fun h => ⟨e, L, rfl, h⟩
theorem vec_ex2 (e : TypeId) (sz : Nat) (L : List PV) (K : TypeId → Nat → List PV → Prop) : (∃ e' s' L', AObj.vec e sz L = .vec e' s' L' ∧ K e' s' L') = K e sz L := by
  apply propext
  constructor
  · rintro ⟨e', s', L', h, hk⟩; cases h; exact hk
  · exact fun h => ⟨e, sz, L, rfl, h⟩
theorem vec_ex1 (e : TypeId) (sz : Nat) (L : List PV) (K : List PV → Prop) : (∃ L', AObj.vec e sz L = .vec e sz L' ∧ K L') = K L := by
  apply propext
  constructor
  · rintro ⟨L', h, hk⟩; cases h; exact hk
  · exact fun h => ⟨L, rfl, h⟩
theorem box_ex (t : TypeId) (cs : List BV) (K : TypeId → List BV → Prop) : (∃ t' cs', AObj.box t cs = .box t' cs' ∧ K t' cs') = K t cs := by
  apply propext
  constructor
  · rintro ⟨t', cs', h, hk⟩; cases h; exact hk
  · exact fun h => ⟨t, cs, rfl, h⟩
theorem slc_ex (sz : Nat) (L : List PV) (K : List PV → Prop) : (∃ L', AV.b (.pv (lst sz L)) = .p (lst sz L') ∧ K L') = K L := by
  apply propext
  constructor
  · rintro ⟨L', h, hk⟩
    simp only [AV.p, AV.b.injEq, BV.pv.injEq] at h
    rw [lst_inj h]; exact hk
  · exact fun h => ⟨L, rfl, h⟩
theorem tup_ex (xs : List PV) (K : List PV → Prop) : (∃ L', AV.b (.pv (.tup xs)) = .p (.tup L') ∧ K L') = K xs := by
  apply propext
  constructor
  · rintro ⟨L', h, hk⟩; cases h; exact hk
  · exact fun h => ⟨xs, rfl, h⟩
/-- The address of a field. -/
def fldP (off sz : Nat) (ag : Bool) (a : AV) (K : AV → Prop) : Prop :=
  (∃ p, a = .p (.pto p) ∧ off + sz ≤ p.cells.length ∧ (ag = false → sz = 1) ∧ (p.sub off sz ag).isAgg = ag ∧ K (.p (.pto (p.sub off sz ag)))) ∨ (∃ id o, a = .b (.ptr id o) ∧ K (.b (.ptr id (o + off)))) ∨ (∃ id i o, a = .b (.elt id i o) ∧ K (.b (.elt id i (o + off))))
theorem fldP_pto (off sz : Nat) (ag : Bool) (p : PV) (K : AV → Prop) : fldP off sz ag (.b (.pv (.pto p))) K = (off + sz ≤ p.cells.length ∧ (ag = false → sz = 1) ∧ (p.sub off sz ag).isAgg = ag ∧ K (.p (.pto (p.sub off sz ag)))) := by
  simp [fldP]
theorem fldP_ptr (off sz : Nat) (ag : Bool) (id o : Nat) (K : AV → Prop) : fldP off sz ag (.b (.ptr id o)) K = K (.b (.ptr id (o + off))) := by
  simp only [fldP, AV.p, eq_iff_iff]
  constructor
  · rintro (⟨p, h, _⟩ | ⟨i, j, h, hk⟩ | ⟨i, j, l, h, _⟩)
    · simp at h
    · cases h; exact hk
    · simp at h
  · exact fun h => .inr (.inl ⟨id, o, rfl, h⟩)
theorem fldP_elt (off sz : Nat) (ag : Bool) (id i o : Nat) (K : AV → Prop) : fldP off sz ag (.b (.elt id i o)) K = K (.b (.elt id i (o + off))) := by
  simp only [fldP, AV.p, eq_iff_iff]
  constructor
  · rintro (⟨p, h, _⟩ | ⟨i, j, h, hk⟩ | ⟨i, j, l, h, hk⟩)
    · simp at h
    · simp at h
    · cases h; exact hk
  · exact fun h => .inr (.inr ⟨id, i, o, rfl, h⟩)
/-- A field of a value. -/
def fldV (off sz : Nat) (ag : Bool) (a : AV) (K : AV → Prop) : Prop :=
  (∃ p, a = .p p ∧ p.isAgg = true ∧ off + sz ≤ p.cells.length ∧ (ag = false → sz = 1) ∧ K (.p (p.sub off sz ag))) ∨ (∃ cs, a = .agg cs ∧ off + sz ≤ cs.length ∧ (ag = false → sz = 1) ∧ K (ofCells ag ((cs.drop off).take sz)))
theorem fldV_p (off sz : Nat) (ag : Bool) (p : PV) (K : AV → Prop) : fldV off sz ag (.b (.pv p)) K = (p.isAgg = true ∧ off + sz ≤ p.cells.length ∧ (ag = false → sz = 1) ∧ K (.p (p.sub off sz ag))) := by
  simp [fldV]
theorem fldV_agg (off sz : Nat) (ag : Bool) (cs : List BV) (K : AV → Prop) : fldV off sz ag (.agg cs) K = (off + sz ≤ cs.length ∧ (ag = false → sz = 1) ∧ K (ofCells ag ((cs.drop off).take sz))) := by
  simp [fldV]
/-- The base of an append. -/
def appV (d : Option Nat) (e : TypeId) (sz bytes : Nat) (st : St) (x : AV) (L : List PV) (K : St → Prop) : Prop :=
  (∃ id, x = .b (.sl id) ∧ bindA st.hp[id]? fun o => ∃ xs, o = .vec e sz xs ∧ (xs.length + L.length) * bytes ≤ 140737488355328 ∧ K ((st.moved id (.vec e sz (xs ++ L))).putO d (.b (.sl id)))) ∨
  (x = .b .nils ∧ L.length * bytes ≤ 140737488355328 ∧ K ({ st with hp := st.hp ++ [AObj.vec e sz L] }.putO d (.b (.sl st.hp.length))))
theorem appV_sl (d : Option Nat) (e : TypeId) (sz bytes : Nat) (st : St) (id : Nat) (L : List PV) (K : St → Prop) : appV d e sz bytes st (.b (.sl id)) L K = bindA st.hp[id]? fun o => ∃ xs, o = .vec e sz xs ∧ (xs.length + L.length) * bytes ≤ 140737488355328 ∧ K ((st.moved id (.vec e sz (xs ++ L))).putO d (.b (.sl id))) := by
  simp only [appV, eq_iff_iff]
  constructor
  · rintro (⟨id', h, hk⟩ | ⟨h, _⟩)
    · cases h; exact hk
    · simp at h
  · exact fun h => .inl ⟨id, rfl, h⟩
theorem appV_nils (d : Option Nat) (e : TypeId) (sz bytes : Nat) (st : St) (L : List PV) (K : St → Prop) : appV d e sz bytes st (.b .nils) L K = (L.length * bytes ≤ 140737488355328 ∧ K ({ st with hp := st.hp ++ [AObj.vec e sz L] }.putO d (.b (.sl st.hp.length)))) := by
  simp [appV]

/-- THE SMALL EQUATIONS TOGETHER. -/
theorem AZ :
    (∀ (a : AV) (K : AV → Prop), bindA (some a) K = K a) ∧ (∀ (a : PV) (K : PV → Prop), bindA (some a) K = K a) ∧ (∀ (a : AObj) (K : AObj → Prop), bindA (some a) K = K a) ∧ (∀ (a : List PV) (K : List PV → Prop), bindA (some a) K = K a) ∧ (∀ (a : List (Nat × Nat × AV)) (K : List (Nat × Nat × AV) → Prop), bindA (some a) K = K a) ∧
    (∀ k t x l, look ((k, x) :: l) t = if t = k then some x else look l t) ∧
    (∀ v K, isV (.b (.pv (.sc v))) K = K v) ∧ (∀ k n K, isInt (.int k n) K = K k n) ∧ (∀ b K, isBool (.bool b) K = K b) ∧ (∀ s K, isStr (.string s) K = K s) ∧
    (∀ hp sz L K, isLen hp (.b (.pv (lst sz L))) K = K L.length) ∧ (∀ hp K, isLen hp (.b .nils) K = K 0) ∧ (∀ hp id K, isLen hp (.b (.sl id)) K = bindA hp[id]? (fun o => ∃ e sz L, o = .vec e sz L ∧ K L.length)) ∧
    (∀ hp sz L K, isList hp sz (.b (.pv (lst sz L))) K = K L) ∧ (∀ hp sz K, isList hp sz (.b .nils) K = K []) ∧ (∀ hp sz id K, isList hp sz (.b (.sl id)) K = bindA hp[id]? (fun o => ∃ e L, o = .vec e sz L ∧ K L)) ∧
    (∀ hp sz L n K, elP hp sz (.b (.pv (lst sz L))) n K = (0 ≤ n ∧ n < L.length ∧ K (.p (.pto (L.getD n.toNat .any))))) ∧ (∀ hp sz id n K, elP hp sz (.b (.sl id)) n K = bindA hp[id]? fun o => ∃ e L, o = .vec e sz L ∧ 0 ≤ n ∧ n < L.length ∧ K (.b (.elt id n.toNat 0))) ∧
    (∀ e sz L (K : TypeId → List PV → Prop), (∃ e' L', AObj.vec e sz L = .vec e' sz L' ∧ K e' L') = K e L) ∧ (∀ e sz L (K : TypeId → Nat → List PV → Prop), (∃ e' s' L', AObj.vec e sz L = .vec e' s' L' ∧ K e' s' L') = K e sz L) ∧ (∀ e sz L (K : List PV → Prop), (∃ L', AObj.vec e sz L = .vec e sz L' ∧ K L') = K L) ∧
    (∀ t cs (K : TypeId → List BV → Prop), (∃ t' cs', AObj.box t cs = .box t' cs' ∧ K t' cs') = K t cs) ∧ (∀ sz L (K : List PV → Prop), (∃ L', AV.b (.pv (lst sz L)) = .p (lst sz L') ∧ K L') = K L) ∧ (∀ xs (K : List PV → Prop), (∃ L', AV.b (.pv (.tup xs)) = .p (.tup L') ∧ K L') = K xs) ∧
    (∀ off sz ag p K, fldP off sz ag (.b (.pv (.pto p))) K = (off + sz ≤ p.cells.length ∧ (ag = false → sz = 1) ∧ (p.sub off sz ag).isAgg = ag ∧ K (.p (.pto (p.sub off sz ag))))) ∧ (∀ off sz ag id o K, fldP off sz ag (.b (.ptr id o)) K = K (.b (.ptr id (o + off)))) ∧ (∀ off sz ag id i o K, fldP off sz ag (.b (.elt id i o)) K = K (.b (.elt id i (o + off)))) ∧
    (∀ off sz ag p K, fldV off sz ag (.b (.pv p)) K = (p.isAgg = true ∧ off + sz ≤ p.cells.length ∧ (ag = false → sz = 1) ∧ K (.p (p.sub off sz ag)))) ∧ (∀ off sz ag cs K, fldV off sz ag (.agg cs) K = (off + sz ≤ cs.length ∧ (ag = false → sz = 1) ∧ K (ofCells ag ((cs.drop off).take sz)))) ∧
    (∀ d e sz bytes st id L K, appV d e sz bytes st (.b (.sl id)) L K = bindA st.hp[id]? fun o => ∃ xs, o = .vec e sz xs ∧ (xs.length + L.length) * bytes ≤ 140737488355328 ∧ K ((st.moved id (.vec e sz (xs ++ L))).putO d (.b (.sl id)))) ∧
    (∀ d e sz bytes st L K, appV d e sz bytes st (.b .nils) L K = (L.length * bytes ≤ 140737488355328 ∧ K ({ st with hp := st.hp ++ [AObj.vec e sz L] }.putO d (.b (.sl st.hp.length))))) ∧
    (∀ id off (K : Nat → Nat → Prop), (∃ i o, AV.b (.ptr id off) = .b (.ptr i o) ∧ K i o) = K id off) := by
  refine ⟨fun a K => bindA_some a K, fun a K => bindA_some a K, fun a K => bindA_some a K, fun a K => bindA_some a K, fun a K => bindA_some a K, look_cons, isV_v, isInt_int, isBool_bool, isStr_str, isLen_lst, isLen_nils, isLen_sl, isList_lst, isList_nils, isList_sl, elP_lst, elP_sl, vec_ex, vec_ex2, vec_ex1, box_ex, slc_ex, tup_ex, fldP_pto, fldP_ptr, fldP_elt, fldV_p, fldV_agg, appV_sl, appV_nils, ?_⟩
  · intro id off K
    apply propext
    constructor
    · rintro ⟨i, o, h, hk⟩; cases h; exact hk
    · exact fun h => ⟨id, off, rfl, h⟩

/-- Loads. -/
theorem AL :
    (∀ hp sz ag x K, loadA hp sz ag (.b (.pv (.pto x))) K = (x.isAgg = ag ∧ x.cells.length = sz ∧ K (.p x))) ∧
    (∀ hp sz ag id off K, loadA hp sz ag (.b (.ptr id off)) K = bindA hp[id]? fun o => ∃ t cs, o = .box t cs ∧ off + sz ≤ cs.length ∧ (ag = false → sz = 1) ∧ K (ofCells ag ((cs.drop off).take sz))) ∧
    (∀ hp sz ag id i off K, loadA hp sz ag (.b (.elt id i off)) K = bindA hp[id]? fun o => ∃ e s xs, o = .vec e s xs ∧ i < xs.length ∧ off + sz ≤ s ∧ (ag = false → sz = 1) ∧
      ((off = 0 ∧ sz = s ∧ (xs.getD i .any).isAgg = ag ∧ K (.p (xs.getD i .any))) ∨ (sz ≠ s ∧ K (.p ((xs.getD i .any).sub off sz ag))))) ∧
    (∀ hp sz id off v K, storeA hp sz (.b (.ptr id off)) v K = bindA hp[id]? fun o => ∃ t cs, o = .box t cs ∧ v.cells.length = sz ∧ off + sz ≤ cs.length ∧ v.ok = true ∧ K (hp.set id (.box t (splice cs off v.cells)))) ∧
    (∀ hp sz id i off v K, storeA hp sz (.b (.elt id i off)) v K = bindA hp[id]? fun o => ∃ e s xs, o = .vec e s xs ∧ i < xs.length ∧ bindA v.toPV fun p => p.cells.length = sz ∧ p.ok = true ∧
      ((off = 0 ∧ sz = s ∧ K (hp.set id (.vec e s (xs.set i p)))) ∨ (sz ≠ s ∧ off + sz ≤ s ∧ K (hp.set id (.vec e s (xs.set i (.agg (splice (xs.getD i .any).cells off p.cells)))))))) := by
  refine ⟨?_, ?_, ?_, ?_, ?_⟩ <;> intros <;> rfl

theorem guard_if (p : Prop) [Decidable p] (X Y : Prop) : ((p → X) ∧ (¬ p → Y)) = if p then X else Y := by
  apply propext
  by_cases h : p <;> simp [h]

/-- ALL THAT ONE OPERATION ASKS, AS EQUATIONS. -/
theorem AR (P : Program) :
    (∀ st K, sops P [] st K = K st) ∧
    (∀ o l st K, sops P (o :: l) st K = sstep P o st fun s => sops P l s K) ∧
    (∀ d op st K, sstep P ⟨d, op, none⟩ st K = sexec P d op st K) ∧
    (∀ d op t b st K, sstep P ⟨d, op, some (t, b)⟩ st K = bindA (look st.fr t) fun g => isV g fun v => if yv v = some b then sexec P d op st K else K (st.putO d (.v undef))) ∧
    (∀ x : SX, ∀ d st K, sexec P d (.mv x) st K = bindA (st.get x) fun a => K (st.putO d a)) ∧
    (∀ (c a b : SX) d st K, sexec P d (.pick c a b) st K = bindA (st.get c) fun c => isV c fun t => isBool t fun t => if t = true then bindA (st.get a) fun a => K (st.putO d a) else bindA (st.get b) fun a => K (st.putO d a)) ∧
    (∀ op (x y : SX) d st K, sexec P d (.bin op x y) st K = bindA (st.get x) fun x => bindA (st.get y) fun y => isV x fun x => isV y fun y => binV op x y fun v => K (st.putO d (.v v))) ∧
    (∀ neg (x y : SX) d st K, sexec P d (.eqB neg x y) st K = bindA (st.get x) fun x => bindA (st.get y) fun y => isV x fun x => isV y fun y => isBool x fun a => isBool y fun b => K (st.putO d (.v (.bool (neg ^^ (a == b)))))) ∧
    (∀ op (x : SX) d st K, sexec P d (.un op x) st K = bindA (st.get x) fun x => isV x fun x => unV op x fun v => K (st.putO d (.v v))) ∧
    (∀ (x : SX) d st K, sexec P d (.len false x) st K = bindA (st.get x) fun x => isLen st.hp x fun n => K (st.putO d (.v (.int .i64 n)))) ∧
    (∀ (x : SX) d st K, sexec P d (.len true x) st K = bindA (st.get x) fun x => isV x fun x => isStr x fun s => K (st.putO d (.v (.int .i64 s.size)))) ∧
    (∀ (x i : SX) d st K, sexec P d (.idxS x i) st K = bindA (st.get x) fun x => bindA (st.get i) fun i => isV x fun x => isV i fun i => isInt i fun _ n => isStr x fun s => 0 ≤ n ∧ n < s.size ∧ K (st.putO d (.v (.int .u8 (s.toList.getD n.toNat 0).toNat)))) ∧
    (∀ n sz ag (x i : SX) d st K, sexec P d (.idxV n sz ag x i) st K = bindA (st.get x) fun x => bindA (st.get i) fun i => isV i fun i => isInt i fun _ m => bindA x.toPV fun p => 0 ≤ m ∧ m < n ∧ (ag = false → sz = 1) ∧ p.cells.length = n * sz ∧ p.isAgg = true ∧ K (st.putO d (.p (p.sub (m.toNat * sz) sz ag)))) ∧
    (∀ sz (x i : SX) d st K, sexec P d (.idxA sz x i) st K = bindA (st.get x) fun x => bindA (st.get i) fun i => isV i fun i => isInt i fun _ n => elP st.hp sz x n fun a => K (st.putO d a)) ∧
    (∀ n sz (x i : SX) d st K, sexec P d (.idxP n sz x i) st K = bindA (st.get x) fun x => bindA (st.get i) fun i => isV i fun i => isInt i fun _ m => 0 ≤ m ∧ m < n ∧ (∃ id off, x = .b (.ptr id off) ∧ K (st.putO d (.b (.ptr id (off + m.toNat * sz)))))) ∧
    (∀ off sz ag (x : SX) d st K, sexec P d (.fldA off sz ag x) st K = bindA (st.get x) fun x => fldP off sz ag x fun a => K (st.putO d a)) ∧
    (∀ off sz ag (x : SX) d st K, sexec P d (.fld off sz ag x) st K = bindA (st.get x) fun x => fldV off sz ag x fun a => K (st.putO d a)) ∧
    (∀ sz ag (x : SX) d st K, sexec P d (.load sz ag x) st K = bindA (st.get x) fun x => loadA st.hp sz ag x fun a => K (st.putO d a)) ∧
    (∀ k (x : SX) d st K, sexec P d (.cvtI k x) st K = bindA (st.get x) fun x => isV x fun x => isInt x fun _ n => K (st.putO d (.v (.int k (k.wrap n))))) ∧
    (∀ (x : SX) i d st K, sexec P d (.ext x i) st K = bindA (st.get x) fun x => ∃ xs, x = .p (.tup xs) ∧ bindA xs[i]? fun p => K (st.putO d (.p p))) ∧
    (∀ zero parts d st K, sexec P d (.build zero parts) st K = bindA (parts.mapM fun q => (st.get q.2.2).map fun a => (q.1, q.2.1, a)) fun ps => (∀ q ∈ ps, q.2.2.ok = true ∧ q.2.2.cells.length = q.2.1 ∧ q.1 + q.2.1 ≤ zero.length) ∧ K (st.putO d (.agg (ps.foldl (fun cs q => splice cs q.1 q.2.2.cells) (zero.map fun v => constB v))))) ∧
    (∀ bor f args d st K, sexec P d (.call bor f args) st K = bindA (args.mapM fun x => (st.get x).bind (argPV st.hp bor)) fun ps => PCalls P f ps fun r => (bor = true → r.Flat) ∧ K (st.putO d (.p r))) ∧
    (∀ e sz len parts d st K, sexec P d (.bslice false e sz len parts) st K = bindA (parts.mapM fun x => (st.get x).bind AV.toPV) fun ps => ps.length = len ∧ 0 < sz ∧ len * sz ≤ 16777216 ∧ (∀ p ∈ ps, p.cells.length = sz ∧ p.ok = true) ∧ K (st.putO d (.p (lst sz ps)))) ∧
    (∀ e sz len parts d st K, sexec P d (.bslice true e sz len parts) st K = bindA (parts.mapM fun x => (st.get x).bind AV.toPV) fun ps => ps.length = len ∧ 0 < sz ∧ len * sz ≤ 16777216 ∧ (∀ p ∈ ps, p.cells.length = sz ∧ p.ok = true) ∧ K ({ st with hp := st.hp ++ [AObj.vec e sz ps] }.putO d (.b (.sl st.hp.length)))) ∧
    (∀ sz (x v : SX) d st K, sexec P d (.store sz x v) st K = bindA (st.get x) fun x => bindA (st.get v) fun v => d = none ∧ storeA st.hp sz x v fun hp => K { st with hp := hp }) ∧
    (∀ t zero d st K, sexec P d (.alloc t zero) st K = K ({ st with hp := st.hp ++ [AObj.box t (zero.map fun v => constB v)] }.putO d (.b (.ptr st.hp.length 0)))) ∧
    (∀ t (x : SX) d st K, sexec P d (.box t x) st K = bindA (st.get x) fun x => x.ok = true ∧ K ({ st with hp := st.hp ++ [AObj.box t x.cells] }.putO d (.b (.ptr st.hp.length 0)))) ∧
    (∀ e sz bytes zero (l c : SX) d st K, sexec P d (.mslice e sz bytes zero l c) st K = bindA (st.get l) fun l => bindA (st.get c) fun c => isV l fun l => isV c fun c => isInt l fun _ l => isInt c fun _ c => 0 ≤ l ∧ l ≤ c ∧ c ≤ 9223372036854775807 ∧ bytes * c ≤ 281474976710656 ∧ (constA zero).cells.length = sz ∧ 0 < sz ∧ bindA (constA zero).toPV fun z => z.ok = true ∧ K ({ st with hp := st.hp ++ [AObj.vec e sz (List.replicate l.toNat z)] }.putO d (.b (.sl st.hp.length)))) ∧
    (∀ e sz bytes (x y : SX) d st K, sexec P d (.append e sz bytes x y) st K = bindA (st.get x) fun x => bindA (st.get y) fun y => isList st.hp sz y fun L => (∀ p ∈ L, p.ok = true) ∧ appV d e sz bytes st x L K) ∧
    (∀ sz (x : SX) lo hi mx d st K, sexec P d (.slc sz x lo hi mx) st K = bindA (st.get x) fun x => ∃ L, x = .p (lst sz L) ∧ bnd st lo 0 fun l => bnd st hi L.length fun h => bnd st mx L.length fun m => (mx.isSome = true → hi.isSome = true) ∧ l ≤ h ∧ h ≤ m ∧ m ≤ L.length ∧ K (st.putO d (.p (lst sz ((L.take h).drop l))))) ∧
    (∀ (x : SX) lo hi d st K, sexec P d (.slcS x lo hi) st K = bindA (st.get x) fun x => isV x fun x => isStr x fun s => bnd st lo 0 fun l => bnd st hi s.size fun h => l ≤ h ∧ h ≤ s.size ∧ K (st.putO d (.v (.string (s.extract l h))))) ∧
    (∀ bor e sz f args d st K, sexec P d (.callO bor e sz f args) st K = bindA (args.mapM fun x => (st.get x).bind (argPV st.hp bor)) fun ps => OCalls P f ps e sz fun xs => (bor = true → ∀ x ∈ xs, ∀ y ∈ x.cells, y.Flat) ∧ K ({ st with hp := st.hp ++ [AObj.vec e sz xs] }.putO d (.b (.sl st.hp.length)))) ∧
    (∀ (x : SX) d st K, sexec P d (.b2s x) st K = bindA (st.get x) fun x => isList st.hp 1 x fun L => bindA (bytesOf L) fun l => K (st.putO d (.v (.string (strOfNums l))))) := by
  refine ⟨?_, ?_, ?_, fun d op t b st K => ?_, ?_, fun c a b d st K => ?_, ?_, ?_, ?_, ?_, ?_, ?_, ?_, ?_, ?_, ?_, ?_, ?_, ?_, ?_, ?_, ?_, ?_, ?_, ?_, ?_, ?_, ?_, ?_, ?_, ?_, ?_, ?_⟩
  case refine_4 =>
    show (bindA (look st.fr t) fun g => isV g fun v => (yv v = some b → sexec P d op st K) ∧ (yv v ≠ some b → K (st.putO d (.v undef)))) = _
    simp only [guard_if]
  case refine_6 =>
    show (bindA (st.get c) fun c => isV c fun t => isBool t fun t => (t = true → bindA (st.get a) fun a => K (st.putO d a)) ∧ (t = false → bindA (st.get b) fun a => K (st.putO d a))) = _
    simp only [← Bool.not_eq_true, guard_if]
  all_goals (intros; rfl)

theorem AG :
    (∀ b, yv (.bool b) = some b) ∧
    (∀ k n, yv (.int k n) = none) ∧
    (∀ st d a, St.putO st (some d) a = ⟨(d, a) :: st.fr, st.hp⟩) ∧
    (∀ st a, St.putO st none a = st) ∧
    (∀ st k, St.get st (.tm k) = look st.fr k) ∧
    (∀ st v, St.get st (.c v) = some (constA v)) ∧
    (∀ st n, St.get st (.g n) = some (.v (.pointer (some ⟨n, 0, none⟩)))) ∧
    (∀ st n, St.get st (.f n) = some (.p (.fn (.func n) []))) ∧
    (∀ k n, constA (.int k n) = .v (.int k n)) ∧
    (∀ b, constA (.bool b) = .v (.bool b)) ∧
    (∀ s, constA (.string s) = .v (.string s)) ∧
    (constA (.slice none 0 0) = .b .nils) ∧
    (∀ cs, constA (.agg cs) = .agg (cs.toList.map constB)) ∧
    (∀ k n, constB (.int k n) = .pv (.sc (.int k n))) ∧
    (∀ b, constB (.bool b) = .pv (.sc (.bool b))) ∧
    (∀ s, constB (.string s) = .pv (.sc (.string s))) ∧
    (constB (.slice none 0 0) = .nils) ∧
    (∀ st d K, bnd st none d K = K d) ∧
    (∀ st x d K, bnd st (some x) d K = bindA (st.get x) fun a => isV a fun v => isInt v fun _ n => 0 ≤ n ∧ K n.toNat) := by
  refine ⟨?_, ?_, ?_, ?_, ?_, ?_, ?_, ?_, ?_, ?_, ?_, ?_, ?_, ?_, ?_, ?_, ?_, ?_, ?_⟩ <;> intros <;> rfl

/-- What binary operations on integers, strings and the like come to. -/
theorem AB :
    (∀ k a k' b K, binV .add (.int k a) (.int k' b) K = (k = k' ∧ K (.int k (k.wrap (a + b))))) ∧ (∀ k a k' b K, binV .sub (.int k a) (.int k' b) K = (k = k' ∧ K (.int k (k.wrap (a - b))))) ∧ (∀ k a k' b K, binV .mul (.int k a) (.int k' b) K = (k = k' ∧ K (.int k (k.wrap (a * b))))) ∧
    (∀ k a k' b K, binV .quo (.int k a) (.int k' b) K = (k = k' ∧ b ≠ 0 ∧ K (.int k (k.wrap (a.tdiv b))))) ∧ (∀ k a k' b K, binV .rem (.int k a) (.int k' b) K = (k = k' ∧ b ≠ 0 ∧ K (.int k (a.tmod b)))) ∧
    (∀ k a k' b K, binV .and (.int k a) (.int k' b) K = (k = k' ∧ K (.int k (bitsI k .and a b)))) ∧ (∀ k a k' b K, binV .or (.int k a) (.int k' b) K = (k = k' ∧ K (.int k (bitsI k .or a b)))) ∧ (∀ k a k' b K, binV .xor (.int k a) (.int k' b) K = (k = k' ∧ K (.int k (bitsI k .xor a b)))) ∧ (∀ k a k' b K, binV .andNot (.int k a) (.int k' b) K = (k = k' ∧ K (.int k (bitsI k .andNot a b)))) ∧
    (∀ k a k' b K, binV .shl (.int k a) (.int k' b) K = (0 ≤ b ∧ K (.int k (k.wrap (a * 2 ^ (min b.toNat k.bits)))))) ∧ (∀ k a k' b K, binV .shr (.int k a) (.int k' b) K = (0 ≤ b ∧ K (.int k (a.fdiv (2 ^ (min b.toNat k.bits)))))) ∧
    (∀ k a k' b K, binV .eql (.int k a) (.int k' b) K = (k = k' ∧ K (.bool (a == b)))) ∧ (∀ k a k' b K, binV .neq (.int k a) (.int k' b) K = (k = k' ∧ K (.bool (a != b)))) ∧ (∀ k a k' b K, binV .lss (.int k a) (.int k' b) K = (k = k' ∧ K (.bool (decide (a < b))))) ∧
    (∀ k a k' b K, binV .leq (.int k a) (.int k' b) K = (k = k' ∧ K (.bool (decide (a ≤ b))))) ∧ (∀ k a k' b K, binV .gtr (.int k a) (.int k' b) K = (k = k' ∧ K (.bool (decide (b < a))))) ∧ (∀ k a k' b K, binV .geq (.int k a) (.int k' b) K = (k = k' ∧ K (.bool (decide (b ≤ a))))) ∧
    (∀ a b K, binV .add (.string a) (.string b) K = (a.size + b.size ≤ 9223372036854775807 ∧ K (.string (a ++ b)))) ∧ (∀ a b K, binV .eql (.string a) (.string b) K = K (.bool (a.toList == b.toList))) ∧ (∀ a b K, binV .neq (.string a) (.string b) K = K (.bool !(a.toList == b.toList))) ∧
    (∀ a b K, binV .lss (.string a) (.string b) K = K (.bool (Op.bytesLess a.toList b.toList))) ∧ (∀ a b K, binV .leq (.string a) (.string b) K = K (.bool (Op.bytesLess a.toList b.toList || a.toList == b.toList))) ∧
    (∀ b K, unV .not (.bool b) K = K (.bool !b)) ∧ (∀ k n K, unV .neg (.int k n) K = K (.int k (k.wrap (0 - n)))) := by
  refine ⟨?_, ?_, ?_, ?_, ?_, ?_, ?_, ?_, ?_, ?_, ?_, ?_, ?_, ?_, ?_, ?_, ?_, ?_, ?_, ?_, ?_, ?_, ?_, ?_⟩ <;> intros <;> rfl
end Go.Av

/-
  THE ABSTRACT LAYER, 21: draws gone through forwards; a nil slice as data.
-/
import Derived.Test.YtfgchoifgocclaaDoorAv20
namespace Go.Av
open Go Go.RowKit

section
variable {P : Program}
theorem binV_det {op : BinOp} {x y : Value} {F : Value → Prop} (h : binV op x y F) : ∃ z, binV op x y (· = z) ∧ F z := by
  unfold binV at h ⊢
  split at h
  · cases op <;> simp only at h ⊢ <;> first | exact ⟨_, ⟨h.1, rfl⟩, h.2⟩ | exact ⟨_, ⟨h.1, h.2.1, rfl⟩, h.2.2⟩
  · cases op <;> simp only at h ⊢ <;> first | exact ⟨_, rfl, h⟩ | exact ⟨_, ⟨h.1, rfl⟩, h.2⟩ | exact h.elim
  · exact h.elim
theorem unV_det {op : UnOp} {x : Value} {F : Value → Prop} (h : unV op x F) : ∃ z, unV op x (· = z) ∧ F z := by
  unfold unV at h ⊢
  split at h
  · exact ⟨_, rfl, h⟩
  · exact ⟨_, rfl, h⟩
  · exact h.elim
theorem loadA_det {hp : List AObj} {sz : Nat} {ag : Bool} {a : AV} {F : AV → Prop} (h : loadA hp sz ag a F) : ∃ z, loadA hp sz ag a (· = z) ∧ F z := by
  unfold loadA at h ⊢
  split at h
  · exact ⟨_, ⟨h.1, h.2.1, rfl⟩, h.2.2⟩
  · obtain ⟨o, h0, t, cs, h1, h2, h3, h4⟩ := h
    exact ⟨_, ⟨o, h0, t, cs, h1, h2, h3, rfl⟩, h4⟩
  · obtain ⟨o, h0, e, s, xs, h1, h2, h3, h4, h5⟩ := h
    rcases h5 with ⟨h6, h7, h8, h9⟩ | ⟨h6, h7⟩
    · exact ⟨_, ⟨o, h0, e, s, xs, h1, h2, h3, h4, .inl ⟨h6, h7, h8, rfl⟩⟩, h9⟩
    · exact ⟨_, ⟨o, h0, e, s, xs, h1, h2, h3, h4, .inr ⟨h6, rfl⟩⟩, h7⟩
  · exact h.elim
theorem bnd_det {st : St} {x : Option SX} {d : Nat} {K : Nat → Prop} (h : bnd st x d K) : ∃ n, K n ∧ ∀ K' : Nat → Prop, K' n → bnd st x d K' := by
  cases x with
  | none => exact ⟨d, h, fun K' h => h⟩
  | some x =>
    obtain ⟨a, h1, v, h2, k, n, h3, h4, h5⟩ := h
    exact ⟨n.toNat, h5, fun K' h => ⟨a, h1, v, h2, k, n, h3, h4, h⟩⟩

/-- The operations with one outcome. -/
def SOp.det : SOp → Bool
  | .mv _ | .pick .. | .bin .. | .eqB .. | .un .. | .len .. | .idxS .. | .idxV .. | .idxA .. | .idxP .. | .fldA .. | .fld .. | .load .. | .cvtI .. | .slc .. | .slcS .. | .ext .. | .build .. => true
  | _ => false

theorem sev_det {st : St} {s : SOp} {F : AV → Prop} (hd : s.det = true) (h : sev P st s F) : ∃ x, (sev P st s fun y => y = x) ∧ F x := by
  cases s <;> simp only [SOp.det, Bool.false_eq_true] at hd <;> simp only [sev] at h ⊢
  case mv => obtain ⟨a, h1, h2⟩ := h; exact ⟨a, ⟨a, h1, rfl⟩, h2⟩
  case pick =>
    obtain ⟨a, h1, v, h2, b, h3, h4, h5⟩ := h
    cases b with
    | true => obtain ⟨z, e1, e2⟩ := h4 rfl; exact ⟨z, ⟨a, h1, v, h2, true, h3, fun _ => ⟨z, e1, rfl⟩, (fun e => by cases e)⟩, e2⟩
    | false => obtain ⟨z, e1, e2⟩ := h5 rfl; exact ⟨z, ⟨a, h1, v, h2, false, h3, (fun e => by cases e), fun _ => ⟨z, e1, rfl⟩⟩, e2⟩
  case bin =>
    obtain ⟨a, h1, b, h2, u, h3, v, h4, h5⟩ := h
    obtain ⟨z, e1, e2⟩ := binV_det h5
    exact ⟨_, ⟨a, h1, b, h2, u, h3, v, h4, binV_mono e1 fun _ e => by rw [e]⟩, e2⟩
  case eqB =>
    obtain ⟨a, h1, b, h2, u, h3, v, h4, p, h5, q, h6, h7⟩ := h
    exact ⟨_, ⟨a, h1, b, h2, u, h3, v, h4, p, h5, q, h6, rfl⟩, h7⟩
  case un =>
    obtain ⟨a, h1, u, h3, h5⟩ := h
    obtain ⟨z, e1, e2⟩ := unV_det h5
    exact ⟨_, ⟨a, h1, u, h3, unV_mono e1 fun _ e => by rw [e]⟩, e2⟩
  case len str x =>
    obtain ⟨a, h1, h2⟩ := h
    cases str
    · rcases h2 with ⟨h, h3⟩ | ⟨sz, L, h, h3⟩ | ⟨id, e, sz, L, h, h4, h3⟩
      · exact ⟨_, ⟨a, h1, .inl ⟨h, rfl⟩⟩, h3⟩
      · exact ⟨_, ⟨a, h1, .inr (.inl ⟨sz, L, h, rfl⟩)⟩, h3⟩
      · exact ⟨_, ⟨a, h1, .inr (.inr ⟨id, e, sz, L, h, h4, rfl⟩)⟩, h3⟩
    · obtain ⟨v, h3, s, h4, h5⟩ := h2
      exact ⟨_, ⟨a, h1, v, h3, s, h4, rfl⟩, h5⟩
  case idxS =>
    obtain ⟨a, h1, b, h2, u, h3, v, h4, k, n, h5, s, h6, h7, h8, h9⟩ := h
    exact ⟨_, ⟨a, h1, b, h2, u, h3, v, h4, k, n, h5, s, h6, h7, h8, rfl⟩, h9⟩
  case idxV =>
    obtain ⟨a, h1, b, h2, v, h4, k, n, h5, s, h6, h7, h8, h9, h10, h11, h12⟩ := h
    exact ⟨_, ⟨a, h1, b, h2, v, h4, k, n, h5, s, h6, h7, h8, h9, h10, h11, rfl⟩, h12⟩
  case idxA =>
    obtain ⟨a, h1, b, h2, v, h4, k, n, h5, h6⟩ := h
    rcases h6 with ⟨L, e1, e2, e3, e4⟩ | ⟨id, e1, o, e2, e, L, e3, e4, e5, e6⟩
    · exact ⟨_, ⟨a, h1, b, h2, v, h4, k, n, h5, .inl ⟨L, e1, e2, e3, rfl⟩⟩, e4⟩
    · exact ⟨_, ⟨a, h1, b, h2, v, h4, k, n, h5, .inr ⟨id, e1, o, e2, e, L, e3, e4, e5, rfl⟩⟩, e6⟩
  case idxP =>
    obtain ⟨a, h1, b, h2, v, h4, k, n, h5, h6, h7, id, off, h8, h9⟩ := h
    exact ⟨_, ⟨a, h1, b, h2, v, h4, k, n, h5, h6, h7, id, off, h8, rfl⟩, h9⟩
  case fldA =>
    obtain ⟨a, h1, h2⟩ := h
    rcases h2 with ⟨p, e1, e2, e3, e4, e5⟩ | ⟨id, o, e1, e2⟩ | ⟨id, i, o, e1, e2⟩
    · exact ⟨_, ⟨a, h1, .inl ⟨p, e1, e2, e3, e4, rfl⟩⟩, e5⟩
    · exact ⟨_, ⟨a, h1, .inr (.inl ⟨id, o, e1, rfl⟩)⟩, e2⟩
    · exact ⟨_, ⟨a, h1, .inr (.inr ⟨id, i, o, e1, rfl⟩)⟩, e2⟩
  case fld =>
    obtain ⟨a, h1, h2⟩ := h
    rcases h2 with ⟨p, e1, e2, e3, e4, e5⟩ | ⟨cs, e1, e2, e3, e4⟩
    · exact ⟨_, ⟨a, h1, .inl ⟨p, e1, e2, e3, e4, rfl⟩⟩, e5⟩
    · exact ⟨_, ⟨a, h1, .inr ⟨cs, e1, e2, e3, rfl⟩⟩, e4⟩
  case load =>
    obtain ⟨a, h1, h2⟩ := h
    obtain ⟨z, e1, e2⟩ := loadA_det h2
    exact ⟨z, ⟨a, h1, e1⟩, e2⟩
  case cvtI =>
    obtain ⟨a, h1, u, h3, k, n, h4, h5⟩ := h
    exact ⟨_, ⟨a, h1, u, h3, k, n, h4, rfl⟩, h5⟩
  case slc =>
    obtain ⟨a, h1, L, h2, h3⟩ := h
    obtain ⟨l, h4, g1⟩ := bnd_det h3
    obtain ⟨h, h5, g2⟩ := bnd_det h4
    obtain ⟨m, ⟨e1, e2, e3, e4, e5⟩, g3⟩ := bnd_det h5
    exact ⟨_, ⟨a, h1, L, h2, g1 _ (g2 _ (g3 _ ⟨e1, e2, e3, e4, rfl⟩))⟩, e5⟩
  case slcS =>
    obtain ⟨a, h1, v, h2, s, h3, h4⟩ := h
    obtain ⟨l, h5, g1⟩ := bnd_det h4
    obtain ⟨h, ⟨e1, e2, e3⟩, g2⟩ := bnd_det h5
    exact ⟨_, ⟨a, h1, v, h2, s, h3, g1 _ (g2 _ ⟨e1, e2, rfl⟩)⟩, e3⟩
  case ext =>
    obtain ⟨a, h1, xs, h2, p, h3, h4⟩ := h
    exact ⟨_, ⟨a, h1, xs, h2, p, h3, rfl⟩, h4⟩
  case build =>
    obtain ⟨a, h1, h2, h3⟩ := h
    exact ⟨_, ⟨a, h1, h2, rfl⟩, h3⟩

theorem sexec_det {d : Option Nat} {s : SOp} {st : St} {K : St → Prop} (hd : s.det = true) : sexec P d s st K = sev P st s fun a => K (st.putO d a) := by
  cases s <;> first | rfl | (simp only [SOp.det, Bool.false_eq_true] at hd)

/-- One operation of a draw, forwards. -/
def dexec (P : Program) (d : Option Nat) (s : SOp) (st : St) (G : St → Prop) : Prop := match s with
  | .call bor f args => bindA (args.mapM fun x => (st.get x).bind (argPV st.hp bor)) fun ps => ∃ r, PCalls P f ps (· = r) ∧ (bor = true → r.Flat) ∧ G (st.putO d (.p r))
  | s => s.det = true ∧ sexec P d s st G

def dstep (P : Program) (o : SOper) (st : St) (G : St → Prop) : Prop := match o.gd with
  | none => dexec P o.dst o.op st G
  | some (t, want) => bindA (look st.fr t) fun g => isV g fun v => (yv v = some want → dexec P o.dst o.op st G) ∧ (yv v ≠ some want → G (st.putO o.dst (.v undef)))

def ddraw (P : Program) : Nat → List SOper → St → (St → Prop) → Prop
  | 0, l, st, K => sops P l st K
  | _ + 1, [], st, K => K st
  | k + 1, o :: l, st, K => dstep P o st fun s => ddraw P k l s K

theorem dexec_yield {d : Option Nat} {s : SOp} {st : St} {G : St → Prop} (h : dexec P d s st G) : ∃ x, (sev P st s fun y => y = x) ∧ G (st.putO d x) := by
  unfold dexec at h
  split at h
  · obtain ⟨ps, h1, r, h2, h3, h4⟩ := h
    exact ⟨.p r, ⟨ps, h1, h2.mono fun x hx => ⟨fun hb => by rw [hx]; exact h3 hb, by rw [hx]⟩⟩, h4⟩
  · obtain ⟨hd, h⟩ := h
    rw [sexec_det hd] at h
    exact sev_det hd h

theorem sdraw_of : ∀ {k : Nat} {l : List SOper} {st : St} {K : St → Prop}, ddraw P k l st K → sdraw P k l st K
  | 0, _, _, _, h => h
  | _ + 1, [], _, _, h => h
  | k + 1, o :: l, st, K, h => by
    show ∃ x, syield P o st x ∧ sdraw P k l (st.putO o.dst x) K
    have h : dstep P o st fun s => ddraw P k l s K := h
    unfold dstep at h
    unfold syield
    split at h
    · rename_i hg
      obtain ⟨x, h1, h2⟩ := dexec_yield h
      rw [hg]
      exact ⟨x, h1, sdraw_of h2⟩
    · rename_i t want hg
      rw [hg]
      obtain ⟨g, h1, v, h2, h3, h4⟩ := h
      by_cases e : yv v = some want
      · obtain ⟨x, h5, h6⟩ := dexec_yield (h3 e)
        exact ⟨x, ⟨g, h1, v, h2, fun _ => h5, fun n => absurd e n⟩, sdraw_of h6⟩
      · exact ⟨.v undef, ⟨g, h1, v, h2, fun n => absurd n e, fun _ => rfl⟩, sdraw_of (h4 e)⟩

variable {Q : AE → St → Prop} {st : St}
theorem dr {k : Nat} {ss : List SOper} {af : List (List Nat)} (h : ddraw P k ss st (Q .normal)) : awp P (.draw k ss af) Q st := dw (sdraw_of h)
theorem drs {k : Nat} {ss : List SOper} {af : List (List Nat)} {b : AC} (h : ddraw P k ss st (W (awp P b Q))) : awp P (.seq (.draw k ss af) b) Q st := dws (sdraw_of h)
end

/-- Draws, as equations. -/
theorem AD (P : Program) :
    (∀ l st K, ddraw P 0 l st K = sops P l st K) ∧ (∀ k st K, ddraw P (k + 1) [] st K = K st) ∧ (∀ k o l st K, ddraw P (k + 1) (o :: l) st K = dstep P o st fun s => ddraw P k l s K) ∧
    (∀ d op st G, dstep P ⟨d, op, none⟩ st G = dexec P d op st G) ∧
    (∀ d op t b st G, dstep P ⟨d, op, some (t, b)⟩ st G = bindA (look st.fr t) fun g => isV g fun v => if yv v = some b then dexec P d op st G else G (st.putO d (.v undef))) ∧
    (∀ d bor f args st G, dexec P d (.call bor f args) st G = bindA (args.mapM fun x => (st.get x).bind (argPV st.hp bor)) fun ps => ∃ r, PCalls P f ps (· = r) ∧ (bor = true → r.Flat) ∧ G (st.putO d (.p r))) ∧
    (∀ d x st G, dexec P d (.mv x) st G = sexec P d (.mv x) st G) ∧ (∀ d c a b st G, dexec P d (.pick c a b) st G = sexec P d (.pick c a b) st G) ∧
    (∀ d op x y st G, dexec P d (.bin op x y) st G = sexec P d (.bin op x y) st G) ∧ (∀ d op x y st G, dexec P d (.eqB op x y) st G = sexec P d (.eqB op x y) st G) ∧ (∀ d op x st G, dexec P d (.un op x) st G = sexec P d (.un op x) st G) ∧
    (∀ d s x st G, dexec P d (.len s x) st G = sexec P d (.len s x) st G) ∧ (∀ d x i st G, dexec P d (.idxS x i) st G = sexec P d (.idxS x i) st G) ∧ (∀ d n sz ag x i st G, dexec P d (.idxV n sz ag x i) st G = sexec P d (.idxV n sz ag x i) st G) ∧
    (∀ d sz x i st G, dexec P d (.idxA sz x i) st G = sexec P d (.idxA sz x i) st G) ∧ (∀ d o sz ag x st G, dexec P d (.fldA o sz ag x) st G = sexec P d (.fldA o sz ag x) st G) ∧ (∀ d o sz ag x st G, dexec P d (.fld o sz ag x) st G = sexec P d (.fld o sz ag x) st G) ∧
    (∀ d sz ag x st G, dexec P d (.load sz ag x) st G = sexec P d (.load sz ag x) st G) ∧ (∀ d k x st G, dexec P d (.cvtI k x) st G = sexec P d (.cvtI k x) st G) ∧ (∀ d sz x l h m st G, dexec P d (.slc sz x l h m) st G = sexec P d (.slc sz x l h m) st G) ∧
    (∀ d x l h st G, dexec P d (.slcS x l h) st G = sexec P d (.slcS x l h) st G) ∧ (∀ d x i st G, dexec P d (.ext x i) st G = sexec P d (.ext x i) st G) ∧ (∀ d z ps st G, dexec P d (.build z ps) st G = sexec P d (.build z ps) st G) := by
  have key : ∀ (d : Option Nat) (s : SOp) (st : St) (G : St → Prop), s.det = true → (s.det = true ∧ sexec P d s st G) = sexec P d s st G := fun d s st G h => propext ⟨fun h => h.2, fun k => ⟨h, k⟩⟩
  refine ⟨fun _ _ _ => rfl, fun _ _ _ => rfl, fun _ _ _ _ _ => rfl, fun _ _ _ _ => rfl, ?_, fun _ _ _ _ _ _ => rfl, ?_, ?_, ?_, ?_, ?_, ?_, ?_, ?_, ?_, ?_, ?_, ?_, ?_, ?_, ?_, ?_, ?_⟩
  · intro d op t b st G
    show (bindA (look st.fr t) fun g => isV g fun v => (yv v = some b → dexec P d op st G) ∧ (yv v ≠ some b → G (st.putO d (.v undef)))) = _
    simp only [ne_eq, guard_if]
  all_goals (intros; exact key _ _ _ _ rfl)

/-- Owned slices that move. -/
theorem AK :
    (∀ v, AV.toPV (.v v) = some (.sc v)) ∧ (∀ p, AV.toPV (.p p) = some p) ∧ (∀ fr hp id o, St.moved ⟨fr, hp⟩ id o = ⟨fr.map fun x => (x.1, x.2.kill id), (hp.map (AObj.kill id)).set id o⟩) ∧
    (∀ id p, AV.kill id (.b (.pv p)) = .b (.pv p)) ∧ (∀ id, AV.kill id (.b .nils) = .b .nils) ∧ (∀ id k, AV.kill id (.b (.sl k)) = if k = id then .b (.pv .any) else .b (.sl k)) ∧
    (∀ id k i o, AV.kill id (.b (.elt k i o)) = if k = id then .b (.pv .any) else .b (.elt k i o)) ∧ (∀ id k o, AV.kill id (.b (.ptr k o)) = .b (.ptr k o)) ∧ (∀ id cs, AV.kill id (.agg cs) = .agg (cs.map (BV.kill id))) ∧
    (∀ id p, BV.kill id (.pv p) = .pv p) ∧ (∀ id, BV.kill id .nils = .nils) ∧ (∀ id k, BV.kill id (.sl k) = if k = id then .pv .any else .sl k) ∧ (∀ id k o, BV.kill id (.ptr k o) = .ptr k o) ∧
    (∀ id e sz xs, AObj.kill id (.vec e sz xs) = .vec e sz xs) ∧ (∀ id t cs, AObj.kill id (.box t cs) = .box t (cs.map (BV.kill id))) ∧
    (∀ hp bor p, argPV hp bor (.b (.pv p)) = some p) ∧ (∀ hp bor, argPV hp bor (.b .nils) = AV.toPV (.b .nils)) := by
  refine ⟨fun _ => rfl, fun _ => rfl, fun _ _ _ _ => rfl, fun _ _ => rfl, fun _ => rfl, fun id k => ?_, fun id k i o => ?_, fun _ _ _ => rfl, fun _ _ => rfl, fun _ _ => rfl, fun _ => rfl, fun _ _ => rfl, fun _ _ _ => rfl, fun _ _ _ _ => rfl, fun _ _ _ => rfl, fun _ _ _ => rfl, fun _ _ => rfl⟩
  · show AV.b _ = _
    simp only [BV.kill]; split <;> rfl
  · show AV.b _ = _
    simp only [BV.kill]; split <;> rfl

/-! ### Points between -/
section
variable {P : Program} {Q : AE → St → Prop} {st : St}
/-- The end of a round. -/
theorem agn {ι : Type} {S : ι → St} {I : ι → Prop} {μ : ι → Nat} {N : Nat} {s : St} (j' : ι) (hI : I j') (hm : μ j' < N) (hw : Weak s (S j')) : AE.then (fun s => ∃ j', I j' ∧ μ j' < N ∧ s = S j') Q .normal s := ⟨S j', hw, j', hI, hm, rfl⟩
theorem cutI {a b : AC} {ι : Type} (S : ι → St) (I : ι → Prop) (h1 : awp P a (AE.then (fun s => ∃ j, I j ∧ s = S j) Q) st) (h2 : ∀ j, I j → awp P b Q (S j)) : awp P (.seq a b) Q st := by
  refine awp_mono a h1 fun e s h => ?_
  cases e with
  | normal =>
    obtain ⟨s', hw, j, hI, rfl⟩ := h
    exact ⟨_, hw, h2 j hI⟩
  | ret => exact h
  | exit i => exact h
theorem cutE {ι : Type} {S : ι → St} {I : ι → Prop} {s : St} (j : ι) (hI : I j) (hw : Weak s (S j)) : AE.then (fun s => ∃ j, I j ∧ s = S j) Q .normal s := ⟨S j, hw, j, hI, rfl⟩
end

/-! ### Weakening further -/
theorem weak_st {fr fr' : List (Nat × AV)} {hp hp' : List AObj} (h : subFr fr' fr) (he : hp = hp') : Weak ⟨fr, hp⟩ ⟨fr', hp'⟩ := he ▸ weak_fr h
/-- A nil slice in a slot, as data. -/
theorem weak_nilp {s : St} (k : Nat) (sz : Nat) (h : look s.fr k = some (.b .nils)) : Weak s ⟨(k, .p (lst sz [])) :: s.fr, s.hp⟩ := by
  rintro c a w ⟨θ, D, hI⟩
  refine ⟨θ, D, hI.size, hI.defers, hI.ok, hI.keep, hI.dsub, hI.dnew, hI.onew, fun j x hj => ?_⟩
  simp only [look] at hj
  split at hj
  · rename_i e
    cases hj; subst e
    have hn := hI.fr j _ h
    simp only [RelA, RelB] at hn ⊢
    rw [hn]
    exact .nil none 0
  · exact hI.fr j x hj
end Go.Av

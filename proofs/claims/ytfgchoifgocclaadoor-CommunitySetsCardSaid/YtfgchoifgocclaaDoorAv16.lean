/-
  THE ABSTRACT LAYER, 16: regions, in lexical order and in any order.
-/
import Derived.Test.YtfgchoifgocclaaDoorAv15
namespace Go.Av
open Go Go.RowKit

section
variable {P : Program} {c : Ctx} {st : St} {a : Act} {w : World}

def compOps (P : Program) (n : Nat) (ops : Array Oper) : List Oper → List SOper → Prop
  | [], [] => True
  | o :: l, s :: m => compOper P n ops o s ∧ compOps P n ops l m
  | _, _ => False

theorem compOps_get {n : Nat} {ops : Array Oper} : ∀ {l : List Oper} {m : List SOper}, compOps P n ops l m → l.length = m.length ∧ ∀ (i : Nat) (o : Oper) (s : SOper), l[i]? = some o → m[i]? = some s → compOper P n ops o s
  | [], [], _ => ⟨rfl, fun i o s h => by simp at h⟩
  | o :: l, s :: m, h => by
    obtain ⟨h1, h2⟩ := h
    obtain ⟨h3, h4⟩ := compOps_get h2
    refine ⟨by simp [h3], fun i o' s' ho hs => ?_⟩
    cases i with
    | zero => simp at ho hs; subst ho; subst hs; exact h1
    | succ i => exact h4 i o' s' (by simpa using ho) (by simpa using hs)

theorem sops_sound {n : Nat} {ops : Array Oper} (hn : c.n = n) {K : St → Prop} {Q : Exit → Act → World → Prop} (hQ : ∀ a w, (∃ st', K st' ∧ Rel c st' a w) → Q .normal a w) :
    ∀ (suf : List Oper) (ss : List SOper) (k : Nat), (∀ i, suf[i]? = ops[k + i]?) → compOps P n ops suf ss → ∀ (st : St) (a : Act) (w : World), sops P ss st K → Rel c st a w → wpOps P ops Q (List.range' k suf.length) a w
  | [], [], _, _, _, st, a, w, h, hr => hQ a w ⟨st, h, hr⟩
  | o :: suf, s :: ss, k, hk, hc, st, a, w, h, hr => by
    obtain ⟨h1, h2⟩ := hc
    obtain ⟨θ, D, hI⟩ := hr
    have ho : ops[k]? = some o := by simpa using (hk 0).symm
    have := step_sound hI hn h1 h (fun a' w' => wpOps P ops Q (List.range' (k + 1) suf.length) a' w') Q (fun a' w' ⟨st', hst, hrel⟩ =>
      sops_sound hn hQ suf ss (k + 1) (fun i => by have := hk (i + 1); simp only [List.getElem?_cons_succ] at this; rw [this]; congr 1; omega) h2 st' a' w' hst hrel)
    simp only [List.length_cons, List.range'_succ, wpOps, ho]
    split
    · rename_i hw
      rw [if_pos hw] at this
      exact .inl this
    · rename_i hw
      rw [if_neg hw] at this
      exact this

theorem region_sound {id n : Nat} {ops : Array Oper} {ss : List SOper} (hn : c.n = n) (hc : compOps P n ops ops.toList ss) {K : St → Prop} {Q : Exit → Act → World → Prop} (h : sops P ss st K) (hr : Rel c st a w)
    (hQ : ∀ a w, (∃ st', K st' ∧ Rel c st' a w) → Q .normal a w) : (Code.region id ops false).wp P Q a w := by
  refine wp_region ?_
  have := sops_sound hn hQ ops.toList ss 0 (fun i => by simp) hc st a w h hr
  rw [List.range_eq_range']
  simpa using this

/-! ### Any order -/
def SX.rd : SX → List Nat
  | .tm k => [k]
  | _ => []
def SOp.rd : SOp → List Nat
  | .mv x | .un _ x | .len _ x | .fldA _ _ _ x | .fld _ _ _ x | .load _ _ x | .box _ x | .cvtI _ x | .ext x _ | .nilc x | .b2s x => x.rd
  | .pick c a b => c.rd ++ a.rd ++ b.rd
  | .bin _ x y | .eqB _ x y | .idxS x y | .idxV _ _ _ x y | .idxA _ x y | .idxP _ _ x y | .store _ x y | .mslice _ _ _ _ x y | .append _ _ _ x y => x.rd ++ y.rd
  | .alloc _ _ => []
  | .build _ ps => ps.flatMap fun q => q.2.2.rd
  | .bslice _ _ _ _ ps => ps.flatMap SX.rd
  | .slc _ x lo hi mx => x.rd ++ (lo.map SX.rd).getD [] ++ (hi.map SX.rd).getD [] ++ (mx.map SX.rd).getD []
  | .slcS x lo hi => x.rd ++ (lo.map SX.rd).getD [] ++ (hi.map SX.rd).getD []
  | .call _ _ xs | .callO _ _ _ _ xs => xs.flatMap SX.rd
def SOper.rd (o : SOper) : List Nat := o.op.rd ++ (o.gd.map fun g => [g.1]).getD []

theorem get_congr {st st' : St} {x : SX} (h : ∀ t ∈ x.rd, look st'.fr t = look st.fr t) : st'.get x = st.get x := by
  cases x <;> simp only [St.get]
  exact h _ (by simp [SX.rd])

theorem mapM_congr' {α β : Type} {f g : α → Option β} : ∀ {l : List α}, (∀ x ∈ l, f x = g x) → l.mapM f = l.mapM g
  | [], _ => rfl
  | x :: l, h => by
    rw [List.mapM_cons, List.mapM_cons, h x (by simp), mapM_congr' (l := l) fun y hy => h y (by simp [hy])]

theorem bnd_congr {st st' : St} {x : Option SX} (h : ∀ t ∈ (x.map SX.rd).getD [], look st'.fr t = look st.fr t) (d : Nat) (K : Nat → Prop) : bnd st' x d K = bnd st x d K := by
  cases x with
  | none => rfl
  | some x => simp only [bnd, get_congr (x := x) (by simpa using h)]

theorem sev_congr {st st' : St} {s : SOp} (hh : st'.hp = st.hp) (h : ∀ t ∈ s.rd, look st'.fr t = look st.fr t) (K : AV → Prop) : sev P st' s K = sev P st s K := by
  cases s <;> simp only [SOp.rd, List.mem_append] at h <;> simp only [sev, hh]
  case mv x => rw [get_congr h]
  case pick x y z => rw [get_congr (x := x) fun t ht => h t (.inl (.inl ht)), get_congr (x := y) fun t ht => h t (.inl (.inr ht)), get_congr (x := z) fun t ht => h t (.inr ht)]
  case un op x => rw [get_congr h]
  case len b x => rw [get_congr h]
  case fldA x => rw [get_congr h]
  case fld x => rw [get_congr h]
  case load x => rw [get_congr h]
  case cvtI x => rw [get_congr h]
  case ext x i => rw [get_congr h]
  case nilc x => rw [get_congr h]
  case b2s x => rw [get_congr h]
  case bin op x y => rw [get_congr (x := x) fun t ht => h t (.inl ht), get_congr (x := y) fun t ht => h t (.inr ht)]
  case eqB op x y => rw [get_congr (x := x) fun t ht => h t (.inl ht), get_congr (x := y) fun t ht => h t (.inr ht)]
  case idxS x y => rw [get_congr (x := x) fun t ht => h t (.inl ht), get_congr (x := y) fun t ht => h t (.inr ht)]
  case idxV x y => rw [get_congr (x := x) fun t ht => h t (.inl ht), get_congr (x := y) fun t ht => h t (.inr ht)]
  case idxA x y => rw [get_congr (x := x) fun t ht => h t (.inl ht), get_congr (x := y) fun t ht => h t (.inr ht)]
  case idxP x y => rw [get_congr (x := x) fun t ht => h t (.inl ht), get_congr (x := y) fun t ht => h t (.inr ht)]
  case build z ps => rw [mapM_congr' (l := ps) fun q hq => by rw [get_congr (x := q.2.2) fun t ht => h t (List.mem_flatMap.2 ⟨q, hq, ht⟩)]]
  case bslice b e sz l ps =>
    cases b
    · simp only
      rw [mapM_congr' (l := ps) fun q hq => by rw [get_congr (x := q) fun t ht => h t (List.mem_flatMap.2 ⟨q, hq, ht⟩)]]
    · rfl
  case call b f xs => rw [mapM_congr' (l := xs) fun q hq => by rw [get_congr (x := q) fun t ht => h t (List.mem_flatMap.2 ⟨q, hq, ht⟩)]]
  case slc sz x lo hi mx =>
    simp only [get_congr (x := x) fun t ht => h t (.inl (.inl (.inl ht))), bnd_congr (x := lo) fun t ht => h t (.inl (.inl (.inr ht))), bnd_congr (x := hi) fun t ht => h t (.inl (.inr ht)), bnd_congr (x := mx) fun t ht => h t (.inr ht)]
  case slcS x lo hi =>
    simp only [get_congr (x := x) fun t ht => h t (.inl (.inl ht)), bnd_congr (x := lo) fun t ht => h t (.inl (.inr ht)), bnd_congr (x := hi) fun t ht => h t (.inr ht)]

/-- One value, whatever came before. -/
def syield (P : Program) (o : SOper) (st : St) (x : AV) : Prop :=
  match o.gd with
  | none => sev P st o.op fun y => y = x
  | some (t, want) => bindA (look st.fr t) fun g => isV g fun v => (yv v = some want → sev P st o.op fun y => y = x) ∧ (yv v ≠ some want → x = .v undef)

theorem syield_congr {o : SOper} {st st' : St} {x : AV} (hh : st'.hp = st.hp) (h : ∀ t ∈ o.rd, look st'.fr t = look st.fr t) (hy : syield P o st x) : syield P o st' x := by
  simp only [SOper.rd, List.mem_append] at h
  have h1 := sev_congr (P := P) (s := o.op) hh fun t ht => h t (.inl ht)
  unfold syield at hy ⊢
  split at hy
  · rename_i hg
    rw [h1]
    exact hy
  · rename_i t want hg
    rw [hg] at h
    rw [h t (.inr (by simp)), h1]
    exact hy

theorem bindA_mono {α : Type} {o : Option α} {K K' : α → Prop} (h : bindA o K) (hk : ∀ x, K x → K' x) : bindA o K' := let ⟨a, h1, h2⟩ := h; ⟨a, h1, hk a h2⟩
theorem isV_mono {a : AV} {K K' : Value → Prop} (h : isV a K) (hk : ∀ x, K x → K' x) : isV a K' := let ⟨v, h1, h2⟩ := h; ⟨v, h1, hk v h2⟩
theorem isInt_mono {v : Value} {K K' : IntKind → Int → Prop} (h : isInt v K) (hk : ∀ k n, K k n → K' k n) : isInt v K' := let ⟨k, n, h1, h2⟩ := h; ⟨k, n, h1, hk k n h2⟩
theorem isBool_mono {v : Value} {K K' : Bool → Prop} (h : isBool v K) (hk : ∀ x, K x → K' x) : isBool v K' := let ⟨b, h1, h2⟩ := h; ⟨b, h1, hk b h2⟩
theorem isStr_mono {v : Value} {K K' : ByteArray → Prop} (h : isStr v K) (hk : ∀ x, K x → K' x) : isStr v K' := let ⟨b, h1, h2⟩ := h; ⟨b, h1, hk b h2⟩
theorem isLen_mono {hp : List AObj} {a : AV} {K K' : Nat → Prop} (h : isLen hp a K) (hk : ∀ x, K x → K' x) : isLen hp a K' := by
  rcases h with ⟨h, h1⟩ | ⟨sz, L, h, h1⟩ | ⟨id, e, sz, L, h, h2, h1⟩
  · exact .inl ⟨h, hk _ h1⟩
  · exact .inr (.inl ⟨sz, L, h, hk _ h1⟩)
  · exact .inr (.inr ⟨id, e, sz, L, h, h2, hk _ h1⟩)
theorem bnd_mono {st : St} {x : Option SX} {d : Nat} {K K' : Nat → Prop} (h : bnd st x d K) (hk : ∀ n, K n → K' n) : bnd st x d K' := by
  cases x with
  | none => exact hk _ h
  | some x => exact bindA_mono h fun _ h => isV_mono h fun _ h => isInt_mono h fun _ _ h => ⟨h.1, hk _ h.2⟩
theorem binV_mono {op : BinOp} {x y : Value} {K K' : Value → Prop} (h : binV op x y K) (hk : ∀ v, K v → K' v) : binV op x y K' := by
  unfold binV at h ⊢
  split at h
  · cases op <;> simp only at h ⊢ <;> first | exact ⟨h.1, hk _ h.2⟩ | exact ⟨h.1, h.2.1, hk _ h.2.2⟩
  · cases op <;> simp only at h ⊢ <;> first | exact hk _ h | exact ⟨h.1, hk _ h.2⟩ | exact h
  · exact h
theorem unV_mono {op : UnOp} {x : Value} {K K' : Value → Prop} (h : unV op x K) (hk : ∀ v, K v → K' v) : unV op x K' := by
  unfold unV at h ⊢
  split at h
  · exact hk _ h
  · exact hk _ h
  · exact h
theorem loadA_mono {hp : List AObj} {sz : Nat} {ag : Bool} {a : AV} {K K' : AV → Prop} (h : loadA hp sz ag a K) (hk : ∀ v, K v → K' v) : loadA hp sz ag a K' := by
  unfold loadA at h ⊢
  split at h
  · exact ⟨h.1, h.2.1, hk _ h.2.2⟩
  · exact bindA_mono h fun _ ⟨t, cs, h1, h2, h3, h4⟩ => ⟨t, cs, h1, h2, h3, hk _ h4⟩
  · refine bindA_mono h fun _ ⟨e, s, xs, h1, h2, h3, h4, h5⟩ => ⟨e, s, xs, h1, h2, h3, h4, ?_⟩
    rcases h5 with ⟨h6, h7, h8, h9⟩ | ⟨h6, h7⟩
    · exact .inl ⟨h6, h7, h8, hk _ h9⟩
    · exact .inr ⟨h6, hk _ h7⟩
  · exact h

theorem isList_mono {hp : List AObj} {sz : Nat} {a : AV} {K K' : List PV → Prop} (h : isList hp sz a K) (hk : ∀ x, K x → K' x) : isList hp sz a K' := by
  rcases h with ⟨h, h1⟩ | ⟨L, h, h1⟩ | ⟨id, e, L, h, h2, h1⟩
  · exact .inl ⟨h, hk _ h1⟩
  · exact .inr (.inl ⟨L, h, hk _ h1⟩)
  · exact .inr (.inr ⟨id, e, L, h, h2, hk _ h1⟩)

theorem sev_mono {st : St} {s : SOp} {K K' : AV → Prop} (h : sev P st s K) (hk : ∀ x, K x → K' x) : sev P st s K' := by
  cases s <;> simp only [sev] at h ⊢
  case mv => exact bindA_mono h hk
  case pick => exact bindA_mono h fun _ h => isV_mono h fun _ h => isBool_mono h fun _ h => ⟨fun e => bindA_mono (h.1 e) hk, fun e => bindA_mono (h.2 e) hk⟩
  case bin => exact bindA_mono h fun _ h => bindA_mono h fun _ h => isV_mono h fun _ h => isV_mono h fun _ h => binV_mono h fun _ h => hk _ h
  case eqB => exact bindA_mono h fun _ h => bindA_mono h fun _ h => isV_mono h fun _ h => isV_mono h fun _ h => isBool_mono h fun _ h => isBool_mono h fun _ h => hk _ h
  case un => exact bindA_mono h fun _ h => isV_mono h fun _ h => unV_mono h fun _ h => hk _ h
  case len str x =>
    refine bindA_mono h fun _ h => ?_
    cases str
    · exact isLen_mono h fun _ h => hk _ h
    · exact isV_mono h fun _ h => isStr_mono h fun _ h => hk _ h
  case idxS => exact bindA_mono h fun _ h => bindA_mono h fun _ h => isV_mono h fun _ h => isV_mono h fun _ h => isInt_mono h fun _ _ h => isStr_mono h fun _ h => ⟨h.1, h.2.1, hk _ h.2.2⟩
  case idxV => exact bindA_mono h fun _ h => bindA_mono h fun _ h => isV_mono h fun _ h => isInt_mono h fun _ _ h => bindA_mono h fun _ ⟨h1, h2, h3, h4, h5, h6⟩ => ⟨h1, h2, h3, h4, h5, hk _ h6⟩
  case idxA =>
    refine bindA_mono h fun _ h => bindA_mono h fun _ h => isV_mono h fun _ h => isInt_mono h fun _ _ h => ?_
    rcases h with ⟨L, h1, h2, h3, h4⟩ | ⟨id, h1, h2⟩
    · exact .inl ⟨L, h1, h2, h3, hk _ h4⟩
    · exact .inr ⟨id, h1, bindA_mono h2 fun _ ⟨e, L, h3, h4, h5, h6⟩ => ⟨e, L, h3, h4, h5, hk _ h6⟩⟩
  case idxP => exact bindA_mono h fun _ h => bindA_mono h fun _ h => isV_mono h fun _ h => isInt_mono h fun _ _ ⟨h1, h2, id, off, h3, h4⟩ => ⟨h1, h2, id, off, h3, hk _ h4⟩
  case fldA =>
    refine bindA_mono h fun _ h => ?_
    rcases h with ⟨p, h1, h2, h3, h4, h5⟩ | ⟨id, o, h1, h2⟩ | ⟨id, i, o, h1, h2⟩
    · exact .inl ⟨p, h1, h2, h3, h4, hk _ h5⟩
    · exact .inr (.inl ⟨id, o, h1, hk _ h2⟩)
    · exact .inr (.inr ⟨id, i, o, h1, hk _ h2⟩)
  case fld =>
    refine bindA_mono h fun _ h => ?_
    rcases h with ⟨p, h1, h2, h3, h4, h5⟩ | ⟨cs, h1, h2, h3, h4⟩
    · exact .inl ⟨p, h1, h2, h3, h4, hk _ h5⟩
    · exact .inr ⟨cs, h1, h2, h3, hk _ h4⟩
  case load => exact bindA_mono h fun _ h => loadA_mono h hk
  case cvtI => exact bindA_mono h fun _ h => isV_mono h fun _ h => isInt_mono h fun _ _ h => hk _ h
  case slc => exact bindA_mono h fun _ ⟨L, h1, h⟩ => ⟨L, h1, bnd_mono h fun _ h => bnd_mono h fun _ h => bnd_mono h fun _ ⟨h2, h3, h4, h5, h6⟩ => ⟨h2, h3, h4, h5, hk _ h6⟩⟩
  case slcS => exact bindA_mono h fun _ h => isV_mono h fun _ h => isStr_mono h fun _ h => bnd_mono h fun _ h => bnd_mono h fun _ ⟨h2, h3, h4⟩ => ⟨h2, h3, hk _ h4⟩
  case ext => exact bindA_mono h fun _ ⟨xs, h1, h2⟩ => ⟨xs, h1, bindA_mono h2 fun _ h => hk _ h⟩
  case b2s => exact bindA_mono h fun _ h => isList_mono h fun _ h => bindA_mono h fun _ h => hk _ h
  case nilc => exact bindA_mono h fun _ h => ⟨h.1, hk _ h.2⟩
  case build => exact bindA_mono h fun _ h => ⟨h.1, hk _ h.2⟩
  case call => exact bindA_mono h fun _ h => PCalls.mono h fun _ h => ⟨h.1, hk _ h.2⟩
  case bslice own e sz len ps =>
    cases own
    · exact bindA_mono h fun _ ⟨h1, h2, h3, h4, h5⟩ => ⟨h1, h2, h3, h4, hk _ h5⟩
    · exact h

theorem sstep_of_syield {o : SOper} {st : St} {x : AV} {K : St → Prop} (h : syield P o st x) (hk : K (st.putO o.dst x)) : sstep P o st K := by
  have key : ∀ s, (sev P st s fun y => y = x) → sexec P o.dst s st K := by
    intro s hs
    have h1 : sev P st s fun y => K (st.putO o.dst y) := sev_mono hs fun y hy => by rw [hy]; exact hk
    unfold sexec
    split <;> first | exact h1 | exact hs.elim
  unfold syield at h
  unfold sstep
  split at h
  · rename_i hg
    rw [hg]
    exact key _ h
  · rename_i t want hg
    rw [hg]
    refine bindA_mono h fun _ h => isV_mono h fun v h => ⟨fun e => key _ (h.1 e), fun e => by rw [← h.2 e]; exact hk⟩

end
end Go.Av

/-
  THE ABSTRACT LAYER, 22: the equations by which a region is gone through from the front, at explicit states.
-/
import Derived.Test.YtfgchoifgocclaaDoorAv21
set_option linter.unusedSimpArgs false
namespace Go.Av
open Go Go.RowKit

/-- A state to be put in order before going on. -/
def stp (fr : List (Nat × AV)) (hp : List AObj) (K : St → Prop) : Prop := K ⟨fr, hp⟩
theorem stp_eq (fr : List (Nat × AV)) (hp : List AObj) (K : St → Prop) : stp fr hp K = K ⟨fr, hp⟩ := rfl

/-- A value to be put in order before going on. -/
def stv (d : Nat) (v : Value) (fr : List (Nat × AV)) (hp : List AObj) (K : St → Prop) : Prop := K ⟨(d, .v v) :: fr, hp⟩
theorem stv_eq (d : Nat) (v : Value) (fr : List (Nat × AV)) (hp : List AObj) (K : St → Prop) : stv d v fr hp K = K ⟨(d, .v v) :: fr, hp⟩ := rfl

/-- An operation under a guard. -/
def gdX (P : Program) (d : Nat) (op : SOp) (b : Bool) (fr : List (Nat × AV)) (hp : List AObj) (K : St → Prop) (g : AV) : Prop := isV g fun v => (yv v = some b → sexec P (some d) op ⟨fr, hp⟩ K) ∧ (yv v ≠ some b → K ⟨(d, .v undef) :: fr, hp⟩)
def gdD (P : Program) (d : Nat) (op : SOp) (b : Bool) (fr : List (Nat × AV)) (hp : List AObj) (K : St → Prop) (g : AV) : Prop := isV g fun v => (yv v = some b → dexec P (some d) op ⟨fr, hp⟩ K) ∧ (yv v ≠ some b → K ⟨(d, .v undef) :: fr, hp⟩)
/-- A choice. -/
def pickX (a b : SX) (d : Nat) (fr : List (Nat × AV)) (hp : List AObj) (K : St → Prop) (c : AV) : Prop := isV c fun t => isBool t fun t => (t = true → bindA (St.get ⟨fr, hp⟩ a) fun a => K ⟨(d, a) :: fr, hp⟩) ∧ (t = false → bindA (St.get ⟨fr, hp⟩ b) fun a => K ⟨(d, a) :: fr, hp⟩)
/-- A call. -/
def callX (P : Program) (bor : Bool) (f : FuncId) (d : Nat) (fr : List (Nat × AV)) (hp : List AObj) (K : St → Prop) (ps : List PV) : Prop := PCalls P f ps fun r => (bor = true → r.Flat) ∧ K ⟨(d, .p r) :: fr, hp⟩
def callOX (P : Program) (bor : Bool) (e : TypeId) (sz : Nat) (f : FuncId) (d : Nat) (fr : List (Nat × AV)) (hp : List AObj) (K : St → Prop) (ps : List PV) : Prop := OCalls P f ps e sz fun xs => (bor = true → ∀ x ∈ xs, ∀ y ∈ x.cells, y.Flat) ∧ K ⟨(d, .b (.sl hp.length)) :: fr, hp ++ [.vec e sz xs]⟩
def callDX (P : Program) (bor : Bool) (f : FuncId) (d : Nat) (fr : List (Nat × AV)) (hp : List AObj) (K : St → Prop) (ps : List PV) : Prop := ∃ r, PCalls P f ps (· = r) ∧ (bor = true → r.Flat) ∧ K ⟨(d, .p r) :: fr, hp⟩
def bslX (own : Bool) (e : TypeId) (sz len d : Nat) (fr : List (Nat × AV)) (hp : List AObj) (K : St → Prop) (ps : List PV) : Prop := ps.length = len ∧ 0 < sz ∧ len * sz ≤ 16777216 ∧ (∀ p ∈ ps, p.cells.length = sz ∧ p.ok = true) ∧ stp ((d, if own then .b (.sl hp.length) else .p (lst sz ps)) :: fr) (if own then hp ++ [.vec e sz ps] else hp) K
def vecP (o : AObj) (F : PV → Prop) : Prop := ∃ e sz xs, o = .vec e sz xs ∧ F (lst sz xs)

section
variable {P : Program} {d : Nat} {fr : List (Nat × AV)} {hp : List AObj} {K : St → Prop} {f : FuncId} {ps : List PV}
theorem callX_use {bor : Bool} {r : PV} (h : PCalls P f ps (· = r)) (hf : bor = true → r.Flat) (hk : K ⟨(d, .p r) :: fr, hp⟩) : callX P bor f d fr hp K ps := h.mono fun p hp => by rw [hp]; exact ⟨hf, hk⟩
theorem callX_own {r : PV} (h : PCalls P f ps (· = r)) (hk : K ⟨(d, .p r) :: fr, hp⟩) : callX P false f d fr hp K ps := callX_use h (fun h => by cases h) hk
theorem callX_some {bor : Bool} {R : PV → Prop} (h : PCalls P f ps R) (hk : ∀ r, R r → (bor = true → r.Flat) ∧ K ⟨(d, .p r) :: fr, hp⟩) : callX P bor f d fr hp K ps := h.mono hk
theorem callDX_use {bor : Bool} {r : PV} (h : PCalls P f ps (· = r)) (hf : bor = true → r.Flat) (hk : K ⟨(d, .p r) :: fr, hp⟩) : callDX P bor f d fr hp K ps := ⟨r, h, hf, hk⟩
theorem callOX_use {e : TypeId} {sz : Nat} {xs : List PV} (h : OCalls P f ps e sz (· = xs)) (hk : stp ((d, .b (.sl hp.length)) :: fr) (hp ++ [.vec e sz xs]) K) : callOX P false e sz f d fr hp K ps := h.mono fun p hp => by rw [hp]; exact ⟨fun h => (by cases h), hk⟩
theorem callOX_bor {e : TypeId} {sz : Nat} {xs : List PV} (h : OCalls P f ps e sz (· = xs)) (hf : ∀ x ∈ xs, ∀ y ∈ x.cells, y.Flat) (hk : stp ((d, .b (.sl hp.length)) :: fr) (hp ++ [.vec e sz xs]) K) : callOX P true e sz f d fr hp K ps := h.mono fun p hp => by rw [hp]; exact ⟨fun _ => hf, hk⟩
end

theorem bind_bind {α β : Type} (o : Option α) (g : α → Option β) (F : β → Prop) : bindA (o.bind g) F = bindA o fun a => bindA (g a) F := by
  apply propext
  constructor
  · rintro ⟨b, h, hF⟩
    obtain ⟨a, h1, h2⟩ := Option.bind_eq_some_iff.1 h
    exact ⟨a, h1, b, h2, hF⟩
  · rintro ⟨a, h1, b, h2, hF⟩
    exact ⟨b, Option.bind_eq_some_iff.2 ⟨a, h1, h2⟩, hF⟩
theorem bind_map {α β : Type} (o : Option α) (g : α → β) (F : β → Prop) : bindA (o.map g) F = bindA o fun a => F (g a) := by cases o <;> simp [bindA]
theorem bind_look (k t : Nat) (x : AV) (l : List (Nat × AV)) (F : AV → Prop) : bindA (look ((k, x) :: l) t) F = if t = k then F x else bindA (look l t) F := by
  simp only [look]; split <;> simp [bindA]
theorem bind_mapM_nil {α β : Type} (g : α → Option β) (F : List β → Prop) : bindA (([] : List α).mapM g) F = F [] := by simp [bindA]
theorem bind_mapM {α β : Type} (g : α → Option β) (x : α) (xs : List α) (F : List β → Prop) : bindA ((x :: xs).mapM g) F = bindA (g x) fun a => bindA (xs.mapM g) fun zs => F (a :: zs) := by
  rw [List.mapM_cons]
  apply propext
  constructor
  · rintro ⟨b, h, hF⟩
    simp only [Option.bind_eq_bind, Option.bind_eq_some_iff, Option.pure_def, Option.some.injEq] at h
    obtain ⟨a, h1, zs, h2, rfl⟩ := h
    exact ⟨a, h1, zs, h2, hF⟩
  · rintro ⟨a, h1, zs, h2, hF⟩
    exact ⟨a :: zs, by simp [h1, h2], hF⟩

theorem vecP_vec (e : TypeId) (sz : Nat) (xs : List PV) (F : PV → Prop) : vecP (.vec e sz xs) F = F (lst sz xs) := by
  apply propext
  constructor
  · rintro ⟨e', sz', xs', h, hF⟩; cases h; exact hF
  · exact fun h => ⟨e, sz, xs, rfl, h⟩
theorem argPV_sl (hp : List AObj) (id : Nat) (F : PV → Prop) : bindA (argPV hp true (.b (.sl id))) F = bindA hp[id]? fun o => vecP o F := by
  apply propext
  simp only [argPV, if_true]
  constructor
  · rintro ⟨p, h, hF⟩
    split at h
    · rename_i e sz xs ho
      cases h
      exact ⟨_, ho, e, sz, xs, rfl, hF⟩
    · cases h
  · rintro ⟨o, h, e, sz, xs, rfl, hF⟩
    exact ⟨lst sz xs, by rw [h], hF⟩

/-- THE FRONT EQUATIONS. -/
theorem XS (P : Program) :
    (∀ st K, sops P [] st K = K st) ∧
    (∀ o l fr hp K, sops P (o :: l) ⟨fr, hp⟩ K = sstep P o ⟨fr, hp⟩ fun s => sops P l s K) ∧
    (∀ d op fr hp K, sstep P ⟨d, op, none⟩ ⟨fr, hp⟩ K = sexec P d op ⟨fr, hp⟩ K) ∧
    (∀ d op t b fr hp K, sstep P ⟨some d, op, some (t, b)⟩ ⟨fr, hp⟩ K = bindA (look fr t) (gdX P d op b fr hp K)) ∧
    (∀ d op fr hp K, gdX P d op true fr hp K (.b (.pv (.sc (.bool true)))) = sexec P (some d) op ⟨fr, hp⟩ K) ∧
    (∀ d op fr hp K, gdD P d op true fr hp K (.b (.pv (.sc (.bool true)))) = dexec P (some d) op ⟨fr, hp⟩ K) ∧
    (∀ d op fr hp K, gdX P d op false fr hp K (.b (.pv (.sc (.bool true)))) = K ⟨(d, .v undef) :: fr, hp⟩) ∧
    (∀ d op fr hp K, gdD P d op false fr hp K (.b (.pv (.sc (.bool true)))) = K ⟨(d, .v undef) :: fr, hp⟩) ∧
    (∀ d op fr hp K, gdX P d op true fr hp K (.b (.pv (.sc (.bool false)))) = K ⟨(d, .v undef) :: fr, hp⟩) ∧
    (∀ d op fr hp K, gdD P d op true fr hp K (.b (.pv (.sc (.bool false)))) = K ⟨(d, .v undef) :: fr, hp⟩) ∧
    (∀ d op fr hp K, gdX P d op false fr hp K (.b (.pv (.sc (.bool false)))) = sexec P (some d) op ⟨fr, hp⟩ K) ∧
    (∀ d op fr hp K, gdD P d op false fr hp K (.b (.pv (.sc (.bool false)))) = dexec P (some d) op ⟨fr, hp⟩ K) ∧
    (∀ d op b fr hp K, gdX P d op b fr hp K (.b (.pv (.sc undef))) = K ⟨(d, .v undef) :: fr, hp⟩) ∧
    (∀ d op b fr hp K, gdD P d op b fr hp K (.b (.pv (.sc undef))) = K ⟨(d, .v undef) :: fr, hp⟩) ∧
    (∀ x d fr hp K, sexec P (some d) (.mv x) ⟨fr, hp⟩ K = bindA (St.get ⟨fr, hp⟩ x) fun a => K ⟨(d, a) :: fr, hp⟩) ∧
    (∀ c a b d fr hp K, sexec P (some d) (.pick c a b) ⟨fr, hp⟩ K = bindA (St.get ⟨fr, hp⟩ c) (pickX a b d fr hp K)) ∧
    (∀ op x y d fr hp K, sexec P (some d) (.bin op x y) ⟨fr, hp⟩ K = bindA (St.get ⟨fr, hp⟩ x) fun x => bindA (St.get ⟨fr, hp⟩ y) fun y => isV x fun x => isV y fun y => binV op x y fun v => stv d v fr hp K) ∧
    (∀ neg x y d fr hp K, sexec P (some d) (.eqB neg x y) ⟨fr, hp⟩ K = bindA (St.get ⟨fr, hp⟩ x) fun x => bindA (St.get ⟨fr, hp⟩ y) fun y => isV x fun x => isV y fun y => isBool x fun a => isBool y fun b => stv d (.bool (neg ^^ (a == b))) fr hp K) ∧
    (∀ op x d fr hp K, sexec P (some d) (.un op x) ⟨fr, hp⟩ K = bindA (St.get ⟨fr, hp⟩ x) fun x => isV x fun x => unV op x fun v => stv d v fr hp K) ∧
    (∀ x d fr hp K, sexec P (some d) (.len false x) ⟨fr, hp⟩ K = bindA (St.get ⟨fr, hp⟩ x) fun x => isLen hp x fun n => K ⟨(d, .v (.int .i64 n)) :: fr, hp⟩) ∧
    (∀ x d fr hp K, sexec P (some d) (.len true x) ⟨fr, hp⟩ K = bindA (St.get ⟨fr, hp⟩ x) fun x => isV x fun x => isStr x fun s => K ⟨(d, .v (.int .i64 s.size)) :: fr, hp⟩) ∧
    (∀ x i d fr hp K, sexec P (some d) (.idxS x i) ⟨fr, hp⟩ K = bindA (St.get ⟨fr, hp⟩ x) fun x => bindA (St.get ⟨fr, hp⟩ i) fun i => isV x fun x => isV i fun i => isInt i fun _ n => isStr x fun s => 0 ≤ n ∧ n < s.size ∧ K ⟨(d, .v (.int .u8 (s.toList.getD n.toNat 0).toNat)) :: fr, hp⟩) ∧
    (∀ n sz ag x i d fr hp K, sexec P (some d) (.idxV n sz ag x i) ⟨fr, hp⟩ K = bindA (St.get ⟨fr, hp⟩ x) fun x => bindA (St.get ⟨fr, hp⟩ i) fun i => isV i fun i => isInt i fun _ m => bindA x.toPV fun p => 0 ≤ m ∧ m < n ∧ (ag = false → sz = 1) ∧ p.cells.length = n * sz ∧ p.isAgg = true ∧ K ⟨(d, .p (p.sub (m.toNat * sz) sz ag)) :: fr, hp⟩) ∧
    (∀ sz x i d fr hp K, sexec P (some d) (.idxA sz x i) ⟨fr, hp⟩ K = bindA (St.get ⟨fr, hp⟩ x) fun x => bindA (St.get ⟨fr, hp⟩ i) fun i => isV i fun i => isInt i fun _ n => elP hp sz x n fun a => K ⟨(d, a) :: fr, hp⟩) ∧
    (∀ n sz x i d fr hp K, sexec P (some d) (.idxP n sz x i) ⟨fr, hp⟩ K = bindA (St.get ⟨fr, hp⟩ x) fun x => bindA (St.get ⟨fr, hp⟩ i) fun i => isV i fun i => isInt i fun _ m => 0 ≤ m ∧ m < n ∧ (∃ id off, x = .b (.ptr id off) ∧ K ⟨(d, .b (.ptr id (off + m.toNat * sz))) :: fr, hp⟩)) ∧
    (∀ off sz ag x d fr hp K, sexec P (some d) (.fldA off sz ag x) ⟨fr, hp⟩ K = bindA (St.get ⟨fr, hp⟩ x) fun x => fldP off sz ag x fun a => K ⟨(d, a) :: fr, hp⟩) ∧
    (∀ off sz ag x d fr hp K, sexec P (some d) (.fld off sz ag x) ⟨fr, hp⟩ K = bindA (St.get ⟨fr, hp⟩ x) fun x => fldV off sz ag x fun a => K ⟨(d, a) :: fr, hp⟩) ∧
    (∀ sz ag x d fr hp K, sexec P (some d) (.load sz ag x) ⟨fr, hp⟩ K = bindA (St.get ⟨fr, hp⟩ x) fun x => loadA hp sz ag x fun a => K ⟨(d, a) :: fr, hp⟩) ∧
    (∀ k x d fr hp K, sexec P (some d) (.cvtI k x) ⟨fr, hp⟩ K = bindA (St.get ⟨fr, hp⟩ x) fun x => isV x fun x => isInt x fun _ n => stv d (.int k (k.wrap n)) fr hp K) ∧
    (∀ x i d fr hp K, sexec P (some d) (.ext x i) ⟨fr, hp⟩ K = bindA (St.get ⟨fr, hp⟩ x) fun x => ∃ xs, x = .p (.tup xs) ∧ bindA xs[i]? fun p => K ⟨(d, .p p) :: fr, hp⟩) ∧
    (∀ bor f args d fr hp K, sexec P (some d) (.call bor f args) ⟨fr, hp⟩ K = bindA (args.mapM fun x => (St.get ⟨fr, hp⟩ x).bind (argPV hp bor)) (callX P bor f d fr hp K)) ∧
    (∀ bor e sz f args d fr hp K, sexec P (some d) (.callO bor e sz f args) ⟨fr, hp⟩ K = bindA (args.mapM fun x => (St.get ⟨fr, hp⟩ x).bind (argPV hp bor)) (callOX P bor e sz f d fr hp K)) ∧
    (∀ e sz len parts d fr hp K, sexec P (some d) (.bslice false e sz len parts) ⟨fr, hp⟩ K = bindA (parts.mapM fun x => (St.get ⟨fr, hp⟩ x).bind AV.toPV) (bslX false e sz len d fr hp K)) ∧
    (∀ e sz len parts d fr hp K, sexec P (some d) (.bslice true e sz len parts) ⟨fr, hp⟩ K = bindA (parts.mapM fun x => (St.get ⟨fr, hp⟩ x).bind AV.toPV) (bslX true e sz len d fr hp K)) ∧
    (∀ zero parts d fr hp K, sexec P (some d) (.build zero parts) ⟨fr, hp⟩ K = bindA (parts.mapM fun q => (St.get ⟨fr, hp⟩ q.2.2).map fun a => (q.1, q.2.1, a)) fun ps => (∀ q ∈ ps, q.2.2.ok = true ∧ q.2.2.cells.length = q.2.1 ∧ q.1 + q.2.1 ≤ zero.length) ∧ stp ((d, .agg (ps.foldl (fun cs q => splice cs q.1 q.2.2.cells) (zero.map fun v => constB v))) :: fr) hp K) ∧
    (∀ sz x v fr hp K, sexec P none (.store sz x v) ⟨fr, hp⟩ K = bindA (St.get ⟨fr, hp⟩ x) fun x => bindA (St.get ⟨fr, hp⟩ v) fun v => storeA hp sz x v fun hp => stp fr hp K) ∧
    (∀ t zero d fr hp K, sexec P (some d) (.alloc t zero) ⟨fr, hp⟩ K = stp ((d, .b (.ptr hp.length 0)) :: fr) (hp ++ [AObj.box t (zero.map fun v => constB v)]) K) ∧
    (∀ t x d fr hp K, sexec P (some d) (.box t x) ⟨fr, hp⟩ K = bindA (St.get ⟨fr, hp⟩ x) fun x => x.ok = true ∧ stp ((d, .b (.ptr hp.length 0)) :: fr) (hp ++ [AObj.box t x.cells]) K) ∧
    (∀ e sz bytes zero l c d fr hp K, sexec P (some d) (.mslice e sz bytes zero l c) ⟨fr, hp⟩ K = bindA (St.get ⟨fr, hp⟩ l) fun l => bindA (St.get ⟨fr, hp⟩ c) fun c => isV l fun l => isV c fun c => isInt l fun _ l => isInt c fun _ c => 0 ≤ l ∧ l ≤ c ∧ c ≤ 9223372036854775807 ∧ bytes * c ≤ 281474976710656 ∧ (constA zero).cells.length = sz ∧ 0 < sz ∧ bindA (constA zero).toPV fun z => z.ok = true ∧ stp ((d, .b (.sl hp.length)) :: fr) (hp ++ [AObj.vec e sz (List.replicate l.toNat z)]) K) ∧
    (∀ e sz bytes x y d fr hp K, sexec P (some d) (.append e sz bytes x y) ⟨fr, hp⟩ K = bindA (St.get ⟨fr, hp⟩ x) fun x => bindA (St.get ⟨fr, hp⟩ y) fun y => isList hp sz y fun L => (∀ p ∈ L, p.ok = true) ∧ appV (some d) e sz bytes ⟨fr, hp⟩ x L K) ∧
    (∀ sz x lo hi mx d fr hp K, sexec P (some d) (.slc sz x lo hi mx) ⟨fr, hp⟩ K = bindA (St.get ⟨fr, hp⟩ x) fun x => ∃ L, x = .p (lst sz L) ∧ bnd ⟨fr, hp⟩ lo 0 fun l => bnd ⟨fr, hp⟩ hi L.length fun h => bnd ⟨fr, hp⟩ mx L.length fun m => (mx.isSome = true → hi.isSome = true) ∧ l ≤ h ∧ h ≤ m ∧ m ≤ L.length ∧ K ⟨(d, .p (lst sz ((L.take h).drop l))) :: fr, hp⟩) ∧
    (∀ x lo hi d fr hp K, sexec P (some d) (.slcS x lo hi) ⟨fr, hp⟩ K = bindA (St.get ⟨fr, hp⟩ x) fun x => isV x fun x => isStr x fun s => bnd ⟨fr, hp⟩ lo 0 fun l => bnd ⟨fr, hp⟩ hi s.size fun h => l ≤ h ∧ h ≤ s.size ∧ K ⟨(d, .v (.string (s.extract l h))) :: fr, hp⟩) ∧
    (∀ x d fr hp K, sexec P (some d) (.b2s x) ⟨fr, hp⟩ K = bindA (St.get ⟨fr, hp⟩ x) fun x => isList hp 1 x fun L => bindA (bytesOf L) fun l => K ⟨(d, .v (.string (strOfNums l))) :: fr, hp⟩) ∧
    (∀ l st K, ddraw P 0 l st K = sops P l st K) ∧
    (∀ k st K, ddraw P (k + 1) [] st K = K st) ∧
    (∀ k o l fr hp K, ddraw P (k + 1) (o :: l) ⟨fr, hp⟩ K = dstep P o ⟨fr, hp⟩ fun s => ddraw P k l s K) ∧
    (∀ d op fr hp K, dstep P ⟨d, op, none⟩ ⟨fr, hp⟩ K = dexec P d op ⟨fr, hp⟩ K) ∧
    (∀ d op t b fr hp K, dstep P ⟨some d, op, some (t, b)⟩ ⟨fr, hp⟩ K = bindA (look fr t) (gdD P d op b fr hp K)) ∧
    (∀ bor f args d fr hp K, dexec P (some d) (.call bor f args) ⟨fr, hp⟩ K = bindA (args.mapM fun x => (St.get ⟨fr, hp⟩ x).bind (argPV hp bor)) (callDX P bor f d fr hp K)) := by
  have key : ∀ (d : Option Nat) (s : SOp) (st : St) (G : St → Prop), s.det = true → (s.det = true ∧ sexec P d s st G) = sexec P d s st G := fun d s st G h => propext ⟨fun h => h.2, fun k => ⟨h, k⟩⟩
  have t1 : ∀ X : Prop, (true = true → X) = X := fun X => propext ⟨fun h => h rfl, fun h _ => h⟩
  refine ⟨?_, ?_, ?_, ?_, ?_, ?_, ?_, ?_, ?_, ?_, ?_, ?_, ?_, ?_, ?_, ?_, ?_, ?_, ?_, ?_, ?_, ?_, ?_, ?_, ?_, ?_, ?_, ?_, ?_, ?_, ?_, ?_, ?_, ?_, ?_, ?_, ?_, ?_, ?_, ?_, ?_, ?_, ?_, ?_, ?_, ?_, ?_, ?_, ?_⟩ <;> intros
  all_goals first
    | rfl
    | (simp only [gdX, gdD, pickX, isV_v, isBool_bool, yv, undef, ne_eq, Option.some.injEq, reduceCtorEq, Bool.false_eq_true, Bool.true_eq_false, not_true_eq_false, not_false_eq_true, true_implies, false_implies, and_true, true_and]; done)
    | (apply appV_sl)
    | (apply appV_nils)
    | (refine propext ⟨fun h => ?_, fun h => ?_⟩
       · obtain ⟨x, h1, y, h2, h3, h4⟩ := h; exact ⟨x, h1, y, h2, h4⟩
       · obtain ⟨x, h1, y, h2, h4⟩ := h; exact ⟨x, h1, y, h2, rfl, h4⟩)

/-- WHAT IS BOUND. -/
theorem XZ :
    (∀ fr hp k F, bindA (St.get ⟨fr, hp⟩ (.tm k)) F = bindA (look fr k) F) ∧
    (∀ st k n F, bindA (St.get st (.c (.int k n))) F = F (.v (.int k n))) ∧
    (∀ st b F, bindA (St.get st (.c (.bool b))) F = F (.v (.bool b))) ∧
    (∀ st s F, bindA (St.get st (.c (.string s))) F = F (.v (.string s))) ∧
    (∀ st F, bindA (St.get st (.c (.slice none 0 0))) F = F (.b .nils)) ∧
    (∀ st cs F, bindA (St.get st (.c (.agg cs))) F = F (.agg (cs.toList.map constB))) ∧
    (∀ st n F, bindA (St.get st (.g n)) F = F (.v (.pointer (some ⟨n, 0, none⟩)))) ∧
    (∀ st n F, bindA (St.get st (.f n)) F = F (.p (.fn (.func n) []))) ∧
    (∀ (o : Option AV) (g : AV → Option PV) (F : PV → Prop), bindA (o.bind g) F = bindA o fun a => bindA (g a) F) ∧
    (∀ (o : Option AV) (g : AV → Nat × Nat × AV) (F : Nat × Nat × AV → Prop), bindA (o.map g) F = bindA o fun a => F (g a)) ∧
    (∀ k t x l F, bindA (look ((k, x) :: l) t) F = if t = k then F x else bindA (look l t) F) ∧
    (∀ (g : SX → Option PV) (F : List PV → Prop), bindA (([] : List SX).mapM g) F = F []) ∧
    (∀ (g : SX → Option PV) (x : SX) (xs : List SX) (F : List PV → Prop), bindA ((x :: xs).mapM g) F = bindA (g x) fun a => bindA (xs.mapM g) fun zs => F (a :: zs)) ∧
    (∀ (g : Nat × Nat × SX → Option (Nat × Nat × AV)) (F : List (Nat × Nat × AV) → Prop), bindA (([] : List (Nat × Nat × SX)).mapM g) F = F []) ∧
    (∀ (g : Nat × Nat × SX → Option (Nat × Nat × AV)) (x : Nat × Nat × SX) (xs : List (Nat × Nat × SX)) (F : List (Nat × Nat × AV) → Prop), bindA ((x :: xs).mapM g) F = bindA (g x) fun a => bindA (xs.mapM g) fun zs => F (a :: zs)) ∧
    (∀ p F, bindA (AV.toPV (.b (.pv p))) F = F p) ∧
    (∀ F, bindA (AV.toPV (.b .nils)) F = F (.list 0 [])) ∧
    (∀ hp bor p F, bindA (argPV hp bor (.b (.pv p))) F = F p) ∧
    (∀ hp bor F, bindA (argPV hp bor (.b .nils)) F = F (.list 0 [])) ∧
    (∀ hp bor cs F, bindA (argPV hp bor (.agg cs)) F = bindA (List.mapM BV.toPV cs) fun xs => F (.agg xs)) ∧
    (∀ cs F, bindA (AV.toPV (.agg cs)) F = bindA (List.mapM BV.toPV cs) fun xs => F (.agg xs)) ∧
    (∀ F, bindA (List.mapM BV.toPV []) F = F []) ∧
    (∀ x xs F, bindA (List.mapM BV.toPV (x :: xs)) F = bindA (BV.toPV x) fun a => bindA (List.mapM BV.toPV xs) fun zs => F (a :: zs)) ∧
    (∀ p F, bindA (BV.toPV (.pv p)) F = F p) ∧
    (∀ F, bindA (BV.toPV .nils) F = F (.list 0 [])) ∧
    (∀ hp id F, bindA (argPV hp true (.b (.sl id))) F = bindA hp[id]? fun o => vecP o F) ∧
    (∀ e sz xs F, vecP (.vec e sz xs) F = F (lst sz xs)) ∧
    (∀ (o : AObj) l F, bindA (o :: l)[0]? F = F o) ∧
    (∀ (o : AObj) l n F, bindA (o :: l)[n + 1]? F = bindA l[n]? F) ∧
    (∀ (o : PV) l F, bindA (o :: l)[0]? F = F o) ∧
    (∀ (o : PV) l n F, bindA (o :: l)[n + 1]? F = bindA l[n]? F) ∧
    (∀ e sz len d fr hp K ps, bslX false e sz len d fr hp K ps = (ps.length = len ∧ 0 < sz ∧ len * sz ≤ 16777216 ∧ (∀ p ∈ ps, p.cells.length = sz ∧ p.ok = true) ∧ K ⟨(d, .p (lst sz ps)) :: fr, hp⟩)) ∧
    (∀ e sz len d fr hp K ps, bslX true e sz len d fr hp K ps = (ps.length = len ∧ 0 < sz ∧ len * sz ≤ 16777216 ∧ (∀ p ∈ ps, p.cells.length = sz ∧ p.ok = true) ∧ stp ((d, .b (.sl hp.length)) :: fr) (hp ++ [.vec e sz ps]) K)) ∧
    (∀ st d K, bnd st none d K = K d) ∧
    (∀ st x d K, bnd st (some x) d K = bindA (st.get x) fun a => isV a fun v => isInt v fun _ n => 0 ≤ n ∧ K n.toNat) ∧
    (∀ a b d fr hp K, pickX a b d fr hp K (.b (.pv (.sc (.bool true)))) = bindA (St.get ⟨fr, hp⟩ a) fun a => K ⟨(d, a) :: fr, hp⟩) ∧
    (∀ a b d fr hp K, pickX a b d fr hp K (.b (.pv (.sc (.bool false)))) = bindA (St.get ⟨fr, hp⟩ b) fun a => K ⟨(d, a) :: fr, hp⟩) ∧
    (∀ d e sz bytes fr hp id L K, appV (some d) e sz bytes ⟨fr, hp⟩ (.b (.sl id)) L K = bindA hp[id]? fun o => ∃ xs, o = .vec e sz xs ∧ (xs.length + L.length) * bytes ≤ 140737488355328 ∧ stp ((d, .b (.sl id)) :: fr.map fun x => (x.1, x.2.kill id)) ((hp.map (AObj.kill id)).set id (.vec e sz (xs ++ L))) K) ∧
    (∀ d e sz bytes fr hp L K, appV (some d) e sz bytes ⟨fr, hp⟩ (.b .nils) L K = (L.length * bytes ≤ 140737488355328 ∧ stp ((d, .b (.sl hp.length)) :: fr) (hp ++ [AObj.vec e sz L]) K)) := by
  refine ⟨?_, ?_, ?_, ?_, ?_, ?_, ?_, ?_, ?_, ?_, ?_, ?_, ?_, ?_, ?_, ?_, ?_, ?_, ?_, ?_, ?_, ?_, ?_, ?_, ?_, ?_, ?_, ?_, ?_, ?_, ?_, ?_, ?_, ?_, ?_, ?_, ?_, ?_, ?_⟩ <;> intros
  all_goals first
    | rfl
    | (apply bind_look)
    | (apply bind_bind)
    | (apply bind_map)
    | (apply bind_mapM_nil)
    | (apply bind_mapM)
    | (apply vecP_vec)
    | (apply argPV_sl)
    | exact bind_map _ _ _
    | exact bindA_some _ _
    | (apply appV_sl)
    | (apply appV_nils)
    | (simp only [pickX, isV_v, isBool_bool, reduceCtorEq, Bool.false_eq_true, Bool.true_eq_false, true_implies, false_implies, and_true, true_and]; done)
    | (simp [bindA, St.get, constA, constB, AV.toPV, BV.toPV, argPV]; done)
    | skip

/-- Draws of plain operations. -/
theorem XD (P : Program) :
    (∀ x d fr hp K, dexec P (some d) (.mv x) ⟨fr, hp⟩ K = sexec P (some d) (.mv x) ⟨fr, hp⟩ K) ∧
    (∀ c a b d fr hp K, dexec P (some d) (.pick c a b) ⟨fr, hp⟩ K = sexec P (some d) (.pick c a b) ⟨fr, hp⟩ K) ∧
    (∀ op x y d fr hp K, dexec P (some d) (.bin op x y) ⟨fr, hp⟩ K = sexec P (some d) (.bin op x y) ⟨fr, hp⟩ K) ∧
    (∀ op x y d fr hp K, dexec P (some d) (.eqB op x y) ⟨fr, hp⟩ K = sexec P (some d) (.eqB op x y) ⟨fr, hp⟩ K) ∧
    (∀ op x d fr hp K, dexec P (some d) (.un op x) ⟨fr, hp⟩ K = sexec P (some d) (.un op x) ⟨fr, hp⟩ K) ∧
    (∀ s x d fr hp K, dexec P (some d) (.len s x) ⟨fr, hp⟩ K = sexec P (some d) (.len s x) ⟨fr, hp⟩ K) ∧
    (∀ x i d fr hp K, dexec P (some d) (.idxS x i) ⟨fr, hp⟩ K = sexec P (some d) (.idxS x i) ⟨fr, hp⟩ K) ∧
    (∀ n sz ag x i d fr hp K, dexec P (some d) (.idxV n sz ag x i) ⟨fr, hp⟩ K = sexec P (some d) (.idxV n sz ag x i) ⟨fr, hp⟩ K) ∧
    (∀ sz x i d fr hp K, dexec P (some d) (.idxA sz x i) ⟨fr, hp⟩ K = sexec P (some d) (.idxA sz x i) ⟨fr, hp⟩ K) ∧
    (∀ n sz x i d fr hp K, dexec P (some d) (.idxP n sz x i) ⟨fr, hp⟩ K = sexec P (some d) (.idxP n sz x i) ⟨fr, hp⟩ K) ∧
    (∀ o sz ag x d fr hp K, dexec P (some d) (.fldA o sz ag x) ⟨fr, hp⟩ K = sexec P (some d) (.fldA o sz ag x) ⟨fr, hp⟩ K) ∧
    (∀ o sz ag x d fr hp K, dexec P (some d) (.fld o sz ag x) ⟨fr, hp⟩ K = sexec P (some d) (.fld o sz ag x) ⟨fr, hp⟩ K) ∧
    (∀ sz ag x d fr hp K, dexec P (some d) (.load sz ag x) ⟨fr, hp⟩ K = sexec P (some d) (.load sz ag x) ⟨fr, hp⟩ K) ∧
    (∀ k x d fr hp K, dexec P (some d) (.cvtI k x) ⟨fr, hp⟩ K = sexec P (some d) (.cvtI k x) ⟨fr, hp⟩ K) ∧
    (∀ sz x l h m d fr hp K, dexec P (some d) (.slc sz x l h m) ⟨fr, hp⟩ K = sexec P (some d) (.slc sz x l h m) ⟨fr, hp⟩ K) ∧
    (∀ x l h d fr hp K, dexec P (some d) (.slcS x l h) ⟨fr, hp⟩ K = sexec P (some d) (.slcS x l h) ⟨fr, hp⟩ K) ∧
    (∀ x i d fr hp K, dexec P (some d) (.ext x i) ⟨fr, hp⟩ K = sexec P (some d) (.ext x i) ⟨fr, hp⟩ K) ∧
    (∀ z ps d fr hp K, dexec P (some d) (.build z ps) ⟨fr, hp⟩ K = sexec P (some d) (.build z ps) ⟨fr, hp⟩ K) := by
  have key : ∀ (d : Option Nat) (s : SOp) (st : St) (G : St → Prop), s.det = true → (s.det = true ∧ sexec P d s st G) = sexec P d s st G := fun d s st G h => propext ⟨fun h => h.2, fun k => ⟨h, k⟩⟩
  refine ⟨?_, ?_, ?_, ?_, ?_, ?_, ?_, ?_, ?_, ?_, ?_, ?_, ?_, ?_, ?_, ?_, ?_, ?_⟩ <;> intros <;> exact key _ _ _ _ rfl
end Go.Av

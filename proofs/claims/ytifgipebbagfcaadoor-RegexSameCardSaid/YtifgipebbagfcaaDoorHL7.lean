/- Part ML7 of the layer: an abstract and a typed machine over the loaded code, proved sound. -/
import Derived.Test.YtifgipebbagfcaaDoorHL6
import Derived.Test.YtifgipebbagfcaaDoorHL4
set_option linter.unusedVariables false
set_option linter.unusedSimpArgs false
namespace Go.Ev
open Go Go.RowKit Go.Av
theorem unpack_isD : ∀ (l : List Slot) (c : HL l) (b : S), (∀ k v, lk b.fr k = some v → v.isD = true) → ∀ k v, lk (unpack l c b).fr k = some v → v.isD = true
  | [], _, _, h => h
  | .tm j t :: l, c, b, h => unpack_isD l c.2 _ fun k v hv => by
    simp only [lk] at hv
    cases hb : Nat.beq k j
    · rw [hb] at hv; exact h k v hv
    · rw [hb] at hv
      simp only [cond_true, Option.some.injEq] at hv
      subst hv; rfl
  | .cell _ _ _ :: l, c, b, h => unpack_isD l c.2 _ h
  | .vec _ _ _ :: l, c, b, h => unpack_isD l c.2 _ h
  | .map _ _ _ _ _ :: l, c, b, h => unpack_isD l c.2 _ h
  | .tree _ _ _ _ :: l, c, b, h => unpack_isD l c.2 _ h
  | .treeH _ _ _ _ _ _ :: l, c, b, h => unpack_isD l c.2 _ h
theorem isD_ids {v : V} (h : v.isD = true) : v.ids = [] ∧ v.ids1 = [] := by cases v <;> first | exact ⟨rfl, rfl⟩ | cases h
theorem res_ids {n : Nat} {fr : List (Nat × V)} (h : ∀ k v, lk fr k = some v → v.isD = true) : (res n fr).ids = [] := by
  have one : ∀ k, ((lk fr k).getD .any).ids = [] ∧ ((lk fr k).getD .any).ids1 = [] := fun k => by
    cases hl : lk fr k with
    | none => exact ⟨rfl, rfl⟩
    | some v => exact isD_ids (h k v hl)
  unfold res
  cases Nat.beq n 1
  · show (resV fr n).flatMap V.ids1 = []
    rw [List.flatMap_eq_nil_iff]
    intro v hv
    obtain ⟨i, _, rfl⟩ := List.mem_map.1 hv
    exact (one i).2
  · exact (one 0).1
theorem argB_of {hp : List AObj} {bor : Bool} {x : BV} {p : PV} (h : x.toPV = some p) : argB hp bor x = some p := by
  cases x <;> first | exact h | cases h
theorem argPV_of {hp : List AObj} {bor : Bool} {x : AV} {p : PV} (h : x.toPV = some p) : argPV hp bor x = some p := by
  cases x with
  | b x => exact argB_of h
  | agg xs =>
    have h' : (xs.mapM BV.toPV).map PV.agg = some p := h
    obtain ⟨ps, h1, rfl⟩ := Option.map_eq_some_iff.1 h'
    show (xs.mapM (argB hp bor)).map PV.agg = _
    rw [mapM_imp (fun x _ y hy => argB_of hy) h1]; rfl
  | tup xs => exact h
section
variable {R : Type} {P : Program} {O : Oracle} {d : Option Nat} {s : S} {κ kp : S → Option R} {r : R}
theorem argOf_pv {bor : Bool} {a : Arg × X} {v : V} (hw : a.2.wf = true) (h : argOf s bor [] a = some v) (hd : v.isD = true) : ∃ p, ((enc s).get a.2.er).bind (argPV (enc s).hp bor) = some p ∧ AV.p p = encA v := by
  obtain ⟨a, x⟩ := a
  simp only [argOf] at h
  split at h
  · rename_i t id hx
    obtain ⟨h1, h2⟩ := bif_eq h
    simp only [Bool.and_eq_true, Bool.not_eq_true'] at h1
    split at h2
    · rename_i e u xs ho
      split at h2
      · rename_i ys hy
        cases h2
        obtain ⟨e1, e2⟩ := cast?_enc hy
        refine ⟨encP (.list t) ys, ?_, rfl⟩
        rw [get_er hw hx, Option.bind_some]
        show (if bor = true then slP (enc s).hp id else none) = _
        rw [h1.1, if_pos rfl, slP, hp_get, ho]
        show some (encP (.list u) xs) = some (encP (.list t) ys)
        rw [e1]
      · cases h2
    · rename_i e kk u xs ho
      split at h2
      · rename_i ys hy
        cases h2
        obtain ⟨e1, e2⟩ := cast?_enc hy
        refine ⟨encP (.list t) ys, ?_, rfl⟩
        rw [get_er hw hx, Option.bind_some]
        show (if bor = true then slP (enc s).hp id else none) = _
        rw [h1.1, if_pos rfl, slP, hp_get, ho]
        show some (encP (.list u) xs) = some (encP (.list t) ys)
        rw [e1]
      · cases h2
    · cases h2
  · rename_i t v' _ hx
    split at h
    · rename_i y hy
      cases h
      exact ⟨encP t y, by rw [get_er hw hx, Option.bind_some]; exact argPV_of (data_enc hy), rfl⟩
    · cases h
  · rename_i v' hx
    have key : ∀ p : PV, encA v' = AV.p p → v' = v → ∃ p, ((enc s).get x.er).bind (argPV (enc s).hp bor) = some p ∧ AV.p p = encA v := fun p hp e => by
      subst e
      exact ⟨p, by rw [get_er hw hx, Option.bind_some, hp]; exact argPV_of rfl, hp.symm⟩
    split at h
    · cases h
    · cases h
    · cases h
    · cases h
    · rename_i vs
      obtain ⟨h1, h2⟩ := bif_eq h
      cases h2
      cases hd
    · cases h
      cases v <;> first | (cases hd; done) | skip
      · exact key _ rfl rfl
      · exact key _ rfl rfl
      · exact key _ rfl rfl
  · cases h
theorem argsOf_pv {bor : Bool} : ∀ (l : List (Arg × X)) (vs : List V), argsWf l = true → argsOf s bor [] l = some vs → vs.all V.isD = true → ∃ ps, (l.map fun a => a.2.er).mapM (fun x => ((enc s).get x).bind (argPV (enc s).hp bor)) = some ps ∧ ps.map AV.p = vs.map encA
  | [], vs, _, h, _ => by cases h; exact ⟨[], rfl, rfl⟩
  | a :: l, vs, hw, h, hd => by
    simp only [argsWf, List.all_cons, Bool.and_eq_true] at hw
    simp only [argsOf] at h
    split at h
    · rename_i v hv
      split at h
      · rename_i us hu
        cases h
        simp only [List.all_cons, Bool.and_eq_true] at hd
        obtain ⟨p, h1, h2⟩ := argOf_pv hw.1 hv hd.1
        obtain ⟨ps, h3, h4⟩ := argsOf_pv l us hw.2 hu hd.2
        refine ⟨p :: ps, ?_, by rw [List.map_cons, List.map_cons, h2, h4]⟩
        rw [List.map_cons, List.mapM_cons, h1, h3]; rfl
      · cases h
    · cases h
theorem pu_call (hO : OracleOk P O) {bor : Bool} {f : FuncId} {args : List (Arg × X)} {sh : Sh} (hw : argsWf args = true ∧ sh.wfB = true) (h : evOp O d (.call bor f args sh) s κ kp = some r) :
    Pu P s (.call bor (f % 10000) (args.map fun a => a.2.er)) d κ r := by
  simp only [evOp] at h
  split at h
  · rename_i ars ha
    obtain ⟨h1, h2⟩ := bif_eq h
    simp only [Bool.and_eq_true, Bool.or_eq_true, Bool.not_eq_true'] at h1
    obtain ⟨c, hc, hk⟩ := bind_eq h2
    obtain ⟨ps, h3, h4⟩ := argsOf_pv args ars hw.1 ha h1.1.1
    obtain ⟨q1, q2⟩ := callR_sound hO hw.2 hc
    rw [← h4] at q1
    refine ⟨_, ⟨ps, h3, q1.mono fun o ho => ⟨_, _, ho, ?_, fun hb => (q2 ?_).1, rfl⟩⟩, hk⟩
    · rw [← encA_ids]
      refine res_ids (unpack_isD _ _ _ fun k v hv => ?_)
      rw [base_nil] at hv
      have := List.isEmpty_iff.1 h1.1.2
      rw [this] at hv; cases hv
    · rcases h1.2 with hh | hh
      · rw [hb] at hh; cases hh
      · exact hh
  · cases h
theorem pu_callp (hO : OracleOk P O) {bor : Bool} {num : Nat} {x : X} {args : List (Arg × X)} {sh : Sh} (hw : x.wf = true ∧ argsWf args = true ∧ callable P (num % 10000) = true ∧ sh.wfB = true) (h : evOp O d (.callp bor num x args sh) s κ kp = some r) :
    Pu P s (.callp bor x.er (args.map fun a => a.2.er)) d κ r := by
  simp only [evOp] at h
  split at h
  · rename_i f cs ars hx ha
    obtain ⟨h1, h2⟩ := bif_eq h
    simp only [Bool.and_eq_true, Bool.or_eq_true, Bool.not_eq_true'] at h1
    obtain ⟨c, hc, hk⟩ := bind_eq h2
    have hf := Nat.eq_of_beq_eq_true h1.1.1.1
    subst hf
    obtain ⟨ps, h3, h4⟩ := argsOf_pv args ars hw.2.1 ha h1.1.1.2
    obtain ⟨q1, q2⟩ := callR_sound hO hw.2.2.2 hc
    have hcs : (ars ++ cs.map fun c => V.dp c.1 c.2).map encA = (ps ++ cs.map fun c => PV.pto (encP c.1 c.2)).map AV.p := by
      rw [List.map_append, List.map_append, h4, List.map_map, List.map_map]; rfl
    rw [hcs] at q1
    refine ⟨_, ⟨_, get_er hw.1 hx, num % 10000, cs.map fun c => PV.pto (encP c.1 c.2), rfl, hw.2.2.1, ps, h3, q1.mono fun o ho => ⟨_, _, ho, ?_, fun hb => (q2 ?_).1, rfl⟩⟩, hk⟩
    · rw [← encA_ids]
      refine res_ids (unpack_isD _ _ _ fun k v hv => ?_)
      rw [base_nil] at hv
      have := List.isEmpty_iff.1 h1.1.2
      rw [this] at hv; cases hv
    · rcases h1.2 with hh | hh
      · rw [hb] at hh; cases hh
      · exact hh
  · cases h
theorem LeS.refl (a : St) : LeS a a := ⟨fun _ y hk => ⟨y, hk, .refl y⟩, rfl, fun i x y hx hy => by rw [hx] at hy; cases hy; exact .refl x⟩
def Ob' (P : Program) (s : S) (op : SOp) (d : Option Nat) (κ kp : S → Option R) (r : R) : Prop :=
  sexec P d op (enc s) (fun st' => ∃ s', LeS st' (enc s') ∧ Keeps (dstL d) s s' ∧ κ s' = some r) (fun st' => ∃ s', st' = enc s' ∧ Keeps (dstL d) s s' ∧ kp s' = some r)
def Ox (P : Program) (s : S) (op : SOp) (d : Option Nat) (κ kp : S → Option R) (r : R) : Prop :=
  sexec P d op (enc s) (fun st' => ∃ s', st' = enc s' ∧ Keeps (dstL d) s s' ∧ κ s' = some r) (fun st' => ∃ s', st' = enc s' ∧ Keeps (dstL d) s s' ∧ kp s' = some r)
theorem Ox.ob {op : SOp} (h : Ox P s op d κ kp r) : Ob' P s op d κ kp r := sexec_mono h (fun _ ⟨s', h1, h2, h3⟩ => ⟨s', by rw [h1]; exact .refl _, h2, h3⟩) fun _ h => h
theorem sexec_of_sev {st : St} {op : SOp} {x : AV} {K KP : St → Prop} (hs : sev P st op fun y => y = x) (hk : K (st.putO d x)) : sexec P d op st K KP := by
  have h1 : sev P st op fun y => K (st.putO d y) := sev_mono hs fun y hy => by rw [hy]; exact hk
  unfold sexec
  split <;> first | exact h1 | exact hs.elim
theorem Pu.ox {op : SOp} (h : Pu P s op d κ r) : Ox P s op d κ kp r := by
  obtain ⟨v, h1, h2⟩ := h
  exact sexec_of_sev h1 ⟨_, (enc_put _ _ _).symm, Keeps.put s d v, h2⟩
theorem Pu.ob {op : SOp} (h : Pu P s op d κ r) : Ob' P s op d κ kp r := by
  obtain ⟨v, h1, h2⟩ := h
  exact sexec_of_sev h1 ⟨_, by rw [enc_put]; exact .refl _, Keeps.put s d v, h2⟩
theorem enc_push (s : S) (o : Ob) : enc ⟨s.fr, s.hp ++ [o]⟩ = { enc s with hp := (enc s).hp ++ [encO o] } := by simp [enc]
theorem enc_setO (s : S) (id : Nat) (o : Ob) : enc ⟨s.fr, setAt s.hp id o⟩ = { enc s with hp := (enc s).hp.set id (encO o) } := by simp [enc, setAt_eq, List.map_set]
theorem hp_len (s : S) : (enc s).hp.length = s.hp.length := by simp [enc]
theorem ob_push {o : Ob} {o' : AObj} {x : BV} {v : V} (ho : encO o = o') (hv : encA v = .b x) (h : κ (S.putO ⟨s.fr, s.hp ++ [o]⟩ d v) = some r) :
    ∃ s', LeS (({ enc s with hp := (enc s).hp ++ [o'] } : St).putO d (.b x)) (enc s') ∧ Keeps (dstL d) s s' ∧ κ s' = some r := by
  refine ⟨_, ?_, (Keeps.fr (s' := ⟨s.fr, s.hp ++ [o]⟩) rfl).trans (Keeps.put _ d v), h⟩
  rw [enc_put, enc_push, ho, hv]
  exact .refl _
theorem ox_push {o : Ob} {o' : AObj} {x : BV} {v : V} (ho : encO o = o') (hv : encA v = .b x) (h : κ (S.putO ⟨s.fr, s.hp ++ [o]⟩ d v) = some r) :
    ∃ s', (({ enc s with hp := (enc s).hp ++ [o'] } : St).putO d (.b x)) = enc s' ∧ Keeps (dstL d) s s' ∧ κ s' = some r := by
  refine ⟨_, ?_, (Keeps.fr (s' := ⟨s.fr, s.hp ++ [o]⟩) rfl).trans (Keeps.put _ d v), h⟩
  rw [enc_put, enc_push, ho, hv]
theorem ob_alloc {tid : TypeId} {zero : List V} (hw : zero.all V.konst = true) (h : evOp O d (.alloc tid zero) s κ kp = some r) : Ob' P s (.alloc tid (zero.map rawV)) d κ kp r := by
  simp only [evOp] at h
  refine ob_push (o := .box tid zero) ?_ ?_ h
  · show AObj.box tid (zero.map encB) = AObj.box tid ((zero.map rawV).map fun v => constB v)
    rw [List.map_map]
    congr 1
    exact List.map_congr_left fun v hv => (konst_enc (List.all_eq_true.1 hw v hv)).symm
  · rw [hp_len]; rfl
theorem ob_box {tid : TypeId} {x : X} (hw : x.wf = true) (h : evOp O d (.box tid x) s κ kp = some r) : Ob' P s (.box tid x.er) d κ kp r := by
  simp only [evOp] at h
  split at h
  · rename_i v hx
    obtain ⟨h1, h2⟩ := bif_eq h
    obtain ⟨h3, h4⟩ := okB_enc h1
    refine ⟨_, get_er hw hx, h3, ob_push (o := .box tid (cellsV v)) ?_ ?_ h2⟩
    · show AObj.box tid _ = _
      rw [h4]
    · rw [hp_len]; rfl
  · cases h
theorem ob_bslice {tid : TypeId} {t : Ty} {len : Nat} {parts : List X} (hw : parts.all X.wf = true) (h : evOp O d (.bslice true tid t len parts) s κ kp = some r) : Ob' P s (.bslice true tid t.sz len (parts.map X.er)) d κ kp r := by
  simp only [evOp] at h
  obtain ⟨h1, h2⟩ := bif_eq h
  simp only [Bool.and_eq_true] at h1
  obtain ⟨xs, h3, h4, h5⟩ := listT_sound parts _ hw h2
  refine ⟨_, h3, ?_, Nat.le_of_ble_eq_true h1.1.2, Nat.le_of_ble_eq_true h1.2, elems_ok xs, ob_push (o := .vec tid t xs) rfl ?_ h5⟩
  · rw [List.length_map, h4]
    exact Nat.eq_of_beq_eq_true h1.1.1
  · rw [hp_len]; rfl
theorem ob_mslice {tid : TypeId} {t : Ty} {bytes : Nat} {l c : X} (hw : l.wf = true ∧ c.wf = true ∧ t ≠ .rx) (h : evOp O d (.mslice tid t bytes l c) s κ kp = some r) : Ob' P s (.mslice tid t.sz bytes (zeroVal t) l.er c.er) d κ kp r := by
  simp only [evOp] at h
  obtain ⟨h1, h2⟩ := bif_eq h
  obtain ⟨k1, l', hl, h3⟩ := intOf_eq h2
  obtain ⟨k2, c', hc, h4⟩ := intOf_eq h3
  obtain ⟨h5, h6⟩ := guardB_eq h4
  simp only [Bool.and_eq_true, decide_eq_true_eq] at h5
  obtain ⟨z1, z2⟩ := zero_enc t hw.2.2
  refine ⟨_, get_er hw.1 hl, _, get_er hw.2.1 hc, _, rfl, _, rfl, _, _, rfl, _, _, rfl, h5.1.1.1, h5.1.1.2, h5.1.2, h5.2, z2, Nat.le_of_ble_eq_true h1, _, z1, enc_ok t _, ob_push (o := .vec tid t (List.replicate l'.toNat t.zero)) ?_ ?_ h6⟩
  · show AObj.vec tid t.sz _ = _
    rw [List.map_replicate]
  · rw [hp_len]; rfl
theorem ob_msliceT {tid : TypeId} {k : Av.K} {u : Ty} {bytes : Nat} {l c : X} (hw : l.wf = true ∧ c.wf = true) (h : evOp O d (.msliceT tid k u bytes l c) s κ kp = some r) : Ob' P s (.msliceT k tid 1 bytes (.slice none 0 0) l.er c.er) d κ kp r := by
  simp only [evOp] at h
  obtain ⟨h1, h2⟩ := bif_eq h
  obtain ⟨k1, l', hl, h3⟩ := intOf_eq h2
  obtain ⟨k2, c', hc, h4⟩ := intOf_eq h3
  obtain ⟨h5, h6⟩ := guardB_eq h4
  simp only [Bool.and_eq_true, decide_eq_true_eq] at h5
  have hn : k.nilsB nilP.cells = true := by
    simp only [Av.K.nilsB, nilP, PV.cells, List.length_cons, List.length_nil, List.all_eq_true, List.mem_range]
    intro j hj
    obtain rfl : j = 0 := by omega
    split <;> rfl
  refine ⟨_, get_er hw.1 hl, _, get_er hw.2 hc, _, rfl, _, rfl, _, _, rfl, _, _, rfl, h5.1.1.1, h5.1.1.2, h5.1.2, h5.2, rfl, Nat.one_pos, nilP, rfl, rfl, hn, ob_push (o := .tree tid k (.list u) (List.replicate l'.toNat []) none) ?_ ?_ h6⟩
  · show AObj.tree tid 1 k _ none = _
    rw [List.map_replicate]
    have : k.unnil nilP = .list 0 [] := by simp [Av.K.unnil, nilP, h1]
    rw [this]; rfl
  · rw [hp_len]; rfl
theorem unnil_encN {k : Av.K} {t : Ty} {y : t.den} (h : ownE k (leafs t y) = true) : k.unnil (encN k t y) = encP t y := by
  have key : ∀ (j : Nat) (p : PV), (encP t y).cells[j]? = some p → (k.at j).isSome = true → p = .list 0 [] := by
    intro j p hp hk
    obtain ⟨h1, h2⟩ := leafs_enc t y
    have hj : j < (leafs t y).length := by rw [h2, ← cellsP_len t y]; exact (List.getElem?_eq_some_iff.1 hp).1
    simp only [ownE, List.all_eq_true, List.mem_range] at h
    have h3 := h j hj
    obtain ⟨q, hq⟩ := Option.isSome_iff_exists.1 hk
    rw [hq] at h3
    simp only [List.getD, List.getElem?_eq_getElem hj, Option.getD_some] at h3
    have h4 : ((leafs t y).map encB)[j]? = some (.pv p) := by rw [h1, List.getElem?_map, hp]; rfl
    rw [List.getElem?_map, List.getElem?_eq_getElem hj] at h4
    split at h3
    · rename_i u l hv
      rw [hv] at h4
      have hl : l = [] := by simpa using h3
      subst hl
      have h5 := Option.some.inj h4
      have h6 : (BV.pv (encP (.list u) [])) = .pv p := h5
      cases h6; rfl
    · cases h3
  unfold encN
  cases he : encP t y with
  | agg cs =>
    simp only [Av.K.unnil, PV.agg.injEq]
    apply List.ext_getElem?
    intro j
    simp only [List.getElem?_mapIdx]
    cases hc : cs[j]? with
    | none => rfl
    | some p =>
      simp only [Option.map_some]
      cases hk : (k.at j).isSome
      · rfl
      · rw [key j p (by rw [he]; exact hc) hk]; rfl
  | _ =>
    have h0 := key 0 _ (by rw [he]; rfl)
    simp only []
    cases hk : (k.at 0).isSome
    · simp [Av.K.unnil, hk]
    · simp only [if_true, Av.K.unnil, nilP, hk]
      exact (h0 hk).symm
theorem nils_encN (k : Av.K) (t : Ty) (y : t.den) : k.nilsB (encN k t y).cells = true := by
  simp only [Av.K.nilsB, List.all_eq_true, List.mem_range]
  intro j hj
  split
  · rename_i q hq
    rw [encN_cells] at hj ⊢
    simp only [List.length_mapIdx] at hj
    simp only [List.getD, List.getElem?_mapIdx, List.getElem?_eq_getElem hj, Option.map_some, Option.getD_some, hq, Option.isSome_some, if_true, nilP]
  · rfl
theorem ox_appT {tid : TypeId} {k : Av.K} {t : Ty} {bytes : Nat} {x y : X} (hw : x.wf = true ∧ y.wf = true) (h : evOp O d (.appT tid k t bytes x y) s κ kp = some r) : Ox P s (.appT k tid t.sz bytes x.er y.er) d κ kp r := by
  simp only [evOp] at h
  split at h
  · rename_i k' u ys0 hy
    obtain ⟨hk, hA⟩ := bif_eq h
    clear h
    have hk' : k = k' := by simpa using hk
    subst hk'
    split at hA
    · rename_i ys hc
      obtain ⟨c1, c2⟩ := cast?_some hc
      have c3 := Ty.list.inj c1
      subst c3
      have c4 : ys = ys0 := c2
      subst c4
      obtain ⟨hown, h1⟩ := bif_eq hA
      clear hA
      simp only [List.all_eq_true] at hown
      have hel : ∀ p ∈ ys.map (encN k u), p.ok = true ∧ k.nilsB p.cells = true := fun p hp => ⟨(elemsN_ok ys p hp).2, by
        obtain ⟨z, _, rfl⟩ := List.mem_map.1 hp; exact nils_encN k u z⟩
      have hun : (ys.map (encN k u)).map k.unnil = ys.map (encP u) := by
        rw [List.map_map]
        exact List.map_congr_left fun z hz => unnil_encN (hown z hz)
      split at h1
      · rename_i id hx
        split at h1
        · rename_i e k2 u2 xs0 ho
          split at h1
          · rename_i xs hz
            obtain ⟨e2, e3⟩ := cast?_some hz
            have e4 := Ty.list.inj e2
            subst e4
            have e5 : xs = xs0 := e3
            subst e5
            obtain ⟨g1, g2⟩ := bif_eq h1
            simp only [Bool.and_eq_true, decide_eq_true_eq] at g1
            obtain ⟨g1, rfl⟩ := g1
            obtain ⟨g3, g4⟩ := guardB_eq g2
            have g5 := Nat.eq_of_beq_eq_true g1
            subst g5
            refine ⟨_, get_er hw.1 hx, _, get_er hw.2 hy, .inr (.inl ⟨ys.map (encN k u2), rfl, hel, .inl ⟨id, rfl, _, by rw [hp_get, ho]; rfl, _, rfl, by rw [List.length_map, List.length_map]; simpa using g3, _, ?_, (Keeps.map (dstL d) s (s.moved id (.tree e k u2 (xs ++ ys) none)) (V.kill1 id) (fun v hv => by cases v <;> first | rfl | cases hv) rfl).trans (Keeps.put _ d _), g4⟩⟩)⟩
            rw [enc_put, enc_moved, hun]
            have : encO (.tree e k u2 (xs ++ ys) none) = .tree e u2.sz k (xs.map (encP u2) ++ ys.map (encP u2)) none := by
              show AObj.tree e u2.sz k ((xs ++ ys).map (encP u2)) none = _
              rw [List.map_append]
            rw [this]
            rfl
          · cases h1
        · cases h1
      · rename_i v hx
        obtain ⟨h3, h4⟩ := guardB_eq h1
        refine ⟨_, get_er hw.1 hx, _, get_er hw.2 hy, .inr (.inl ⟨ys.map (encN k u), rfl, hel, .inr ⟨rfl, by rw [List.length_map]; simpa using h3, ox_push (o := .tree tid k u ys none) ?_ ?_ h4⟩⟩)⟩
        · rw [hun]; rfl
        · rw [hp_len]; rfl
      · cases h1
    · cases hA
  · cases h
theorem ob_mkmap {k e : TypeId} {a b : Ty} (h : evOp O d (.mkmap k e a b) s κ kp = some r) : Ob' P s (.mkmap k e) d κ kp r := by
  simp only [evOp] at h
  refine ob_push (o := .map k e a b []) rfl ?_ h
  rw [hp_len]; rfl
theorem ox_append {tid : TypeId} {t : Ty} {bytes : Nat} {x y : X} (hw : x.wf = true ∧ y.wf = true) (h : evOp O d (.append tid t bytes x y) s κ kp = some r) : Ox P s (.append tid t.sz bytes x.er y.er) d κ kp r := by
  simp only [evOp] at h
  obtain ⟨vy, ys, hy, h1, h2⟩ := listOf_sound h
  have hnew : ∀ v : V, s.get x = some v → encA v = .b .nils ∨ encA v = .b (.full (.list 0 [])) → guardB (decide (ys.length * bytes ≤ 140737488355328)) (κ (S.putO ⟨s.fr, s.hp ++ [.vec tid t ys]⟩ d (.sl s.hp.length))) = some r → Ox P s (.append tid t.sz bytes x.er y.er) d κ kp r := by
    intro v hx hv hh
    obtain ⟨h3, h4⟩ := guardB_eq hh
    refine ⟨_, get_er hw.1 hx, _, get_er hw.2 hy, h2 _ ⟨fun p hp => (elems_ok ys p hp).2, .inr ⟨hv, by rw [List.length_map]; simpa using h3, ox_push (o := .vec tid t ys) rfl ?_ h4⟩⟩⟩
    rw [hp_len]; rfl
  split at h1
  · rename_i id hx
    split at h1
    · rename_i e u xs ho
      split at h1
      · rename_i zs hz
        obtain ⟨e2, e3⟩ := cast?_some hz
        have e4 := Ty.list.inj e2
        subst e4
        have e5 : zs = xs := e3
        subst e5
        obtain ⟨g1, g2⟩ := bif_eq h1
        obtain ⟨g3, g4⟩ := guardB_eq g2
        have g5 := Nat.eq_of_beq_eq_true g1
        subst g5
        refine ⟨_, get_er hw.1 hx, _, get_er hw.2 hy, h2 _ ⟨fun p hp => (elems_ok ys p hp).2, .inl ⟨id, rfl, _, by rw [hp_get, ho]; rfl, _, rfl, by rw [List.length_map, List.length_map]; simpa using g3, _, ?_, (Keeps.map (dstL d) s (s.moved id (.vec e u (zs ++ ys))) (V.kill1 id) (fun v hv => by cases v <;> first | rfl | cases hv) rfl).trans (Keeps.put _ d _), g4⟩⟩⟩
        rw [enc_put, enc_moved]
        have : encO (.vec e u (zs ++ ys)) = .vec e u.sz (zs.map (encP u) ++ ys.map (encP u)) := by
          show AObj.vec e u.sz ((zs ++ ys).map (encP u)) = _
          rw [List.map_append]
        rw [this]
        rfl
      · cases h1
    · cases h1
  · rename_i u hx
    exact hnew _ hx (.inl rfl) h1
  · rename_i u hx
    exact hnew _ hx (.inr rfl) h1
  · cases h1
theorem ob_append {tid : TypeId} {t : Ty} {bytes : Nat} {x y : X} (hw : x.wf = true ∧ y.wf = true) (h : evOp O d (.append tid t bytes x y) s κ kp = some r) : Ob' P s (.append tid t.sz bytes x.er y.er) d κ kp r :=
  (ox_append hw h).ob
theorem ob_copy {tid : TypeId} {t : Ty} {x y : X} (hw : x.wf = true ∧ y.wf = true) (h : evOp O d (.copy tid t x y) s κ kp = some r) : Ob' P s (.copy tid t.sz x.er y.er) d κ kp r := by
  simp only [evOp] at h
  split at h
  · rename_i id v hx hy
    obtain ⟨h0, h1⟩ := bif_eq h
    obtain ⟨vy, ys, hvy, h3, h2⟩ := listOf_sound h1
    cases hvy
    split at h3
    · rename_i e u xs ho
      split at h3
      · rename_i zs hz
        obtain ⟨e2, e3⟩ := cast?_some hz
        have e4 := Ty.list.inj e2
        subst e4
        have e5 : zs = xs := e3
        subst e5
        obtain ⟨g1, g2⟩ := bif_eq h3
        have g5 := Nat.eq_of_beq_eq_true g1
        subst g5
        refine ⟨_, get_er hw.1 hx, _, get_er hw.2 hy, h2 _ ⟨fun p hp => (elems_ok ys p hp).2, id, rfl, fun he => ?_, _, by rw [hp_get, ho]; rfl, _, rfl, _, ?_, (Keeps.fr (s' := ⟨s.fr, setAt s.hp id (.vec e u (ys.take zs.length ++ zs.drop ys.length))⟩) rfl).trans (Keeps.put _ d _), g2⟩⟩
        · cases hv : v.isA
          · rw [encA_b hv] at he
            cases v <;> simp only [encA, encB] at he <;> first | (cases he; done) | skip
            · rename_i j
              cases he
              simp [Nat.beq_refl] at h0
            · rename_i vv
              unfold constB at he
              split at he <;> cases he
          · cases v <;> first | (cases hv; done) | cases he
        · rw [enc_put, enc_setO]
          have : encO (.vec e u (ys.take zs.length ++ zs.drop ys.length)) = .vec e u.sz ((ys.map (encP u)).take (zs.map (encP u)).length ++ (zs.map (encP u)).drop (ys.map (encP u)).length) := by
            show AObj.vec e u.sz _ = _
            rw [List.map_append, List.map_take, List.map_drop, List.length_map, List.length_map]
          rw [this, List.length_map, List.length_map]
          exact .refl _
      · cases h3
    · cases h3
  · cases h
theorem ob_panic {x : X} (hw : x.wf = true) (h : evOp O d (.panic x) s κ kp = some r) : Ob' P s (.panic x.er) d κ kp r := by
  simp only [evOp] at h
  split at h
  · rename_i hx
    exact ⟨_, get_er hw hx, rfl, s, rfl, Keeps.refl _ _, h⟩
  · cases h
theorem ox_callA (hO : OracleOk P O) {pan bor : Bool} {B : List Nat} {f : FuncId} {args : List (Arg × X)} {sh : Sh} (hw : argsWf args = true ∧ sh.wfB = true) (h : evOp O d (.callA pan bor B f args sh) s κ kp = some r) :
    Ox P s (.callA bor B (f % 10000) (args.map fun a => a.2.er)) d κ kp r := by
  simp only [evOp] at h
  split at h
  · rename_i ars ha
    obtain ⟨os, _, h1, h2, h3⟩ := callOn_sound hO hw.2 h
    refine ⟨_, argsOf_sound args ars hw.1 ha h2, _, h1, ?_⟩
    obtain ⟨g1, g2, g3, g4⟩ := h3
    refine ⟨g1, g2, g3, g4.mono fun o ho => ?_⟩
    match o, ho with
    | some (_, _), ho => exact ⟨ho.1, let ⟨s', e1, e2, e3⟩ := ho.2; ⟨s', by rw [e1], e2, e3⟩⟩
    | none, ho => exact ho
  · cases h
theorem ob_callA (hO : OracleOk P O) {pan bor : Bool} {B : List Nat} {f : FuncId} {args : List (Arg × X)} {sh : Sh} (hw : argsWf args = true ∧ sh.wfB = true) (h : evOp O d (.callA pan bor B f args sh) s κ kp = some r) :
    Ob' P s (.callA bor B (f % 10000) (args.map fun a => a.2.er)) d κ kp r :=
  (ox_callA hO hw h).ob
theorem ox_callv (hO : OracleOk P O) {pan bor : Bool} {B : List Nat} {num : Nat} {x : X} {args : List (Arg × X)} {sh : Sh} (hw : x.wf = true ∧ argsWf args = true ∧ callable P (num % 10000) = true ∧ sh.wfB = true) (h : evOp O d (.callv pan bor B num x args sh) s κ kp = some r) :
    Ox P s (.callv bor B x.er (args.map fun a => a.2.er)) d κ kp r := by
  have fin : ∀ (f : FuncId) (ars caps : List V), Nat.beq (num % 10000) f = true → argsOf s bor B args = some ars → callOn pan O s d bor B num (ars ++ caps) sh κ kp = some r →
      callable P f = true ∧ bindA ((args.map fun a => a.2.er).mapM fun x => ((enc s).get x).bind (argAV (enc s).hp bor B)) fun av => bindA (B.mapM ((enc s).hp[·]?)) fun os => sexec.callK P (enc s) d bor B f (av ++ caps.map encA) os (fun st' => ∃ s', st' = enc s' ∧ Keeps (dstL d) s s' ∧ κ s' = some r) (fun st' => ∃ s', st' = enc s' ∧ Keeps (dstL d) s s' ∧ kp s' = some r) := by
    intro f ars caps hf ha hc
    have hf' := Nat.eq_of_beq_eq_true hf
    subst hf'
    obtain ⟨os, _, h1, h2, h3⟩ := callOn_sound hO hw.2.2.2 hc
    refine ⟨hw.2.2.1, _, argsOf_sound args ars hw.2.1 ha fun v hv => h2 v (by simp [hv]), _, h1, ?_⟩
    obtain ⟨g1, g2, g3, g4⟩ := h3
    rw [List.map_append] at g2 g4
    refine ⟨g1, g2, g3, g4.mono fun o ho => ?_⟩
    match o, ho with
    | some (_, _), ho => exact ⟨ho.1, let ⟨s', e1, e2, e3⟩ := ho.2; ⟨s', by rw [e1], e2, e3⟩⟩
    | none, ho => exact ho
  simp only [evOp] at h
  split at h
  · rename_i f ids ars hx ha
    obtain ⟨h1, h2⟩ := bif_eq h
    obtain ⟨g1, g2⟩ := fin f ars _ h1 ha h2
    refine ⟨_, get_er hw.1 hx, f, _, .inl ⟨ids, rfl, rfl⟩, g1, ?_⟩
    rw [List.map_map] at g2
    exact g2
  · rename_i f cs ars hx ha
    obtain ⟨h1, h2⟩ := bif_eq h
    obtain ⟨g1, g2⟩ := fin f ars _ h1 ha h2
    refine ⟨_, get_er hw.1 hx, f, _, .inr ⟨cs.map fun c => PV.pto (encP c.1 c.2), rfl, rfl⟩, g1, ?_⟩
    rw [List.map_map] at g2 ⊢
    exact g2
  · cases h
theorem ob_callv (hO : OracleOk P O) {pan bor : Bool} {B : List Nat} {num : Nat} {x : X} {args : List (Arg × X)} {sh : Sh} (hw : x.wf = true ∧ argsWf args = true ∧ callable P (num % 10000) = true ∧ sh.wfB = true) (h : evOp O d (.callv pan bor B num x args sh) s κ kp = some r) :
    Ob' P s (.callv bor B x.er (args.map fun a => a.2.er)) d κ kp r :=
  (ox_callv hO hw h).ob
theorem plain_enc : ∀ (t : Ty) (x : t.den), t.eqOk = true → (encP t x).plain = true := by
  have hc : ∀ (t : Ty) (x : t.den), t.eqOk = true → (cellsP t x).all (fun x => match x with
    | .sc (.int _ _) => true
    | .sc (.bool _) => true
    | .sc (.string _) => true
    | _ => false) = true := by
    intro t
    induction t with
    | pair a b iha ihb =>
      intro x h
      simp only [Ty.eqOk, Bool.and_eq_true] at h
      have e : cellsP (.pair a b) x = cellsP a x.1 ++ cellsP b x.2 := rfl
      rw [e, List.all_append, iha x.1 h.1, ihb x.2 h.2]; rfl
    | int k => intro x _; rfl
    | bool => intro x _; rfl
    | str => intro x _; rfl
    | unit => intro x _; rfl
    | list t _ => intro x h; cases h
    | rx => intro x h; cases h
  intro t x h
  cases t with
  | pair a b => exact hc (.pair a b) x h
  | int k => rfl
  | bool => rfl
  | str => rfl
  | unit => rfl
  | list t => cases h
  | rx => cases h
theorem kvSet_enc {a b : Ty} (y : a.den) (z : b.den) : ∀ (kvs : List (a.den × b.den)), (kvGet a b kvs y = none → kvSet a b kvs y z = kvs ++ [(y, z)]) ∧
    (∀ j k' v, kvs[j]? = some (k', v) → eqD a y k' = true → (∀ i' kv, i' < j → kvs[i']? = some kv → eqD a y kv.1 = false) → kvSet a b kvs y z = kvs.set j (y, z))
  | [] => ⟨fun _ => rfl, fun j k' v h => by simp at h⟩
  | (k, v) :: l => by
    obtain ⟨h1, h2⟩ := kvSet_enc y z l
    refine ⟨fun h => ?_, fun j k' v' hj he hlt => ?_⟩
    · simp only [kvGet] at h
      cases hb : eqD a y k
      · rw [hb] at h
        simp only [kvSet, hb, cond_false, h1 h, List.cons_append]
      · rw [hb] at h; cases h
    · cases j with
      | zero =>
        simp at hj
        obtain ⟨rfl, rfl⟩ := hj
        simp [kvSet, he]
      | succ j =>
        have hb := hlt 0 (k, v) (by omega) rfl
        simp only [kvSet, hb, cond_false, List.set_cons_succ]
        rw [h2 j k' v' (by simpa using hj) he fun i' kv hi' hkv => hlt (i' + 1) kv (by omega) (by simpa using hkv)]
theorem ob_mapset {k e : TypeId} {a b : Ty} {m x v : X} (hw : m.wf = true ∧ x.wf = true ∧ v.wf = true ∧ fitT P 64 k a = true) (h : evOp O d (.mapset k e a b m x v) s κ kp = some r) : Ob' P s (.mapset k e m.er x.er v.er) d κ kp r := by
  simp only [evOp] at h
  split at h
  · rename_i id u w hm hx hv
    split at h
    · rename_i k' e' a' b' kvs y z ho hy hz
      split at h
      · rename_i kvs2 hkv
        obtain ⟨h1, h2⟩ := bif_eq h
        simp only [Bool.and_eq_true] at h1
        have e1 := Nat.eq_of_beq_eq_true h1.1.1.1
        have e2 := Nat.eq_of_beq_eq_true h1.1.1.2
        have heq := h1.1.2
        obtain ⟨e3, e4⟩ := cast?_some hkv
        have e5 := Ty.list.inj e3
        injection e5 with e6 e7
        clear h h1
        subst e1; subst e2; subst e6; subst e7
        have e8 : kvs2 = kvs := e4
        subst e8
        obtain ⟨_, h3⟩ := guardB_eq h2
        obtain ⟨g1, g2⟩ := find_enc (P := P) (b := b') hw.2.2.2 y kvs2 0
        obtain ⟨q1, q2⟩ := kvSet_enc y z kvs2
        have fin : ∀ l : List (PV × PV), (kvSet a' b' kvs2 y z).map (fun p => (encP a' p.1, encP b' p.2)) = l → ∃ s', LeS { enc s with hp := (enc s).hp.set id (.map k e l) } (enc s') ∧ Keeps (dstL none) s s' ∧ κ s' = some r := by
          rintro l rfl
          refine ⟨⟨s.fr, setAt s.hp id (.map k e a' b' (kvSet a' b' kvs2 y z))⟩, ?_, Keeps.fr rfl, h3⟩
          rw [enc_setO]
          exact .refl _
        refine ⟨_, get_er hw.1 hm, _, get_er hw.2.1 hx, _, get_er hw.2.2.1 hv, id, _, rfl, by rw [hp_get, ho]; rfl, _, data_enc hy, _, data_enc hz, rfl, plain_enc a' y heq, (fit_eq P 64 k a' hw.2.2.2 y y).2, key_some hw.2.2.2, g1, ?_⟩
        rcases g2 with ⟨g3, g4⟩ | ⟨j, u', k'', g3, g4, g5, g7, g6⟩
        · refine ⟨_, g4, fun i u hh => (by cases hh), fin _ ?_⟩
          rw [q1 g3, List.map_append]; rfl
        · have hk := eqD_eq a' y k'' heq g5
          subst hk
          rw [Nat.zero_add] at g6
          refine ⟨_, g6, fun i u hh => ?_, fin _ ?_⟩
          · cases hh
            exact ⟨encP b' u', by rw [List.getElem?_map, g4]; rfl⟩
          · rw [q2 j _ _ g4 g5 g7, List.map_set]
      · cases h
    · cases h
  · cases h
end
end Go.Ev
namespace Go.Ev
open Go Go.RowKit Go.Av
theorem splice_full {α : Type} (xs ys : List α) (h : xs.length = ys.length) : splice xs 0 ys = ys := by
  simp [splice, ← h]
theorem setPart_cells : ∀ (u : Ty) (off : Nat) (t : Ty) (x : u.den) (y : t.den) (z : u.den), setPart? u off t x y = some z → off + t.sz ≤ u.sz ∧ cellsP u z = splice (cellsP u x) off (cellsP t y) ∧ (u.ag = false → t = u)
  | .pair a b, off, t, x, y, z, h => by
    have hl1 := cellsP_len a x.1
    have hl2 := cellsP_len b x.2
    have hly := cellsP_len t y
    have hc : ∀ x : (Ty.pair a b).den, cellsP (.pair a b) x = cellsP a x.1 ++ cellsP b x.2 := fun _ => rfl
    unfold setPart? at h
    cases hcond : (decide (Ty.pair a b = t) && Nat.beq off 0)
    · rw [hcond] at h
      simp only [cond_false] at h
      cases hle : Nat.ble (off + 1) a.sz
      · rw [hle] at h
        simp only [cond_false] at h
        have hge : a.sz ≤ off := by
          have := Nat.not_le_of_not_ble_eq_true (by rw [hle]; simp)
          omega
        split at h
        · rename_i z2 h2
          cases h
          obtain ⟨g1, g2, _⟩ := setPart_cells b (off - a.sz) t x.2 y z2 h2
          refine ⟨by simp only [Ty.sz]; omega, ?_, fun h => by cases h⟩
          rw [hc, hc, g2]
          simp only [splice]
          rw [List.take_append, List.take_of_length_le (l := cellsP a x.1) (by omega), hl1, List.drop_append, List.drop_eq_nil_of_le (show (cellsP a x.1).length ≤ off + (cellsP t y).length by omega), hl1]
          simp only [List.nil_append, List.append_assoc]
          rw [show off + (cellsP t y).length - a.sz = off - a.sz + (cellsP t y).length by omega]
        · cases h
      · rw [hle] at h
        simp only [cond_true] at h
        have hlt := Nat.le_of_ble_eq_true hle
        split at h
        · rename_i z1 h1
          cases h
          obtain ⟨g1, g2, _⟩ := setPart_cells a off t x.1 y z1 h1
          refine ⟨by simp only [Ty.sz]; omega, ?_, fun h => by cases h⟩
          rw [hc, hc, g2]
          simp only [splice]
          rw [List.take_append_of_le_length (by omega), List.drop_append_of_le_length (by omega)]
          simp only [List.append_assoc]
        · cases h
    · rw [hcond] at h
      simp only [cond_true] at h
      simp only [Bool.and_eq_true, decide_eq_true_eq] at hcond
      have h0 : off = 0 := Nat.eq_of_beq_eq_true hcond.2
      subst h0
      obtain ⟨e1, rfl⟩ := cast?_enc h
      refine ⟨by omega, ?_, fun h => by cases h⟩
      rw [splice_full _ _ (by rw [cellsP_len, cellsP_len])]
      simp only [cellsP, e1]
  | .rx, off, t, x, y, z, h => by
    unfold setPart? at h
    obtain ⟨h1, h2⟩ := bif_eq h
    simp only [Bool.and_eq_true, decide_eq_true_eq] at h1
    have h0 : off = 0 := Nat.eq_of_beq_eq_true h1.1
    subst h0
    obtain ⟨e1, rfl⟩ := cast?_enc h2
    refine ⟨by omega, ?_, fun _ => rfl⟩
    rw [splice_full _ _ (by rw [cellsP_len, cellsP_len])]
    simp only [cellsP, e1]
  | .int k, off, t, x, y, z, h => leafC (.int k) off t x y z h
  | .bool, off, t, x, y, z, h => leafC .bool off t x y z h
  | .str, off, t, x, y, z, h => leafC .str off t x y z h
  | .list a, off, t, x, y, z, h => leafC (.list a) off t x y z h
  | .unit, off, t, x, y, z, h => leafC .unit off t x y z h
where
  leafC (u : Ty) (off : Nat) (t : Ty) (x : u.den) (y : t.den) (z : u.den) (h : (bif Nat.beq off 0 then cast? t u y else none) = some z) : off + t.sz ≤ u.sz ∧ cellsP u z = splice (cellsP u x) off (cellsP t y) ∧ (u.ag = false → t = u) := by
    obtain ⟨h1, h2⟩ := bif_eq h
    have h0 : off = 0 := Nat.eq_of_beq_eq_true h1
    subst h0
    obtain ⟨e1, rfl⟩ := cast?_enc h2
    refine ⟨by omega, ?_, fun _ => rfl⟩
    rw [splice_full _ _ (by rw [cellsP_len, cellsP_len])]
    simp only [cellsP, e1]
theorem enc_of_cells {t : Ty} {x y : t.den} (h : cellsP t x = cellsP t y) : encP t x = encP t y := by
  cases ht : t.ag
  · rw [encP_one x ht, encP_one y ht] at h
    exact List.cons.inj h |>.1
  · rw [encP_agg x ht, encP_agg y ht, h]
theorem data_cells {t : Ty} {v : V} {x : t.den} (h : data? t v = some x) : (encA v).cells.length = t.sz ∧ ∀ (i : Nat) (a b : BV), (encA v).cells[i]? = some a → ((cellsP t x).map BV.pv)[i]? = some b → LeB a b := by
  have hd := data_enc h
  have one : ∀ (z : BV), (∀ p, z ≠ .pv p) → z.toPV = some (encP t x) → t.ag = false → ([z] : List BV).length = t.sz ∧ ∀ (i : Nat) (a b : BV), ([z] : List BV)[i]? = some a → ((cellsP t x).map BV.pv)[i]? = some b → LeB a b := by
    intro z _ hz ht
    refine ⟨by rw [sz_one ht]; rfl, fun i a b ha hb => ?_⟩
    rw [encP_one x ht] at hb
    cases i with
    | zero => simp at ha hb; subst ha; subst hb; exact .data _ _ hz
    | succ i => simp at ha
  cases v with
  | d u y =>
    obtain ⟨e1, rfl⟩ := cast?_enc (show cast? u t y = some x from h)
    refine ⟨?_, fun i a b ha hb => ?_⟩
    · show ((cellsP u y).map BV.pv).length = _
      rw [List.length_map, cellsP_len]
    · have ha' : ((cellsP u y).map BV.pv)[i]? = some a := ha
      have : cellsP u y = cellsP u x := by simp only [cellsP, e1]
      rw [this, hb] at ha'
      cases ha'
      exact .refl _
  | agg vs =>
    have hd' : ((vs.map encB).mapM BV.toPV).map PV.agg = some (encP t x) := hd
    obtain ⟨cs, h1, h2⟩ := Option.map_eq_some_iff.1 hd'
    have hag : t.ag = true := by rw [← encP_ag t x, ← h2]; rfl
    have hcs : cs = cellsP t x := by rw [encP_agg x hag] at h2; exact PV.agg.inj h2
    subst hcs
    have hl := mapM_len h1
    refine ⟨by show (vs.map encB).length = _; rw [← hl, cellsP_len], fun i a b ha hb => ?_⟩
    have ha' : (vs.map encB)[i]? = some a := ha
    rw [List.getElem?_map] at hb
    obtain ⟨p, hp, rfl⟩ := Option.map_eq_some_iff.1 hb
    exact .data _ _ (mapM_get h1 ha' hp)
  | nil u =>
    obtain ⟨e1, rfl⟩ := cast?_enc (show cast? (.list u) t [] = some x from h)
    exact one .nils (fun p e => by cases e) hd rfl
  | full u y =>
    obtain ⟨e1, rfl⟩ := cast?_enc (show cast? (.list u) t y = some x from h)
    exact one (.full _) (fun p e => by cases e) hd rfl
  | _ => simp [data?, leaf?] at h
where
  mapM_get {l : List BV} {m : List PV} (h : l.mapM BV.toPV = some m) {i : Nat} {a : BV} {p : PV} (ha : l[i]? = some a) (hp : m[i]? = some p) : a.toPV = some p := by
    induction l generalizing m i with
    | nil => simp at ha
    | cons x l ih =>
      simp only [List.mapM_cons, Option.bind_eq_bind, Option.pure_def, Option.bind_eq_some_iff, Option.some.injEq] at h
      obtain ⟨q, h1, ms, h2, rfl⟩ := h
      cases i with
      | zero => simp at ha hp; subst ha; subst hp; exact h1
      | succ i => exact ih h2 (by simpa using ha) (by simpa using hp)
theorem mapM_get' {l : List BV} {m : List PV} (h : l.mapM BV.toPV = some m) {i : Nat} {a : BV} {p : PV} (ha : l[i]? = some a) (hp : m[i]? = some p) : a.toPV = some p := by
  induction l generalizing m i with
  | nil => simp at ha
  | cons x l ih =>
    simp only [List.mapM_cons, Option.bind_eq_bind, Option.pure_def, Option.bind_eq_some_iff, Option.some.injEq] at h
    obtain ⟨q, h1, ms, h2, rfl⟩ := h
    cases i with
    | zero => simp at ha hp; subst ha; subst hp; exact h1
    | succ i => exact ih h2 (by simpa using ha) (by simpa using hp)
def LeL (xs ys : List BV) : Prop := xs.length = ys.length ∧ ∀ (i : Nat) (a b : BV), xs[i]? = some a → ys[i]? = some b → LeB a b
theorem LeL.refl (xs : List BV) : LeL xs xs := ⟨rfl, fun i a b ha hb => by rw [ha] at hb; cases hb; exact .refl _⟩
theorem LeL.append {a b c e : List BV} (h : LeL a b) (k : LeL c e) : LeL (a ++ c) (b ++ e) := by
  refine ⟨by simp [h.1, k.1], fun i x y hx hy => ?_⟩
  rcases Nat.lt_or_ge i a.length with h1 | h1
  · rw [List.getElem?_append_left h1] at hx
    rw [List.getElem?_append_left (by rw [← h.1]; exact h1)] at hy
    exact h.2 i x y hx hy
  · rw [List.getElem?_append_right h1] at hx
    rw [List.getElem?_append_right (by rw [← h.1]; exact h1), ← h.1] at hy
    exact k.2 _ x y hx hy
theorem asm_le {t : Ty} {l : List V} {x : t.den} {m : List V} (h : asm t l = some (x, m)) : ∃ l0, l = l0 ++ m ∧ l0.length = t.sz ∧ LeL (l0.map encB) ((leafs t x).map encB) := by
  obtain ⟨l0, h1, h2⟩ := asm_enc t l x m h
  have hl := mapM_len h2
  rw [List.length_map, cellsP_len] at hl
  refine ⟨l0, h1, hl.symm, by rw [(leafs_enc t x).1, List.length_map, List.length_map, cellsP_len, ← hl], fun i a b ha hb => ?_⟩
  rw [(leafs_enc t x).1, List.getElem?_map] at hb
  obtain ⟨p, hp, rfl⟩ := Option.map_eq_some_iff.1 hb
  exact .data _ _ (mapM_get' h2 ha hp)
theorem rowSet_far {t : Ty} {y : t.den} : ∀ (n : Nat) (vs : List V) (m : Int) (r : List V), (m < 0 ∨ (n : Int) ≤ m) → rowSet t y n vs m = some r → LeL (vs.map encB) (r.map encB)
  | 0, vs, m, r, _, h => by
    simp only [rowSet, Option.some.injEq] at h
    subst h; exact .refl _
  | n + 1, vs, m, r, hm, h => by
    simp only [rowSet] at h
    split at h
    · rename_i x l hx
      split at h
      · rename_i r' hr
        cases h
        obtain ⟨l0, rfl, h1, h2⟩ := asm_le hx
        rw [decide_eq_false (by omega : ¬ m = 0)]
        simp only [cond_false, List.map_append]
        exact h2.append (rowSet_far n l (m - 1) r' (by omega) hr)
      · cases h
    · cases h
theorem rowSet_le {t : Ty} {y : t.den} {cs : List BV} (hcs : LeL cs ((leafs t y).map encB)) : ∀ (n : Nat) (vs : List V) (j : Nat) (r : List V), j < n → rowSet t y n vs (j : Int) = some r →
    j * t.sz + t.sz ≤ vs.length ∧ LeL (splice (vs.map encB) (j * t.sz) cs) (r.map encB)
  | 0, _, _, _, hj, _ => absurd hj (by omega)
  | n + 1, vs, j, r, hj, h => by
    have hcl : cs.length = t.sz := by rw [hcs.1, List.length_map, (leafs_enc t y).2]
    simp only [rowSet] at h
    split at h
    · rename_i x l hx
      split at h
      · rename_i r' hr
        cases h
        obtain ⟨l0, rfl, h1, h2⟩ := asm_le hx
        cases j with
        | zero =>
          refine ⟨by simp [h1], ?_⟩
          have e : (decide (((0 : Nat) : Int) = 0)) = true := rfl
          rw [e]
          simp only [cond_true, List.map_append]
          have := rowSet_far n l _ r' (.inl (by simp)) hr
          have e2 : splice (l0.map encB ++ l.map encB) (0 * t.sz) cs = cs ++ l.map encB := by
            simp only [splice, Nat.zero_mul, List.take_zero, List.nil_append, Nat.zero_add]
            rw [hcl, List.drop_left' (by simpa using h1)]
          rw [e2]
          exact hcs.append this
        | succ j =>
          have e : (decide (((j + 1 : Nat) : Int) = 0)) = false := decide_eq_false (by omega)
          rw [e]
          rw [show (((j + 1 : Nat) : Int) - 1) = (j : Int) by omega] at hr
          obtain ⟨h3, h4⟩ := rowSet_le hcs n l j r' (by omega) hr
          refine ⟨by rw [List.length_append, h1, Nat.succ_mul]; omega, ?_⟩
          simp only [cond_false, List.map_append]
          have hl0 : (l0.map encB).length = t.sz := by simpa using h1
          have e2 : splice (l0.map encB ++ l.map encB) ((j + 1) * t.sz) cs = l0.map encB ++ splice (l.map encB) (j * t.sz) cs := by
            simp only [splice, Nat.succ_mul]
            rw [List.take_append, List.take_of_length_le (l := l0.map encB) (by omega), hl0, List.drop_append, List.drop_eq_nil_of_le (show (l0.map encB).length ≤ j * t.sz + t.sz + cs.length by omega), hl0]
            simp only [List.nil_append, List.append_assoc]
            rw [show j * t.sz + t.sz - t.sz = j * t.sz by omega, show j * t.sz + t.sz + cs.length - t.sz = j * t.sz + cs.length by omega]
          rw [e2]
          exact h2.append h4
      · cases h
    · cases h
theorem splice_in {α : Type} (cs : List α) (off n k : Nat) (ys : List α) (h : off + n ≤ cs.length) (hk : k + ys.length ≤ n) : splice cs (off + k) ys = splice cs off (splice ((cs.drop off).take n) k ys) := by
  have hl : (((cs.drop off).take n).take k ++ ys ++ ((cs.drop off).take n).drop (k + ys.length)).length = n := by
    simp only [List.length_append, List.length_take, List.length_drop]
    omega
  simp only [splice]
  rw [hl, List.take_take, Nat.min_eq_left (show k ≤ n by omega), List.drop_take, List.drop_drop, List.take_add]
  simp only [List.append_assoc]
  congr 3
  rw [show off + k + ys.length = off + (k + ys.length) by omega]
  conv => lhs; rw [← List.take_append_drop (n - (k + ys.length)) (cs.drop (off + (k + ys.length)))]
  rw [List.drop_drop, show off + (k + ys.length) + (n - (k + ys.length)) = off + n by omega]
section
variable {R : Type} {P : Program} {O : Oracle} {d : Option Nat} {s : S} {κ kp : S → Option R} {r : R}
theorem leS_set {a : St} {id : Nat} {o o' : AObj} (h : LeO o o') : LeS { a with hp := a.hp.set id o } { a with hp := a.hp.set id o' } := by
  refine ⟨fun _ y hk => ⟨y, hk, .refl y⟩, by simp, fun i x y hx hy => ?_⟩
  simp only [List.getElem?_set] at hx hy
  split at hx
  · rename_i hi
    rw [if_pos hi] at hy
    split at hx
    · rename_i hl
      rw [if_pos hl] at hy
      cases hx; cases hy; exact h
    · cases hx
  · rename_i hi
    rw [if_neg hi, hx] at hy
    cases hy; exact .refl _
theorem ob_store {t : Ty} {x v : X} (hw : x.wf = true ∧ v.wf = true) (h : evOp O d (.store t x v) s κ kp = some r) : Ob' P s (.store t.sz x.er v.er) d κ kp r := by
  simp only [evOp] at h
  cases d with
  | some _ => cases h
  | none =>
    simp only at h
    unfold storeT at h
    split at h
    · rename_i id off v' hx hv
      split at h
      · rename_i tid cs ho
        obtain ⟨h1, h2⟩ := bif_eq h
        simp only [Bool.and_eq_true] at h1
        obtain ⟨h3, h4⟩ := okB_enc h1.2
        have h5 := Nat.eq_of_beq_eq_true h1.1.1
        have h6 := Nat.le_of_ble_eq_true h1.1.2
        refine ⟨_, get_er hw.1 hx, _, get_er hw.2 hv, rfl, _, by rw [hp_get, ho]; rfl, tid, _, rfl, by rw [← h4, List.length_map, h5], by simpa using h6, h3, ⟨s.fr, setAt s.hp id (.box tid (spliceV cs off (cellsV v')))⟩, ?_, Keeps.fr rfl, h2⟩
        rw [enc_setO]
        have : encO (.box tid (spliceV cs off (cellsV v'))) = .box tid (splice (cs.map encB) off (encA v').cells) := by
          show AObj.box tid _ = _
          rw [spliceV_enc, h4]
        rw [this]
        exact .refl _
      · cases h
    · rename_i id off n u m v' hx hv
      split at h
      · rename_i tid cs y ho hy
        obtain ⟨h1, h2⟩ := bif_eq h
        simp only [Bool.and_eq_true, decide_eq_true_eq] at h1
        obtain ⟨⟨h1, rfl⟩, hsz⟩ := h1
        have h6 := Nat.le_of_ble_eq_true h1
        split at h2
        · rename_i vs hvs
          obtain ⟨h3, h4⟩ := guardB_eq h2
          simp only [Bool.and_eq_true, decide_eq_true_eq] at h3
          obtain ⟨j, rfl⟩ := Int.eq_ofNat_of_zero_le h3.1
          have hj : j < n := by omega
          obtain ⟨d1, d2⟩ := data_cells hy
          have hok := data_ok hy
          have hoe := okB_enc hok
          have hcs : LeL (encA v').cells ((leafs u y).map encB) := ⟨by rw [d1, List.length_map, (leafs_enc u y).2], fun i a b ha hb => d2 i a b ha (by rw [← (leafs_enc u y).1]; exact hb)⟩
          obtain ⟨r1, r2⟩ := rowSet_le hcs n _ j vs hj hvs
          have hjn : j * u.sz + u.sz ≤ n * u.sz := by
            have := Nat.mul_le_mul_right u.sz (show j + 1 ≤ n from hj)
            rw [Nat.succ_mul] at this; exact this
          refine ⟨_, get_er hw.1 hx, _, get_er hw.2 hv, rfl, _, by rw [hp_get, ho]; rfl, tid, _, rfl, d1, ?_, hoe.1, ⟨s.fr, setAt s.hp id (.box tid (spliceV cs off vs))⟩, ?_, Keeps.fr rfl, h4⟩
          · simp only [List.length_map]
            show off + (j : Int).toNat * u.sz + u.sz ≤ cs.length
            rw [Int.toNat_natCast]; omega
          · rw [enc_setO]
            refine leS_set ?_
            have e1 : splice (cs.map encB) (off + (j : Int).toNat * u.sz) (encA v').cells = splice (cs.map encB) off (splice (((cs.drop off).take (n * u.sz)).map encB) (j * u.sz) (encA v').cells) := by
              rw [Int.toNat_natCast, List.map_take, List.map_drop]
              exact splice_in _ off (n * u.sz) _ _ (by simpa using h6) (by rw [d1]; exact hjn)
            show LeO (AObj.box tid (splice (cs.map encB) (off + (j : Int).toNat * u.sz) (encA v').cells)) (AObj.box tid ((spliceV cs off vs).map encB))
            rw [e1, spliceV_enc]
            have key : LeL (splice (cs.map encB) off (splice (((cs.drop off).take (n * u.sz)).map encB) (j * u.sz) (encA v').cells)) (splice (cs.map encB) off (vs.map encB)) := by
              unfold splice at r2 ⊢
              rw [r2.1]
              exact ((LeL.refl _).append r2).append (LeL.refl _)
            exact .box tid _ _ key.1 key.2
        · cases h2
      · cases h
    · rename_i id i off v' hx hv
      split at h
      · rename_i e u xs y ho hy
        obtain ⟨h1, h2⟩ := bif_eq h
        obtain ⟨x0, hx0, h3⟩ := bind_eq h2
        split at h3
        · rename_i z hz
          obtain ⟨p1, p2, p3⟩ := setPart_cells u off t x0 y z hz
          have hlt := (List.getElem?_eq_some_iff.1 hx0).1
          have hget : (xs.map (encP u)).getD i .any = encP u x0 := by simp [List.getD, hx0]
          have fin : ∀ p, p = encP u z → ∃ s', LeS { enc s with hp := (enc s).hp.set id (.vec e u.sz ((xs.map (encP u)).set i p)) } (enc s') ∧ Keeps (dstL none) s s' ∧ κ s' = some r := by
            rintro p rfl
            refine ⟨⟨s.fr, setAt s.hp id (.vec e u (xs.set i z))⟩, ?_, Keeps.fr rfl, h3⟩
            rw [enc_setO]
            have : encO (.vec e u (xs.set i z)) = .vec e u.sz ((xs.map (encP u)).set i (encP u z)) := by
              show AObj.vec e u.sz _ = _
              rw [List.map_set]
            rw [this]
            exact .refl _
          refine ⟨_, get_er hw.1 hx, _, get_er hw.2 hv, rfl, _, by rw [hp_get, ho]; rfl, .inl ⟨e, _, _, rfl, by simpa using hlt, _, data_enc hy, cellsP_len t y, enc_ok t y, ?_⟩⟩
          by_cases hs : t.sz = u.sz
          · have hut : u = t := by
              simp only [Bool.or_eq_true, decide_eq_true_eq, Bool.not_eq_true'] at h1
              rcases h1 with h1 | h1
              · exact h1
              · rw [hs, Nat.beq_refl] at h1; cases h1
            subst hut
            have h0 : off = 0 := by omega
            subst h0
            refine .inl ⟨rfl, rfl, fin _ (enc_of_cells ?_)⟩
            rw [p2, splice_full _ _ (by rw [cellsP_len, cellsP_len])]
          · refine .inr ⟨hs, p1, fin _ ?_⟩
            have hag : u.ag = true := by
              cases hu : u.ag
              · exact absurd (by rw [p3 hu]) hs
              · rfl
            rw [hget, encP_agg z hag, p2]
        · cases h3
      · rename_i e k u xs hole y ho hy
        obtain ⟨h1, h2⟩ := bif_eq h
        simp only [Bool.and_eq_true] at h1
        obtain ⟨x0, hx0, h3⟩ := bind_eq h2
        split at h3
        · rename_i z hz
          obtain ⟨p1, p2, p3⟩ := setPart_cells u off t x0 y z hz
          have hlt := (List.getElem?_eq_some_iff.1 hx0).1
          have hget : (xs.map (encP u)).getD i .any = encP u x0 := by simp [List.getD, hx0]
          refine ⟨_, get_er hw.1 hx, _, get_er hw.2 hv, rfl, _, by rw [hp_get, ho]; rfl, .inr ⟨e, _, k, _, _, rfl, by simpa using hlt, p1, .inl ⟨h1.1, by rw [hget, encP_ag]; exact h1.2, _, data_enc hy, cellsP_len t y, enc_ok t y, ⟨s.fr, setAt s.hp id (.tree e k u (xs.set i z) hole)⟩, ?_, Keeps.fr rfl, h3⟩⟩⟩
          rw [enc_setO, hget]
          have : encO (.tree e k u (xs.set i z) hole) = .tree e u.sz k ((xs.map (encP u)).set i (.agg (splice (encP u x0).cells off (encP t y).cells))) (encH hole) := by
            show AObj.tree e u.sz k _ _ = _
            rw [List.map_set, encP_agg z h1.2, p2]
          rw [this]
          exact .refl _
        · cases h3
      · rename_i e k u xs hi hj w ho hy
        split at h
        · rename_i kid
          obtain ⟨h1, h2⟩ := bif_eq h
          simp only [Bool.and_eq_true] at h1
          obtain ⟨x0, hx0, h3⟩ := bind_eq h2
          obtain ⟨h4, h5⟩ := guardB_eq h3
          have hlt := (List.getElem?_eq_some_iff.1 hx0).1
          have e1 := Nat.eq_of_beq_eq_true h1.1.1
          have e2 := Nat.eq_of_beq_eq_true h1.1.2
          have e3 := Nat.le_of_ble_eq_true h1.2
          have e4 := Nat.eq_of_beq_eq_true h4
          clear h h1 h2 h3 h4
          subst e1; subst e4
          refine ⟨_, get_er hw.1 hx, _, get_er hw.2 hv, rfl, _, by rw [hp_get, ho]; rfl, .inr ⟨e, _, k, _, _, rfl, by simpa using hlt, by rw [e2]; exact e3, .inr ⟨_, _, rfl, e2, rfl, rfl, ⟨s.fr, setAt s.hp id (.tree e k u xs (some (hi, hj, .sl kid)))⟩, ?_, Keeps.fr rfl, h5⟩⟩⟩
          rw [enc_setO]
          exact .refl _
        · cases h
      · cases h
    · cases h
theorem ox_store {t : Ty} {x v : X} (hw : x.wf = true ∧ v.wf = true) (hp : stOk s (.store t x v) = true) (h : evOp O d (.store t x v) s κ kp = some r) : Ox P s (.store t.sz x.er v.er) d κ kp r := by
  simp only [evOp] at h
  cases d with
  | some _ => cases h
  | none =>
    simp only at h
    unfold storeT at h
    split at h
    · rename_i id off v' hx hv
      split at h
      · rename_i tid cs ho
        obtain ⟨h1, h2⟩ := bif_eq h
        simp only [Bool.and_eq_true] at h1
        obtain ⟨h3, h4⟩ := okB_enc h1.2
        have h5 := Nat.eq_of_beq_eq_true h1.1.1
        have h6 := Nat.le_of_ble_eq_true h1.1.2
        refine ⟨_, get_er hw.1 hx, _, get_er hw.2 hv, rfl, _, by rw [hp_get, ho]; rfl, tid, _, rfl, by rw [← h4, List.length_map, h5], by simpa using h6, h3, ⟨s.fr, setAt s.hp id (.box tid (spliceV cs off (cellsV v')))⟩, ?_, Keeps.fr rfl, h2⟩
        rw [enc_setO]
        have : encO (.box tid (spliceV cs off (cellsV v'))) = .box tid (splice (cs.map encB) off (encA v').cells) := by
          show AObj.box tid _ = _
          rw [spliceV_enc, h4]
        rw [this]
      · cases h
    · rename_i id off n u m v' hx hv
      simp only [stOk, hx] at hp
      cases hp
    · rename_i id i off v' hx hv
      simp only [stOk, hx] at hp
      cases hp
    · cases h
theorem mkT_sound {op : TOp} (hw : op.wf P = true) {κ' : Ob → (Nat → V) → Option R} (h : evOp.mkT s op κ' = some r) : ∃ o v, κ' o v = some r ∧ smk (enc s) op.er fun ob mk => ob = encO o ∧ ∀ n, encA (v n) = .b (mk n) := by
  unfold evOp.mkT at h
  split at h
  · rename_i tid zero
    refine ⟨_, _, h, ?_, fun n => rfl⟩
    show AObj.box tid ((zero.map rawV).map fun v => constB v) = AObj.box tid (zero.map encB)
    rw [List.map_map]
    congr 1
    exact List.map_congr_left fun v hv => konst_enc (List.all_eq_true.1 hw v hv)
  · rename_i tid x
    split at h
    · rename_i v hx
      obtain ⟨h1, h2⟩ := bif_eq h
      obtain ⟨h3, h4⟩ := okB_enc h1
      refine ⟨_, _, h2, _, get_er hw hx, h3, ?_, fun n => rfl⟩
      show AObj.box tid _ = AObj.box tid _
      rw [h4]
    · cases h
  · rename_i tid t len parts
    obtain ⟨h1, h2⟩ := bif_eq h
    simp only [Bool.and_eq_true] at h1
    obtain ⟨xs, h3, h4, h5⟩ := listT_sound parts _ hw h2
    refine ⟨_, _, h5, _, h3, ?_, Nat.le_of_ble_eq_true h1.1.2, Nat.le_of_ble_eq_true h1.2, elems_ok xs, rfl, fun n => rfl⟩
    rw [List.length_map, h4]
    exact Nat.eq_of_beq_eq_true h1.1.1
  · rename_i tid t bytes l c
    simp only [TOp.wf, Bool.and_eq_true, decide_eq_true_eq, ne_eq] at hw
    obtain ⟨h1, h2⟩ := bif_eq h
    obtain ⟨k1, n1, hl, h3⟩ := intOf_eq h2
    obtain ⟨k2, n2, hc, h4⟩ := intOf_eq h3
    obtain ⟨h5, h6⟩ := guardB_eq h4
    simp only [Bool.and_eq_true, decide_eq_true_eq] at h5
    obtain ⟨z1, z2⟩ := zero_enc t hw.2
    refine ⟨_, _, h6, _, get_er hw.1.1 hl, _, get_er hw.1.2 hc, _, rfl, _, rfl, _, _, rfl, _, _, rfl, h5.1.1.1, h5.1.1.2, h5.1.2, h5.2, z2, Nat.le_of_ble_eq_true h1, _, z1, enc_ok t t.zero, ?_, fun n => rfl⟩
    show AObj.vec tid t.sz _ = AObj.vec tid t.sz _
    rw [List.map_replicate]
  · rename_i tid t bytes x y
    simp only [TOp.wf, Bool.and_eq_true] at hw
    obtain ⟨vy, ys, hy, h1, h2⟩ := listOf_sound h
    have key : ∀ v : V, s.get x = some v → (encA v = .b .nils ∨ encA v = .b (.full (.list 0 []))) → guardB (decide (ys.length * bytes ≤ 140737488355328)) (κ' (.vec tid t ys) .sl) = some r → ∃ o v, κ' o v = some r ∧ smk (enc s) (TOp.append tid t bytes x y).er fun ob mk => ob = encO o ∧ ∀ n, encA (v n) = .b (mk n) := by
      intro v hx hv hh
      obtain ⟨h3, h4⟩ := guardB_eq hh
      exact ⟨_, _, h4, _, get_er hw.1 hx, _, get_er hw.2 hy, h2 _ ⟨fun p hp => (elems_ok ys p hp).2, hv, by rw [List.length_map]; simpa using h3, rfl, fun n => rfl⟩⟩
    split at h1
    · rename_i u hx
      exact key _ hx (.inl rfl) h1
    · rename_i u hx
      exact key _ hx (.inr rfl) h1
    · cases h1
  · rename_i k e a b
    exact ⟨_, _, h, rfl, fun n => rfl⟩
  · cases h
theorem at_leff {k : Nat} {op : TOp} (hw : op.wf P = true) (h : evOp O d (.atq k op) s κ kp = some r) :
    ∃ o v, leff P ⟨d, .atq k op.er, none⟩ (enc s) ⟨encA v, some (k, encO o)⟩ ∧ κ (S.putO ⟨s.fr, setAt s.hp k o⟩ d v) = some r := by
  simp only [evOp] at h
  split at h
  · rename_i hf
    obtain ⟨o, v, h1, h2⟩ := mkT_sound hw h
    refine ⟨o, v k, ⟨rfl, op.er, rfl, smk_mono h2 fun ob mk ⟨e1, e2⟩ => ⟨e1, e2 k, ?_⟩⟩, h1⟩
    rw [hp_get, hf]; rfl
  · cases h
theorem ox_at {k : Nat} {op : TOp} (hw : op.wf P = true) (h : evOp O d (.atq k op) s κ kp = some r) : Ox P s (.atq k op.er) d κ kp r := by
  obtain ⟨o, v, h1, h2⟩ := at_leff hw h
  obtain ⟨_, q, e, h3⟩ := h1
  cases e
  show smk (enc s) op.er fun ob mk => plOk (enc s) (some k) ∧ ∃ s', ((enc s).new (some k) ob).putO d (.b (mk k)) = enc s' ∧ Keeps (dstL d) s s' ∧ κ s' = some r
  refine smk_mono h3 fun ob mk ⟨e1, e2, e3⟩ => ⟨e3, _, ?_, (Keeps.fr (s' := ⟨s.fr, setAt s.hp k o⟩) rfl).trans (Keeps.put _ d v), h2⟩
  rw [enc_put, enc_setO, e1, ← e2]
  rfl
theorem evOp_sound (hO : OracleOk P O) {op : TOp} (hw : op.wf P = true) (h : evOp O d op s κ kp = some r) : Ob' P s op.er d κ kp r := by
  cases op <;> simp only [TOp.wf, Bool.and_eq_true, decide_eq_true_eq, ne_eq] at hw
  case mv x => exact (pu_mv hw h).ob
  case pick c a b => exact (pu_pick ⟨hw.1.1, hw.1.2, hw.2⟩ h).ob
  case bin op x y => exact (pu_bin hw h).ob
  case eqB neg x y => exact (pu_eqB hw h).ob
  case eqT neg tid t x y => exact (pu_eqT ⟨hw.1.1, hw.1.2, hw.2⟩ h).ob
  case un op x => exact (pu_un hw h).ob
  case len b x => exact (pu_len hw h).ob
  case lenM k e x => exact (pu_lenM hw h).ob
  case idxS x i => exact (pu_idxS hw h).ob
  case idxV n t x i => exact (pu_idxV hw h).ob
  case idxA t x i => exact (pu_idxA hw h).ob
  case idxP n t x i => exact (pu_idxP hw h).ob
  case fldA off t x => exact (pu_fldA hw h).ob
  case fld off t x => exact (pu_fld hw h).ob
  case load t x => exact (pu_load hw h).ob
  case store t x v => exact ob_store hw h
  case alloc tid zero => exact ob_alloc hw h
  case box tid x => exact ob_box hw h
  case boxD tid t x => exact (pu_boxD hw h).ob
  case build zero parts => exact (pu_build hw h).ob
  case bslice own tid t len parts =>
    cases own
    · exact (pu_bslice hw h).ob
    · exact ob_bslice hw h
  case mslice tid t b l c => exact ob_mslice ⟨hw.1.1, hw.1.2, hw.2⟩ h
  case append tid t b x y => exact ob_append hw h
  case cvtI k x => exact (pu_cvtI hw h).ob
  case slc full t x lo hi mx => exact (pu_slc ⟨hw.1.1.1, hw.1.1.2, hw.1.2, hw.2⟩ h).ob
  case slcS x lo hi => exact (pu_slcS ⟨hw.1.1, hw.1.2, hw.2⟩ h).ob
  case ext x i => exact (pu_ext hw h).ob
  case nilc x => exact (pu_nilc hw h).ob
  case call bor f args sh => exact (pu_call hO hw h).ob
  case callA pan bor B f args sh => exact ob_callA hO hw h
  case callv pan bor B num x args sh => exact ob_callv hO ⟨hw.1.1.1, hw.1.1.2, hw.1.2, hw.2⟩ h
  case callp bor num x args sh => exact (pu_callp hO ⟨hw.1.1.1, hw.1.1.2, hw.1.2, hw.2⟩ h).ob
  case b2s x => exact (pu_b2s hw h).ob
  case mkfn f caps => exact (pu_mkfn hw h).ob
  case mkmap k e a b => exact ob_mkmap h
  case lookup k e ok a b m x => exact (pu_lookup ⟨hw.1.1.1, hw.1.1.2, hw.1.2, hw.2⟩ h).ob
  case mapset k e a b m x v => exact ob_mapset ⟨hw.1.1.1, hw.1.1.2, hw.1.2, hw.2⟩ h
  case copy tid t x y => exact ob_copy hw h
  case mnmx mx k x ys => exact (pu_mnmx hw h).ob
  case panic x => exact ob_panic hw h
  case iface tid x => exact (pu_iface hw h).ob
  case bsliceF tid t len parts => exact (pu_bsliceF hw h).ob
  case appD tid t b x y => exact (pu_appD hw h).ob
  case bsliceN tid k t len parts => exact (pu_bsliceN hw h).ob
  case msliceT tid k u b l c => exact ob_msliceT hw h
  case appT tid k t b x y => exact (ox_appT hw h).ob
  case atq k op => exact (ox_at hw h).ob
theorem evOp_pure (hO : OracleOk P O) {op : TOp} (hw : op.wf P = true) (hp : op.pureB = true) (h : evOp O d op s κ kp = some r) : Pu P s op.er d κ r := by
  cases op <;> simp only [TOp.wf, Bool.and_eq_true, decide_eq_true_eq, ne_eq] at hw <;> simp only [TOp.pureB] at hp <;> try (cases hp; done)
  case mv x => exact pu_mv hw h
  case pick c a b => exact pu_pick ⟨hw.1.1, hw.1.2, hw.2⟩ h
  case bin op x y => exact pu_bin hw h
  case eqB neg x y => exact pu_eqB hw h
  case eqT neg tid t x y => exact pu_eqT ⟨hw.1.1, hw.1.2, hw.2⟩ h
  case un op x => exact pu_un hw h
  case len b x => exact pu_len hw h
  case lenM k e x => exact pu_lenM hw h
  case idxS x i => exact pu_idxS hw h
  case idxV n t x i => exact pu_idxV hw h
  case idxA t x i => exact pu_idxA hw h
  case idxP n t x i => exact pu_idxP hw h
  case fldA off t x => exact pu_fldA hw h
  case fld off t x => exact pu_fld hw h
  case load t x => exact pu_load hw h
  case boxD tid t x => exact pu_boxD hw h
  case build zero parts => exact pu_build hw h
  case bslice own tid t len parts =>
    cases own
    · exact pu_bslice hw h
    · cases hp
  case cvtI k x => exact pu_cvtI hw h
  case slc full t x lo hi mx => exact pu_slc ⟨hw.1.1.1, hw.1.1.2, hw.1.2, hw.2⟩ h
  case slcS x lo hi => exact pu_slcS ⟨hw.1.1, hw.1.2, hw.2⟩ h
  case ext x i => exact pu_ext hw h
  case nilc x => exact pu_nilc hw h
  case call bor f args sh => exact pu_call hO hw h
  case callp bor num x args sh => exact pu_callp hO ⟨hw.1.1.1, hw.1.1.2, hw.1.2, hw.2⟩ h
  case b2s x => exact pu_b2s hw h
  case mkfn f caps => exact pu_mkfn hw h
  case lookup k e ok a b m x => exact pu_lookup ⟨hw.1.1.1, hw.1.1.2, hw.1.2, hw.2⟩ h
  case mnmx mx k x ys => exact pu_mnmx hw h
  case iface tid x => exact pu_iface hw h
  case bsliceF tid t len parts => exact pu_bsliceF hw h
  case appD tid t b x y => exact pu_appD hw h
  case bsliceN tid k t len parts => exact pu_bsliceN hw h
theorem evOp_exact (hO : OracleOk P O) {op : TOp} (hw : op.wf P = true) (hp : op.exB = true) (hst : stOk s op = true) (h : evOp O d op s κ kp = some r) : Ox P s op.er d κ kp r := by
  by_cases hpu : op.pureB = true
  · exact (evOp_pure hO hw hpu h).ox
  · cases op <;> simp only [TOp.exB] at hp <;> try exact absurd hp hpu
    case append tid t b x y => simp only [TOp.wf, Bool.and_eq_true] at hw; exact ox_append hw h
    case callA pan bor B f args sh => simp only [TOp.wf, Bool.and_eq_true] at hw; exact ox_callA hO hw h
    case callv pan bor B num x args sh => simp only [TOp.wf, Bool.and_eq_true] at hw; exact ox_callv hO ⟨hw.1.1.1, hw.1.1.2, hw.1.2, hw.2⟩ h
    case store t x v => simp only [TOp.wf, Bool.and_eq_true] at hw; exact ox_store hw hst h
end
end Go.Ev
namespace Go.Ev
open Go Go.RowKit Go.Av
theorem frz_rel {θ : List Av.Loc} {D D' : Nat → Prop} {w : World} {id : Nat} {t : Ty} {xs : List t.den} {l : Av.Loc} (hl : θ[id]? = some l) (hD : ∀ b, D b → D' b) (hb : ∀ g, l ≠ .blk g) (hmp : ∀ g, l ≠ .mp g)
    (hh : ∀ v, l.head v → RelP D' w v (lst t.sz (xs.map (encP t)))) {v : Value} {u : V} (h : RelB θ D w v (encB u)) : RelB (θ.set id .no) D' w v (encB (frz id t xs u)) := by
  have ne : ∀ (k : Nat) (l' : Av.Loc), k ≠ id → θ[k]? = some l' → (θ.set id .no)[k]? = some l' := fun k l' hk h => by rw [List.getElem?_set_ne (Ne.symm hk)]; exact h
  have stay : ∀ (x : BV), RelB θ D w v x → (∀ i ∈ x.ids, i ≠ id) → RelB (θ.set id .no) D' w v x := by
    intro x hx hi
    cases x <;> simp only [RelB] at hx ⊢
    · exact hx.mono hD fun _ _ => rfl
    · exact hx
    · obtain ⟨l', h1, h2⟩ := hx; exact ⟨l', ne _ _ (hi _ (by simp [BV.ids])) h1, h2⟩
    · obtain ⟨g, h1, h2⟩ := hx; exact ⟨g, ne _ _ (hi _ (by simp [BV.ids])) h1, h2⟩
    · obtain ⟨g, n, cap, sz, O, h1, h2⟩ := hx; exact ⟨g, n, cap, sz, O, ne _ _ (hi _ (by simp [BV.ids])) h1, h2⟩
    · obtain ⟨gs, h1, h2, h3⟩ := hx
      exact ⟨gs, h1, fun k i g e1 e2 => ne _ _ (hi _ (by simp only [BV.ids]; exact List.mem_of_getElem? e1)) (h2 k i g e1 e2), h3⟩
    · obtain ⟨g, h1, h2⟩ := hx; exact ⟨g, ne _ _ (hi _ (by simp [BV.ids])) h1, h2⟩
    · exact ⟨hx.1.mono hD fun _ _ => rfl, hx.2⟩
    · exact hx
  cases u with
  | sl k =>
    show RelB _ _ _ _ (encB (bif Nat.beq k id then .d (.list t) xs else .sl k))
    rw [beq_eq]
    by_cases hk : k = id
    · subst hk
      rw [decide_eq_true rfl]
      obtain ⟨l', h1, h2⟩ := h
      rw [hl] at h1; cases h1
      exact hh v h2
    · rw [decide_eq_false hk]
      exact stay (encB (.sl k)) h fun i hi => by rw [List.mem_singleton.1 (show i ∈ [k] from hi)]; exact hk
  | elt k i o =>
    show RelB _ _ _ _ (encB (bif Nat.beq k id then .any else .elt k i o))
    rw [beq_eq]
    by_cases hk : k = id
    · rw [decide_eq_true hk]; exact RelP.any v
    · rw [decide_eq_false hk]
      exact stay (encB (.elt k i o)) h fun j hj => by rw [List.mem_singleton.1 (show j ∈ [k] from hj)]; exact hk
  | ptr k off =>
    refine stay (encB (.ptr k off)) h fun i hi e => ?_
    have hi' := List.mem_singleton.1 (show i ∈ [k] from hi)
    subst hi'; subst e
    obtain ⟨g, h1, _⟩ := h
    rw [hl] at h1; cases h1; exact hb g rfl
  | pel k off n t' m =>
    refine stay (encB (.pel k off n t' m)) h fun i hi e => ?_
    have hi' := List.mem_singleton.1 (show i ∈ [k] from hi)
    subst hi'; subst e
    obtain ⟨g, h1, _⟩ := h
    rw [hl] at h1; cases h1; exact hb g rfl
  | mp k =>
    refine stay (encB (.mp k)) h fun i hi e => ?_
    have hi' := List.mem_singleton.1 (show i ∈ [k] from hi)
    subst hi'; subst e
    obtain ⟨g, h1, _⟩ := h
    rw [hl] at h1; cases h1; exact hmp g rfl
  | clo f ids =>
    refine stay (encB (.clo f ids)) h fun i hi e => ?_
    subst e
    obtain ⟨gs, h1, h2, _⟩ := h
    obtain ⟨k, hk⟩ := List.getElem?_of_mem (show i ∈ ids from hi)
    obtain ⟨g, hg⟩ := getElem?_of_len h1 hk
    have := h2 k i g hk hg
    rw [hl] at this; cases this; exact hb g rfl
  | raw c => exact stay (encB (.raw c)) h fun i hi => by rw [show (encB (.raw c)).ids = [] from constB_ids c] at hi; cases hi
  | d a b => exact stay (encB (.d a b)) h fun i hi => by cases hi
  | nil a => exact stay (encB (.nil a)) h fun i hi => by cases hi
  | agg a => exact stay (encB (.agg a)) h fun i hi => by cases hi
  | tup a => exact stay (encB (.tup a)) h fun i hi => by cases hi
  | dp a b => exact stay (encB (.dp a b)) h fun i hi => by cases hi
  | fnD a b => exact stay (encB (.fnD a b)) h fun i hi => by cases hi
  | full a b => exact stay (encB (.full a b)) h fun i hi => by cases hi
  | any => exact stay (encB .any) h fun i hi => by cases hi
  | lit a b c => exact stay (encB (.lit a b c)) h fun i hi => by cases hi
  | ifc => exact stay (encB .ifc) h fun i hi => by cases hi
theorem frz_isA {id : Nat} {t : Ty} {xs : List t.den} (v : V) (h : v.isA = false) : (frz id t xs v).isA = false := by
  cases v <;> first | rfl | (simp only [frz]; cases Nat.beq _ id <;> rfl) | cases h
theorem rel_mapV {θ θ' : List Av.Loc} {D D' : Nat → Prop} {w : World} {g : V → V} (ha : ∀ v, v.isA = false → (g v).isA = false) (hg : ∀ v u, RelB θ D w v (encB u) → RelB θ' D' w v (encB (g u))) {v : Value} {u : V} (h : RelA θ D w v (encA u)) : RelA θ' D' w v (encA (mapV g u)) := by
  have many : ∀ (vs : List V) (a : Array Value), a.size = (vs.map encB).length → (∀ (i : Nat) (y : Value) (x : BV), a[i]? = some y → (vs.map encB)[i]? = some x → RelB θ D w y x) →
      a.size = ((vs.map g).map encB).length ∧ ∀ (i : Nat) (y : Value) (x : BV), a[i]? = some y → ((vs.map g).map encB)[i]? = some x → RelB θ' D' w y x := by
    intro vs a h1 h2
    refine ⟨by simpa using h1, fun i y x hy hx => ?_⟩
    simp only [List.getElem?_map, Option.map_eq_some_iff] at hx
    obtain ⟨_, ⟨u, hu, rfl⟩, rfl⟩ := hx
    exact hg y u (h2 i y _ hy (by simp [hu]))
  cases hv : u.isA
  · rw [mapV_b hv, encA_b (ha u hv)]
    rw [encA_b hv] at h
    exact hg v u h
  · cases u with
    | agg vs => obtain ⟨a, h1, h2, h3⟩ := h; obtain ⟨h4, h5⟩ := many vs a h2 h3; exact ⟨a, h1, h4, h5⟩
    | tup vs => obtain ⟨a, h1, h2, h3⟩ := h; obtain ⟨h4, h5⟩ := many vs a h2 h3; exact ⟨a, h1, h4, h5⟩
    | _ => cases hv
theorem rel_mapO {θ θ' : List Av.Loc} {D D' : Nat → Prop} {w : World} {g : V → V} (hD : ∀ b, D b → D' b) (hg : ∀ v u, RelB θ D w v (encB u) → RelB θ' D' w v (encB (g u))) {l : Av.Loc} {o : Ob} (h : RelO θ D w l (encO o)) : RelO θ' D' w l (encO (mapO g o)) := by
  cases o with
  | box t cs =>
    cases l <;> simp only [encO, mapO, RelO] at h ⊢ <;> try exact h
    obtain ⟨c, h1, h2, h3⟩ := h
    refine ⟨c, h1, by simpa using h2, fun i y x hy hx => ?_⟩
    simp only [List.getElem?_map, Option.map_eq_some_iff] at hx
    obtain ⟨_, ⟨u, hu, rfl⟩, rfl⟩ := hx
    exact hg y u (h3 i y _ hy (by simp [hu]))
  | gone => cases l <;> trivial
  | free => cases l <;> exact h
  | tree e k t xs hole =>
    cases l <;> try exact h
    case nil =>
      refine ⟨h.1, ?_⟩
      cases hole with
      | none => rfl
      | some q => obtain ⟨i, j, v⟩ := q; cases h.2
    case hdr =>
      cases hole with
      | none => exact relO_mapH (θ' := θ') (hole := none) (f := fun x => x) (fun u i j b hb _ => nomatch hb) hD h
      | some q =>
        obtain ⟨i, j, v⟩ := q
        exact relO_mapH (hole := some (i, j, encB v)) (f := fun _ => encB (g v)) (fun u i' j' b hb hr => by cases hb; exact hg u v hr) hD h
  | vec e t xs =>
    have h1 := h.mono (D' := D') (w' := w) hD (fun _ _ => rfl) fun _ _ => rfl
    cases l <;> exact h1
  | map k e a b kvs =>
    have h1 := h.mono (D' := D') (w' := w) hD (fun _ _ => rfl) fun _ _ => rfl
    cases l <;> exact h1
theorem weak_freeze {m : Nat} {s : S} {id : Nat} {o : Ob} {t : Ty} {xs : List t.den} (ho : s.hp[id]? = some o) (hsl : slP (enc s).hp id = some (lst t.sz (xs.map (encP t)))) (hv : o.vary = true) : Weak m (enc s) (enc ⟨(s.map (frz id t xs)).fr, setAt (s.map (frz id t xs)).hp id .gone⟩) := by
  rintro c a w _ ⟨θ, D, hI⟩
  have ho' : (enc s).hp[id]? = some (encO o) := by rw [hp_get, ho]; rfl
  have hlt : id < θ.length := by rw [hI.ok.len]; exact (List.getElem?_eq_some_iff.1 ho').1
  obtain ⟨l, hl⟩ : ∃ l, θ[id]? = some l := ⟨θ[id], List.getElem?_eq_getElem hlt⟩
  have hro := hI.ok.objs id l _ hl ho'
  have hfx : l.fixed = false := by
    unfold slP at hsl
    rw [ho'] at hsl
    cases o <;> first | cases hsl | skip
    all_goals (cases l <;> first | rfl | exact hro.elim)
  have hb : ∀ g, l ≠ .blk g := fun g e => by subst e; cases hfx
  have hmp : ∀ g, l ≠ .mp g := fun g e => by subst e; cases hfx
  obtain ⟨D', hD, hD2, hh⟩ : ∃ D' : Nat → Prop, (∀ b, D b → D' b) ∧ (∀ b, D' b → D b ∨ l.has b) ∧ (∀ v, l.head v → RelP D' w v (lst t.sz (xs.map (encP t)))) := by
    refine ⟨fun b => D b ∨ l.has b, fun _ h => .inl h, fun _ h => h, fun v hv => ?_⟩
    obtain ⟨l', h1, h2⟩ := sl_data hI.ok (show RelB θ D w v (.sl id) from ⟨l, hl, hv⟩) hsl
    rw [hl] at h1; cases h1
    exact h2 _ (fun _ h => .inl h) (fun _ h => .inr h)
  have hB := fun v u => frz_rel (w := w) (v := v) (u := u) (id := id) (t := t) (xs := xs) hl hD hb hmp hh
  have old : ∀ (i : Nat) (l' : Av.Loc), (θ.set id .no)[i]? = some l' → (i = id ∧ l' = .no) ∨ (i ≠ id ∧ θ[i]? = some l') := fun i l' hi => by
    by_cases hii : i = id
    · subst hii
      rw [List.getElem?_set_self hlt] at hi
      cases hi; exact .inl ⟨rfl, rfl⟩
    · rw [List.getElem?_set_ne (Ne.symm hii)] at hi
      exact .inr ⟨hii, hi⟩
  refine ⟨θ.set id .no, D', hI.size, hI.defers, ⟨?_, fun b hb' => ?_, fun i j li lj g hi hj hgi hgj => ?_, fun i li g hi hg => ?_, fun i li o hi hoi => ?_⟩, hI.keep, fun b hb' => hD b (hI.dsub b hb'), fun b hb' => ?_, fun i li g hi hg => ?_, fun k x hk => ?_, fun k l' hk hf => ?_⟩
  · simp [enc, S.map, setAt_eq, hI.ok.len]
  · rcases hD2 b hb' with h1 | h1
    · exact hI.ok.dlt b h1
    · exact (hI.ok.olt id l b hl h1).1
  · rcases old i li hi with ⟨_, rfl⟩ | ⟨_, h1⟩
    · cases hgi
    · rcases old j lj hj with ⟨_, rfl⟩ | ⟨_, h2⟩
      · cases hgj
      · exact hI.ok.inj i j li lj g h1 h2 hgi hgj
  · rcases old i li hi with ⟨_, rfl⟩ | ⟨hne, h1⟩
    · cases hg
    · obtain ⟨h2, h3⟩ := hI.ok.olt i li g h1 hg
      refine ⟨h2, fun hd => ?_⟩
      rcases hD2 g hd with h4 | h4
      · exact h3 h4
      · exact hne (hI.ok.inj i id li l g h1 hl hg h4)
  · have hoi' : ((setAt (s.hp.map (mapO (frz id t xs))) id .gone).map encO)[i]? = some o := hoi
    rw [setAt_eq, List.getElem?_map] at hoi'
    obtain ⟨o1, h1, rfl⟩ := Option.map_eq_some_iff.1 hoi'
    rcases old i li hi with ⟨rfl, rfl⟩ | ⟨hne, h2⟩
    · rw [List.getElem?_set_self (by rw [List.length_map]; exact (List.getElem?_eq_some_iff.1 ho).1)] at h1
      cases h1; trivial
    · rw [List.getElem?_set_ne (Ne.symm hne), List.getElem?_map] at h1
      obtain ⟨o2, h3, rfl⟩ := Option.map_eq_some_iff.1 h1
      exact rel_mapO hD hB (hI.ok.objs i li (encO o2) h2 (by rw [hp_get, h3]; rfl))
  · rcases hD2 b hb' with h1 | h1
    · exact hI.dnew b h1
    · exact .inr (hI.onew id l b hl h1)
  · rcases old i li hi with ⟨_, rfl⟩ | ⟨_, h1⟩
    · cases hg
    · exact hI.onew i li g h1 hg
  · have hk' : Av.look ((s.fr.map fun x => (x.1, mapV (frz id t xs) x.2)).map fun x => (x.1, encA x.2)) k = some x := hk
    rw [lk_look, lk_map] at hk'
    obtain ⟨v1, h1, rfl⟩ := Option.map_eq_some_iff.1 hk'
    obtain ⟨v2, h2, rfl⟩ := Option.map_eq_some_iff.1 h1
    exact rel_mapV frz_isA hB (hI.fr k (encA v2) (by show Av.look (s.fr.map fun x => (x.1, encA x.2)) k = _; rw [lk_look, h2]; rfl))
  · have h1 := hI.fix k l' hk hf
    by_cases hki : k = id
    · subst hki
      rw [hl] at h1; cases h1
      rw [hfx] at hf; cases hf
    · rw [List.getElem?_set_ne (Ne.symm hki)]; exact h1
def Ob.empt (o : Ob) : Prop := ∀ θ D w, RelO θ D w (.nil none) (encO o)
theorem empt_vec (e : TypeId) (t : Ty) : (Ob.vec e t []).empt := fun _ _ _ => rfl
theorem empt_tree (e : TypeId) (k : Av.K) (t : Ty) : (Ob.tree e k t [] none).empt := fun _ _ _ => ⟨rfl, rfl⟩
theorem inv_push_nil {c : Ctx} {θ : List Av.Loc} {D : Nat → Prop} {st : St} {a : Act} {w : World} (hI : Inv c θ D st a w) {o : Ob} (ho : o.empt) : Inv c (θ ++ [.nil none]) D { st with hp := st.hp ++ [encO o] } a w :=
  hI.push (l := .nil none) (o := encO o) (ho _ _ _) (fun g hg => by cases hg)
theorem weak_adopt {m : Nat} {s : S} {k : Nat} {u : Ty} {o : Ob} (ho : o.empt) (h : lk s.fr k = some (.nil u)) : Weak m (enc s) (enc ⟨(k, .sl s.hp.length) :: s.fr, s.hp ++ [o]⟩) := by
  rintro c a w _ ⟨θ, D, hI⟩
  have hJ := inv_push_nil hI ho
  rw [← enc_push] at hJ
  refine ⟨_, D, hJ.size, hJ.defers, hJ.ok, hJ.keep, hJ.dsub, hJ.dnew, hJ.onew, fun j x hj => ?_, hJ.fix⟩
  have hj' : Av.look ((k, encA (.sl s.hp.length)) :: s.fr.map fun x => (x.1, encA x.2)) j = some x := hj
  simp only [Av.look] at hj'
  split at hj'
  · rename_i e1
    subst e1
    cases hj'
    have hv := hI.fr j (encA (.nil u)) (by show Av.look (s.fr.map fun x => (x.1, encA x.2)) j = _; rw [lk_look, h]; rfl)
    refine ⟨.nil none, ?_, hv⟩
    rw [← hp_len, ← hI.ok.len]
    simp
  · exact hJ.fr j x hj'
theorem weak_adoptC {m : Nat} {s : S} {id j : Nat} {u : TypeId} {t' : Ty} {cs : List V} {o0 : Ob} (ho0 : o0.empt) (ho : s.hp[id]? = some (.box u cs)) (hj : cs[j]? = some (.nil t')) :
    Weak m (enc s) (enc ⟨s.fr, setAt s.hp id (.box u (setAt cs j (.sl s.hp.length))) ++ [o0]⟩) := by
  rintro c a w _ ⟨θ, D, hI⟩
  have hJ := inv_push_nil hI ho0
  rw [← enc_push] at hJ
  have hid := (List.getElem?_eq_some_iff.1 ho).1
  refine ⟨_, D, hJ.size, hJ.defers, ⟨by rw [hJ.ok.len]; simp [enc, setAt_eq], hJ.ok.dlt, hJ.ok.inj, hJ.ok.olt, fun i l o hi hoi => ?_⟩, hJ.keep, hJ.dsub, hJ.dnew, hJ.onew, hJ.fr, hJ.fix⟩
  have hoi' : ((setAt s.hp id (.box u (setAt cs j (.sl s.hp.length))) ++ [o0]).map encO)[i]? = some o := hoi
  rw [setAt_eq, setAt_eq] at hoi'
  by_cases hii : i = id
  · subst hii
    rw [List.getElem?_map, List.getElem?_append_left (by simpa using hid), List.getElem?_set_self hid] at hoi'
    cases hoi'
    have hr := hJ.ok.objs i l (encO (.box u cs)) hi (by rw [hp_get, List.getElem?_append_left hid, ho]; rfl)
    cases l <;> simp only [encO, RelO] at hr ⊢ <;> try exact hr
    obtain ⟨cv, h1, h2, h3⟩ := hr
    refine ⟨cv, h1, by simpa using h2, fun q y x hy hx => ?_⟩
    rw [List.map_set] at hx
    by_cases hq : q = j
    · subst hq
      rw [List.getElem?_set] at hx
      simp only [if_true] at hx
      split at hx
      · cases hx
        have := h3 q y (encB (.nil t')) hy (by rw [List.getElem?_map, hj]; rfl)
        refine ⟨.nil none, ?_, this⟩
        rw [← hp_len, ← hI.ok.len]
        simp
      · cases hx
    · rw [List.getElem?_set_ne (Ne.symm hq)] at hx
      exact h3 q y x hy hx
  · refine hJ.ok.objs i l o hi ?_
    show ((s.hp ++ [o0]).map encO)[i]? = some o
    rw [← hoi']
    simp only [List.getElem?_map]
    congr 1
    rcases Nat.lt_or_ge i s.hp.length with h1 | h1
    · rw [List.getElem?_append_left h1, List.getElem?_append_left (by simpa using h1), List.getElem?_set_ne (Ne.symm hii)]
    · rw [List.getElem?_append_right h1, List.getElem?_append_right (by simpa using h1)]
      simp
theorem idx_get {ids : List Nat} {i : Nat} (h : i ∈ ids) : ids[ids.idxOf i]? = some i := by
  have h1 := List.idxOf_lt_length_of_mem h
  rw [List.getElem?_eq_getElem h1]
  simp
theorem sel_rel {θ : List Av.Loc} {ids : List Nat} {D : Nat → Prop} {w : World} {v : Value} {x : BV} (hin : ∀ i ∈ x.ids, i ∈ ids) (h : RelB θ D w v x) : RelB (ids.map fun i => θ.getD i .no) D w v (x.ren (ids.idxOf ·)) := by
  have key : ∀ (i : Nat) (l : Av.Loc), i ∈ ids → θ[i]? = some l → (ids.map fun i => θ.getD i .no)[ids.idxOf i]? = some l := fun i l hi hl => by
    rw [List.getElem?_map, idx_get hi]
    simp [List.getD, hl]
  cases x <;> simp only [RelB, BV.ren] at h ⊢ <;> simp only [BV.ids, List.mem_singleton, forall_eq] at hin
  · exact h
  · exact h
  · obtain ⟨l, h1, h2⟩ := h; exact ⟨l, key _ _ hin h1, h2⟩
  · obtain ⟨g, h1, h2⟩ := h; exact ⟨g, key _ _ hin h1, h2⟩
  · obtain ⟨g, n, cap, sz, O, h1, h2⟩ := h; exact ⟨g, n, cap, sz, O, key _ _ hin h1, h2⟩
  · obtain ⟨gs, h1, h2, h3⟩ := h
    refine ⟨gs, by simpa using h1, fun k i g e1 e2 => ?_, h3⟩
    rw [List.getElem?_map] at e1
    obtain ⟨i', e3, rfl⟩ := Option.map_eq_some_iff.1 e1
    exact key _ _ (hin i' (List.mem_of_getElem? e3)) (h2 k i' g e3 e2)
  · obtain ⟨g, h1, h2⟩ := h; exact ⟨g, key _ _ hin h1, h2⟩
  · exact h
  · exact h
theorem sel_relA {θ : List Av.Loc} {ids : List Nat} {D : Nat → Prop} {w : World} {v : Value} {x : AV} (hin : ∀ i ∈ x.ids, i ∈ ids) (h : RelA θ D w v x) : RelA (ids.map fun i => θ.getD i .no) D w v (x.ren (ids.idxOf ·)) := by
  have many : ∀ (xs : List BV) (a : Array Value), (∀ i ∈ xs.flatMap BV.ids, i ∈ ids) → a.size = xs.length → (∀ (i : Nat) (y : Value) (x : BV), a[i]? = some y → xs[i]? = some x → RelB θ D w y x) →
      a.size = (xs.map (BV.ren (ids.idxOf ·))).length ∧ ∀ (i : Nat) (y : Value) (x : BV), a[i]? = some y → (xs.map (BV.ren (ids.idxOf ·)))[i]? = some x → RelB (ids.map fun i => θ.getD i .no) D w y x := by
    intro xs a h0 h1 h2
    refine ⟨by simpa using h1, fun i y x hy hx => ?_⟩
    rw [List.getElem?_map] at hx
    obtain ⟨x0, hx0, rfl⟩ := Option.map_eq_some_iff.1 hx
    exact sel_rel (fun j hj => h0 j (List.mem_flatMap.2 ⟨x0, List.mem_of_getElem? hx0, hj⟩)) (h2 i y x0 hy hx0)
  cases x with
  | b x => exact sel_rel hin h
  | agg xs => obtain ⟨a, h1, h2, h3⟩ := h; obtain ⟨h4, h5⟩ := many xs a hin h2 h3; exact ⟨a, h1, h4, h5⟩
  | tup xs => obtain ⟨a, h1, h2, h3⟩ := h; obtain ⟨h4, h5⟩ := many xs a hin h2 h3; exact ⟨a, h1, h4, h5⟩
theorem weak_sel {m : Nat} {a b : St} (ids : List Nat) (hnd : ids.Nodup) (hm : ∀ k, k < m → ids[k]? = some k)
    (hfr : ∀ k y, Av.look b.fr k = some y → ∃ x, Av.look a.fr k = some x ∧ (∀ i ∈ x.ids, i ∈ ids) ∧ y = x.ren (ids.idxOf ·))
    (hlen : b.hp.length = ids.length) (hhp : ∀ (j : Nat) (o' : AObj), b.hp[j]? = some o' → ∃ (i : Nat) (o : AObj), ids[j]? = some i ∧ a.hp[i]? = some o ∧ (∀ i ∈ o.ids, i ∈ ids) ∧ o' = o.ren (ids.idxOf ·)) : Weak m a b := by
  rintro c ac w hcm ⟨θ, D, hI⟩
  have hin : ∀ (j : Nat) (i : Nat), ids[j]? = some i → i < θ.length := fun j i hj => by
    have hj2 : j < b.hp.length := by rw [hlen]; exact (List.getElem?_eq_some_iff.1 hj).1
    obtain ⟨i', o, h1, h2, _⟩ := hhp j _ (List.getElem?_eq_getElem hj2)
    rw [hj] at h1; cases h1
    rw [hI.ok.len]
    exact (List.getElem?_eq_some_iff.1 h2).1
  have back : ∀ (j : Nat) (l : Av.Loc), (ids.map fun i => θ.getD i .no)[j]? = some l → ∃ i, ids[j]? = some i ∧ θ[i]? = some l := fun j l hj => by
    rw [List.getElem?_map] at hj
    obtain ⟨i, h1, h2⟩ := Option.map_eq_some_iff.1 hj
    refine ⟨i, h1, ?_⟩
    have := hin j i h1
    rw [← h2]
    simp [List.getD, List.getElem?_eq_getElem this]
  refine ⟨ids.map fun i => θ.getD i .no, D, hI.size, hI.defers, ⟨by rw [List.length_map, hlen], hI.ok.dlt, fun i j li lj g hi hj hgi hgj => ?_, fun i l g hi hg => ?_, fun j l o' hj hoj => ?_⟩, hI.keep, hI.dsub, hI.dnew, fun i l g hi hg => ?_, fun k y hk => ?_, fun k l hk hf => ?_⟩
  · obtain ⟨i', h1, h2⟩ := back i li hi
    obtain ⟨j', h3, h4⟩ := back j lj hj
    have := hI.ok.inj i' j' li lj g h2 h4 hgi hgj
    subst this
    have hi2 := (List.getElem?_eq_some_iff.1 h1).1
    exact (List.getElem?_inj hi2 hnd).1 (by rw [h1, h3])
  · obtain ⟨i', h1, h2⟩ := back i l hi
    exact hI.ok.olt i' l g h2 hg
  · obtain ⟨i, h1, h2⟩ := back j l hj
    obtain ⟨i', o, h3, h4, h5, rfl⟩ := hhp j o' hoj
    rw [h1] at h3; cases h3
    have hr := hI.ok.objs i l o h2 h4
    cases o with
    | box t cs =>
      cases l <;> simp only [AObj.ren, RelO] at hr ⊢ <;> try exact hr
      obtain ⟨cv, e1, e2, e3⟩ := hr
      refine ⟨cv, e1, by simpa using e2, fun q y x hy hx => ?_⟩
      rw [List.getElem?_map] at hx
      obtain ⟨x0, hx0, rfl⟩ := Option.map_eq_some_iff.1 hx
      exact sel_rel (fun p hp => h5 p (List.mem_flatMap.2 ⟨x0, List.mem_of_getElem? hx0, hp⟩)) (e3 q y x0 hy hx0)
    | gone => cases l <;> trivial
    | free => cases l <;> exact hr
    | vec e sz xs => cases l <;> exact hr
    | map k e kvs => cases l <;> exact hr
    | tree e sz k xs hole =>
      cases l <;> try exact hr
      case nil => exact ⟨hr.1, by have := hr.2; subst this; rfl⟩
      case hdr => exact relO_mapH (fun u i j b hb hr => sel_rel (fun p hp => h5 p (by rw [hb]; exact hp)) hr) (fun _ h => h) hr
  · obtain ⟨i', h1, h2⟩ := back i l hi
    exact hI.onew i' l g h2 hg
  · obtain ⟨x, h1, h2, rfl⟩ := hfr k y hk
    exact sel_relA h2 (hI.fr k x h1)
  · have h1 := hI.fix k l hk hf
    have hk2 : k < m := Nat.lt_of_lt_of_le (List.getElem?_eq_some_iff.1 hk).1 hcm
    rw [List.getElem?_map, hm k hk2]
    simp [List.getD, h1]
def Adj.wfB (m : Nat) : Adj → Bool
  | .sel ids _ => (List.range m).all fun k => match ids[k]? with
    | some i => Nat.beq i k
    | none => false
  | _ => true
def adjsWf (m : Nat) (l : List Adj) : Bool := l.all (Adj.wfB m)
theorem Keeps.of_map {A : List Nat} {s s' : S} (g : V → V) (hg : ∀ v, v.isD = true → g v = v) (hfr : ∀ k, lk s'.fr k = (lk s.fr k).map g ∨ lk s'.fr k = none) : Keeps A s s' := fun k _ => by
  rcases hfr k with h | h
  · rw [h]
    exact ⟨fun v hv hd => .inl (by rw [hv]; simp [hg v hd]), fun hn => by rw [hn]; rfl⟩
  · rw [h]; exact ⟨fun _ _ _ => .inr rfl, fun _ => rfl⟩
theorem isD_frz {id : Nat} {t : Ty} {xs : List t.den} {v : V} (h : v.isD = true) : mapV (frz id t xs) v = v := by cases v <;> first | rfl | cases h
theorem isD_ren {ρ : Nat → Nat} {v : V} (h : v.isD = true) : mapV (V.ren ρ) v = v := by cases v <;> first | rfl | cases h
theorem mapM_get {α β : Type} {f : α → Option β} : ∀ {l : List α} {m : List β}, l.mapM f = some m → m.length = l.length ∧ ∀ (i : Nat) (y : β), m[i]? = some y → ∃ x, l[i]? = some x ∧ f x = some y
  | [], m, h => by simp at h; subst h; exact ⟨rfl, fun i y h => by simp at h⟩
  | x :: l, m, h => by
    simp only [List.mapM_cons, Option.bind_eq_bind, Option.pure_def, Option.bind_eq_some_iff, Option.some.injEq] at h
    obtain ⟨z, h1, m', h2, rfl⟩ := h
    obtain ⟨h3, h4⟩ := mapM_get h2
    refine ⟨by simp [h3], fun i y hy => ?_⟩
    cases i with
    | zero => simp at hy; subst hy; exact ⟨x, rfl, h1⟩
    | succ i => simpa using h4 i y (by simpa using hy)
theorem lk_sel {s : S} : ∀ {ks : List Nat} {fr : List (Nat × V)}, ks.mapM (fun k => (lk s.fr k).map fun v => (k, v)) = some fr → ∀ k, lk fr k = lk s.fr k ∨ lk fr k = none
  | [], fr, h, k => by simp at h; subst h; exact .inr rfl
  | j :: ks, fr, h, k => by
    simp only [List.mapM_cons, Option.bind_eq_bind, Option.pure_def, Option.bind_eq_some_iff, Option.some.injEq, Option.map_eq_some_iff] at h
    obtain ⟨x, ⟨v, hv, rfl⟩, m', h2, rfl⟩ := h
    simp only [lk, beq_eq]
    by_cases hk : k = j
    · subst hk
      rw [decide_eq_true rfl]
      exact .inl hv.symm
    · rw [decide_eq_false hk]
      exact lk_sel h2 k
theorem focus_sound {m : Nat} {id k j : Nat} {u : Ty} {s s' : S} (h : adj (.focus id k j u) s = some s') : Weak m (enc s) (enc s') ∧ ∀ A, Keeps A s s' := by
  simp only [adj] at h
  split at h
  · rename_i kk n e k0 t xs hk ho
    split at h
    · rename_i e' sz' k' hat
      obtain ⟨h1, h2⟩ := bif_eq h
      simp only [Bool.and_eq_true, decide_eq_true_eq] at h1
      obtain ⟨x, hx, h3⟩ := bind_eq h2
      split at h3
      · rename_i L hL
        cases h3
        have hsz := Nat.eq_of_beq_eq_true h1.1
        obtain ⟨p1, p2⟩ := part_cells t j (.list u) x L hL
        have hj : j < (cellsP t x).length := by rw [cellsP_len]; simp only [Ty.sz] at p1; omega
        have hy : (encP t x).cells[j]? = some (encP (.list u) L) := by
          have : ((cellsP t x).drop j).take 1 = [encP (.list u) L] := by
            have := p2; rw [encP_one (t := .list u) L rfl] at this; exact this
          have h5 : (((cellsP t x).drop j).take 1)[0]? = some (encP (.list u) L) := by rw [this]; rfl
          rw [List.getElem?_take, if_pos (by omega), List.getElem?_drop] at h5
          exact h5
        refine ⟨?_, fun A => Keeps.fr rfl⟩
        have hw := weak_focus (m := m) (st := enc s) (id := id) (i := n.toNat) (j := j) (k := k0) (q := (e', sz', k')) (L := L.map (encP u)) (by rw [hp_get, ho]; rfl) (by rw [List.getElem?_map, hx]; rfl) hy hat (by rw [hsz]; rfl)
        have hin : innerO (e', sz', k') (L.map (encP u)) = encO (innerOb e' k' u L) := by
          unfold innerO innerOb
          cases hf : k'.allF
          · rw [hsz]; rfl
          · rw [hsz]; rfl
        rw [hin] at hw
        have he : enc ⟨s.fr, setAt s.hp id (.tree e k0 t xs (some (n.toNat, j, .sl s.hp.length))) ++ [innerOb e' k' u L]⟩ = ⟨(enc s).fr, (enc s).hp.set id (.tree e t.sz k0 (xs.map (encP t)) (some (n.toNat, j, .sl (enc s).hp.length))) ++ [encO (innerOb e' k' u L)]⟩ := by
          simp only [enc, setAt_eq, List.map_append, List.map_set, List.map_cons, List.map_nil, List.length_map]
          rfl
        rw [he]
        exact hw
      · cases h3
    · cases h
  · cases h
theorem outer_inner {e : TypeId} {k : Av.K} {u : Ty} {o : Ob} {L : List u.den} (h : outerOb e k u o = some L) : encO o = innerO (e, u.sz, k) (L.map (encP u)) := by
  unfold outerOb at h
  split at h
  · rename_i e' t xs
    obtain ⟨h1, h2⟩ := bif_eq h
    simp only [Bool.and_eq_true] at h1
    obtain ⟨e2, e3⟩ := cast?_some h2
    have e4 := Ty.list.inj e2
    subst e4
    have e5 : L = xs := e3
    subst e5
    have := Nat.eq_of_beq_eq_true h1.2
    subst this
    simp only [innerO, h1.1, if_true]
    rfl
  · rename_i e' k' t xs
    obtain ⟨h1, h2⟩ := bif_eq h
    simp only [Bool.and_eq_true, Bool.not_eq_true', decide_eq_true_eq] at h1
    obtain ⟨e2, e3⟩ := cast?_some h2
    have e4 := Ty.list.inj e2
    subst e4
    have e5 : L = xs := e3
    subst e5
    have := Nat.eq_of_beq_eq_true h1.1.2
    subst this
    obtain ⟨⟨h3, _⟩, rfl⟩ := h1
    simp only [innerO, h3, Bool.false_eq_true, if_false]
    rfl
  · cases h
theorem close_sound {m : Nat} {id : Nat} {s s' : S} (h : adj (.close id) s = some s') : Weak m (enc s) (enc s') ∧ ∀ A, Keeps A s s' := by
  simp only [adj] at h
  split at h
  · rename_i e kk t xs i j kid ho
    cases hb : Nat.beq kid id
    · rw [hb] at h
      simp only [cond_false] at h
      split at h
      · rename_i e' sz' k' o u hat hkid hel
        split at h
        · rename_i L hL
          obtain ⟨h1, h2⟩ := bif_eq h
          obtain ⟨x, hx, h3⟩ := bind_eq h2
          split at h3
          · rename_i y hy
            cases h3
            have hsz := Nat.eq_of_beq_eq_true h1
            have hne : kid ≠ id := fun e => by rw [e, Nat.beq_refl] at hb; cases hb
            obtain ⟨p1, p2, p3⟩ := setPart_cells t j (.list u) x L y hy
            have hj : j < (encP t x).cells.length := by
              have : (encP t x).cells.length = t.sz := cellsP_len t x
              rw [this]; simp only [Ty.sz] at p1; omega
            refine ⟨?_, fun A => Keeps.map A s _ (V.kill1 kid) (fun v hv => by cases v <;> first | rfl | cases hv) rfl⟩
            have hin := outer_inner hL
            have hw := weak_close (m := m) (st := enc s) (id := id) (kid := kid) (i := i) (j := j) (k := kk) (x := encP t x) (q := (e', sz', k')) (L := L.map (encP u)) (by rw [hp_get, ho]; rfl) (by rw [List.getElem?_map, hx]; rfl) hj hat (by rw [hp_get, hkid, hsz, ← hin]; rfl) hne
            have hyc : (encP t x).setc j (lst sz' (L.map (encP u))) = encP t y := by
              have hc1 := setc_cells (x := encP t x) (y := lst sz' (L.map (encP u))) hj (lst_cells _ _)
              have hl : cellsP (.list u) L = [lst sz' (L.map (encP u))] := by rw [hsz]; exact (list_ok u L).1
              have hc2 : cellsP t y = (cellsP t x).set j (lst sz' (L.map (encP u))) := by
                rw [p2, hl]
                apply List.ext_getElem?
                intro q
                rw [splice_get _ _ _ (by simp only [List.length_cons, List.length_nil]; show j + 1 ≤ (encP t x).cells.length; omega)]
                by_cases hq : q = j
                · subst hq
                  rw [if_pos (by simp), List.getElem?_set_self hj]
                  simp
                · rw [if_neg (by simp; omega), List.getElem?_set_ne (Ne.symm hq)]
              cases hag : t.ag
              · have h6 : (encP t x).isAgg = false := by rw [encP_ag]; exact hag
                have h7 : j = 0 := by
                  have : (encP t x).cells.length = t.sz := cellsP_len t x
                  rw [this, sz_one hag] at hj; omega
                subst h7
                have h8 : (encP t x).setc 0 (lst sz' (L.map (encP u))) = lst sz' (L.map (encP u)) := by
                  cases hq : encP t x <;> first | rfl | (rw [hq] at h6; cases h6)
                rw [h8]
                have h9 := hc2
                rw [encP_one y hag, encP_one x hag] at h9
                simp at h9
                exact h9.symm
              · rw [encP_agg x hag, encP_agg y hag]
                show PV.agg ((cellsP t x).set j _) = PV.agg (cellsP t y)
                rw [hc2]
            rw [hyc] at hw
            have he : enc ⟨(s.moved kid .gone).fr, setAt (s.moved kid .gone).hp id (.tree e kk t (xs.set i y) none)⟩ = ⟨(enc s).fr.map fun x => (x.1, x.2.kill kid), (((enc s).hp.map (AObj.kill kid)).set kid .gone).set id (.tree e t.sz kk ((xs.map (encP t)).set i (encP t y)) none)⟩ := by
              rw [enc_setO, enc_moved]
              simp only [St.moved]
              congr 2
              show AObj.tree e t.sz kk _ _ = _
              rw [List.map_set]; rfl
            rw [he]
            exact hw
          · cases h3
        · cases h
      · cases h
    · rw [hb] at h; cases h
  · cases h
theorem adj_sound {m : Nat} {l : Adj} {s s' : S} (hw : l.wfB m = true) (h : adj l s = some s') : Weak m (enc s) (enc s') ∧ ∀ A, Keeps A s s' := by
  cases l with
  | freeze id =>
    simp only [adj] at h
    split at h
    · rename_i e t xs ho
      cases h
      refine ⟨weak_freeze ho (by rw [slP, hp_get, ho]; rfl) rfl, fun A => Keeps.map A s _ (frz id t xs) (fun v hv => isD_frz hv) rfl⟩
    · rename_i e k t xs ho
      cases h
      refine ⟨weak_freeze ho (by rw [slP, hp_get, ho]; rfl) rfl, fun A => Keeps.map A s _ (frz id t xs) (fun v hv => isD_frz hv) rfl⟩
    · cases h
  | focus id k j u => exact focus_sound h
  | close id => exact close_sound h
  | adopt k e t =>
    simp only [adj] at h
    split at h
    · rename_i u hk
      cases h
      refine ⟨weak_adopt (empt_vec e t) hk, fun A j _ => ?_⟩
      simp only [lk, beq_eq]
      by_cases hj : j = k
      · subst hj
        rw [decide_eq_true rfl, hk]
        exact ⟨fun v hv hd => (by cases hv; cases hd), fun hn => (by cases hn)⟩
      · rw [decide_eq_false hj]
        exact ⟨fun _ h _ => .inl h, fun h => h⟩
    · cases h
  | adoptC id j e t =>
    simp only [adj] at h
    split at h
    · rename_i u cs ho
      split at h
      · rename_i t' hj
        cases h
        exact ⟨weak_adoptC (empt_vec e t) ho hj, fun A => Keeps.fr rfl⟩
      · cases h
    · cases h
  | adoptT k e kk t =>
    simp only [adj] at h
    split at h
    · rename_i u hk
      cases h
      refine ⟨weak_adopt (empt_tree e kk t) hk, fun A j _ => ?_⟩
      simp only [lk, beq_eq]
      by_cases hj : j = k
      · subst hj
        rw [decide_eq_true rfl, hk]
        exact ⟨fun v hv hd => (by cases hv; cases hd), fun hn => (by cases hn)⟩
      · rw [decide_eq_false hj]
        exact ⟨fun _ h _ => .inl h, fun h => h⟩
    · cases h
  | adoptCT id j e kk t =>
    simp only [adj] at h
    split at h
    · rename_i u cs ho
      split at h
      · rename_i t' hj
        cases h
        exact ⟨weak_adoptC (empt_tree e kk t) ho hj, fun A => Keeps.fr rfl⟩
      · cases h
    · cases h
  | sel ids ks =>
    simp only [adj] at h
    split at h
    · rename_i os fr hos hfr
      obtain ⟨h1, h2⟩ := bif_eq h
      cases h2
      simp only [Bool.and_eq_true, decide_eq_true_eq, List.all_eq_true] at h1
      obtain ⟨⟨hnd, hoi⟩, hfi⟩ := h1
      simp only [Adj.wfB, List.all_eq_true, List.mem_range] at hw
      obtain ⟨q1, q2⟩ := mapM_get hos
      refine ⟨weak_sel ids hnd (fun k hk => ?_) (fun k y hk => ?_) (by simp [enc, q1]) fun j o' hj => ?_, fun A => Keeps.of_map (mapV (V.ren (idx ids))) (fun v hv => isD_ren hv) fun k => ?_⟩
      · have := hw k hk
        split at this
        · rename_i i hi
          rw [hi, Nat.eq_of_beq_eq_true this]
        · cases this
      · have hk' : Av.look ((fr.map fun x => (x.1, mapV (V.ren (idx ids)) x.2)).map fun x => (x.1, encA x.2)) k = some y := hk
        rw [lk_look, lk_map] at hk'
        obtain ⟨v1, e1, rfl⟩ := Option.map_eq_some_iff.1 hk'
        obtain ⟨v2, e2, rfl⟩ := Option.map_eq_some_iff.1 e1
        refine ⟨encA v2, ?_, fun i hi => ?_, encA_ren _ v2⟩
        · show Av.look (s.fr.map fun x => (x.1, encA x.2)) k = _
          rw [lk_look]
          rcases lk_sel hfr k with e3 | e3
          · rw [← e3, e2]; rfl
          · rw [e3] at e2; cases e2
        · rw [← encA_ids] at hi
          exact allIn_mem.1 (hfi _ (lk_mem e2)) i hi
      · have hj' : ((os.map (mapO (V.ren (idx ids)))).map encO)[j]? = some o' := hj
        simp only [List.getElem?_map, Option.map_eq_some_iff] at hj'
        obtain ⟨_, ⟨o, ho, rfl⟩, rfl⟩ := hj'
        obtain ⟨i, e1, e2⟩ := q2 j o ho
        refine ⟨i, encO o, e1, by rw [hp_get, e2]; rfl, fun p hp => ?_, encO_ren _ o⟩
        rw [← encO_ids] at hp
        exact allIn_mem.1 (hoi o (List.mem_of_getElem? ho)) p hp
      · show lk (fr.map fun x => (x.1, mapV (V.ren (idx ids)) x.2)) k = _ ∨ lk (fr.map fun x => (x.1, mapV (V.ren (idx ids)) x.2)) k = none
        rw [lk_map]
        rcases lk_sel hfr k with e3 | e3
        · exact .inl (by rw [e3])
        · exact .inr (by rw [e3]; rfl)
    · cases h
  | drop ks =>
    simp only [adj, Option.some.injEq] at h
    subst h
    have hlk : ∀ (fr : List (Nat × V)) (k : Nat), lk (fr.filter fun x => !inL ks x.1) k = lk fr k ∨ lk (fr.filter fun x => !inL ks x.1) k = none := by
      intro fr k
      induction fr with
      | nil => exact .inl rfl
      | cons x fr ih =>
        obtain ⟨j, v⟩ := x
        simp only [List.filter_cons]
        cases hin : inL ks j
        · simp only [Bool.not_false, if_true, lk, beq_eq]
          by_cases hk : k = j
          · subst hk; rw [decide_eq_true rfl]; exact .inl rfl
          · rw [decide_eq_false hk]; exact ih
        · simp only [Bool.not_true, Bool.false_eq_true, if_false, lk, beq_eq]
          by_cases hk : k = j
          · subst hk
            right
            have : ∀ (l : List (Nat × V)), lk (l.filter fun x => !inL ks x.1) k = none := by
              intro l
              induction l with
              | nil => rfl
              | cons y l ihl =>
                obtain ⟨i, u⟩ := y
                simp only [List.filter_cons]
                cases hi : inL ks i
                · simp only [Bool.not_false, if_true, lk, beq_eq]
                  by_cases hki : k = i
                  · subst hki; rw [hin] at hi; cases hi
                  · rw [decide_eq_false hki]; exact ihl
                · simp only [Bool.not_true, Bool.false_eq_true, if_false]; exact ihl
            exact this fr
          · rw [decide_eq_false hk]; exact ih
    refine ⟨(LeS.frame (fr := s.fr.map fun x => (x.1, encA x.2)) (fr' := (s.fr.filter fun x => !inL ks x.1).map fun x => (x.1, encA x.2)) fun k y hk => ?_).weak, fun A => Keeps.of_map (fun v => v) (fun _ _ => rfl) fun k => ?_⟩
    · rw [lk_look] at hk ⊢
      rcases hlk s.fr k with e | e
      · rw [← e]; exact hk
      · rw [e] at hk; cases hk
    · rcases hlk s.fr k with e | e
      · exact .inl (by show lk (s.fr.filter _) k = _; rw [e]; simp)
      · exact .inr e
theorem adjK_eq {R : Type} {a : Adj} {s : S} {κ : S → Option R} {r : R} (h : adjK a s κ = some r) : ∃ s', adj a s = some s' ∧ κ s' = some r := by
  cases a with
  | focus id k j u =>
    simp only [adjK] at h
    split at h
    · rename_i kk n e k0 t xs hk ho
      split at h
      · rename_i e' sz' k' hat
        obtain ⟨h1, h2⟩ := bif_eq h
        obtain ⟨h3, h4⟩ := guardB_eq h2
        obtain ⟨x, hx, h5⟩ := bind_eq h4
        split at h5
        · rename_i L hL
          refine ⟨_, ?_, h5⟩
          simp only [adj, hk, ho, hat, h1, h3, Bool.and_self, cond_true, hx, Option.bind_some, hL]
        · cases h5
      · cases h
    · cases h
  | close id =>
    simp only [adjK] at h
    split at h
    · rename_i e kk t xs i j kid ho
      cases hb : Nat.beq kid id
      · rw [hb] at h
        simp only [cond_false] at h
        split at h
        · rename_i e' sz' k' o u hat hkid hel
          split at h
          · rename_i L hL
            obtain ⟨h1, h2⟩ := bif_eq h
            obtain ⟨x, hx, h3⟩ := bind_eq h2
            split at h3
            · rename_i y hy
              refine ⟨_, ?_, h3⟩
              simp only [adj, ho, hb, cond_false, hat, hkid, hel, hL, h1, cond_true, hx, Option.bind_some, hy]
            · cases h3
          · cases h
        · cases h
      · rw [hb] at h; cases h
    · cases h
  | _ =>
    simp only [adjK] at h
    split at h
    · rename_i s1 h1; exact ⟨s1, h1, h⟩
    · cases h
theorem adjsK_eq {R : Type} : ∀ {l : List Adj} {s : S} {κ : S → Option R} {r : R}, adjsK l s κ = some r → ∃ s', adjs l s = some s' ∧ κ s' = some r
  | [], s, κ, r, h => ⟨s, rfl, h⟩
  | a :: l, s, κ, r, h => by
    obtain ⟨s1, h1, h2⟩ := adjK_eq h
    obtain ⟨s2, h3, h4⟩ := adjsK_eq h2
    exact ⟨s2, by simp only [adjs, h1]; exact h3, h4⟩
theorem adjs_sound {m : Nat} : ∀ {l : List Adj} {s s' : S}, adjsWf m l = true → adjs l s = some s' → Weak m (enc s) (enc s') ∧ ∀ A, Keeps A s s'
  | [], s, s', _, h => by cases h; exact ⟨Weak.refl _ _, fun A => Keeps.refl A s⟩
  | a :: l, s, s', hw, h => by
    simp only [adjsWf, List.all_cons, Bool.and_eq_true] at hw
    simp only [adjs] at h
    split at h
    · rename_i s1 h1
      obtain ⟨e1, e2⟩ := adj_sound hw.1 h1
      obtain ⟨e3, e4⟩ := adjs_sound hw.2 h
      exact ⟨e1.trans e3, fun A => (e2 A).trans (e4 A)⟩
    · cases h
end Go.Ev
namespace Go.Ev
open Go Go.RowKit Go.Av
structure Ext (a b : St) : Prop where
  hp : a.hp = b.hp
  fr : ∀ k y, Av.look b.fr k = some y → Av.look a.fr k = some y
theorem Ext.refl (a : St) : Ext a a := ⟨rfl, fun _ _ h => h⟩
theorem Ext.weak {m : Nat} {a b : St} (h : Ext a b) : Weak m a b := by
  obtain ⟨af, ah⟩ := a
  obtain ⟨bf, bh⟩ := b
  obtain ⟨h1, h2⟩ := h
  cases h1
  exact (LeS.frame h2).weak
theorem Ext.put {a b : St} (h : Ext a b) (d : Option Nat) (x : AV) : Ext (a.putO d x) (b.putO d x) := by
  refine ⟨by cases d <;> exact h.hp, fun k y hk => ?_⟩
  rw [look_putO] at hk ⊢
  by_cases hd : d = some k
  · rw [if_pos hd] at hk ⊢; exact hk
  · rw [if_neg hd] at hk ⊢; exact h.fr k y hk
theorem Ext.get {a b : St} (h : Ext a b) {x : SX} {y : AV} (hx : b.get x = some y) : a.get x = some y := by
  cases x <;> simp only [St.get] at hx ⊢
  · exact h.fr _ _ hx
  all_goals exact hx
theorem mapM_ext {α β : Type} {f g : α → Option β} (h : ∀ x y, f x = some y → g x = some y) : ∀ {l : List α} {m : List β}, l.mapM f = some m → l.mapM g = some m
  | [], m, hm => hm
  | x :: l, m, hm => by
    simp only [List.mapM_cons, Option.bind_eq_bind, Option.pure_def, Option.bind_eq_some_iff, Option.some.injEq] at hm ⊢
    obtain ⟨z, h1, m', h2, rfl⟩ := hm
    exact ⟨z, h _ _ h1, m', mapM_ext h h2, rfl⟩
theorem Ext.bind {a b : St} (h : Ext a b) {x : SX} {K : AV → Prop} (hx : bindA (b.get x) K) : bindA (a.get x) K := let ⟨y, h1, h2⟩ := hx; ⟨y, h.get h1, h2⟩
theorem Ext.bnd {a b : St} (h : Ext a b) {x : Option SX} {d : Nat} {K : Nat → Prop} (hx : bnd b x d K) : bnd a x d K := by
  cases x with
  | none => exact hx
  | some x => exact h.bind hx
theorem Ext.bindM {a b : St} {α β : Type} {f : St → α → Option β} (hf : ∀ x y, f b x = some y → f a x = some y) {l : List α} {K : List β → Prop} (hx : bindA (l.mapM (f b)) K) : bindA (l.mapM (f a)) K := let ⟨y, h1, h2⟩ := hx; ⟨y, mapM_ext hf h1, h2⟩
theorem sev_ext {P : Program} {a b : St} (h : Ext a b) {op : SOp} {K : AV → Prop} (hs : sev P b op K) : sev P a op K := by
  have hh := h.hp
  have getB : ∀ {β : Type} (g : AV → Option β) (x : SX) (y : β), (b.get x).bind g = some y → (a.get x).bind g = some y := fun g x y hx => by
    obtain ⟨u, h1, h2⟩ := Option.bind_eq_some_iff.1 hx
    rw [h.get h1]; exact h2
  cases op <;> simp only [sev] at hs ⊢ <;> try rw [hh]
  case mv => exact h.bind hs
  case pick => exact bindA_mono (h.bind hs) fun _ h1 => isV_mono h1 fun _ h2 => isBool_mono h2 fun _ h3 => ⟨fun e => h.bind (h3.1 e), fun e => h.bind (h3.2 e)⟩
  case bin => exact bindA_mono (h.bind hs) fun _ h1 => h.bind h1
  case eqB => exact bindA_mono (h.bind hs) fun _ h1 => h.bind h1
  case un => exact h.bind hs
  case len => exact h.bind hs
  case lenM => exact h.bind hs
  case idxS => exact bindA_mono (h.bind hs) fun _ h1 => h.bind h1
  case idxV => exact bindA_mono (h.bind hs) fun _ h1 => h.bind h1
  case idxA => exact bindA_mono (h.bind hs) fun _ h1 => h.bind h1
  case idxP => exact bindA_mono (h.bind hs) fun _ h1 => h.bind h1
  case fldA => exact h.bind hs
  case fld => exact h.bind hs
  case load => exact h.bind hs
  case cvtI => exact h.bind hs
  case slc =>
    exact bindA_mono (h.bind hs) fun _ h1 => bindA_mono h1 fun _ ⟨L, h2, h3⟩ => ⟨L, h2, bnd_mono (h.bnd h3) fun _ h4 => bnd_mono (h.bnd h4) fun _ h5 => h.bnd h5⟩
  case slcS => exact bindA_mono (h.bind hs) fun _ h1 => isV_mono h1 fun _ h1 => isStr_mono h1 fun _ h1 => bnd_mono (h.bnd h1) fun _ h1 => h.bnd h1
  case ext => exact h.bind hs
  case nilc => exact h.bind hs
  case build => exact Ext.bindM (f := fun st (q : Nat × Nat × SX) => (st.get q.2.2).map fun a => (q.1, q.2.1, a)) (fun q y hq => by
      obtain ⟨u, h1, h2⟩ := Option.map_eq_some_iff.1 hq
      rw [h.get h1, ← h2]; rfl) hs
  case call => exact Ext.bindM (f := fun st x => (St.get st x).bind (argPV b.hp _)) (fun q y hq => getB _ q y hq) hs
  case callp => exact bindA_mono (h.bind hs) fun _ ⟨f, cs, h1, h2, h3⟩ => ⟨f, cs, h1, h2, Ext.bindM (f := fun st x => (St.get st x).bind (argPV b.hp _)) (fun q y hq => getB _ q y hq) h3⟩
  case boxD => exact h.bind hs
  case b2s => exact h.bind hs
  case bslice own e sz len ps =>
    cases own
    · exact Ext.bindM (f := fun st x => (St.get st x).bind AV.toPV) (fun q y hq => getB _ q y hq) hs
    · exact hs
  case bsliceN => exact Ext.bindM (f := fun st x => (St.get st x).bind AV.toPVn) (fun q y hq => getB _ q y hq) hs
  case mkfn => exact Ext.bindM (f := fun st x => St.get st x) (fun q y hq => h.get hq) hs
  case lookup => exact bindA_mono (h.bind hs) fun _ h1 => h.bind h1
  case eqT => exact bindA_mono (h.bind hs) fun _ h1 => h.bind h1
  case appD => exact bindA_mono (h.bind hs) fun _ h1 => h.bind h1
  case mnmx => exact bindA_mono (h.bind hs) fun _ h1 => isV_mono h1 fun _ h1 => isInt_mono h1 fun _ _ h1 => Ext.bindM (f := fun st x => St.get st x) (fun q y hq => h.get hq) h1
  case iface => exact h.bind hs
inductive Sys (P : Program) : List SOper → St → St → Prop
  | nil (st : St) : Sys P [] st st
  | cons (o : SOper) (l : List SOper) (st st' : St) (x : AV) (h : syield P o st x) (k : Sys P l (st.putO o.dst x) st') : Sys P (o :: l) st st'
theorem Sys.app {P : Program} {l l' : List SOper} {a b c : St} (h : Sys P l a b) (k : Sys P l' b c) : Sys P (l ++ l') a c := by
  induction h with
  | nil => exact k
  | cons o l st st' x h _ ih => exact .cons o _ st c x h (ih k)
theorem Sys.sops {P : Program} {m : Nat} {l L : List SOper} {a b : St} {K KP : St → Prop} (h : Sys P l a b) (k : sops P m L b K KP) : sops P m (l ++ L) a K KP := by
  induction h with
  | nil => exact k
  | cons o l st st' x h _ ih => exact W.mk (sstep_of_syield h (ih k))
theorem Sys.sdraw {P : Program} {m n : Nat} {l L : List SOper} {a b : St} {K KP : St → Prop} (h : Sys P l a b) (k : sdraw P m n L b K KP) : sdraw P m (l.length + n) (l ++ L) a K KP := by
  induction h with
  | nil => rw [List.length_nil, Nat.zero_add]; exact k
  | cons o l st st' x h _ ih =>
    rw [show (o :: l).length + n = (l.length + n) + 1 by simp only [List.length_cons]; omega]
    exact ⟨x, h, ih k⟩
theorem sops_weak {P : Program} {m : Nat} {l : List SOper} {a b : St} {K KP : St → Prop} (h : Weak m a b) (k : sops P m l b K KP) : sops P m l a K KP := by
  cases l with
  | nil => exact W.from h k
  | cons o l => exact W.from h k
def RC.offB : List Nat → RC → Bool
  | _, .nil => true
  | A, .op d _ rest => rest.offB (dstL d ++ A)
  | _, .adj _ _ => false
  | A, .gb t _ blk ty _ _ dst rest => inL A t && !inL blk.asg t && ty.sc && blk.offB A && rest.offB (dst :: (blk.asg ++ A))
def RC.gbB : RC → Bool
  | .nil => true
  | .op _ _ rest => rest.gbB
  | .adj _ rest => rest.gbB
  | .gb _ _ blk ty _ _ _ rest => ty.sc && blk.offB [] && blk.gbB && rest.gbB
def Off (st : St) (g : Nat × Bool) : Prop := ∃ v, Av.look st.fr g.1 = some (.v v) ∧ yv v ≠ some g.2
theorem syield_off {P : Program} {st : St} {g : Nat × Bool} (h : Off st g) (d : Option Nat) (op : SOp) : syield P ⟨d, op, some g⟩ st (.v undef) := by
  obtain ⟨v, h1, h2⟩ := h
  exact ⟨_, h1, v, rfl, fun e => absurd e h2, fun _ => rfl⟩
theorem asg_dst (d : Option Nat) : (match d with | some d => [d] | none => []) = dstL d := by cases d <;> rfl
theorem off_sys {P : Program} : ∀ (rc : RC) (g : Nat × Bool) (A : List Nat) (st : St), rc.offB A = true → Off st g → (∀ k ∈ A, Av.look st.fr k = some (.v undef)) → g.1 ∉ rc.asg →
    ∃ st', Sys P (rc.er (some g)) st st' ∧ st'.hp = st.hp ∧ (∀ k, k ∉ rc.asg → Av.look st'.fr k = Av.look st.fr k) ∧ ∀ k, (k ∈ rc.asg ∨ k ∈ A) → Av.look st'.fr k = some (.v undef)
  | .nil, g, A, st, _, _, hA, _ => ⟨st, .nil st, rfl, fun _ _ => rfl, fun k hk => hA k (hk.resolve_left (by simp [RC.asg]))⟩
  | .op d o rest, g, A, st, hw, hg, hA, hd => by
    simp only [RC.offB] at hw
    simp only [RC.asg, asg_dst, List.mem_append, not_or] at hd
    have hlk : ∀ k, Av.look (st.putO d (.v undef)).fr k = if d = some k then some (.v undef) else Av.look st.fr k := fun k => look_putO st d _ k
    have hmem : ∀ k, d = some k ↔ k ∈ dstL d := fun k => by
      cases d with
      | none => simp [dstL]
      | some j => simp only [dstL, Option.some.injEq, List.mem_singleton]; exact eq_comm
    obtain ⟨st', h1, h2, h3, h4⟩ := off_sys rest g (dstL d ++ A) (st.putO d (.v undef)) hw (by
      obtain ⟨v, e1, e2⟩ := hg
      refine ⟨v, ?_, e2⟩
      rw [hlk, if_neg fun e => hd.1 ((hmem _).1 e)]; exact e1) (fun k hk => by
      rw [hlk]
      by_cases hdk : d = some k
      · rw [if_pos hdk]
      · rw [if_neg hdk]
        exact hA k ((List.mem_append.1 hk).resolve_left fun e => hdk ((hmem k).2 e))) hd.2
    refine ⟨st', .cons _ _ st st' (.v undef) (syield_off hg d o.er) h1, by rw [h2]; cases d <;> rfl, fun k hk => ?_, fun k hk => ?_⟩
    · simp only [RC.asg, asg_dst, List.mem_append, not_or] at hk
      rw [h3 k hk.2, hlk, if_neg fun e => hk.1 ((hmem _).1 e)]
    · simp only [RC.asg, asg_dst, List.mem_append] at hk
      refine h4 k ?_
      simp only [List.mem_append]
      rcases hk with (hk | hk) | hk
      · exact .inr (.inl hk)
      · exact .inl hk
      · exact .inr (.inr hk)
  | .adj _ _, _, _, _, hw, _, _, _ => by cases hw
  | .gb t want blk ty r alt dst rest, g, A, st, hw, hg, hA, hd => by
    simp only [RC.offB, Bool.and_eq_true, Bool.not_eq_true'] at hw
    obtain ⟨⟨⟨⟨w1, w2⟩, w3⟩, w4⟩, w5⟩ := hw
    have ht : t ∈ A := inL_mem.1 w1
    have ht2 : t ∉ blk.asg := fun e => by rw [inL_mem.2 e] at w2; cases w2
    simp only [RC.asg, List.mem_append, List.mem_cons, not_or] at hd
    obtain ⟨st1, h1, h2, h3, h4⟩ := off_sys blk (t, want) A st w4 ⟨undef, hA t ht, by intro e; cases e⟩ hA ht2
    have hg1 : Off st1 g := by
      obtain ⟨v, e1, e2⟩ := hg
      exact ⟨v, by rw [h3 _ hd.1]; exact e1, e2⟩
    have hlk : ∀ k, Av.look (st1.putO (some dst) (.v undef)).fr k = if some dst = some k then some (.v undef) else Av.look st1.fr k := fun k => look_putO st1 (some dst) _ k
    obtain ⟨st', k1, k2, k3, k4⟩ := off_sys rest g (dst :: (blk.asg ++ A)) (st1.putO (some dst) (.v undef)) w5 (by
      obtain ⟨v, e1, e2⟩ := hg1
      refine ⟨v, ?_, e2⟩
      rw [hlk, if_neg fun e => hd.2.1 (Option.some.inj e).symm]; exact e1) (fun k hk => by
      rw [hlk]
      by_cases hdk : some dst = some k
      · rw [if_pos hdk]
      · rw [if_neg hdk]
        refine h4 k ?_
        rcases List.mem_cons.1 hk with rfl | hk
        · exact absurd rfl hdk
        · exact (List.mem_append.1 hk)) hd.2.2
    refine ⟨st', h1.app (.cons _ _ _ st' (.v undef) (syield_off hg1 _ _) k1), by rw [k2]; exact h2, fun k hk => ?_, fun k hk => ?_⟩
    · simp only [RC.asg, List.mem_append, List.mem_cons, not_or] at hk
      rw [k3 k hk.2.2, hlk, if_neg fun e => hk.2.1 (Option.some.inj e).symm, h3 k hk.1]
    · simp only [RC.asg, List.mem_append, List.mem_cons] at hk
      refine k4 k ?_
      simp only [List.mem_append, List.mem_cons]
      rcases hk with (hk | rfl | hk) | hk
      · exact .inr (.inr (.inl hk))
      · exact .inr (.inl rfl)
      · exact .inl hk
      · exact .inr (.inr (.inr hk))
theorem data_sc {t : Ty} {v : V} {x : t.den} (ht : t.sc = true) (h : data? t v = some x) : v = .d t x := by
  cases v with
  | d u y => obtain ⟨rfl, rfl⟩ := cast?_some (show cast? u t y = some x from h); rfl
  | nil u => obtain ⟨rfl, _⟩ := cast?_some (show cast? (.list u) t [] = some x from h); cases ht
  | full u y => obtain ⟨rfl, _⟩ := cast?_some (show cast? (.list u) t y = some x from h); cases ht
  | agg vs => unfold data? at h; cases t <;> first | (cases ht; done) | cases h
  | _ => simp [data?, leaf?] at h
section
variable {P : Program} {O : Oracle}
def GOn (g : Option (Nat × Bool)) (s : S) (A : List Nat) : Prop := match g with
  | none => True
  | some (t, want) => lk s.fr t = some (.d .bool want) ∧ t ∉ A
theorem look_enc (s : S) (k : Nat) : Av.look (enc s).fr k = (lk s.fr k).map encA := lk_look s.fr k
theorem syield_on {g : Option (Nat × Bool)} {s : S} {A : List Nat} {st : St} (hg : GOn g s A) (he : Ext st (enc s)) {d : Option Nat} {op : SOp} {x : AV} (h : sev P st op fun y => y = x) : syield P ⟨d, op, g⟩ st x := by
  cases g with
  | none => exact h
  | some g =>
    obtain ⟨t, want⟩ := g
    have : Av.look st.fr t = some (.v (.bool want)) := he.fr t _ (by rw [look_enc, hg.1]; rfl)
    exact ⟨_, this, _, rfl, fun _ => h, fun e => absurd rfl e⟩
theorem lk_put (s : S) (d : Option Nat) (v : V) (k : Nat) : lk (s.putO d v).fr k = if d = some k then some v else lk s.fr k := by
  cases d with
  | none => simp [S.putO]
  | some j =>
    show (bif Nat.beq k j then some v else lk s.fr k) = _
    rw [beq_eq]
    by_cases h : k = j
    · subst h; simp
    · rw [decide_eq_false h, if_neg fun e => h (Option.some.inj e).symm]; rfl
theorem mem_dstL {d : Option Nat} {k : Nat} : d = some k ↔ k ∈ dstL d := by
  cases d with
  | none => simp [dstL]
  | some j => simp only [dstL, Option.some.injEq, List.mem_singleton]; exact eq_comm
theorem on_sys (hO : OracleOk P O) : ∀ (rc : RC) (R : Type) (s : S) (κ kp : S → Option R) (r : R) (g : Option (Nat × Bool)) (st : St), rc.wf P = true → rc.pureB = true → rc.gbB = true → evR O R rc s κ kp = some r → Ext st (enc s) → GOn g s rc.asg →
    ∃ s' st', Sys P (rc.er g) st st' ∧ Ext st' (enc s') ∧ κ s' = some r ∧ s'.hp = s.hp ∧ ∀ k, k ∉ rc.asg → lk s'.fr k = lk s.fr k
  | .nil, R, s, κ, kp, r, g, st, _, _, _, h, he, _ => ⟨s, st, .nil st, he, h, rfl, fun _ _ => rfl⟩
  | .adj _ _, _, _, _, _, _, _, _, _, hp, _, _, _, _ => by cases hp
  | .op d o rest, R, s, κ, kp, r, g, st, hw, hp, hb, h, he, hg => by
    simp only [RC.wf, Bool.and_eq_true] at hw
    simp only [RC.pureB, Bool.and_eq_true] at hp
    simp only [RC.gbB] at hb
    obtain ⟨v, h1, h2⟩ := evOp_pure hO hw.1 hp.1 h
    obtain ⟨s', st', k1, k2, k3, k4, k5⟩ := on_sys hO rest R (s.putO d v) κ kp r g (st.putO d (encA v)) hw.2 hp.2 hb h2 (by rw [enc_put]; exact he.put d _) (by
      cases g with
      | none => trivial
      | some g =>
        obtain ⟨t, want⟩ := g
        obtain ⟨g1, g2⟩ := hg
        simp only [RC.asg, asg_dst, List.mem_append, not_or] at g2
        exact ⟨by rw [lk_put, if_neg fun e => g2.1 (mem_dstL.1 e)]; exact g1, g2.2⟩)
    refine ⟨s', st', .cons _ _ st st' _ (syield_on hg he (sev_ext he h1)) k1, k2, k3, by rw [k4]; cases d <;> rfl, fun k hk => ?_⟩
    simp only [RC.asg, asg_dst, List.mem_append, not_or] at hk
    rw [k5 k hk.2, lk_put, if_neg fun e => hk.1 (mem_dstL.1 e)]
  | .gb t want blk ty rr alt dst rest, R, s, κ, kp, r, g, st, hw, hp, hb, h, he, hg => by
    simp only [RC.wf, Bool.and_eq_true] at hw
    obtain ⟨⟨⟨⟨w1, w2⟩, w3⟩, w4⟩, w5⟩ := hw
    simp only [RC.pureB, Bool.and_eq_true] at hp
    simp only [RC.gbB, Bool.and_eq_true] at hb
    obtain ⟨⟨⟨b1, b2⟩, b3⟩, b4⟩ := hb
    simp only [evR] at h
    split at h
    · rename_i b va hlt halt
      split at h
      · rename_i av hav
        obtain ⟨hnone, hav⟩ := bif_eq hav
        have hva := data_sc b1 hav
        subst hva
        simp only [List.all_eq_true, Option.isNone_iff_eq_none] at hnone
        have ht : t ∉ blk.asg := fun e => by rw [hnone t e] at hlt; cases hlt
        obtain ⟨c, hc, h2⟩ := bind_eq h
        have hgt : Av.look st.fr t = some (.v (.bool b)) := he.fr t _ (by rw [look_enc, hlt]; rfl)
        have blkS : ∃ st1, Sys P (blk.er (some (t, want))) st st1 ∧ st1.hp = st.hp ∧ (∀ k, lk s.fr k ≠ none → ∀ y, Av.look (enc s).fr k = some y → Av.look st1.fr k = some y) ∧
            sev P st1 (pickO t want rr.er alt.er) fun y => y = encA (.d ty c) := by
          have pickS : ∀ (st1 : St) (x y : SX), Av.look st1.fr t = some (.v (.bool b)) → (b = true → st1.get x = some (encA (.d ty c))) → (b = false → st1.get y = some (encA (.d ty c))) → sev P st1 (.pick (.tm t) x y) fun y => y = encA (.d ty c) :=
            fun st1 x y e1 e2 e3 => ⟨_, e1, _, rfl, b, rfl, fun e => ⟨_, e2 e, rfl⟩, fun e => ⟨_, e3 e, rfl⟩⟩
          have on : b = want → evR O ty.den blk s (fun s' => match s'.get rr with | some v => data? ty v | none => none) (fun _ => none) = some c → (∃ st1, Sys P (blk.er (some (t, want))) st st1 ∧ st1.hp = st.hp ∧ (∀ k, lk s.fr k ≠ none → ∀ y, Av.look (enc s).fr k = some y → Av.look st1.fr k = some y) ∧
            sev P st1 (pickO t want rr.er alt.er) fun y => y = encA (.d ty c)) := fun hbw hev => by
            obtain ⟨s1, st1, k1, k2, k3, k4, k5⟩ := on_sys hO blk ty.den s _ _ c (some (t, want)) st w1 w2 b3 hev he ⟨by rw [← hbw]; exact hlt, ht⟩
            split at k3
            · rename_i v hv
              have := data_sc b1 k3
              subst this
              have e1 : Av.look st1.fr t = some (.v (.bool b)) := k2.fr t _ (by rw [look_enc, k5 t ht, hlt]; rfl)
              have e2 : st1.get rr.er = some (encA (.d ty c)) := k2.get (get_er w3 hv)
              refine ⟨st1, k1, by rw [k2.hp, he.hp]; simp only [enc, k4], fun k hk y hy => k2.fr k y ?_, ?_⟩
              · rw [look_enc, k5 k fun e => hk (hnone k e), ← look_enc]; exact hy
              · cases want with
                | true => exact pickS st1 _ _ e1 (fun _ => e2) fun e => by rw [hbw] at e; cases e
                | false => exact pickS st1 _ _ e1 (fun e => by rw [hbw] at e; cases e) fun _ => e2
            · cases k3
          have off : b ≠ want → av = c → (∃ st1, Sys P (blk.er (some (t, want))) st st1 ∧ st1.hp = st.hp ∧ (∀ k, lk s.fr k ≠ none → ∀ y, Av.look (enc s).fr k = some y → Av.look st1.fr k = some y) ∧
            sev P st1 (pickO t want rr.er alt.er) fun y => y = encA (.d ty c)) := fun hbw hac => by
            subst hac
            obtain ⟨st1, k1, k2, k3, _⟩ := off_sys (P := P) blk (t, want) [] st b2 ⟨_, hgt, fun e => hbw (Option.some.inj e)⟩ (fun k hk => by cases hk) ht
            have e1 : Av.look st1.fr t = some (.v (.bool b)) := by rw [k3 t ht]; exact hgt
            have keepk : ∀ k, lk s.fr k ≠ none → ∀ y, Av.look (enc s).fr k = some y → Av.look st1.fr k = some y := fun k hk y hy => by
              rw [k3 k fun e => hk (hnone k e)]; exact he.fr k y hy
            have e2 : st1.get alt.er = some (encA (.d ty av)) := by
              have := get_er w4 halt
              cases alt with
              | tm k =>
                have h0 : lk s.fr k = some (.d ty av) := halt
                exact keepk k (by rw [h0]; simp) _ this
              | _ => exact this
            refine ⟨st1, k1, k2, keepk, ?_⟩
            cases want with
            | true => exact pickS st1 _ _ e1 (fun e => absurd e hbw) fun _ => e2
            | false => exact pickS st1 _ _ e1 (fun _ => e2) fun e => absurd e hbw
          cases want with
          | true =>
            cases b with
            | true => exact on rfl hc
            | false => exact off (by simp) (Option.some.inj hc)
          | false =>
            cases b with
            | true => exact off (by simp) (Option.some.inj hc)
            | false => exact on rfl hc
        obtain ⟨st1, q1, q2, q3, q4⟩ := blkS
        have hgdst : ∀ t' want', g = some (t', want') → lk s.fr t' = some (.d .bool want') ∧ t' ∉ blk.asg ∧ t' ≠ dst ∧ t' ∉ rest.asg := fun t' want' e => by
          subst e
          obtain ⟨g1, g2⟩ := hg
          simp only [RC.asg, List.mem_append, List.mem_cons, not_or] at g2
          exact ⟨g1, g2.1, g2.2.1, g2.2.2⟩
        have hyd : syield P ⟨some dst, (pickO t want rr.er alt.er), g⟩ st1 (encA (.d ty c)) := by
          cases g with
          | none => exact q4
          | some g =>
            obtain ⟨t', want'⟩ := g
            obtain ⟨e1, _⟩ := hgdst t' want' rfl
            have : Av.look st1.fr t' = some (.v (.bool want')) := q3 t' (by rw [e1]; simp) _ (by rw [look_enc, e1]; rfl)
            exact ⟨_, this, _, rfl, fun _ => q4, fun e => absurd rfl e⟩
        have hext : Ext (st1.putO (some dst) (encA (.d ty c))) (enc (s.put dst (.d ty c))) := by
          refine ⟨by show st1.hp = (enc s).hp; rw [q2, he.hp], fun k y hk => ?_⟩
          rw [look_putO]
          rw [look_enc] at hk
          have e := lk_put s (some dst) (.d ty c) k
          rw [show s.putO (some dst) (.d ty c) = s.put dst (.d ty c) from rfl] at e
          rw [e] at hk
          by_cases hd : some dst = some k
          · rw [if_pos hd] at hk ⊢; exact hk
          · rw [if_neg hd] at hk ⊢
            refine q3 k (fun e0 => by rw [e0] at hk; cases hk) y ?_
            rw [look_enc]; exact hk
        have hlkp : ∀ k, lk (s.put dst (.d ty c)).fr k = if some dst = some k then some (.d ty c) else lk s.fr k := fun k => lk_put s (some dst) (.d ty c) k
        obtain ⟨s', st', k1, k2, k3, k4, k5⟩ := on_sys hO rest R (s.put dst (.d ty c)) κ kp r g _ w5 hp.2 b4 h2 hext (by
          cases g with
          | none => trivial
          | some g =>
            obtain ⟨t', want'⟩ := g
            obtain ⟨e1, e2, e3, e4⟩ := hgdst t' want' rfl
            exact ⟨by rw [hlkp, if_neg fun e => e3 (Option.some.inj e).symm]; exact e1, e4⟩)
        refine ⟨s', st', q1.app (.cons _ _ _ st' _ hyd k1), k2, k3, k4, fun k hk => ?_⟩
        simp only [RC.asg, List.mem_append, List.mem_cons, not_or] at hk
        rw [k5 k hk.2.2, hlkp, if_neg fun e => hk.2.1 (Option.some.inj e).symm]
      · cases h
    · cases h
def RC.adjW (m : Nat) : RC → Bool
  | .nil => true
  | .op _ _ rest => rest.adjW m
  | .adj l rest => adjsWf m l && rest.adjW m
  | .gb _ _ _ _ _ _ _ rest => rest.adjW m
theorem keeps_of_out {A : List Nat} {s s' : S} (h : ∀ k, k ∉ A → lk s'.fr k = lk s.fr k) : Keeps A s s' := fun k hk => by
  rw [h k hk]; exact ⟨fun _ h _ => .inl h, fun h => h⟩
theorem er_len : ∀ (rc : RC) (g g' : Option (Nat × Bool)), (rc.er g).length = (rc.er g').length
  | .nil, _, _ => rfl
  | .op d o rest, g, g' => by simp only [RC.er, List.length_cons, er_len rest g g']
  | .adj _ rest, g, g' => by simp only [RC.er, er_len rest g g']
  | .gb t want blk ty r alt dst rest, g, g' => by simp only [RC.er, List.length_append, List.length_cons, er_len rest g g']
theorem gb_sys (hO : OracleOk P O) {t : Nat} {want : Bool} {blk rest : RC} {ty : Ty} {rr alt : X} {dst : Nat} {R : Type} {s : S} {κ kp : S → Option R} {r : R} {st : St} (hw : (RC.gb t want blk ty rr alt dst rest).wf P = true) (hb : (RC.gb t want blk ty rr alt dst rest).gbB = true)
    (h : evR O R (.gb t want blk ty rr alt dst rest) s κ kp = some r) (he : Ext st (enc s)) : ∃ s' st', Sys P (blk.er (some (t, want)) ++ [⟨some dst, (pickO t want rr.er alt.er), none⟩]) st st' ∧
      Ext st' (enc s') ∧ evR O R rest s' κ kp = some r ∧ Keeps (blk.asg ++ [dst]) s s' := by
  simp only [RC.wf, Bool.and_eq_true] at hw
  simp only [RC.gbB, Bool.and_eq_true] at hb
  obtain ⟨s', st', k1, k2, k3, k4, k5⟩ := on_sys hO (.gb t want blk ty rr alt dst .nil) R s (fun s' => evR O R rest s' κ kp) kp r none st
    (by simp only [RC.wf, hw.1.1.1.1, hw.1.1.1.2, hw.1.1.2, hw.1.2]; rfl) (by simp only [RC.pureB, hw.1.1.1.2]; rfl) (by simp only [RC.gbB, hb.1.1.1, hb.1.1.2, hb.1.2]; rfl) h he trivial
  exact ⟨s', st', k1, k2, k3, keeps_of_out k5⟩
theorem evR_sound (hO : OracleOk P O) {m : Nat} : ∀ (rc : RC) (R : Type) (s : S) (κ kp : S → Option R) (r : R) (K KP : St → Prop), rc.wf P = true → rc.gbB = true → rc.adjW m = true → evR O R rc s κ kp = some r →
    (∀ s', Keeps rc.asg s s' → κ s' = some r → W m K (enc s')) → (∀ s', Keeps rc.asg s s' → kp s' = some r → KP (enc s')) → sops P m (rc.er none) (enc s) K KP
  | .nil, R, s, κ, kp, r, K, KP, _, _, _, h, hκ, _ => hκ s (Keeps.refl _ _) h
  | .adj l rest, R, s, κ, kp, r, K, KP, hw, hb, ha, h, hκ, hkp => by
    simp only [evR] at h
    simp only [RC.adjW, Bool.and_eq_true] at ha
    obtain ⟨s1, hs1, h⟩ := adjsK_eq h
    · obtain ⟨e1, e2⟩ := adjs_sound ha.1 hs1
      exact sops_weak e1 (evR_sound hO rest R s1 κ kp r K KP hw hb ha.2 h (fun s' hk hh => hκ s' ((e2 _).trans hk) hh) fun s' hk hh => hkp s' ((e2 _).trans hk) hh)
  | .op d o rest, R, s, κ, kp, r, K, KP, hw, hb, ha, h, hκ, hkp => by
    simp only [RC.wf, Bool.and_eq_true] at hw
    refine W.mk ?_
    simp only [sstep]
    have hasg : ∀ k, k ∈ dstL d ∨ k ∈ rest.asg → k ∈ (RC.op d o rest).asg := fun k hk => by
      simp only [RC.asg, asg_dst, List.mem_append]; exact hk
    refine sexec_mono (evOp_sound hO hw.1 h) (fun st' ⟨s1, h1, h2, h3⟩ => ?_) fun st' ⟨s1, h1, h2, h3⟩ => ?_
    · have h2' := h2.sub (B := (RC.op d o rest).asg) fun k hk => hasg k (.inl hk)
      exact sops_weak h1.weak (evR_sound hO rest R s1 κ kp r K KP hw.2 hb ha h3 (fun s' hk hh => hκ s' (h2'.trans (hk.sub fun k hk => hasg k (.inr hk))) hh) fun s' hk hh => hkp s' (h2'.trans (hk.sub fun k hk => hasg k (.inr hk))) hh)
    · rw [h1]
      exact hkp s1 (h2.sub fun k hk => hasg k (.inl hk)) h3
  | .gb t want blk ty rr alt dst rest, R, s, κ, kp, r, K, KP, hw, hb, ha, h, hκ, hkp => by
    obtain ⟨s1, st1, k1, k2, k3, k4⟩ := gb_sys hO hw hb h (Ext.refl _)
    simp only [RC.wf, Bool.and_eq_true] at hw
    simp only [RC.gbB, Bool.and_eq_true] at hb
    have hasg : ∀ k, k ∈ blk.asg ++ [dst] ∨ k ∈ rest.asg → k ∈ (RC.gb t want blk ty rr alt dst rest).asg := fun k hk => by
      simp only [RC.asg, List.mem_append, List.mem_cons, List.not_mem_nil, or_false] at hk ⊢
      rcases hk with (hk | hk) | hk
      · exact .inl hk
      · exact .inr (.inl hk)
      · exact .inr (.inr hk)
    have k4' := k4.sub (B := (RC.gb t want blk ty rr alt dst rest).asg) fun k hk => hasg k (.inl hk)
    have := k1.sops (L := rest.er none) (sops_weak k2.weak (evR_sound hO rest R s1 κ kp r K KP hw.2 hb.2 ha k3 (fun s' hk hh => hκ s' (k4'.trans (hk.sub fun k hk => hasg k (.inr hk))) hh) fun s' hk hh => hkp s' (k4'.trans (hk.sub fun k hk => hasg k (.inr hk))) hh))
    rw [List.append_assoc] at this
    exact this
def RC.drB : Nat → RC → Bool
  | 0, _ => true
  | k + 1, .op _ o rest => o.pureB && rest.drB k
  | k + 1, .gb _ _ blk _ _ _ _ rest => Nat.ble (blk.er none).length k && rest.drB (k - (blk.er none).length)
  | _, _ => false
theorem evD_sound (hO : OracleOk P O) {m : Nat} : ∀ (rc : RC) (k : Nat) (R : Type) (s : S) (κ kp : S → Option R) (r : R) (K KP : St → Prop) (st : St), rc.drB k = true → rc.wf P = true → rc.gbB = true → rc.adjW m = true → evR O R rc s κ kp = some r → Ext st (enc s) →
    (∀ s', Keeps rc.asg s s' → κ s' = some r → W m K (enc s')) → (∀ s', Keeps rc.asg s s' → kp s' = some r → KP (enc s')) → sdraw P m k (rc.er none) st K KP := by
  intro rc
  induction rc with
  | nil =>
    intro k R s κ kp r K KP st hd hw hb ha h he hκ hkp
    cases k with
    | zero => exact sops_weak he.weak (evR_sound hO .nil R s κ kp r K KP hw hb ha h hκ hkp)
    | succ k => cases hd
  | adj l rest _ =>
    intro k R s κ kp r K KP st hd hw hb ha h he hκ hkp
    cases k with
    | zero =>
      have := sops_weak he.weak (evR_sound hO (.adj l rest) R s κ kp r K KP hw hb ha h hκ hkp)
      generalize RC.er none (RC.adj l rest) = L at this ⊢
      cases L <;> exact this
    | succ k => cases hd
  | op d o rest ih =>
    intro k R s κ kp r K KP st hd hw hb ha h he hκ hkp
    cases k with
    | zero => exact sops_weak he.weak (evR_sound hO (.op d o rest) R s κ kp r K KP hw hb ha h hκ hkp)
    | succ k =>
      simp only [RC.drB, Bool.and_eq_true] at hd
      simp only [RC.wf, Bool.and_eq_true] at hw
      have hasg : ∀ k, k ∈ dstL d ∨ k ∈ rest.asg → k ∈ (RC.op d o rest).asg := fun k hk => by
        simp only [RC.asg, asg_dst, List.mem_append]; exact hk
      obtain ⟨v, h1, h2⟩ := evOp_pure hO hw.1 hd.1 h
      have hk0 := (Keeps.put s d v).sub (B := (RC.op d o rest).asg) fun k hk => hasg k (.inl hk)
      exact ⟨encA v, sev_ext he h1, ih k R (s.putO d v) κ kp r K KP _ hd.2 hw.2 hb ha h2 (by rw [enc_put]; exact he.put d _) (fun s' hk hh => hκ s' (hk0.trans (hk.sub fun k hk => hasg k (.inr hk))) hh) fun s' hk hh => hkp s' (hk0.trans (hk.sub fun k hk => hasg k (.inr hk))) hh⟩
  | gb t want blk ty rr alt dst rest _ ih =>
    intro k R s κ kp r K KP st hd hw hb ha h he hκ hkp
    cases k with
    | zero =>
      have := sops_weak he.weak (evR_sound hO (.gb t want blk ty rr alt dst rest) R s κ kp r K KP hw hb ha h hκ hkp)
      generalize RC.er none (RC.gb t want blk ty rr alt dst rest) = L at this ⊢
      cases L <;> exact this
    | succ k =>
      simp only [RC.drB, Bool.and_eq_true] at hd
      have hle := Nat.le_of_ble_eq_true hd.1
      obtain ⟨s1, st1, k1, k2, k3, k4⟩ := gb_sys hO hw hb h he
      simp only [RC.wf, Bool.and_eq_true] at hw
      simp only [RC.gbB, Bool.and_eq_true] at hb
      have hasg : ∀ k, k ∈ blk.asg ++ [dst] ∨ k ∈ rest.asg → k ∈ (RC.gb t want blk ty rr alt dst rest).asg := fun k hk => by
        simp only [RC.asg, List.mem_append, List.mem_cons, List.not_mem_nil, or_false] at hk ⊢
        rcases hk with (hk | hk) | hk
        · exact .inl hk
        · exact .inr (.inl hk)
        · exact .inr (.inr hk)
      have k4' := k4.sub (B := (RC.gb t want blk ty rr alt dst rest).asg) fun k hk => hasg k (.inl hk)
      have hl := er_len blk (some (t, want)) none
      have := k1.sdraw (L := rest.er none) (n := k - (blk.er none).length) (ih _ R s1 κ kp r K KP st1 hd.2 hw.2 hb.2 ha k3 k2 (fun s' hk hh => hκ s' (k4'.trans (hk.sub fun k hk => hasg k (.inr hk))) hh) fun s' hk hh => hkp s' (k4'.trans (hk.sub fun k hk => hasg k (.inr hk))) hh)
      rw [List.append_assoc] at this
      rw [show (blk.er (some (t, want)) ++ [(⟨some dst, pickO t want rr.er alt.er, none⟩ : SOper)]).length + (k - (blk.er none).length) = k + 1 by
        rw [List.length_append, hl, List.length_singleton]; omega] at this
      exact this
end
end Go.Ev
namespace Go.Ev
open Go Go.RowKit Go.Av
theorem inL_iff {l : List Nat} {x : Nat} : inL l x = true ↔ x ∈ l := by
  unfold inL
  simp only [List.any_eq_true]
  exact ⟨fun ⟨y, h1, h2⟩ => (Nat.eq_of_beq_eq_true h2) ▸ h1, fun h => ⟨x, h, Nat.beq_refl x⟩⟩
theorem notInL {l : List Nat} {x : Nat} (h : (!inL l x) = true) : x ∉ l := fun hx => by
  rw [inL_iff.2 hx] at h; cases h
theorem touch_enc (s : S) (p : PO) : touch (enc s) p.so = touchT s p.so.rd p.o.er.lent := by
  unfold touch touchT
  congr 1
  refine flatMap_off fun k _ => ?_
  rw [look_enc]
  cases lk s.fr k with
  | none => rfl
  | some v => exact (encA_ids v).symm
theorem er_hf {o : TOp} : o.er.hf = true ↔ ∃ x, o = .mv x := by
  cases o <;> simp [TOp.er, SOp.hf]
theorem touchM_enc (s : S) (p : PO) (h2 : p.rd = p.so.rd) (h3 : p.lent = p.o.er.lent) : touchM s p = (match p.b with | true => touchL (enc s) p.so | false => touch (enc s) p.so) := by
  unfold touchM
  cases hb : p.b with
  | false => simp only; rw [touch_enc, h2, h3]
  | true =>
    simp only [touchL]
    by_cases hm : (∃ x, p.o = .mv x) ∧ p.g = none
    · obtain ⟨⟨x, hx⟩, hg⟩ := hm
      rw [hx, hg]
      have : p.so.op.hf = true ∧ p.so.gd = none := ⟨by show p.o.er.hf = true; rw [hx]; rfl, hg⟩
      rw [if_pos this]
    · have : ¬ (p.so.op.hf = true ∧ p.so.gd = none) := fun h => hm ⟨er_hf.1 h.1, h.2⟩
      rw [if_neg this, touch_enc, h2, h3]
      split
      · rename_i x _ hx hg; exact absurd ⟨⟨x, hx⟩, hg⟩ hm
      · rfl
theorem comm_of {r : Av.Rec} {T : List Nat} {p : PO} (h : commB r T p.so.rd p.o.er.lent p.d p.b = true) : comm r T p.so p.b := by
  unfold commB at h
  simp only [Bool.and_eq_true] at h
  obtain ⟨⟨⟨h1, h2⟩, h3⟩, h4⟩ := h
  refine ⟨fun t ht => ?_, fun t ht => ?_, fun t ht => ?_, fun hb t ht => ?_, fun hb => ?_⟩
  · rw [ht] at h1
    simp only [Bool.and_eq_true] at h1
    refine ⟨notInL h1.1, fun e => ?_⟩
    have e' : p.d = some t := e
    rw [e'] at h1
    have := h1.2
    simp only [Nat.beq_refl] at this
    cases this
  · have e' : p.d = some t := ht
    rw [e'] at h2
    exact notInL h2
  · rw [ht] at h3
    exact notInL h3
  · rw [hb] at h4
    exact notInL (List.all_eq_true.1 h4 t ht)
  · rw [hb] at h4
    simp only [Bool.and_eq_true] at h4
    exact ⟨Option.isNone_iff_eq_none.1 h4.1, fun i hi => notInL (List.all_eq_true.1 h4.2 i hi)⟩
def PO.wf (P : Program) (p : PO) : Bool := p.o.wf P && decide (p.rd = p.so.rd) && decide (p.lent = p.o.er.lent) && (match p.b with
  | true => p.d.isSome && (p.o.pureB || (p.o.isAt && p.g.isNone))
  | false => p.o.exB)
def usOk (anc : List (List Nat)) : List PO → Bool
  | [] => true
  | p :: l => l.all (fun q => (anc.getD q.j []).contains p.j || inL q.us p.j) && usOk anc l
def asgP (l : List PO) : List Nat := l.flatMap fun p => match p.d with | some d => [d] | none => []
section
variable {R : Type} {P : Program} {O : Oracle}
theorem put_same {s : S} {t : Nat} {v : V} (h : lk s.fr t = some v) (k : Nat) : lk (s.put t v).fr k = lk s.fr k := by
  show lk ((t, v) :: s.fr) k = _
  simp only [lk]
  cases hb : Nat.beq k t
  · rfl
  · have := Nat.eq_of_beq_eq_true hb
    subst this
    exact h.symm
theorem put_eqs {s : S} {t : Nat} {v : V} (h : lk s.fr t = some v) : Eqs (enc (s.put t v)) (enc s) := ⟨rfl, fun k => by rw [look_enc, look_enc, put_same h]⟩
theorem put_keeps {s : S} {t : Nat} {v : V} (h : lk s.fr t = some v) (A : List Nat) : Keeps A s (s.put t v) := fun k _ => by
  rw [put_same h]
  exact ⟨fun v hv _ => .inl hv, fun hn => hn⟩
theorem evP_sound (hO : OracleOk P O) {anc : List (List Nat)} {K : St → Prop} {KC : Prop} : ∀ (l : List PO) (A : List Av.Rec) (s : S) (κ kp : S → Option R) (r : R), l.all (PO.wf P) = true → usOk anc l = true → (∀ a ∈ A, ∀ q ∈ l, (anc.getD q.j []).contains a.i = true ∨ inL q.us a.i = true) →
    evP O A l s κ kp = some r → (∀ s', Keeps (asgP l) s s' → κ s' = some r → K (enc s')) → (∀ s', Keeps (asgP l) s s' → kp s' = some r → KC) →
    srun P (fun i j => !(anc.getD j []).contains i) K KC A (l.map fun p => (p.j, p.b, p.so)) (enc s) := by
  intro l
  induction l with
  | nil =>
    intro A s κ kp r _ _ _ h hκ _
    exact ⟨_, Eqs.refl _, hκ s (Keeps.refl _ _) h⟩
  | cons p l ih =>
    intro A s0 κ kp r hw hu hA h hκ0 hkp0
    simp only [List.all_cons, Bool.and_eq_true] at hw
    obtain ⟨hwp, hwl⟩ := hw
    simp only [usOk, Bool.and_eq_true, List.all_eq_true, Bool.or_eq_true] at hu
    obtain ⟨hup, hul⟩ := hu
    simp only [PO.wf, Bool.and_eq_true, decide_eq_true_eq] at hwp
    obtain ⟨⟨⟨w1, w2⟩, w3⟩, w4⟩ := hwp
    have hasg : ∀ k, k ∈ dstL p.d ∨ k ∈ asgP l → k ∈ asgP (p :: l) := fun k hk => by
      unfold asgP at hk ⊢
      rw [List.flatMap_cons, List.mem_append]
      refine hk.imp (fun h => ?_) id
      cases hd : p.d <;> rw [hd] at h <;> exact h
    have hAl : ∀ a ∈ A, ∀ q ∈ l, (anc.getD q.j []).contains a.i = true ∨ inL q.us a.i = true := fun a ha q hq => hA a ha q (List.mem_cons_of_mem _ hq)
    have hrun : ∀ s : S, (p.g = none ∨ ∃ t want, p.g = some (t, want) ∧ lk s.fr t = some (.d .bool want)) → chkP A s p = true → evOp O p.d p.o s (fun s' => evP O (recP A s s' p) l s' κ kp) kp = some r → (∀ s', Keeps (asgP (p :: l)) s s' → κ s' = some r → K (enc s')) → (∀ s', Keeps (asgP (p :: l)) s s' → kp s' = some r → KC) → srun P (fun i j => !(anc.getD j []).contains i) K KC A ((p :: l).map fun p => (p.j, p.b, p.so)) (enc s) := by
      intro s hg h1 h2 hκ hkp
      simp only [chkP, Bool.and_eq_true] at h1
      obtain ⟨⟨c1, c2⟩, c3⟩ := h1
      rw [w2, w3] at c1
      simp only [recP, w2] at h2
      have hT := touchM_enc s p w2 w3
      have hchk : ∀ a ∈ A, (!(anc.getD p.j []).contains a.i) = true → comm a (match p.b with | true => touchL (enc s) p.so | false => touch (enc s) p.so) p.so p.b := fun a ha hun => by
        have := List.all_eq_true.1 c1 a ha
        simp only [Bool.or_eq_true] at this
        rcases hA a ha p (List.mem_cons_self ..) with h3 | h3
        · rw [h3] at hun; cases hun
        · rw [h3] at this
          rcases this with h4 | h4
          · cases h4
          · rw [← hT]; exact comm_of h4
      have hst : ∀ {X X' : St → Prop}, sexec P p.d p.o.er (enc s) X X' → sstep P p.so (enc s) X X' := fun {X X'} hx => by
        unfold sstep
        rcases hg with hg | ⟨t, want, hg, hl⟩
        · rw [show p.so.gd = none from hg]; exact hx
        · rw [show p.so.gd = some (t, want) from hg]
          exact ⟨_, by rw [look_enc, hl]; rfl, _, rfl, fun _ => hx, fun hne => absurd rfl hne⟩
      have hsy : ∀ {x : AV}, sev P (enc s) p.o.er (fun y => y = x) → syield P p.so (enc s) x := fun {x} hx => by
        unfold syield
        rcases hg with hg | ⟨t, want, hg, hl⟩
        · rw [show p.so.gd = none from hg]; exact hx
        · rw [show p.so.gd = some (t, want) from hg]
          exact ⟨_, by rw [look_enc, hl]; rfl, _, rfl, fun _ => hx, fun hne => absurd rfl hne⟩
      cases hb : p.b with
      | false =>
        rw [hb] at w4 h2 hchk
        simp only [cond_false] at h2
        simp only [List.map_cons, hb]
        refine ⟨hchk, ?_⟩
        have hx := evOp_exact hO w1 w4 c3 h2
        refine hst (sexec_mono hx (fun st' ⟨s', e1, e2, e3⟩ => ?_) fun st' ⟨s', e1, e2, e3⟩ => hkp s' (e2.sub fun k hk => hasg k (.inl hk)) e3)
        rw [e1]
        exact ih A s' κ kp r hwl hul hAl e3 (fun s2 hk hh => hκ s2 ((e2.sub fun k hk => hasg k (.inl hk)).trans (hk.sub fun k hk => hasg k (.inr hk))) hh) fun s2 hk hh => hkp s2 ((e2.sub fun k hk => hasg k (.inl hk)).trans (hk.sub fun k hk => hasg k (.inr hk))) hh
      | true =>
        rw [hb] at w4 h2 hchk c2 hT
        simp only at hchk hT
        simp only [Bool.and_eq_true] at w4
        obtain ⟨hds, hpa⟩ := w4
        obtain ⟨dk, hdk⟩ := Option.isSome_iff_exists.1 hds
        simp only [cond_true] at h2
        simp only [Bool.not_true, Bool.false_or] at c2
        simp only [List.map_cons, hb]
        have hle : ∃ E v s', leff P p.so (enc s) E ∧ E.x = encA v ∧ E.slot.map (·.1) = slotOf p.o ∧ enc s' = (enc s).app p.d E ∧ idsOf s' p.d = v.ids ∧ Keeps (dstL p.d) s s' ∧ evP O (A ++ [⟨p.j, p.d, p.so.rd, slotOf p.o, recF s s' p.d (touchM s p)⟩]) l s' κ kp = some r := by
          rcases Bool.or_eq_true_iff.1 hpa with hpu | hat
          · obtain ⟨v, e1, e2⟩ := evOp_pure hO w1 hpu h2
            have hsl : slotOf p.o = none := by cases hq : p.o <;> first | rfl | (rw [hq] at hpu; cases hpu)
            refine ⟨⟨encA v, none⟩, v, s.putO p.d v, hsy e1, rfl, by rw [hsl]; rfl, enc_put _ _ _, ?_, Keeps.put _ _ _, e2⟩
            unfold idsOf
            rw [hdk]
            simp only [lk_put, if_true]
          · simp only [Bool.and_eq_true] at hat
            obtain ⟨hat, hgn⟩ := hat
            have hgn := Option.isNone_iff_eq_none.1 hgn
            cases hq : p.o <;> (try (rw [hq] at hat; cases hat; done))
            rename_i k op
            rw [hq] at h2 w1
            obtain ⟨ob, v, e1, e2⟩ := at_leff (P := P) (k := k) (op := op) w1 h2
            refine ⟨⟨encA v, some (k, encO ob)⟩, v, _, ?_, rfl, rfl, ?_, ?_, (Keeps.fr (s' := ⟨s.fr, setAt s.hp k ob⟩) rfl).trans (Keeps.put _ p.d v), e2⟩
            · have : p.so = ⟨p.d, .atq k op.er, none⟩ := by unfold PO.so; rw [hq, hgn]; rfl
              rw [this]; exact e1
            · rw [enc_put, enc_setO]; rfl
            · unfold idsOf
              rw [hdk]
              simp only [lk_put, if_true]
        obtain ⟨E, v, s', e1, e2, e3, e4, e5, e6, e7⟩ := hle
        refine ⟨hchk, E, recF s s' p.d (touchM s p), e1, ⟨fun i hi => ?_, fun i hi => ?_⟩, ?_⟩
        · rw [← hT] at hi
          have hlt := List.all_eq_true.1 c2 i hi
          have hlt' : i < s.hp.length := Nat.le_of_ble_eq_true hlt
          refine ⟨List.mem_append.2 (.inl (List.mem_append.2 (.inl hi))), _, by rw [hp_get, List.getElem?_eq_getElem hlt']; rfl, fun j hj => ?_⟩
          rw [← encO_ids] at hj
          refine List.mem_append.2 (.inl (List.mem_append.2 (.inr (List.mem_flatMap.2 ⟨i, hi, ?_⟩))))
          unfold idsAt
          rw [List.getElem?_eq_getElem hlt']
          exact hj
        · rw [e2, ← encA_ids] at hi
          exact List.mem_append.2 (.inr (by rw [e5]; exact hi))
        · rw [e3]
          show srun P _ K KC (A ++ [⟨p.j, p.d, p.so.rd, slotOf p.o, _⟩]) _ ((enc s).app p.d E)
          rw [← e4]
          refine ih _ s' κ kp r hwl hul (fun a ha q hq => ?_) e7 (fun s2 hk hh => hκ s2 ((e6.sub fun k hk => hasg k (.inl hk)).trans (hk.sub fun k hk => hasg k (.inr hk))) hh) fun s2 hk hh => hkp s2 ((e6.sub fun k hk => hasg k (.inl hk)).trans (hk.sub fun k hk => hasg k (.inr hk))) hh
          rcases List.mem_append.1 ha with h | h
          · exact hAl a h q hq
          · simp only [List.mem_singleton] at h
            subst h
            exact hup q hq
    have hskip : ∀ (s : S) t want b, p.g = some (t, want) → lk s.fr t = some (.d .bool b) → (want == b) = false → chkP A s p = true → evP O (recP A s (s.putO p.d (.raw Go.undef)) p) l (s.putO p.d (.raw Go.undef)) κ kp = some r → (∀ s', Keeps (asgP (p :: l)) s s' → κ s' = some r → K (enc s')) → (∀ s', Keeps (asgP (p :: l)) s s' → kp s' = some r → KC) → srun P (fun i j => !(anc.getD j []).contains i) K KC A ((p :: l).map fun p => (p.j, p.b, p.so)) (enc s) := by
      intro s t want b hg hl hne h1 h2 hκ hkp
      simp only [chkP, Bool.and_eq_true] at h1
      obtain ⟨⟨c1, c2⟩, c3⟩ := h1
      rw [w2, w3] at c1
      simp only [recP, w2] at h2
      have hT := touchM_enc s p w2 w3
      have hchk : ∀ a ∈ A, (!(anc.getD p.j []).contains a.i) = true → comm a (match p.b with | true => touchL (enc s) p.so | false => touch (enc s) p.so) p.so p.b := fun a ha hun => by
        have := List.all_eq_true.1 c1 a ha
        simp only [Bool.or_eq_true] at this
        rcases hA a ha p (List.mem_cons_self ..) with h3 | h3
        · rw [h3] at hun; cases hun
        · rw [h3] at this
          rcases this with h4 | h4
          · cases h4
          · rw [← hT]; exact comm_of h4
      have hyv : yv (.bool b) ≠ some want := fun e => by
        have : b = want := by simpa [yv] using e
        subst this; simp at hne
      have e4 : enc (s.putO p.d (.raw Go.undef)) = (enc s).putO p.d (.v Go.undef) := enc_put _ _ _
      have e6 : Keeps (dstL p.d) s (s.putO p.d (.raw Go.undef)) := Keeps.put _ _ _
      cases hb : p.b with
      | false =>
        rw [hb] at h2 hchk
        simp only [cond_false] at h2
        simp only [List.map_cons, hb]
        refine ⟨hchk, ?_⟩
        unfold sstep
        rw [show p.so.gd = some (t, want) from hg]
        refine ⟨_, by rw [look_enc, hl]; rfl, _, rfl, fun he => absurd he hyv, fun _ => ?_⟩
        show srun P _ K KC A _ ((enc s).putO p.d (.v Go.undef))
        rw [← e4]
        exact ih A _ κ kp r hwl hul hAl h2 (fun s2 hk hh => hκ s2 ((e6.sub fun k hk => hasg k (.inl hk)).trans (hk.sub fun k hk => hasg k (.inr hk))) hh) fun s2 hk hh => hkp s2 ((e6.sub fun k hk => hasg k (.inl hk)).trans (hk.sub fun k hk => hasg k (.inr hk))) hh
      | true =>
        rw [hb] at w4 h2 hchk c2 hT
        simp only at hchk hT
        simp only [Bool.and_eq_true] at w4
        simp only [cond_true] at h2
        simp only [Bool.not_true, Bool.false_or] at c2
        simp only [List.map_cons, hb]
        have hsl : slotOf p.o = none := by
          have hpu : p.o.pureB = true := by
            rcases Bool.or_eq_true_iff.1 w4.2 with h | h
            · exact h
            · rw [hg] at h; simp at h
          cases hq : p.o <;> first | rfl | (rw [hq] at hpu; cases hpu)
        refine ⟨hchk, ⟨.v Go.undef, none⟩, recF s (s.putO p.d (.raw Go.undef)) p.d (touchM s p), ?_, ⟨fun i hi => ?_, fun i hi => ?_⟩, ?_⟩
        · show syield P p.so (enc s) (.v Go.undef)
          unfold syield
          rw [show p.so.gd = some (t, want) from hg]
          exact ⟨_, by rw [look_enc, hl]; rfl, _, rfl, fun he => absurd he hyv, fun _ => rfl⟩
        · rw [← hT] at hi
          have hlt := List.all_eq_true.1 c2 i hi
          have hlt' : i < s.hp.length := Nat.le_of_ble_eq_true hlt
          refine ⟨List.mem_append.2 (.inl (List.mem_append.2 (.inl hi))), _, by rw [hp_get, List.getElem?_eq_getElem hlt']; rfl, fun j hj => ?_⟩
          rw [← encO_ids] at hj
          refine List.mem_append.2 (.inl (List.mem_append.2 (.inr (List.mem_flatMap.2 ⟨i, hi, ?_⟩))))
          unfold idsAt
          rw [List.getElem?_eq_getElem hlt']
          exact hj
        · cases hi
        · show srun P _ K KC (A ++ [⟨p.j, p.d, p.so.rd, none, _⟩]) _ ((enc s).putO p.d (.v Go.undef))
          rw [← e4, ← hsl]
          refine ih _ _ κ kp r hwl hul (fun a ha q hq => ?_) h2 (fun s2 hk hh => hκ s2 ((e6.sub fun k hk => hasg k (.inl hk)).trans (hk.sub fun k hk => hasg k (.inr hk))) hh) fun s2 hk hh => hkp s2 ((e6.sub fun k hk => hasg k (.inl hk)).trans (hk.sub fun k hk => hasg k (.inr hk))) hh
          rcases List.mem_append.1 ha with h | h
          · exact hAl a h q hq
          · simp only [List.mem_singleton] at h
            subst h
            exact hup q hq
    simp only [evP] at h
    cases hg : p.g with
    | none =>
      rw [hg] at h
      obtain ⟨h1, h2⟩ := bif_eq h
      exact hrun s0 (.inl hg) h1 h2 hκ0 hkp0
    | some q =>
      obtain ⟨t, want⟩ := q
      rw [hg] at h
      simp only at h
      split at h
      · rename_i b hl
        rcases hwb : (want == b) with _ | _
        · rw [hwb] at h
          have hb : b = !want := by cases b <;> cases want <;> first | rfl | cases hwb
          subst hb
          obtain ⟨h1, h2⟩ := bif_eq h
          refine srun_eqs _ _ _ _ (put_eqs hl) ?_
          exact hskip _ t want _ hg (by rw [put_same hl]; exact hl) hwb h1 h2 (fun s' hk => hκ0 s' ((put_keeps hl _).trans hk)) fun s' hk => hkp0 s' ((put_keeps hl _).trans hk)
        · rw [hwb] at h
          have : want = b := by simpa using hwb
          subst this
          obtain ⟨h1, h2⟩ := bif_eq h
          refine srun_eqs _ _ _ _ (put_eqs hl) ?_
          exact hrun _ (.inr ⟨t, want, hg, by rw [put_same hl]; exact hl⟩) h1 h2 (fun s' hk => hκ0 s' ((put_keeps hl _).trans hk)) fun s' hk => hkp0 s' ((put_keeps hl _).trans hk)
      · cases h
theorem evL_sound (hO : OracleOk P O) {m : Nat} {K KP : St → Prop} : ∀ (l : List PO) (s : S) (κ kp : S → Option R) (r : R), l.all (fun p => p.o.wf P) = true → evL O l s κ kp = some r →
    (∀ s', Keeps (asgP l) s s' → κ s' = some r → W m K (enc s')) → (∀ s', Keeps (asgP l) s s' → kp s' = some r → KP (enc s')) → sops P m (l.map PO.so) (enc s) K KP
  | [], s, κ, kp, r, _, h, hκ, _ => hκ s (Keeps.refl _ _) h
  | p :: l, s0, κ, kp, r, hw, h, hκ0, hkp0 => by
    rw [List.all_cons, Bool.and_eq_true] at hw
    have hasg : ∀ k, k ∈ dstL p.d ∨ k ∈ asgP l → k ∈ asgP (p :: l) := fun k hk => by
      simp only [asgP, List.flatMap_cons, List.mem_append]; exact hk
    have go : ∀ (s : S), (∀ s', Keeps (asgP (p :: l)) s s' → κ s' = some r → W m K (enc s')) → (∀ s', Keeps (asgP (p :: l)) s s' → kp s' = some r → KP (enc s')) → evOp O p.d p.o s (fun s' => evL O l s' κ kp) kp = some r →
        sexec P p.d p.o.er (enc s) (fun st => sops P m (l.map PO.so) st K KP) KP := by
      intro s hκ hkp h
      refine sexec_mono (evOp_sound hO hw.1 h) (fun st' ⟨s1, h1, h2, h3⟩ => ?_) fun st' ⟨s1, h1, h2, h3⟩ => ?_
      · have h2' := h2.sub (B := asgP (p :: l)) fun k hk => hasg k (.inl hk)
        exact sops_weak h1.weak (evL_sound hO l s1 κ kp r hw.2 h3 (fun s' hk hh => hκ s' (h2'.trans (hk.sub fun k hk => hasg k (.inr hk))) hh) fun s' hk hh => hkp s' (h2'.trans (hk.sub fun k hk => hasg k (.inr hk))) hh)
      · rw [h1]
        exact hkp s1 (h2.sub fun k hk => hasg k (.inl hk)) h3
    have skip : ∀ (s : S), (∀ s', Keeps (asgP (p :: l)) s s' → κ s' = some r → W m K (enc s')) → (∀ s', Keeps (asgP (p :: l)) s s' → kp s' = some r → KP (enc s')) → evL O l (s.putO p.d (.raw Go.undef)) κ kp = some r →
        sops P m (l.map PO.so) ((enc s).putO p.d (.v Go.undef)) K KP := by
      intro s hκ hkp h
      have e4 : enc (s.putO p.d (.raw Go.undef)) = (enc s).putO p.d (.v Go.undef) := enc_put _ _ _
      have e6 : Keeps (dstL p.d) s (s.putO p.d (.raw Go.undef)) := Keeps.put _ _ _
      have h2' := e6.sub (B := asgP (p :: l)) fun k hk => hasg k (.inl hk)
      rw [← e4]
      exact evL_sound hO l _ κ kp r hw.2 h (fun s' hk hh => hκ s' (h2'.trans (hk.sub fun k hk => hasg k (.inr hk))) hh) fun s' hk hh => hkp s' (h2'.trans (hk.sub fun k hk => hasg k (.inr hk))) hh
    show W m (fun st => sstep P p.so st (fun st' => sops P m (l.map PO.so) st' K KP) KP) (enc s0)
    simp only [evL] at h
    split at h
    · rename_i hg
      refine W.mk ?_
      unfold sstep
      rw [show p.so.gd = none from hg]
      exact go s0 hκ0 hkp0 h
    · rename_i t want hg
      split at h
      · rename_i b hl
        have e : Weak m (enc s0) (enc (s0.put t (.d .bool b))) := fun c a w _ hr => Rel.congr (put_eqs hl).1 (put_eqs hl).2 hr
        refine W.to _ e ?_
        unfold sstep
        rw [show p.so.gd = some (t, want) from hg]
        have hl2 : Av.look (enc (s0.put t (.d .bool b))).fr t = some (.b (.pv (.sc (.bool b)))) := by
          rw [look_enc, put_same hl, hl]; rfl
        have k1 : ∀ s', Keeps (asgP (p :: l)) (s0.put t (.d .bool b)) s' → κ s' = some r → W m K (enc s') := fun s' hk => hκ0 s' ((put_keeps hl _).trans hk)
        have k2 : ∀ s', Keeps (asgP (p :: l)) (s0.put t (.d .bool b)) s' → kp s' = some r → KP (enc s') := fun s' hk => hkp0 s' ((put_keeps hl _).trans hk)
        refine ⟨_, hl2, .bool b, rfl, fun he => ?_, fun he => ?_⟩
        · cases b <;> cases want <;> first | (exact go _ k1 k2 h) | (exact absurd he (by decide))
        · cases b <;> cases want <;> first | (exact skip _ k1 k2 h) | (exact absurd rfl he)
      · cases h
theorem weak_free {m : Nat} {s : S} : ∀ (r : Nat), Weak m (enc s) (enc ⟨s.fr, s.hp ++ List.replicate r .free⟩)
  | 0 => by rw [List.replicate_zero, List.append_nil]; exact Weak.refl _ _
  | r + 1 => by
    refine (weak_free r).trans ?_
    rintro c a w _ ⟨θ, D, hI⟩
    refine ⟨θ ++ [.no], D, ?_⟩
    have := hI.push (l := .no) (o := .free) trivial fun g hg => by cases hg
    rw [List.replicate_succ', ← List.append_assoc]
    have e := enc_push ⟨s.fr, s.hp ++ List.replicate r .free⟩ .free
    simp only at e
    rw [e]
    exact this
theorem lexO_get {pre : List PO} (hn : (pre.map (·.j)).Nodup) {p : PO} (hp : p ∈ pre) (hj : p.j < pre.length) (tl : List SOper) : (lexO pre ++ tl).getD p.j default = p.so := by
  have hl : (lexO pre).length = pre.length := by simp [lexO]
  have hf : pre.find? (fun q => Nat.beq q.j p.j) = some p := by
    clear hl hj
    induction pre with
    | nil => cases hp
    | cons q pre ih =>
      rw [List.map_cons, List.nodup_cons] at hn
      rw [List.find?_cons]
      rcases List.mem_cons.1 hp with rfl | hp
      · rw [Nat.beq_refl]
      · have : Nat.beq q.j p.j = false := by
          cases hb : Nat.beq q.j p.j with
          | false => rfl
          | true => exact absurd (List.mem_map.2 ⟨p, hp, (Nat.eq_of_beq_eq_true hb).symm⟩) hn.1
        rw [this]
        exact ih hn.2 hp
  rw [List.getD, List.getElem?_append_left (by omega)]
  unfold lexO
  rw [List.getElem?_map, List.getElem?_range hj]
  simp only [Option.map_some, Option.getD_some, hf]
end
end Go.Ev
namespace Go.Ev
open Go Go.RowKit Go.Av
def xsWf (xs : List (Nat × Sh)) : Bool := xs.all fun x => x.2.wfB
def TC.wf (P : Program) (m : Nat) : TC → Bool
  | .region ops => ops.wf P && ops.gbB && ops.adjW m
  | .draw k ops _ => ops.wf P && ops.gbB && ops.adjW m && ops.drB k
  | .draw2 _ pre tl af => tl.wf P && tl.gbB && tl.adjW m && pre.all (PO.wf P) && usOk (ancs [] af) pre && decide (pre.map (·.j)).Nodup && pre.all (fun p => decide (p.j < pre.length))
  | .regL pre => pre.all fun p => p.o.wf P
  | .seq a b => a.wf P m && b.wf P m
  | .cond x a b => x.wf && a.wf P m && b.wf P m
  | .block _ a => a.wf P m
  | .loop sh xs a => sh.wfB && xsWf xs && a.wf P m
  | .adj l a => adjsWf m l && a.wf P m
  | .after a l => adjsWf m l && a.wf P m
  | .cut xs a => xsWf xs && a.wf P m
  | _ => true
section
variable {P : Program} {O : Oracle} {n m : Nat}
theorem awp_weak {x : AC} {Q : AE → St → Prop} : ∀ {a b : St}, Weak m a b → awp P m x Q b → awp P m x Q a := by
  induction x generalizing Q with
  | skip => exact fun h k => W.from h k
  | region ss => exact fun h k => sops_weak h k
  | draw k ss af => exact fun h k => W.from h k
  | draw2 ord ss af => exact fun h k => W.from h k
  | seq a b iha ihb => exact fun h k => iha h k
  | cond c a b iha ihb => exact fun h k => W.from h k
  | block id a iha => exact fun h k => iha h k
  | loop a iha => exact fun h k => W.from h k
  | exit id => exact fun h k => W.from h k
  | ret => exact fun h k => W.from h k
theorem keepFr_lk {fr : List (Nat × V)} : ∀ {l : List Nat} {k : Nat} {v : V}, lk (keepFr fr l) k = some v → k ∈ l ∧ lk fr k = some v ∧ v.isD = true
  | [], k, v, h => by cases h
  | j :: l, k, v, h => by
    simp only [keepFr] at h
    split at h
    · rename_i u hu
      cases hd : u.isD
      · rw [hd] at h
        obtain ⟨h1, h2⟩ := keepFr_lk h
        exact ⟨List.mem_cons_of_mem _ h1, h2⟩
      · rw [hd] at h
        simp only [cond_true, lk, beq_eq] at h
        by_cases hk : k = j
        · subst hk
          rw [decide_eq_true rfl] at h
          simp only [cond_true, Option.some.injEq] at h
          subst h
          exact ⟨List.mem_cons_self .., hu, hd⟩
        · rw [decide_eq_false hk] at h
          obtain ⟨h1, h2⟩ := keepFr_lk h
          exact ⟨List.mem_cons_of_mem _ h1, h2⟩
    · obtain ⟨h1, h2⟩ := keepFr_lk h
      exact ⟨List.mem_cons_of_mem _ h1, h2⟩
theorem unpack_lk : ∀ (l : List Slot) (c : HL l) (b : S) (k : Nat), (∀ t, Slot.tm k t ∉ l) → lk (unpack l c b).fr k = lk b.fr k
  | [], _, _, _, _ => rfl
  | .tm j t :: l, c, b, k, h => by
    have := unpack_lk l c.2 ⟨(j, .d t c.1) :: b.fr, b.hp⟩ k fun t ht => h t (List.mem_cons_of_mem _ ht)
    show lk (unpack l c.2 ⟨(j, .d t c.1) :: b.fr, b.hp⟩).fr k = _
    rw [this]
    simp only [lk, beq_eq]
    rw [decide_eq_false]
    · rfl
    · rintro rfl
      exact h t (List.mem_cons_self ..)
  | .cell _ _ _ :: l, c, b, k, h => unpack_lk l c.2 _ k fun t ht => h t (List.mem_cons_of_mem _ ht)
  | .vec _ _ _ :: l, c, b, k, h => unpack_lk l c.2 _ k fun t ht => h t (List.mem_cons_of_mem _ ht)
  | .map _ _ _ _ _ :: l, c, b, k, h => unpack_lk l c.2 _ k fun t ht => h t (List.mem_cons_of_mem _ ht)
  | .tree _ _ _ _ :: l, c, b, k, h => unpack_lk l c.2 _ k fun t ht => h t (List.mem_cons_of_mem _ ht)
  | .treeH _ _ _ _ _ _ :: l, c, b, k, h => unpack_lk l c.2 _ k fun t ht => h t (List.mem_cons_of_mem _ ht)
theorem mayTurn_or {A : List Nat} {fr : List (Nat × V)} {k : Nat} (h : mayTurn A fr k = true) : k ∈ A ∨ ∃ v, lk fr k = some v ∧ v.isD = false := by
  simp only [mayTurn, Bool.or_eq_true] at h
  rcases h with h | h
  · exact .inl (inL_mem.1 h)
  · split at h
    · rename_i v hv; exact .inr ⟨v, hv, by simpa using h⟩
    · cases h
theorem sk_mem {fr : List (Nat × V)} {k : Nat} (h : lk fr k ≠ none) : ∃ v, (k, v) ∈ fr := by
  cases hv : lk fr k with
  | none => exact absurd hv h
  | some v => exact ⟨v, lk_mem hv⟩
structure OkAt (sh : Sh) (A : List Nat) (s : S) : Prop where
  keep : ∀ k ∈ sh.keep, k ∉ A
  tm : ∀ k t, Slot.tm k t ∈ sh.sl → mayTurn A s.fr k = true
  sk : ∀ x ∈ sh.sk.fr, mayTurn A s.fr x.1 = true
theorem okAt_ok {sh : Sh} {A : List Nat} {s : S} (h : sh.okAt A s = true) : OkAt sh A s := by
  simp only [Sh.okAt, Bool.and_eq_true, List.all_eq_true, Bool.not_eq_true'] at h
  refine ⟨fun k hk e => ?_, fun k t hk => h.1.2 _ hk, h.2⟩
  have := h.1.1 k hk
  rw [inL_mem.2 e] at this; cases this
theorem base_out {sh : Sh} {A : List Nat} {s : S} (ho : OkAt sh A s) (c : HL sh.sl) {k : Nat} (hk : k ∉ A) :
    (∀ v, lk s.fr k = some v → v.isD = true → lk (unpack sh.sl c (sh.base s)).fr k = lk (keepFr s.fr sh.keep) k) ∧ (lk s.fr k = none → lk (unpack sh.sl c (sh.base s)).fr k = none) := by
  have hnt : (∀ v, lk s.fr k = some v → v.isD = true) → mayTurn A s.fr k ≠ true := fun hd e => by
    rcases mayTurn_or e with h | ⟨v, h1, h2⟩
    · exact hk h
    · rw [hd v h1] at h2; cases h2
  have step : (∀ v, lk s.fr k = some v → v.isD = true) → lk (unpack sh.sl c (sh.base s)).fr k = lk (keepFr s.fr sh.keep) k := fun hd => by
    rw [unpack_lk _ _ _ _ fun t ht => hnt hd (ho.tm k t ht)]
    show lk (keepFr s.fr sh.keep ++ sh.sk.fr) k = _
    rw [lk_append]
    have : lk sh.sk.fr k = none := Classical.byContradiction fun e => by
      obtain ⟨v, hv⟩ := sk_mem e
      exact hnt hd (ho.sk _ hv)
    rw [this]
    cases lk (keepFr s.fr sh.keep) k <;> rfl
  refine ⟨fun v hv hd => step fun u hu => by rw [hv] at hu; cases hu; exact hd, fun hn => ?_⟩
  rw [step fun u hu => by rw [hn] at hu; cases hu]
  cases hkf : lk (keepFr s.fr sh.keep) k with
  | none => rfl
  | some v =>
    have := (keepFr_lk hkf).2.1
    rw [hn] at this; cases this
theorem base_keeps {sh : Sh} {A : List Nat} {s : S} (ho : OkAt sh A s) (c : HL sh.sl) : Keeps A s (unpack sh.sl c (sh.base s)) := fun k hk => by
  obtain ⟨h1, h2⟩ := base_out ho c hk
  refine ⟨fun v hv hd => ?_, h2⟩
  rw [h1 v hv hd]
  cases hkf : lk (keepFr s.fr sh.keep) k with
  | none => exact .inr rfl
  | some u =>
    have := (keepFr_lk hkf).2.1
    rw [hv] at this
    exact .inl this.symm
theorem kept {sh : Sh} {A : List Nat} {s s' : S} {c : HL sh.sl} (ho : OkAt sh A s) (hk : Keeps A s s') (hp : pack sh s' = some c) : ∀ k v, lk (keepFr s.fr sh.keep) k = some v → lk s'.fr k = some v := fun k v h => by
  obtain ⟨h1, h2, h3⟩ := keepFr_lk h
  rcases (hk k (ho.keep k h1)).1 v h2 h3 with h4 | h4
  · exact h4
  · unfold pack at hp
    split at hp
    · rename_i hf
      simp only [Bool.and_eq_true, List.all_eq_true] at hf
      have := hf.2 k h1
      simp only [hasD, h4] at this
      cases this
    · cases hp
theorem inj_dispatch {R : Type} {s s' : S} {κ : Nat → S → Option R} {r : R} : ∀ {xs : List (Nat × Sh)} {key : Nat} {c : XT xs}, inj xs key s' = some c → dispatch s κ xs c = some r → ∃ sh, (key, sh) ∈ xs ∧ ∃ c' : HL sh.sl, pack sh s' = some c' ∧ κ key (unpack sh.sl c' (sh.base s)) = some r
  | [], key, c, h, _ => by cases h
  | [(k, sh)], key, c, h, hd => by
    simp only [inj, beq_eq] at h
    by_cases hk : k = key
    · subst hk
      rw [decide_eq_true rfl] at h
      exact ⟨sh, List.mem_cons_self .., c, h, hd⟩
    · rw [decide_eq_false hk] at h; cases h
  | (k, sh) :: a :: l, key, c, h, hd => by
    simp only [inj, beq_eq] at h
    by_cases hk : k = key
    · subst hk
      rw [decide_eq_true rfl] at h
      simp only [cond_true] at h
      split at h
      · rename_i c' hc'
        cases h
        exact ⟨sh, List.mem_cons_self .., c', hc', hd⟩
      · cases h
    · rw [decide_eq_false hk] at h
      simp only [cond_false] at h
      split at h
      · rename_i c' hc'
        cases h
        obtain ⟨sh2, h1, h2⟩ := inj_dispatch (xs := a :: l) hc' hd
        exact ⟨sh2, List.mem_cons_of_mem _ h1, h2⟩
      · cases h
structure Post (D2 : Prop) (m : Nat) (A : List Nat) (s : S) {R : Type} (Q : AE → St → Prop) (kn : S → Option R) (kx : Nat → S → Option R) (kr kp : S → Option R) (r : R) : Prop where
  n : ∀ s', Keeps A s s' → kn s' = some r → W m (Q .normal) (enc s')
  x : ∀ i s', Keeps A s s' → kx i s' = some r → W m (Q (.exit i)) (enc s')
  rt : ∀ s', Keeps A s s' → kr s' = some r → W m (Q .ret) (enc s')
  p : ∀ s', Keeps A s s' → kp s' = some r → Q .pan (enc s')
  c : ∀ st, W m (Q .pan) st → Q .pan st
  d : D2 → ∀ st st', Q .pan st → Q .pan st'
theorem Post.sub {D2 : Prop} {A B : List Nat} {s : S} {R : Type} {Q : AE → St → Prop} {kn : S → Option R} {kx : Nat → S → Option R} {kr kp : S → Option R} {r : R} (h : Post D2 m A s Q kn kx kr kp r) (hs : ∀ k ∈ B, k ∈ A) : Post D2 m B s Q kn kx kr kp r :=
  ⟨fun s' hk => h.n s' (hk.sub hs), fun i s' hk => h.x i s' (hk.sub hs), fun s' hk => h.rt s' (hk.sub hs), fun s' hk => h.p s' (hk.sub hs), h.c, h.d⟩
theorem Post.from {D2 : Prop} {A : List Nat} {s s1 : S} {R : Type} {Q : AE → St → Prop} {kn : S → Option R} {kx : Nat → S → Option R} {kr kp : S → Option R} {r : R} (h : Post D2 m A s Q kn kx kr kp r) (hk0 : Keeps A s s1) : Post D2 m A s1 Q kn kx kr kp r :=
  ⟨fun s' hk => h.n s' (hk0.trans hk), fun i s' hk => h.x i s' (hk0.trans hk), fun s' hk => h.rt s' (hk0.trans hk), fun s' hk => h.p s' (hk0.trans hk), h.c, h.d⟩
theorem disp {D2 : Prop} {A : List Nat} {s s' : S} {R : Type} {Q : AE → St → Prop} {kn : S → Option R} {kx : Nat → S → Option R} {kr kp : S → Option R} {r : R} {xs : List (Nat × Sh)} {c : XT xs} {key : Nat} (hpost : Post D2 m A s Q kn kx kr kp r) (hwf : xsWf xs = true) (hok : xs.all (fun x => x.2.okAt A s) = true)
    (hk : Keeps A s s') (hi : inj xs key s' = some c) (hd : dispatch s (fun key s => match key with | 0 => kn s | 1 => kr s | 2 => kp s | i + 3 => kx i s) xs c = some r) :
    match key with
    | 0 => W m (Q .normal) (enc s')
    | 1 => W m (Q .ret) (enc s')
    | 2 => Q .pan (enc s')
    | i + 3 => W m (Q (.exit i)) (enc s') := by
  obtain ⟨sh, h1, c', h2, h3⟩ := inj_dispatch hi hd
  have hokx := okAt_ok (List.all_eq_true.1 hok _ h1)
  have hwfx : sh.wfB = true := List.all_eq_true.1 hwf _ h1
  have hle := (pack_le (s0 := s) hwfx h2 (kept hokx hk h2)).weak (m := m)
  have hkb := base_keeps hokx c'
  match key, h3 with
  | 0, h3 => exact W.from hle (hpost.n _ hkb h3)
  | 1, h3 => exact W.from hle (hpost.rt _ hkb h3)
  | 2, h3 => exact hpost.c _ (W.to _ hle (hpost.p _ hkb h3))
  | i + 3, h3 => exact W.from hle (hpost.x i _ hkb h3)
theorem evC_sound {D2 : Prop} (hO : OracleOk P O) : ∀ (tc : TC) (R : Type) (s : S) (kn : S → Option R) (kx : Nat → S → Option R) (kr kp : S → Option R) (r : R) (Q : AE → St → Prop), tc.wf P m = true → (tc.noD2 = false → D2) → evC O n R tc s kn kx kr kp = some r → Post D2 m tc.asg s Q kn kx kr kp r → awp P m tc.er Q (enc s) := by
  intro tc
  induction tc with
  | skip => intro R s kn kx kr kp r Q _ _ h hp; exact hp.n s (Keeps.refl _ _) h
  | region ops =>
    intro R s kn kx kr kp r Q hw hz h hp
    simp only [TC.wf, Bool.and_eq_true] at hw
    exact evR_sound hO ops R s kn kp r _ _ hw.1.1 hw.1.2 hw.2 h (fun s' hk hh => hp.n s' hk hh) fun s' hk hh => hp.p s' hk hh
  | draw k ops af =>
    intro R s kn kx kr kp r Q hw hz h hp
    simp only [TC.wf, Bool.and_eq_true] at hw
    exact W.mk (evD_sound hO ops k R s kn kp r _ _ _ hw.2 hw.1.1.1 hw.1.1.2 hw.1.2 h (Ext.refl _) (fun s' hk hh => hp.n s' hk hh) fun s' hk hh => hp.p s' hk hh)
  | draw2 r0 pre tl af =>
    intro R s kn kx kr kp r Q hw hz h hp
    simp only [TC.wf, Bool.and_eq_true, decide_eq_true_eq] at hw
    obtain ⟨⟨⟨⟨⟨⟨w1, w2⟩, w3⟩, w4⟩, w5⟩, w6⟩, w7⟩ := hw
    have ha : ∀ k, k ∈ asgP pre ∨ k ∈ tl.asg → k ∈ (TC.draw2 r0 pre tl af).asg := fun k hk => List.mem_append.2 hk
    refine W.to _ (weak_free (s := s) r0) ?_
    have hl : (lexO pre).length = pre.length := by simp [lexO]
    have hd : (lexO pre ++ tl.er none).drop (pre.map fun p => (p.j, p.b)).length = tl.er none := by
      rw [List.length_map, ← hl]; exact List.drop_left
    have hm : ((pre.map fun p => (p.j, p.b)).map fun u => (u.1, u.2, (lexO pre ++ tl.er none).getD u.1 default)) = pre.map fun p => (p.j, p.b, p.so) := by
      rw [List.map_map]
      refine List.map_congr_left fun p hp' => ?_
      simp only [Function.comp]
      rw [lexO_get w6 hp' (by simpa using List.all_eq_true.1 w7 p hp')]
    show srun P _ (fun st => sops P m ((lexO pre ++ tl.er none).drop (pre.map fun p => (p.j, p.b)).length) st (Q .normal) (Q .pan)) _ [] _ _
    rw [hm, hd]
    have k0 : ∀ {A : List Nat} {s' : S}, Keeps A ⟨s.fr, s.hp ++ List.replicate r0 .free⟩ s' → Keeps A s s' := fun hk => (Keeps.fr (s' := ⟨s.fr, s.hp ++ List.replicate r0 .free⟩) rfl).trans hk
    refine evP_sound hO pre [] _ _ kp r w4 w5 (fun a ha' => by cases ha') h (fun s' hk hh => ?_) fun s' hk hh => ?_
    · exact evR_sound hO tl R s' kn kp r _ _ w1 w2 w3 hh (fun s2 hk2 hh2 => hp.n s2 (((k0 hk).sub fun k hk => ha k (.inl hk)).trans (hk2.sub fun k hk => ha k (.inr hk))) hh2) fun s2 hk2 hh2 => hp.p s2 (((k0 hk).sub fun k hk => ha k (.inl hk)).trans (hk2.sub fun k hk => ha k (.inr hk))) hh2
    · exact fun st => hp.d (hz rfl) _ _ (hp.p s' ((k0 hk).sub fun k hk => ha k (.inl hk)) hh)
  | regL pre =>
    intro R s kn kx kr kp r Q hw hz h hp
    exact evL_sound hO pre s kn kp r hw h (fun s' hk hh => hp.n s' hk hh) fun s' hk hh => hp.p s' hk hh
  | seq a b iha ihb =>
    intro R s kn kx kr kp r Q hw hz h hp
    simp only [TC.wf, Bool.and_eq_true] at hw
    have ha : ∀ k ∈ a.asg, k ∈ (TC.seq a b).asg := fun k hk => List.mem_append_left _ hk
    have hb : ∀ k ∈ b.asg, k ∈ (TC.seq a b).asg := fun k hk => List.mem_append_right _ hk
    refine iha R s _ kx kr kp r (AE.then m (awp P m b.er Q) Q) hw.1 (fun e => hz (by rw [TC.noD2, e]; rfl)) h ⟨fun s' hk hh => ?_, fun i s' hk hh => hp.x i s' (hk.sub ha) hh, fun s' hk hh => hp.rt s' (hk.sub ha) hh, fun s' hk hh => hp.p s' (hk.sub ha) hh, hp.c, hp.d⟩
    exact W.mk (W.mk (ihb R s' kn kx kr kp r Q hw.2 (fun e => hz (by rw [TC.noD2, e, Bool.and_false])) hh ((hp.from (hk.sub ha)).sub hb)))
  | cond x a b iha ihb =>
    intro R s kn kx kr kp r Q hw hz h hp
    simp only [TC.wf, Bool.and_eq_true] at hw
    have ha : ∀ k ∈ a.asg, k ∈ (TC.cond x a b).asg := fun k hk => List.mem_append_left _ hk
    have hb : ∀ k ∈ b.asg, k ∈ (TC.cond x a b).asg := fun k hk => List.mem_append_right _ hk
    simp only [evC] at h
    split at h
    · rename_i t hx
      refine W.mk ⟨_, get_er hw.1.1 hx, _, rfl, t, rfl, fun e => ?_, fun e => ?_⟩
      · subst e; exact iha R s kn kx kr kp r Q hw.1.2 (fun e => hz (by rw [TC.noD2, e]; rfl)) h (hp.sub ha)
      · subst e; exact ihb R s kn kx kr kp r Q hw.2 (fun e => hz (by rw [TC.noD2, e, Bool.and_false])) h (hp.sub hb)
    · cases h
  | block id a iha =>
    intro R s kn kx kr kp r Q hw hz h hp
    refine iha R s kn _ kr kp r (AE.inBlock id Q) hw hz h ⟨hp.n, fun i s' hk hh => ?_, hp.rt, hp.p, hp.c, hp.d⟩
    have hh' : (bif Nat.beq i id then kn s' else kx i s') = some r := hh
    rw [beq_eq] at hh'
    show W m (fun st => if i = id then Q .normal st else Q (.exit i) st) (enc s')
    by_cases hi : i = id
    · subst hi
      rw [decide_eq_true rfl] at hh'
      simp only [if_true]
      exact hp.n s' hk hh'
    · rw [decide_eq_false hi] at hh'
      simp only [if_neg hi]
      exact hp.x i s' hk hh'
  | loop sh xs a iha =>
    intro R s kn kx kr kp r Q hw hz h hp
    simp only [TC.wf, Bool.and_eq_true] at hw
    obtain ⟨⟨hw1, hw2⟩, hw3⟩ := hw
    simp only [evC] at h
    split at h
    · rename_i c hc
      obtain ⟨hok, h2⟩ := bif_eq h
      simp only [Bool.and_eq_true] at hok
      have hoks := okAt_ok hok.1
      obtain ⟨t, ht, hd⟩ := bind_eq h2
      have hle0 : Weak m (enc s) (enc (unpack sh.sl c (sh.base s))) := (pack_le (s0 := s) hw1 hc fun k v hk => (keepFr_lk hk).2.1).weak
      refine W.to _ hle0 ⟨n, ?_⟩
      have key : ∀ (N : Nat) (c : HL sh.sl), loopN N (fun c => evC O n (HL sh.sl ⊕ XT xs) a (unpack sh.sl c (sh.base s)) (fun s => match pack sh s with | some c => some (.inl c) | none => none)
          (fun i s => match inj xs (i + 3) s with | some c => some (.inr c) | none => none) (fun s => match inj xs 1 s with | some c => some (.inr c) | none => none) (fun s => match inj xs 2 s with | some c => some (.inr c) | none => none)) c = some t → aloop m (awp P m a.er) Q N (enc (unpack sh.sl c (sh.base s))) := by
        intro N
        induction N with
        | zero => intro c h; cases h
        | succ N ihN =>
          intro c h
          simp only [loopN] at h
          obtain ⟨o, ho, h1⟩ := bind_eq h
          have hk0 := base_keeps hoks c
          refine iha _ (unpack sh.sl c (sh.base s)) _ _ _ _ o (AE.then m (aloop m (awp P m a.er) Q N) Q) hw3 hz ho ⟨fun s' hk hh => ?_, fun i s' hk hh => ?_, fun s' hk hh => ?_, fun s' hk hh => ?_, hp.c, hp.d⟩
          · split at hh
            · rename_i c' hc'
              cases hh
              exact W.mk (W.to _ (pack_le (s0 := s) hw1 hc' (kept hoks (hk0.trans hk) hc')).weak (ihN c' h1))
            · cases hh
          · split at hh
            · rename_i c' hc'
              cases hh
              cases h1
              exact disp hp hw2 hok.2 (hk0.trans hk) hc' hd
            · cases hh
          · split at hh
            · rename_i c' hc'
              cases hh
              cases h1
              exact disp hp hw2 hok.2 (hk0.trans hk) hc' hd
            · cases hh
          · split at hh
            · rename_i c' hc'
              cases hh
              cases h1
              exact disp hp hw2 hok.2 (hk0.trans hk) hc' hd
            · cases hh
      exact key n c ht
    · cases h
  | exit id => intro R s kn kx kr kp r Q _ _ h hp; exact hp.x id s (Keeps.refl _ _) h
  | ret => intro R s kn kx kr kp r Q _ _ h hp; exact hp.rt s (Keeps.refl _ _) h
  | adj l a iha =>
    intro R s kn kx kr kp r Q hw hz h hp
    simp only [TC.wf, Bool.and_eq_true] at hw
    simp only [evC] at h
    obtain ⟨s1, hs1, h⟩ := adjsK_eq h
    obtain ⟨e1, e2⟩ := adjs_sound hw.1 hs1
    exact awp_weak e1 (iha R s1 kn kx kr kp r Q hw.2 hz h (hp.from (e2 _)))
  | after a l iha =>
    intro R s kn kx kr kp r Q hw hz h hp
    simp only [TC.wf, Bool.and_eq_true] at hw
    refine iha R s _ kx kr kp r Q hw.2 hz h ⟨fun s' hk hh => ?_, hp.x, hp.rt, hp.p, hp.c, hp.d⟩
    obtain ⟨s1, hs1, hh⟩ := adjsK_eq hh
    obtain ⟨e1, e2⟩ := adjs_sound hw.1 hs1
    exact W.from e1 (hp.n s1 (hk.trans (e2 _)) hh)
  | cut xs a iha =>
    intro R s kn kx kr kp r Q hw hz h hp
    simp only [TC.wf, Bool.and_eq_true] at hw
    simp only [evC] at h
    obtain ⟨hok, h2⟩ := bif_eq h
    obtain ⟨t, ht, hd⟩ := bind_eq h2
    exact iha _ s _ _ _ _ t Q hw.2 hz ht ⟨fun s' hk hh => disp hp hw.1 hok hk hh hd, fun i s' hk hh => disp hp hw.1 hok hk hh hd, fun s' hk hh => disp hp hw.1 hok hk hh hd, fun s' hk hh => disp hp hw.1 hok hk hh hd, hp.c, hp.d⟩
end
end Go.Ev

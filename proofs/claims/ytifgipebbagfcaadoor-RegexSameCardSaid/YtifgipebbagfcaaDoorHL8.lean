/- Part ML8 of the layer: an abstract and a typed machine over the loaded code, proved sound. -/
import Derived.Test.YtifgipebbagfcaaDoorHL5
import Derived.Test.YtifgipebbagfcaaDoorHL7
import Derived.Test.YtifgipebbagfcaaDoorHL4
import Derived.OpenShut
import Derived.Deep.Slices
import Derived.ChangeMaps5
import Derived.Carry
set_option linter.unusedVariables false
set_option linter.unusedSimpArgs false
namespace Go.Ev
open Go Go.RowKit Go.Av
def Wp {α : Type} (m : Nat → Option α) (Q : α → Prop) : Prop := ∃ a, Q a ∧ ∃ n0, ∀ n, n0 ≤ n → m n = some a
def Conv (tbl : Nat → Option Fun') (f : Nat) (ars : List V) (os : List Ob) (Q : Option S → Prop) : Prop := Wp (fun n => evF tbl n f ars os) Q
section
variable {α β : Type}
theorem wp_some {a : α} {Q : α → Prop} (h : Q a) : Wp (fun _ => some a) Q := ⟨a, h, 0, fun _ _ => rfl⟩
theorem wp_bind {m : Nat → Option α} {f : Nat → α → Option β} {Q : β → Prop} (h : Wp m fun a => Wp (fun n => f n a) Q) : Wp (fun n => Option.bind (m n) (f n)) Q := by
  obtain ⟨a, ⟨b, hb, n1, h1⟩, n0, h0⟩ := h
  refine ⟨b, hb, max n0 n1, fun n hn => ?_⟩
  have e := h0 n (by omega)
  show Option.bind (m n) (f n) = _
  rw [e]
  exact h1 n (by omega)
theorem wp_mono {m : Nat → Option α} {Q Q' : α → Prop} (h : Wp m Q) (hq : ∀ a, Q a → Q' a) : Wp m Q' := let ⟨a, ha, r⟩ := h; ⟨a, hq a ha, r⟩
theorem wp_bif {b : Bool} {m k : Nat → Option α} {Q : α → Prop} (ht : b = true → Wp m Q) (hf : b = false → Wp k Q) : Wp (fun n => bif b then m n else k n) Q := by
  cases b
  · exact hf rfl
  · exact ht rfl
theorem wp_idx {xs : List α} {i : Int} {f : Nat → α → Option β} {Q : β → Prop} {x : α} (h0 : 0 ≤ i) (hx : xs[i.toNat]? = some x) (h : Wp (fun n => f n x) Q) : Wp (fun n => Option.bind (getI xs i) (f n)) Q := by
  have : getI xs i = some x := by simp [getI, h0, hx]
  rw [show (fun n => Option.bind (getI xs i) (f n)) = fun n => f n x by funext n; rw [this]; rfl]
  exact h
end
section
variable {tbl : Nat → Option Fun'}
theorem conv_of {f : Nat} {c : TF} {ars : List V} {os : List Ob} {G : Oracle → Nat → Option (Option S)} {Q : Option S → Prop} (ht : tbl f = some (.code c)) (hl : (Nat.beq os.length c.m && Nat.ble ars.length c.ntmps) = true) (hx : ∀ O n, evF1 O n c ars os = G O n) (h : Wp (fun n => G (evF tbl n) n) Q) : Conv tbl f ars os Q := by
  obtain ⟨a, ha, n0, hn⟩ := h
  refine ⟨a, ha, n0 + 1, fun n h1 => ?_⟩
  obtain ⟨m, rfl⟩ : ∃ m, n = m + 1 := ⟨n - 1, by omega⟩
  simp only [evF, ht, hl, cond_true]
  rw [hx]
  exact hn m (by omega)
def packR (sh : Sh) (s : S) : Option (HL sh.sl) := bif Nat.beq s.fr.length sh.n && oneOk sh.n s.fr then pack sh s else none
def Calls' (tbl : Nat → Option Fun') (f : Nat) (ars : List V) (os : List Ob) (sh : Sh) (c : HL sh.sl) : Prop := ∃ n0, ∀ n, n0 ≤ n → callR (evF tbl n) f ars os sh = some c
theorem calls_of {f : Nat} {ars : List V} {os : List Ob} {sh : Sh} {c : HL sh.sl} (hp : packR sh (outQ sh c) = some c) (h : Conv tbl f ars os (· = some (outQ sh c))) : Calls' tbl f ars os sh c := by
  obtain ⟨o, rfl, n0, hn⟩ := h
  refine ⟨n0, fun n h1 => ?_⟩
  have e : evF tbl n f ars os = some (some (outQ sh c)) := hn n h1
  unfold callR
  rw [e]
  exact hp
theorem wp_call {f : Nat} {ars : List V} {os : List Ob} {sh : Sh} {β : Type} {k : Nat → HL sh.sl → Option β} {Q : β → Prop} {c : HL sh.sl} (h : Calls' tbl f ars os sh c) (hk : Wp (fun n => k n c) Q) : Wp (fun n => Option.bind (callR (evF tbl n) f ars os sh) (k n)) Q := by
  obtain ⟨n0, hn⟩ := h
  exact wp_bind ⟨c, hk, n0, hn⟩
end
end Go.Ev
namespace Go.Ev
open Go Go.RowKit Go.Av
def RX.er : RX → RV
  | .tm t => .tm t
  | .cell a t => .cell a t.sz t.ag
structure Entry (P : Program) (f : Nat) (c : TF) : Prop where
  body : ∃ fn, P.funcs[f]? = some fn ∧ fn.ntmps = c.ntmps ∧ fn.body.bind (compCode P fn.ntmps) = some c.code.er.canon ∧ fn.results.toList.mapM (compRes P) = some (c.res.map RX.er)
  ok : (c.code.er.okB && c.code.wf P c.m && c.sh.wfB && Nat.ble c.m c.sh.sk.hp.length) = true
section
variable {P : Program} {O : Oracle} {n : Nat}
theorem resOf_sound {s : S} : ∀ {l : List RX} {vs : List V}, resOf s l = some vs → (l.map RX.er).mapM (retV (enc s)) = some (vs.map encA)
  | [], vs, h => by cases h; rfl
  | .tm t :: l, vs, h => by
    simp only [resOf] at h
    split at h
    · rename_i v hv
      split at h
      · rename_i us hu
        cases h
        rw [List.map_cons, List.mapM_cons, resOf_sound hu]
        have : retV (enc s) (RX.tm t).er = some (encA v) := by show Av.look (enc s).fr t = _; rw [look_enc, hv]; rfl
        rw [this]; rfl
      · cases h
    · cases h
  | .cell a t :: l, vs, h => by
    simp only [resOf] at h
    split at h
    · rename_i id off hv
      split at h
      · rename_i tid cs ho
        obtain ⟨h1, h2⟩ := bif_eq h
        have h3 := Nat.le_of_ble_eq_true h1
        split at h2
        · rename_i us hu
          cases h2
          rw [List.map_cons, List.mapM_cons, resOf_sound hu]
          have : retV (enc s) (RX.cell a t).er = some (encA (whole t ((cs.drop off).take t.sz))) := by
            show (Av.look (enc s).fr a).bind _ = _
            rw [look_enc, hv]
            show (match (enc s).hp[id]? with
              | some (.box _ cs) => if off + t.sz ≤ cs.length ∧ (t.ag = false → t.sz = 1) then some (ofCells t.ag ((cs.drop off).take t.sz)) else none
              | _ => none) = _
            rw [hp_get, ho]
            show (if off + t.sz ≤ (cs.map encB).length ∧ (t.ag = false → t.sz = 1) then some (ofCells t.ag (((cs.map encB).drop off).take t.sz)) else none) = _
            rw [if_pos ⟨by simpa using h3, sz_one⟩, whole_enc, List.map_take, List.map_drop]
            intro hag
            exact ne_nil_of h3 (sz_one hag)
          rw [this]; rfl
        · cases h2
      · cases h
    · cases h
theorem numbered_look : ∀ (vs : List V) (k : Nat), (numbered k vs).map (fun x => (x.1, encA x.2)) = argFr k (vs.map encA)
  | [], _ => rfl
  | v :: vs, k => by
    simp only [numbered, List.map_cons, argFr, numbered_look vs (k + 1)]
theorem lk_numbered : ∀ (vs : List V) (k i : Nat), lk (numbered k vs) (k + i) = vs[i]?
  | [], _, _ => by simp [numbered, lk]
  | v :: vs, k, i => by
    simp only [numbered, lk, beq_eq]
    cases i with
    | zero => simp
    | succ i =>
      rw [decide_eq_false (by omega : ¬ k + (i + 1) = k)]
      simp only [cond_false, List.getElem?_cons_succ]
      rw [show k + (i + 1) = (k + 1) + i by omega]
      exact lk_numbered vs (k + 1) i
theorem unpack_len : ∀ (l : List Slot) (c : HL l) (b : S), (unpack l c b).fr.length = b.fr.length + (l.filter fun x => match x with | .tm _ _ => true | _ => false).length
  | [], _, _ => rfl
  | .tm j t :: l, c, b => by
    show (unpack l c.2 ⟨(j, .d t c.1) :: b.fr, b.hp⟩).fr.length = _
    rw [unpack_len l]
    simp only [List.filter_cons, if_true, List.length_cons]
    omega
  | .cell id j t :: l, c, b => by
    show (unpack l c.2 ⟨b.fr, _⟩).fr.length = _
    rw [unpack_len l]
    simp [List.filter_cons]
  | .vec _ _ _ :: l, c, b => by
    show (unpack l c.2 ⟨b.fr, _⟩).fr.length = _
    rw [unpack_len l]
    simp [List.filter_cons]
  | .map _ _ _ _ _ :: l, c, b => by
    show (unpack l c.2 ⟨b.fr, _⟩).fr.length = _
    rw [unpack_len l]
    simp [List.filter_cons]
  | .tree _ _ _ _ :: l, c, b => by
    show (unpack l c.2 ⟨b.fr, _⟩).fr.length = _
    rw [unpack_len l]
    simp [List.filter_cons]
  | .treeH _ _ _ _ _ _ :: l, c, b => by
    show (unpack l c.2 ⟨b.fr, _⟩).fr.length = _
    rw [unpack_len l]
    simp [List.filter_cons]
theorem outQ_len (sh : Sh) (c : HL sh.sl) : (outQ sh c).fr.length = sh.n := by
  unfold outQ
  rw [unpack_len, base_nil]; rfl
def oneB (v : V) : BV := match v with
  | .agg vs => .pv ((encA (.agg vs)).toPV.getD .any)
  | v => encB v
theorem one_ret {v : V} (h : v.one = true) : encA v = .b (oneB v) ∨ ∃ p, (encA v).toPV = some p ∧ oneB v = .pv p := by
  cases v with
  | agg vs =>
    obtain ⟨cs, hcs⟩ := cellsD_pv vs h
    have : (encA (.agg vs)).toPV = some (.agg cs) := by
      show ((vs.map encB).mapM BV.toPV).map PV.agg = _
      rw [hcs]; rfl
    exact .inr ⟨_, this, by simp only [oneB, this]; rfl⟩
  | tup vs => cases h
  | _ => exact .inl rfl
theorem oneB_ids {v : V} (h : v.one = true) : ∀ i ∈ (oneB v).ids, i ∈ v.ids := fun i hi => by
  rw [encA_ids]
  rcases one_ret h with e | ⟨p, _, e⟩
  · rw [e]; exact hi
  · rw [e] at hi; cases hi
theorem one_le {v v' : V} (h : v.one = true) (hle : LeA (encA v) (encA v')) : LeB (oneB v) (encB v') := by
  cases hv : v.isA
  · have e : oneB v = encB v := by cases v <;> first | rfl | cases hv
    rw [encA_b hv] at hle
    rw [e]
    exact leA_b hle
  · cases v with
    | agg vs =>
      obtain ⟨cs, hcs⟩ := cellsD_pv vs h
      have ht : (AV.agg (vs.map encB)).toPV = some (.agg cs) := by
        show ((vs.map encB).mapM BV.toPV).map PV.agg = _
        rw [hcs]; rfl
      have e : oneB (.agg vs) = .pv (.agg cs) := by
        show BV.pv ((AV.agg (vs.map encB)).toPV.getD .any) = _
        rw [ht]; rfl
      rw [e]
      cases hv' : v'.isA
      · rw [encA_b hv'] at hle
        generalize encB v' = z at hle ⊢
        have hle' : LeA (.agg (vs.map encB)) (.b z) := hle
        cases hle' with
        | data _ q hq =>
          rw [ht] at hq; cases hq; exact .refl _
        | any => exact .any _
      · cases v' with
        | agg vs => exact .any _
        | tup vs => exact .any _
        | _ => cases hv'
    | tup vs => cases h
    | _ => cases hv
theorem ren_range {L : Nat} {x : BV} (h : ∀ i ∈ x.ids, i < L) : x.ren ((List.range L).idxOf ·) = x := by
  have key : ∀ i, i < L → (List.range L).idxOf i = i := fun i hi => by
    have h1 := idx_get (ids := List.range L) (i := i) (List.mem_range.2 hi)
    obtain ⟨h2, h3⟩ := List.getElem?_eq_some_iff.1 h1
    rw [List.getElem_range] at h3
    exact h3
  cases x <;> simp only [BV.ren] <;> simp only [BV.ids, List.mem_singleton, forall_eq] at h <;> first
    | rfl
    | (rw [key _ h])
    | skip
  rename_i f ids
  congr 1
  have : ∀ l : List Nat, (∀ i ∈ l, i < L) → l.map ((List.range L).idxOf ·) = l := by
    intro l hl
    induction l with
    | nil => rfl
    | cons a l ih => rw [List.map_cons, key a (hl a (by simp)), ih fun i hi => hl i (by simp [hi])]
  exact this ids h
theorem ren_rangeL {L : Nat} : ∀ {xs : List BV}, (∀ i ∈ xs.flatMap BV.ids, i < L) → xs.map (BV.ren ((List.range L).idxOf ·)) = xs
  | [], _ => rfl
  | x :: xs, h => by
    rw [List.map_cons, ren_range fun i hi => h i (by simp [hi]), ren_rangeL fun i hi => h i (by
      simp only [List.flatMap_cons, List.mem_append]; exact .inr hi)]
theorem ren_rangeA {L : Nat} {x : AV} (h : ∀ i ∈ x.ids, i < L) : x.ren ((List.range L).idxOf ·) = x := by
  cases x with
  | b x => simp only [AV.ren, ren_range h]
  | agg xs => simp only [AV.ren, ren_rangeL h]
  | tup xs => simp only [AV.ren, ren_rangeL h]
theorem ren_rangeO {L : Nat} {o : AObj} (h : ∀ i ∈ o.ids, i < L) : o.ren ((List.range L).idxOf ·) = o := by
  cases o with
  | box t cs => simp only [AObj.ren, ren_rangeL h]
  | tree e sz k xs hole =>
    cases hole with
    | none => rfl
    | some q => obtain ⟨i, j, b⟩ := q; simp only [AObj.ren, mapH, ren_range (show ∀ i ∈ b.ids, i < L from h)]
  | _ => rfl
theorem weak_take {m L T : Nat} {r : AV} {hp : List AObj} (hL : L ≤ hp.length) (hm : m ≤ L) (hr : ∀ i ∈ r.ids, i < L) (ho : ∀ o ∈ hp.take L, ∀ i ∈ o.ids, i < L) : Weak m ⟨[(T, r)], hp⟩ ⟨[(T, r)], hp.take L⟩ := by
  refine weak_sel (List.range L) List.nodup_range (fun k hk => by rw [List.getElem?_range (by omega)]) (fun k y hk => ⟨y, hk, fun i hi => ?_, ?_⟩) (by simp; omega) fun j o' hj => ?_
  · simp only [Av.look] at hk
    split at hk
    · cases hk; exact List.mem_range.2 (hr i hi)
    · cases hk
  · simp only [Av.look] at hk
    split at hk
    · cases hk; rw [ren_rangeA hr]
    · cases hk
  · have hj' : (hp.take L)[j]? = some o' := hj
    have hjl := (List.getElem?_eq_some_iff.1 hj').1
    have hjL : j < L := by rw [List.length_take] at hjl; omega
    have hmem := List.mem_of_getElem? hj'
    refine ⟨j, o', by rw [List.getElem?_range hjL], ?_, fun i hi => List.mem_range.2 (ho o' hmem i hi), (ren_rangeO (ho o' hmem)).symm⟩
    rw [List.getElem?_take_of_lt hjL] at hj'
    exact hj'
def OutOk (o : Option S) (out : Outc) : Prop := match o with
  | some s => out = some (encA (res s.fr.length s.fr), s.hp.map encO)
  | none => out = none
theorem finS_sound {c : TF} {s : S} {o : Option S} {m : Nat} (hw : c.sh.wfB = true) (hm : m ≤ c.sh.sk.hp.length) (h : finS c s = some o) : W m (fpost m (c.res.map RX.er) (OutOk o) .normal) (enc s) := by
  unfold finS at h
  split at h
  · rename_i vs hvs
    obtain ⟨h1, h2⟩ := bif_eq h
    simp only [Bool.and_eq_true, List.all_eq_true, Bool.or_eq_true] at h1
    obtain ⟨⟨⟨⟨g1, g2⟩, g3⟩, g4⟩, g5⟩ := h1
    have hL := Nat.le_of_ble_eq_true g1
    have hn := Nat.eq_of_beq_eq_true g4
    generalize hLe : c.sh.sk.hp.length = L at *
    split at h2
    · rename_i x hx
      unfold retQ at h2
      cases h2
      have hk0 : ∀ k v, lk (keepFr (⟨[], []⟩ : S).fr c.sh.keep) k = some v → lk (numbered 0 vs) k = some v := by
        intro k v hv
        have := (keepFr_lk hv).2.1
        cases this
      have hP := pack_leP (s0 := ⟨[], []⟩) hw hx hk0
      have hS := hP.le
      have hlk : ∀ i, lk (numbered 0 vs) i = vs[i]? := fun i => by have := lk_numbered vs 0 i; rw [Nat.zero_add] at this; exact this
      have hlen : (outQ c.sh x).hp.length = L := by
        have : (s.hp.take L).length = (outQ c.sh x).hp.length := hP.len
        rw [← this, List.length_take]; omega
      obtain ⟨r, r1, r2, r3⟩ : ∃ r : AV, isRet (vs.map encA) r ∧ (∀ i ∈ r.ids, i < L) ∧ LeA r (encA (res (outQ c.sh x).fr.length (outQ c.sh x).fr)) := by
        rw [outQ_len, hn]
        have hids : ∀ v ∈ vs, ∀ i ∈ v.ids, i < L := fun v hv i hi => Nat.le_of_ble_eq_true (g3 v hv i hi)
        have many : vs.length ≠ 1 → ∃ r : AV, (∃ bs : List BV, r = .tup bs ∧ bs.length = (vs.map encA).length ∧ ∀ (i : Nat) (x : AV) (b : BV), (vs.map encA)[i]? = some x → bs[i]? = some b → x = .b b ∨ ∃ p, x.toPV = some p ∧ b = .pv p) ∧ (∀ i ∈ r.ids, i < L) ∧ LeA r (encA (res vs.length (outQ c.sh x).fr)) := by
          intro hne
          have hone : ∀ v ∈ vs, v.one = true := fun v hv => by
            rcases g5 with g5 | g5
            · exact absurd (Nat.eq_of_beq_eq_true g5) hne
            · exact g5 v hv
          refine ⟨.tup (vs.map oneB), ⟨_, rfl, by simp, fun i y b hy hb => ?_⟩, fun i hi => ?_, ?_⟩
          · simp only [List.getElem?_map, Option.map_eq_some_iff] at hy hb
            obtain ⟨v, hv, rfl⟩ := hy
            obtain ⟨v', hv', rfl⟩ := hb
            rw [hv] at hv'; cases hv'
            exact one_ret (hone v (List.mem_of_getElem? hv))
          · obtain ⟨b, hb, hib⟩ := List.mem_flatMap.1 (show i ∈ (vs.map oneB).flatMap BV.ids from hi)
            obtain ⟨v, hv, rfl⟩ := List.mem_map.1 hb
            exact hids v hv i (oneB_ids (hone v hv) i hib)
          · unfold res
            have : Nat.beq vs.length 1 = false := by rw [beq_eq]; exact decide_eq_false hne
            rw [this]
            refine .tup _ _ (by simp [resV]) fun i a b ha hb => ?_
            simp only [resV, List.getElem?_map, Option.map_eq_some_iff] at ha hb
            obtain ⟨v, hv, rfl⟩ := ha
            obtain ⟨w, ⟨j, hj, rfl⟩, rfl⟩ := hb
            have hil := (List.getElem?_eq_some_iff.1 hv).1
            rw [List.getElem?_range hil] at hj
            cases hj
            cases hl : lk (outQ c.sh x).fr i with
            | none => exact .any _
            | some v' =>
              obtain ⟨u, hu, hle⟩ := hP.fr i v' hl
              have hu' : lk (numbered 0 vs) i = some u := hu
              rw [hlk, hv] at hu'
              cases hu'
              exact one_le (hone v (List.mem_of_getElem? hv)) hle
        match vs, many with
        | [v0], _ =>
          refine ⟨encA v0, rfl, fun i hi => hids v0 (by simp) i (by rw [encA_ids]; exact hi), ?_⟩
          show LeA _ (encA ((lk (outQ c.sh x).fr 0).getD .any))
          cases hl : lk (outQ c.sh x).fr 0 with
          | none => exact .any _
          | some v' =>
            obtain ⟨u, hu, hle⟩ := hP.fr 0 v' hl
            have hu' : lk (numbered 0 [v0]) 0 = some u := hu
            rw [hlk] at hu'
            cases hu'
            exact hle
        | [], many => exact many (by simp)
        | _ :: _ :: _, many => exact many (by simp)
      refine W.mk (W.mk ⟨_, r, resOf_sound hvs, r1, _, _, fun T => ?_, rfl, by rw [List.length_map, hlen]; exact hm⟩)
      have hLh : L ≤ (enc s).hp.length := by rw [hp_len]; exact hL
      refine (weak_take hLh hm r2 fun o ho i hi => ?_).trans (LeS.weak ⟨fun k y hk => ?_, ?_, fun i a b ha hb => hS.hp i a b ?_ hb⟩)
      · have ho' : o ∈ (s.hp.map encO).take L := ho
        rw [← List.map_take] at ho'
        obtain ⟨o1, h3, rfl⟩ := List.mem_map.1 ho'
        rw [← encO_ids] at hi
        exact Nat.le_of_ble_eq_true (g2 o1 h3 i hi)
      · simp only [Av.look] at hk ⊢
        split at hk
        · rename_i hkT
          cases hk
          exact ⟨r, by rw [if_pos hkT], r3⟩
        · cases hk
      · show ((s.hp.map encO).take L).length = ((outQ c.sh x).hp.map encO).length
        rw [List.length_map, hlen, List.length_take, List.length_map]; omega
      · have ha' : ((s.hp.map encO).take L)[i]? = some a := ha
        rw [← List.map_take] at ha'
        exact ha'
    · cases h2
  · cases h
theorem evF1_sound (hm : P.follows .mixedOrders = true) (hO : OracleOk P O) {f : Nat} {c : TF} {ars : List V} {os : List Ob} {o : Option S} (hE : Entry P f c) (hos : os.length = c.m) (hars : ars.length ≤ c.ntmps) (h : evF1 O n c ars os = some o) : ACalls P f (ars.map encA) (os.map encO) (OutOk o) := by
  obtain ⟨fn, h1, h3, h24, h5⟩ := hE.body
  obtain ⟨code, h2, h4⟩ := Option.bind_eq_some_iff.1 h24
  have hok := hE.ok
  simp only [Bool.and_eq_true] at hok
  obtain ⟨⟨⟨k1, k2⟩, k3⟩, k4⟩ := hok
  have k5 := Nat.le_of_ble_eq_true k4
  have hol : (os.map encO).length = c.m := by rw [List.length_map, hos]
  have henc : (⟨argFr 0 (ars.map encA), os.map encO⟩ : St) = enc ⟨numbered 0 ars, os⟩ := by
    simp only [enc, numbered_look]
  refine acalls_of hm h1 h2 h4 k1 h5 (by rw [List.length_map, h3]; exact hars) ?_
  rw [henc, hol]
  refine evC_sound (D2 := True) hO c.code (Option S) _ _ _ _ _ o _ k2 (fun _ => trivial) h ⟨fun s' _ hh => finS_sound k3 k5 hh, fun i s' _ hh => (by cases hh), fun s' _ hh => finS_sound k3 k5 hh, fun s' _ hh => ?_, fun _ ⟨_, _, hk⟩ => hk, fun _ _ _ hk => hk⟩
  cases hh; exact rfl
structure EntryD (P : Program) (f : Nat) (d : TD) : Prop where
  body : ∃ fn CA CB CH h j y3 p3 a3 y4 p4 a4, P.funcs[f]? = some fn ∧ fn.ntmps = d.c.ntmps ∧
    fn.body = some (.seq CA (.seq (.region j #[⟨some d.t8, .makeFunc (.func h) #[] #[.tmp d.ta, .tmp d.tb], y3, p3, a3, none⟩, ⟨none, .defer { callee := .value (.tmp d.t8), args := #[], argTypes := #[] }, y4, p4, a4, none⟩] false) CB)) ∧
    compCode P fn.ntmps CA = some d.a.er.canon ∧ compCode P fn.ntmps CB = some d.c.code.er.canon ∧ Catch P h CH ∧ compCode P 5 CH = some d.h.er.canon ∧ fn.results.toList.mapM (compRes P) = some (d.c.res.map RX.er)
  ok : (d.a.er.okB && d.a.wf P 0 && d.c.code.er.okB && d.c.code.wf P 2 && d.h.er.okB && d.h.wf P 2 && d.c.sh.wfB && Nat.ble (d.t8 + 1) d.c.ntmps && d.c.code.noD2) = true
theorem isBox_eq {s : S} {t i : Nat} (h : isBox s t i = true) : Av.look (enc s).fr t = some (.b (.ptr i 0)) := by
  unfold isBox at h
  split at h
  · rename_i j o hv
    rw [Bool.and_eq_true] at h
    rw [look_enc, hv, Nat.eq_of_beq_eq_true h.1, Nat.eq_of_beq_eq_true h.2]; rfl
  · cases h
theorem noT_eq {s : S} {t : Nat} (h : noT s t = true) : Av.look (enc s).fr t = none := by
  unfold noT at h
  split at h
  · cases h
  · rename_i hv
    rw [look_enc, hv]; rfl
theorem fpost_flat {rs : List RV} {K : Outc → Prop} {st : St} (h : W 0 (fpost 0 rs K .normal) st) : fpost 0 rs K .normal st := let ⟨_, e1, h1⟩ := h; W.from e1 h1
theorem evFD_sound (hm : P.follows .mixedOrders = true) (hO : OracleOk P O) {f : Nat} {d : TD} {ars : List V} {o : Option S} (hE : EntryD P f d) (hars : ars.length ≤ d.c.ntmps) (h : evFD O n d ars = some o) : ACalls P f (ars.map encA) [] (OutOk o) := by
  obtain ⟨fn, CA, CB, CH, hh, j, y3, p3, a3, y4, p4, a4, h1, h2, h3, h4, h5, h6, h7, h8⟩ := hE.body
  have hok := hE.ok
  simp only [Bool.and_eq_true] at hok
  obtain ⟨⟨⟨⟨⟨⟨⟨⟨k1, k2⟩, k3⟩, k4⟩, k5⟩, k6⟩, k7⟩, k8⟩, k9⟩ := hok
  have henc : (⟨argFr 0 (ars.map encA), []⟩ : St) = enc ⟨numbered 0 ars, []⟩ := by
    simp only [enc, numbered_look, List.map_nil]
  refine acalls_dfr hm h1 h3 h4 k1 h5 k3 h7 k5 h6 h8 (by rw [List.length_map, h2]; exact hars) (by rw [h2]; exact Nat.le_of_ble_eq_true k8) ?_
  rw [henc]
  refine evC_sound (D2 := True) hO d.a (Option S) _ _ _ _ _ o _ k2 (fun _ => trivial) h ⟨fun s1 _ hh => ?_, fun i s' _ hh => (by cases hh), fun s' _ hh => (by cases hh), fun s' _ hh => (by cases hh), fun _ ⟨_, _, hk, _⟩ => (by cases hk), fun _ _ _ ⟨hk, _⟩ => (by cases hk)⟩
  obtain ⟨g1, g2⟩ := bif_eq hh
  simp only [Bool.and_eq_true] at g1
  obtain ⟨⟨⟨b1, b2⟩, b3⟩, b4⟩ := g1
  refine W.mk ⟨rfl, ⟨noT_eq b3, isBox_eq b1, isBox_eq b2, by rw [hp_len]; exact Nat.eq_of_beq_eq_true b4⟩, ?_⟩
  refine evC_sound (D2 := False) hO d.c.code (Option S) _ _ _ _ _ o _ k4 (fun e => by rw [k9] at e; cases e) g2 ⟨fun s' _ hh => ?_, fun i s' _ hh => (by cases hh), fun s' _ hh => ?_, fun s2 _ hh => ?_, fun st ⟨s1, e1, e2⟩ => W.from e1 e2, fun h => h.elim⟩
  · exact W.mk (fpost_flat (finS_sound k7 (Nat.zero_le _) hh))
  · exact W.mk (fpost_flat (finS_sound k7 (Nat.zero_le _) hh))
  · obtain ⟨g3, g4⟩ := bif_eq hh
    simp only [Bool.and_eq_true] at g3
    refine W.mk ⟨isBox_eq g3.1, isBox_eq g3.2, ?_⟩
    exact evC_sound (D2 := True) hO d.h (Option S) _ _ _ _ _ o _ k6 (fun _ => trivial) g4 ⟨fun s' _ hh => W.mk ⟨.inl rfl, fpost_flat (finS_sound k7 (Nat.zero_le _) hh)⟩, fun i s' _ hh => (by cases hh), fun s' _ hh => W.mk ⟨.inr rfl, fpost_flat (finS_sound k7 (Nat.zero_le _) hh)⟩, fun s' _ hh => (by cases hh), fun _ ⟨_, _, hk, _⟩ => (by rcases hk with hk | hk <;> cases hk), fun _ _ _ ⟨hk, _⟩ => (by rcases hk with hk | hk <;> cases hk)⟩
def NatOk (P : Program) (f : Nat) (g : List V → Option S) : Prop := ∀ ars s, g ars = some s → ACalls P f (ars.map encA) [] (OutOk (some s))
structure TblOk (P : Program) (tbl : Nat → Option Fun') : Prop where
  code : ∀ f c, tbl f = some (.code c) → Entry P (f % 10000) c
  nat : ∀ f g, tbl f = some (.nat g) → NatOk P (f % 10000) g
  dfr : ∀ f d, tbl f = some (.dfr d) → EntryD P (f % 10000) d
theorem oracle_ok (hm : P.follows .mixedOrders = true) {tbl : Nat → Option Fun'} (hT : TblOk P tbl) : ∀ n, OracleOk P (evF tbl n) := by
  have key : ∀ n f ars os o, evF tbl n f ars os = some o → ACalls P (f % 10000) (ars.map encA) (os.map encO) (OutOk o) := by
    intro n
    induction n with
    | zero => intro f ars os o h; cases h
    | succ n ih =>
      intro f ars os o h
      have hO : OracleOk P (evF tbl n) := ⟨fun f ars os s hh => ih f ars os (some s) hh, fun f ars os hh => ih f ars os none hh⟩
      simp only [evF] at h
      split at h
      · rename_i c hc
        obtain ⟨g1, g2⟩ := bif_eq h
        rw [Bool.and_eq_true] at g1
        exact evF1_sound hm hO (hT.code f c hc) (Nat.eq_of_beq_eq_true g1.1) (Nat.le_of_ble_eq_true g1.2) g2
      · rename_i d hd
        obtain ⟨g1, g2⟩ := bif_eq h
        rw [Bool.and_eq_true] at g1
        obtain rfl := List.eq_nil_of_length_eq_zero (Nat.eq_of_beq_eq_true g1.1)
        exact evFD_sound hm hO (hT.dfr f d hd) (Nat.le_of_ble_eq_true g1.2) g2
      · rename_i g hg
        split at h
        · split at h
          · rename_i s hs
            cases h
            exact hT.nat f g hg ars s hs
          · cases h
        · cases h
      · cases h
  exact fun n => ⟨fun f ars os s hh => key n f ars os (some s) hh, fun f ars os hh => key n f ars os none hh⟩
theorem acalls_conv (hm : P.follows .mixedOrders = true) {tbl : Nat → Option Fun'} (hT : TblOk P tbl) {f : Nat} {ars : List V} {os : List Ob} {Q : Option S → Prop} (h : Conv tbl f ars os Q) : ∃ o, Q o ∧ ACalls P (f % 10000) (ars.map encA) (os.map encO) (OutOk o) := by
  obtain ⟨o, hQ, n0, hn⟩ := h
  have h1 := hn n0 (Nat.le_refl _)
  refine ⟨o, hQ, ?_⟩
  cases o with
  | some s => exact (oracle_ok hm hT n0).ret f ars os s h1
  | none => exact (oracle_ok hm hT n0).pan f ars os h1
def lookF : List (Nat × Fun') → Nat → Option Fun'
  | [], _ => none
  | (k, e) :: l, f => bif Nat.beq f k then some e else lookF l f
def OkE (P : Program) (k : Nat) : Fun' → Prop
  | .code c => Entry P (k % 10000) c
  | .dfr d => EntryD P (k % 10000) d
  | .nat g => NatOk P (k % 10000) g
def AllOk (P : Program) : List (Nat × Fun') → Prop
  | [] => True
  | (k, e) :: l => OkE P k e ∧ AllOk P l
theorem AllOk.get {l : List (Nat × Fun')} (h : AllOk P l) {f : Nat} {e : Fun'} (he : lookF l f = some e) : OkE P f e := by
  induction l with
  | nil => cases he
  | cons x l ih =>
    obtain ⟨k, e'⟩ := x
    simp only [lookF, beq_eq] at he
    by_cases hk : f = k
    · subst hk
      rw [decide_eq_true rfl] at he
      cases he; exact h.1
    · rw [decide_eq_false hk] at he
      exact ih h.2 he
theorem AllOk.tbl {l : List (Nat × Fun')} (h : AllOk P l) : TblOk P (lookF l) := ⟨fun _ _ he => h.get he, fun _ _ he => h.get he, fun _ _ he => h.get he⟩
end
end Go.Ev
namespace Go.Ev
open Go Go.RowKit Go.Av Go.Deep Go.WideShapes
mutual
def okRx : Rx → Prop
  | .mk k l h ks => (IntKind.i64.min ≤ k ∧ k ≤ IntKind.i64.max) ∧ (IntKind.i64.min ≤ l ∧ l ≤ IntKind.i64.max) ∧ (IntKind.i64.min ≤ h ∧ h ≤ IntKind.i64.max) ∧ ks.length ≤ maxLen ∧ okRxs ks
def okRxs : List Rx → Prop
  | [] => True
  | r :: rs => okRx r ∧ okRxs rs
end
def okD : (t : Ty) → t.den → Prop
  | .int k, x => k.min ≤ x ∧ x ≤ k.max
  | .bool, _ => True
  | .str, x => List.length x ≤ maxLen
  | .list t, x => List.length x ≤ maxLen ∧ ∀ y ∈ x, okD t y
  | .unit, _ => True
  | .pair a b, x => okD a x.1 ∧ okD b x.2
  | .rx, x => okRx x
theorem okRxs_iff : ∀ (l : List Rx), okRxs l ↔ ∀ r ∈ l, okRx r
  | [] => by simp [okRxs]
  | r :: rs => by simp [okRxs, okRxs_iff rs]
def rxB (P : Program) (t : TypeId) : Bool := match P.underlying t with
  | some (.struct fs) => match fs.toList with
    | [f0, f1, f2, f3] => (match P.underlying f0.type, P.underlying f1.type, P.underlying f2.type, P.underlying f3.type with
      | some (.int .i64), some (.int .i64), some (.int .i64), some (.slice e) => Nat.beq e t
      | _, _, _, _ => false) && Nat.beq f0.offset 0 && Nat.beq f1.offset 1 && Nat.beq f2.offset 2 && Nat.beq f3.offset 3 &&
        Nat.beq (P.cellsOf f0.type) 1 && Nat.beq (P.cellsOf f1.type) 1 && Nat.beq (P.cellsOf f2.type) 1 && Nat.beq (P.cellsOf f3.type) 1 && Nat.beq (P.cellsOf t) 4
    | _ => false
  | _ => false
def fsB (P : Program) (go : TypeId → Ty → Bool) : List Field → Nat → Ty → Bool
  | [], _, .unit => true
  | f :: l, off, .pair a b => Nat.beq f.offset off && Nat.beq (P.cellsOf f.type) a.sz && go f.type a && fsB P go l (off + a.sz) b
  | _, _, _ => false
def arB (P : Program) (go : TypeId → Ty → Bool) (e : TypeId) : Nat → Ty → Bool
  | 0, .unit => true
  | n + 1, .pair a b => Nat.beq (P.cellsOf e) a.sz && go e a && arB P go e n b
  | _, _ => false
def fitR (P : Program) : Nat → TypeId → Ty → Bool
  | 0, _, _ => false
  | d + 1, t, u => match u with
    | .rx => rxB P t
    | .bool => (match P.underlying t with | some .bool => true | _ => false)
    | .int k => (match P.underlying t with | some (.int k') => decide (k = k') | _ => false)
    | .str => (match P.underlying t with | some .string => true | _ => false)
    | .list a => (match P.underlying t with | some (.slice e) => Nat.beq (P.cellsOf e) a.sz && Nat.ble 1 a.sz && fitR P d e a | _ => false)
    | u => (match P.underlying t with
      | some (.struct fs) => Nat.beq (P.cellsOf t) u.sz && fsB P (fitR P d) fs.toList 0 u
      | some (.array n e) => Nat.beq (P.cellsOf t) u.sz && arB P (fitR P d) e n u
      | _ => false)
theorem list_of {α : Type} {p : Nat → α → Prop} : ∀ (n : Nat), (∀ i, i < n → ∃ x, p i x) → ∃ xs : List α, xs.length = n ∧ ∀ i x, xs[i]? = some x → p i x
  | 0, _ => ⟨[], rfl, fun i x h => by simp at h⟩
  | n + 1, h => by
    obtain ⟨xs, h1, h2⟩ := list_of (p := p) n fun i hi => h i (by omega)
    obtain ⟨x, hx⟩ := h n (by omega)
    refine ⟨xs ++ [x], by simp [h1], fun i y hy => ?_⟩
    rcases Nat.lt_or_ge i xs.length with hi | hi
    · rw [List.getElem?_append_left hi] at hy; exact h2 i y hy
    · rw [List.getElem?_append_right hi] at hy
      have : i - xs.length = 0 := by
        rcases Nat.eq_zero_or_pos (i - xs.length) with h3 | h3
        · exact h3
        · rw [List.getElem?_eq_none (show [x].length ≤ i - xs.length from h3)] at hy; cases hy
      rw [this] at hy
      simp at hy
      subst hy
      have : i = n := by omega
      subst this; exact hx
section
variable {H : Type} {enc : TypeId × Value → H} {P : Program} {w : World}
abbrev Rd (w : World) (u : Ty) (cs : List Value) (x : u.den) : Prop := okD u x ∧ cs.length = u.sz ∧ ∀ (j : Nat) (y : PV), (cellsP u x)[j]? = some y → ∃ c, cs[j]? = some c ∧ RelP (fun b => b < w.heap.size) w c y
theorem int_rd {k : IntKind} {n : Int} (hw : (Lit.int k n).wf = true) : Rd w (.int k) [.int k n] n := by
  refine ⟨?_, rfl, fun j y hy => ?_⟩
  · show k.min ≤ n ∧ n ≤ k.max
    simpa [Lit.wf] using hw
  · match j, hy with
    | 0, hy => cases hy; exact ⟨_, rfl, .sc _⟩
theorem slice_rd {a : Ty} {e : TypeId} {n : Nat} {cs : List Value} {x : DataW H × List MemPlace} {t : TypeId} (ht : P.underlying t = some (.slice e)) (hce : P.cellsOf e = a.sz) (hpos : 1 ≤ a.sz)
    (ih : ∀ (m : Nat) (cs : List Value) (d : DataW H) (ps : List MemPlace), m < n → DataW.trod enc P w 0 (fun _ => true) true m e cs = some (d, ps) → (∀ p ∈ ps, p.block < w.heap.size) → ∃ x : a.den, Rd w a cs x)
    (h : DataW.trod enc P w 0 (fun _ => true) true n t cs = some x) (hlt : ∀ p ∈ x.2, p.block < w.heap.size) : ∃ xs : List a.den, Rd w (.list a) cs xs := by
  have h' := DataW.trod_slice ht h
  rcases open_slice ht h with ⟨rfl, _⟩ | ⟨ad, len, cap, m, n', D, Pl, rfl, _, hl, hm, hmm, rfl, hx⟩
  · refine ⟨[], ⟨Nat.zero_le _, fun y hy => by cases hy⟩, rfl, fun j y hy => ?_⟩
    match j, hy with
    | 0, hy => cases hy; exact ⟨_, rfl, .nil none 0⟩
  · simp only [if_true] at hmm
    subst hmm
    obtain ⟨el, rs, n2, hn2, _⟩ : ∃ (el rs : List (DataW H × List MemPlace)) (n2 : Nat), n = n2 + 1 ∧ True := by
      cases n with
      | zero => simp [DataW.trod] at h
      | succ n => exact ⟨[], [], n, rfl, trivial⟩
    have hn' : ∀ i, i < len → ∃ m', m' < n ∧ ∃ cs', w.cells? 0 (ad.add (i * P.cellsOf e)) (P.cellsOf e) = some cs' ∧ ∃ d ps, DataW.trod enc P w 0 (fun _ => true) true m' e cs' = some (d, ps) ∧ ∀ p ∈ ps, p.block < w.heap.size := by
      intro i hi
      rcases h' with ⟨hc, _⟩ | ⟨a', len', cap', elems, rest, n3, rfl, hc, hxx, _, _, _, hel, hget, _⟩
      · simp at hc
      · simp only [List.cons.injEq, Value.slice.injEq, Option.some.injEq, and_true] at hc
        obtain ⟨rfl, rfl, rfl⟩ := hc
        have h4 := hget i hi
        rw [List.getElem?_eq_getElem (by omega)] at h4
        obtain ⟨cs', h5, h6⟩ := Option.bind_eq_some_iff.1 h4
        refine ⟨n3, by omega, cs', h5, _, _, h6, fun p hp => ?_⟩
        have h8 : (elems[i] : DataW H × List MemPlace) ∈ elems ++ rest := List.mem_append_left _ (List.getElem_mem _)
        have h9 : p ∈ (elems ++ rest).flatMap (·.2) := List.mem_flatMap.2 ⟨_, h8, hp⟩
        have h10 := congrArg Prod.snd hxx
        simp only at h10
        refine hlt p ?_
        simp only
        rw [h10]
        exact List.mem_append_right _ h9
    have step : ∀ i, i < len → ∃ x : a.den, ∃ cs', w.cells? 0 (ad.add (i * a.sz)) a.sz = some cs' ∧ Rd w a cs' x := by
      intro i hi
      obtain ⟨m', hm', cs', h1, d, ps, h2, h3⟩ := hn' i hi
      rw [hce] at h1
      obtain ⟨x, hx⟩ := ih m' cs' d ps hm' h2 h3
      exact ⟨x, cs', h1, hx⟩
    obtain ⟨xs, hxl, hxs⟩ := list_of len step
    refine ⟨xs, ⟨by rw [hxl]; omega, fun y hy => ?_⟩, rfl, fun j y hy => ?_⟩
    · obtain ⟨i, hi⟩ := List.getElem?_of_mem hy
      obtain ⟨cs', _, h2⟩ := hxs i y hi
      exact h2.1
    · rw [encP_one (t := .list a) xs rfl] at hy
      match j, hy with
      | 0, hy =>
        cases hy
        refine ⟨_, rfl, ?_⟩
        have hlen : (xs.map (encP a)).length = len := by rw [List.length_map, hxl]
        show RelP _ w (.slice (some ad) len m) (lst a.sz (xs.map (encP a)))
        rw [← hlen]
        refine relP_lst_mk (by omega) fun hp => ?_
        rw [hlen] at hp
        obtain ⟨x0, hx0⟩ : ∃ x0, xs[0]? = some x0 := ⟨xs[0]'(by omega), List.getElem?_eq_getElem (by omega)⟩
        obtain ⟨cs0, hc0, hr0⟩ := hxs 0 x0 hx0
        obtain ⟨b, off, spot⟩ := ad
        have hspot : spot = none := by
          obtain ⟨_, hcl, hcg⟩ := World.cells?_some hc0
          have h1 := hcg 0 (by omega)
          rw [List.getElem?_eq_getElem (by omega)] at h1
          simpa [Addr.add] using World.cell?_spot h1
        subst hspot
        refine ⟨b, off, rfl, ?_, fun p hp => ?_, fun i j x y hx hy => ?_⟩
        · refine hlt (.cell b off) (List.mem_append_left _ (MemPlace.mem_row.2 ⟨0, ?_, by simp⟩))
          rw [hce]
          exact Nat.mul_pos (by omega) hpos
        · obtain ⟨q, _, rfl⟩ := List.mem_map.1 hp
          exact cellsP_len a q
        · rw [List.getElem?_map] at hx
          obtain ⟨q, hq, rfl⟩ := Option.map_eq_some_iff.1 hx
          obtain ⟨cs', h1, h2, h3, h4⟩ := hxs i q hq
          obtain ⟨c, h5, h6⟩ := h4 j y hy
          refine ⟨c, ?_, h6⟩
          have hj : j < a.sz := by rw [← h3]; exact (List.getElem?_eq_some_iff.1 h5).1
          have h7 := (World.cells?_some h1).2.2 j hj
          rw [add_plain, add_plain] at h7
          rw [h7, h5]
theorem fs_rd {n d : Nat} {cs : List Value} (ih : ∀ (t : TypeId) (u : Ty) (cs : List Value) (dd : DataW H) (ps : List MemPlace), fitR P d t u = true → DataW.trod enc P w 0 (fun _ => true) true n t cs = some (dd, ps) → (∀ p ∈ ps, p.block < w.heap.size) → ∃ x : u.den, Rd w u cs x) :
    ∀ (l : List Field) (off : Nat) (u : Ty), fsB P (fitR P d) l off u = true → (∀ f ∈ l, ∃ dd ps, DataW.trod enc P w 0 (fun _ => true) true n f.type ((cs.drop f.offset).take (P.cellsOf f.type)) = some (dd, ps) ∧ ∀ p ∈ ps, p.block < w.heap.size) →
      ∃ x : u.den, okD u x ∧ ∀ (j : Nat) (y : PV), (cellsP u x)[j]? = some y → ∃ c, cs[off + j]? = some c ∧ RelP (fun b => b < w.heap.size) w c y
  | [], off, u, hf, _ => by
    cases u <;> simp only [fsB] at hf <;> try cases hf
    exact ⟨(), trivial, fun j y hy => by simp [cellsP, encP, PV.cells] at hy⟩
  | f :: l, off, u, hf, hl => by
    cases u <;> simp only [fsB] at hf <;> try cases hf
    rename_i a b
    simp only [Bool.and_eq_true] at hf
    obtain ⟨⟨⟨h1, h2⟩, h3⟩, h4⟩ := hf
    have e1 := Nat.eq_of_beq_eq_true h1
    have e2 := Nat.eq_of_beq_eq_true h2
    obtain ⟨dd, ps, h5, h6⟩ := hl f (by simp)
    rw [e1, e2] at h5
    obtain ⟨x, x1, x2, x3⟩ := ih f.type a _ dd ps h3 h5 h6
    obtain ⟨z, z1, z2⟩ := fs_rd ih l (off + a.sz) b h4 fun g hg => hl g (by simp [hg])
    refine ⟨(x, z), ⟨x1, z1⟩, fun j y hy => ?_⟩
    have hc : cellsP (.pair a b) (x, z) = cellsP a x ++ cellsP b z := rfl
    rw [hc] at hy
    have hla := cellsP_len a x
    rcases Nat.lt_or_ge j a.sz with hj | hj
    · rw [List.getElem?_append_left (by omega)] at hy
      obtain ⟨c, c1, c2⟩ := x3 j y hy
      rw [List.getElem?_take_of_lt hj, List.getElem?_drop] at c1
      exact ⟨c, c1, c2⟩
    · rw [List.getElem?_append_right (by omega), hla] at hy
      obtain ⟨c, c1, c2⟩ := z2 _ y hy
      exact ⟨c, by rw [← c1]; congr 1; omega, c2⟩
theorem ar_rd {n d : Nat} {e : TypeId} {cs : List Value} (ih : ∀ (t : TypeId) (u : Ty) (cs : List Value) (dd : DataW H) (ps : List MemPlace), fitR P d t u = true → DataW.trod enc P w 0 (fun _ => true) true n t cs = some (dd, ps) → (∀ p ∈ ps, p.block < w.heap.size) → ∃ x : u.den, Rd w u cs x) :
    ∀ (k i0 : Nat) (u : Ty), arB P (fitR P d) e k u = true → (∀ i, i < k → ∃ dd ps, DataW.trod enc P w 0 (fun _ => true) true n e ((cs.drop ((i0 + i) * P.cellsOf e)).take (P.cellsOf e)) = some (dd, ps) ∧ ∀ p ∈ ps, p.block < w.heap.size) →
      ∃ x : u.den, okD u x ∧ ∀ (j : Nat) (y : PV), (cellsP u x)[j]? = some y → ∃ c, cs[i0 * P.cellsOf e + j]? = some c ∧ RelP (fun b => b < w.heap.size) w c y
  | 0, i0, u, hf, _ => by
    cases u <;> simp only [arB] at hf <;> try cases hf
    exact ⟨(), trivial, fun j y hy => by simp [cellsP, encP, PV.cells] at hy⟩
  | k + 1, i0, u, hf, hl => by
    cases u <;> simp only [arB] at hf <;> try cases hf
    rename_i a b
    simp only [Bool.and_eq_true] at hf
    obtain ⟨⟨h2, h3⟩, h4⟩ := hf
    have e2 := Nat.eq_of_beq_eq_true h2
    obtain ⟨dd, ps, h5, h6⟩ := hl 0 (by omega)
    rw [Nat.add_zero] at h5
    obtain ⟨x, x1, x2, x3⟩ := ih e a _ dd ps h3 h5 h6
    obtain ⟨z, z1, z2⟩ := ar_rd ih k (i0 + 1) b h4 fun i hi => by
      have := hl (i + 1) (by omega)
      rw [show i0 + (i + 1) = i0 + 1 + i by omega] at this
      exact this
    refine ⟨(x, z), ⟨x1, z1⟩, fun j y hy => ?_⟩
    have hc : cellsP (.pair a b) (x, z) = cellsP a x ++ cellsP b z := rfl
    rw [hc] at hy
    have hla := cellsP_len a x
    rcases Nat.lt_or_ge j a.sz with hj | hj
    · rw [List.getElem?_append_left (by omega)] at hy
      obtain ⟨c, c1, c2⟩ := x3 j y hy
      rw [List.getElem?_take_of_lt (by omega), List.getElem?_drop] at c1
      exact ⟨c, c1, c2⟩
    · rw [List.getElem?_append_right (by omega), hla] at hy
      obtain ⟨c, c1, c2⟩ := z2 _ y hy
      refine ⟨c, ?_, c2⟩
      rw [← c1, Nat.succ_mul, e2]
      congr 1
      omega
theorem read_rd : ∀ (n : Nat) (d : Nat) (t : TypeId) (u : Ty) (cs : List Value) (dd : DataW H) (ps : List MemPlace), fitR P d t u = true → DataW.trod enc P w 0 (fun _ => true) true n t cs = some (dd, ps) → (∀ p ∈ ps, p.block < w.heap.size) → ∃ x : u.den, Rd w u cs x := by
  intro n
  induction n using Nat.strongRecOn with
  | ind n ih =>
  intro d t u cs dd ps hf h hlt
  cases d with
  | zero => cases hf
  | succ d =>
  have agg : (∀ a b, u = .pair a b → True) → u.ag = true → u ≠ .rx → (match P.underlying t with
      | some (.struct fs) => Nat.beq (P.cellsOf t) u.sz && fsB P (fitR P d) fs.toList 0 u
      | some (.array n e) => Nat.beq (P.cellsOf t) u.sz && arB P (fitR P d) e n u
      | _ => false) = true → ∃ x : u.den, Rd w u cs x := by
    intro _ _ _ hf
    split at hf
    · rename_i fs ht
      rw [Bool.and_eq_true] at hf
      have e1 := Nat.eq_of_beq_eq_true hf.1
      obtain ⟨xs, m, rfl, hx, hcl, hxl, hel⟩ := DataW.trod_struct ht h
      simp only [Prod.mk.injEq] at hx
      obtain ⟨rfl, rfl⟩ := hx
      obtain ⟨x, x1, x2⟩ := fs_rd (n := m) (cs := cs) (fun t u cs dd ps hf h hlt => ih m (by omega) d t u cs dd ps hf h hlt) fs.toList 0 u hf.2 fun f hfm => by
        obtain ⟨i, hi⟩ := List.getElem?_of_mem hfm
        have hi' : fs[i]? = some f := by rw [← Array.getElem?_toList]; exact hi
        have h1 := hel i f hi'
        have hil : i < xs.length := by rw [hxl]; exact (Array.getElem?_eq_some_iff.1 hi').1
        rw [List.getElem?_eq_getElem hil] at h1
        exact ⟨_, _, h1, fun p hp => hlt p (List.mem_flatMap.2 ⟨_, List.getElem_mem hil, hp⟩)⟩
      refine ⟨x, x1, by rw [hcl, e1], fun j y hy => ?_⟩
      have := x2 j y hy
      rw [Nat.zero_add] at this
      exact this
    · rename_i k e ht
      rw [Bool.and_eq_true] at hf
      have e1 := Nat.eq_of_beq_eq_true hf.1
      obtain ⟨xs, m, rfl, hx, hcl, hxl, hel⟩ := DataW.trod_array ht h
      simp only [Prod.mk.injEq] at hx
      obtain ⟨rfl, rfl⟩ := hx
      obtain ⟨x, x1, x2⟩ := ar_rd (n := m) (cs := cs) (e := e) (fun t u cs dd ps hf h hlt => ih m (by omega) d t u cs dd ps hf h hlt) k 0 u hf.2 fun i hi => by
        have h1 := hel i hi
        have hil : i < xs.length := by omega
        rw [List.getElem?_eq_getElem hil] at h1
        rw [Nat.zero_add]
        exact ⟨_, _, h1, fun p hp => hlt p (List.mem_flatMap.2 ⟨_, List.getElem_mem hil, hp⟩)⟩
      refine ⟨x, x1, by rw [hcl, e1], fun j y hy => ?_⟩
      have := x2 j y hy
      rw [Nat.zero_mul, Nat.zero_add] at this
      exact this
    · cases hf
  cases u with
  | bool =>
    simp only [fitR] at hf
    split at hf
    · rename_i ht
      obtain ⟨b, rfl, _⟩ := DataW.trod_bool ht h
      refine ⟨b, trivial, rfl, fun j y hy => ?_⟩
      match j, hy with
      | 0, hy => cases hy; exact ⟨_, rfl, .sc _⟩
    · cases hf
  | int k =>
    simp only [fitR] at hf
    split at hf
    · rename_i k' ht
      have : k = k' := by simpa using hf
      subst this
      obtain ⟨z, rfl, _, hw⟩ := DataW.trod_int ht h
      exact ⟨z, int_rd hw⟩
    · cases hf
  | str =>
    simp only [fitR] at hf
    split at hf
    · rename_i ht
      obtain ⟨s, rfl, _, hs⟩ := DataW.trod_string ht h
      refine ⟨s.data.toList, by simpa [okD] using hs, rfl, fun j y hy => ?_⟩
      match j, hy with
      | 0, hy =>
        cases hy
        refine ⟨_, rfl, ?_⟩
        show RelP _ w (.string s) (.sc (.string ⟨s.data.toList.toArray⟩))
        have : (⟨s.data.toList.toArray⟩ : ByteArray) = s := by simp
        rw [this]
        exact .sc _
    · cases hf
  | list a =>
    simp only [fitR] at hf
    split at hf
    · rename_i e ht
      simp only [Bool.and_eq_true] at hf
      exact slice_rd ht (Nat.eq_of_beq_eq_true hf.1.1) (Nat.le_of_ble_eq_true hf.1.2) (fun m cs d' ps hm h hl => ih m hm d e a cs d' ps hf.2 h hl) h hlt
    · cases hf
  | unit => exact agg (fun _ _ h => by cases h) rfl (by simp) hf
  | pair a b => exact agg (fun _ _ _ => trivial) rfl (by simp) hf
  | rx =>
    have hf0 : rxB P t = true := hf
    have hf' := hf0
    unfold rxB at hf'
    split at hf'
    · rename_i fs ht
      split at hf'
      · rename_i f0 f1 f2 f3 hfs
        simp only [Bool.and_eq_true] at hf'
        obtain ⟨⟨⟨⟨⟨⟨⟨⟨⟨hu, o0⟩, o1⟩, o2⟩, o3⟩, c0⟩, c1⟩, c2⟩, c3⟩, c4⟩ := hf'
        split at hu
        · rename_i e u0 u1 u2 u3
          have het := Nat.eq_of_beq_eq_true hu
          subst het
          obtain ⟨xs, m, rfl, hx, hcl, hxl, hel⟩ := DataW.trod_struct ht h
          simp only [Prod.mk.injEq] at hx
          obtain ⟨rfl, rfl⟩ := hx
          have hfa : fs = #[f0, f1, f2, f3] := by
            apply Array.toList_inj.1; rw [hfs]
          subst hfa
          have h4 : xs.length = 4 := hxl
          have e4 := Nat.eq_of_beq_eq_true c4
          have get : ∀ (i : Nat) (f : Field), (#[f0, f1, f2, f3] : Array Field)[i]? = some f → P.cellsOf f.type = 1 → ∃ dd ps, DataW.trod enc P w 0 (fun _ => true) true m f.type ((cs.drop f.offset).take 1) = some (dd, ps) ∧ ∀ p ∈ ps, p.block < w.heap.size := by
            intro i f hi hc1
            have h1 := hel i f hi
            have hil : i < xs.length := by rw [h4]; exact (Array.getElem?_eq_some_iff.1 hi).1
            rw [List.getElem?_eq_getElem hil, hc1] at h1
            exact ⟨_, _, h1, fun p hp => hlt p (List.mem_flatMap.2 ⟨_, List.getElem_mem hil, hp⟩)⟩
          obtain ⟨d0, p0, g0, _⟩ := get 0 f0 rfl (Nat.eq_of_beq_eq_true c0)
          obtain ⟨d1, p1, g1, _⟩ := get 1 f1 rfl (Nat.eq_of_beq_eq_true c1)
          obtain ⟨d2, p2, g2, _⟩ := get 2 f2 rfl (Nat.eq_of_beq_eq_true c2)
          obtain ⟨d3, p3, g3, l3⟩ := get 3 f3 rfl (Nat.eq_of_beq_eq_true c3)
          rw [Nat.eq_of_beq_eq_true o0] at g0
          rw [Nat.eq_of_beq_eq_true o1] at g1
          rw [Nat.eq_of_beq_eq_true o2] at g2
          rw [Nat.eq_of_beq_eq_true o3] at g3
          obtain ⟨z0, hz0, _, w0⟩ := DataW.trod_int u0 g0
          obtain ⟨z1, hz1, _, w1⟩ := DataW.trod_int u1 g1
          obtain ⟨z2, hz2, _, w2⟩ := DataW.trod_int u2 g2
          obtain ⟨ks, k1, k2, k3⟩ := slice_rd (a := .rx) u3 e4 (by decide) (fun m' cs d' ps hm h hl => ih m' (by omega) (d + 1) e .rx cs d' ps hf h hl) g3 l3
          match cs, (show cs.length = 4 by rw [hcl, e4]) with
          | [q0, q1, q2, q3], _ =>
            simp only [List.drop_zero, List.drop_succ_cons, List.take_succ_cons, List.take_zero, List.cons.injEq, and_true] at hz0 hz1 hz2
            subst hz0; subst hz1; subst hz2
            have w0' := (int_rd (w := w) w0).1
            have w1' := (int_rd (w := w) w1).1
            have w2' := (int_rd (w := w) w2).1
            refine ⟨.mk z0 z1 z2 ks, ⟨w0', w1', w2', k1.1, (okRxs_iff ks).2 k1.2⟩, rfl, fun j y hy => ?_⟩
            rw [rx_cells] at hy
            match j, hy with
            | 0, hy => cases hy; exact ⟨_, rfl, .sc _⟩
            | 1, hy => cases hy; exact ⟨_, rfl, .sc _⟩
            | 2, hy => cases hy; exact ⟨_, rfl, .sc _⟩
            | 3, hy =>
              have hy' : some (encP (.list .rx) ks) = some y := hy
              cases hy'
              obtain ⟨c, e1, e2⟩ := k3 0 (encP (.list .rx) ks) (by rw [encP_one (t := .list .rx) ks rfl]; rfl)
              exact ⟨c, by simpa using e1, e2⟩
        · cases hu
      · cases hf'
    · cases hf'
end
end Go.Ev
namespace Go.Ev
open Go Go.RowKit Go.Av Go.WideShapes
@[reducible] def HD : List Ty → Type
  | [] => Unit
  | t :: l => t.den × HD l
def argsV : (us : List Ty) → HD us → List V
  | [], _ => []
  | t :: l, x => .d t x.1 :: argsV l x.2
def okAll : (us : List Ty) → HD us → Prop
  | [], _ => True
  | t :: l, x => okD t x.1 ∧ okAll l x.2
def fitAll (P : Program) : List TypeId → List Ty → Bool
  | [], [] => true
  | t :: ts, u :: us => fitR P 64 t u && fitAll P ts us
  | _, _ => false
def rowsB (P : Program) (ts : List TypeId) : Bool := ts.all fun t => P.readableRec t && decide (t < P.types.size)
section
variable {H : Type} {enc : TypeId × Value → H} {P : Program} {w : World}
theorem read_val {d : Nat} {t : TypeId} {u : Ty} {r : Reach} {b0 : Nat} {v : Value} {dd : DataW H} {ps : List MemPlace} (hf : fitR P d t u = true) (hv : Value.okWide P w r b0 t v) (h : DataW.Trod enc P w 0 (fun _ => true) true t v dd ps) (hlt : ∀ p ∈ ps, p.block < w.heap.size) :
    ∃ x : u.den, okD u x ∧ RelP (fun b => b < w.heap.size) w v (encP u x) := by
  obtain ⟨n, hn⟩ := h
  obtain ⟨x, x1, x2, x3⟩ := read_rd n d t u _ dd ps hf hn hlt
  refine ⟨x, x1, ?_⟩
  have one : u.ag = false → v.cells = #[v] → RelP (fun b => b < w.heap.size) w v (encP u x) := fun ha hc => by
    obtain ⟨c, c1, c2⟩ := x3 0 (encP u x) (by rw [encP_one x ha]; rfl)
    rw [hc] at c1
    cases c1; exact c2
  have many : u.ag = true → (∃ cs, v = .agg cs) → RelP (fun b => b < w.heap.size) w v (encP u x) := fun ha ⟨cs, hc⟩ => by
    subst hc
    rw [encP_agg x ha]
    have e : (Value.agg cs).cells = cs := rfl
    rw [e] at x2 x3
    refine .agg cs _ (by rw [cellsP_len, ← x2]; simp) fun i a y ha hy => ?_
    obtain ⟨c, c1, c2⟩ := x3 i y hy
    rw [Array.getElem?_toList, ha] at c1
    cases c1; exact c2
  cases d with
  | zero => simp [fitR] at hf
  | succ d =>
    cases u with
    | bool =>
      simp only [fitR] at hf
      split at hf
      · rename_i ht; obtain ⟨b, rfl⟩ := okWide_bool ht hv; exact one rfl rfl
      · cases hf
    | int k =>
      simp only [fitR] at hf
      split at hf
      · rename_i ht; obtain ⟨b, rfl⟩ := okWide_int ht hv; exact one rfl rfl
      · cases hf
    | str =>
      simp only [fitR] at hf
      split at hf
      · rename_i ht; obtain ⟨b, rfl⟩ := okWide_string ht hv; exact one rfl rfl
      · cases hf
    | list a =>
      simp only [fitR] at hf
      split at hf
      · rename_i ht; obtain ⟨a, l, c, rfl⟩ := okWide_slice ht hv; exact one rfl rfl
      · cases hf
    | unit =>
      simp only [fitR] at hf
      refine many rfl ?_
      split at hf
      · rename_i ht; simp only [Value.okWide, ht] at hv; obtain ⟨cs, h1, _⟩ := hv; exact ⟨cs, h1⟩
      · rename_i ht; simp only [Value.okWide, ht] at hv; obtain ⟨cs, h1, _⟩ := hv; exact ⟨cs, h1⟩
      · cases hf
    | pair a b =>
      simp only [fitR] at hf
      refine many rfl ?_
      split at hf
      · rename_i ht; simp only [Value.okWide, ht] at hv; obtain ⟨cs, h1, _⟩ := hv; exact ⟨cs, h1⟩
      · rename_i ht; simp only [Value.okWide, ht] at hv; obtain ⟨cs, h1, _⟩ := hv; exact ⟨cs, h1⟩
      · cases hf
    | rx =>
      have hf0 : rxB P t = true := hf
      refine many rfl ?_
      unfold rxB at hf0
      split at hf0
      · rename_i ht; simp only [Value.okWide, ht] at hv; obtain ⟨cs, h1, _⟩ := hv; exact ⟨cs, h1⟩
      · cases hf0
theorem read_all : ∀ (ts : List TypeId) (us : List Ty) (vs : List Value) (ds : List (DataW H)) (ps : List MemPlace), fitAll P ts us = true → DataW.TrodAll enc P w 0 (fun _ => true) true ts vs ds ps → (∀ (j : Nat) (t : TypeId) (v : Value), ts[j]? = some t → vs[j]? = some v → ∃ r b0, Value.okWide P w r b0 t v) → (∀ p ∈ ps, p.block < w.heap.size) →
    ∃ xs : HD us, okAll us xs ∧ vs.length = (argsV us xs).length ∧ ∀ (i : Nat) (v : Value) (x : AV), vs[i]? = some v → ((argsV us xs).map encA)[i]? = some x → RelA [] (fun b => b < w.heap.size) w v x
  | [], [], [], [], ps, _, _, _, _ => ⟨(), trivial, rfl, fun i v x hv => by simp at hv⟩
  | t :: ts, u :: us, v :: vs, d :: ds, ps, hf, hT, hv, hlt => by
    simp only [fitAll, Bool.and_eq_true] at hf
    obtain ⟨p, q, h1, h2, rfl⟩ := hT
    obtain ⟨r, b0, hw⟩ := hv 0 t v rfl rfl
    obtain ⟨x, x1, x2⟩ := read_val hf.1 hw h1 fun y hy => hlt y (List.mem_append_left _ hy)
    obtain ⟨xs, y1, y2, y3⟩ := read_all ts us vs ds q hf.2 h2 (fun j t v ht hv' => hv (j + 1) t v (by simpa using ht) (by simpa using hv')) fun y hy => hlt y (List.mem_append_right _ hy)
    refine ⟨(x, xs), ⟨x1, y1⟩, by simp [argsV, y2], fun i v' y hv' hy => ?_⟩
    cases i with
    | zero =>
      simp only [List.getElem?_cons_zero, Option.some.injEq] at hv'
      simp only [argsV, List.map_cons, List.getElem?_cons_zero, Option.some.injEq] at hy
      subst hv'; subst hy
      exact x2
    | succ i => exact y3 i v' y (by simpa using hv') (by simpa [argsV] using hy)
  | [], [], _ :: _, _, _, _, h, _, _ => (by cases h)
  | [], [], [], _ :: _, _, _, h, _, _ => (by cases h)
  | _ :: _, _ :: _, [], _, _, _, h, _, _ => (by cases h)
  | _ :: _, _ :: _, _ :: _, [], _, _, h, _, _ => (by cases h)
  | [], _ :: _, _, _, _, h, _, _, _ => (by cases h)
  | _ :: _, [], _, _, _, h, _, _, _ => (by cases h)
theorem trodAll_stays (hl : laidOutB P = true) {W W' : World} (hb : Below W.heap.size W W') : ∀ (ts : List TypeId) (vs : List Value) (ds : List (DataW H)) (ps : List MemPlace), rowsB P ts = true → DataW.TrodAll enc P W 0 (fun _ => true) true ts vs ds ps → (∀ p ∈ ps, p.block < W.heap.size) →
    DataW.TrodAll enc P W' 0 (fun b => decide (b < W.heap.size)) true ts vs ds ps
  | [], [], [], _, _, h, _ => h
  | t :: ts, v :: vs, d :: ds, ps, hr, h, hlt => by
    simp only [rowsB, List.all_cons, Bool.and_eq_true, decide_eq_true_eq] at hr
    obtain ⟨p, q, h1, h2, rfl⟩ := h
    exact ⟨p, q, Below.trod hl hr.1.1 hr.1.2 h1 hb fun y hy => hlt y (List.mem_append_left _ hy), trodAll_stays hl hb ts vs ds q hr.2 h2 fun y hy => hlt y (List.mem_append_right _ hy), rfl⟩
  | [], _ :: _, _, _, _, h, _ => (by cases h)
  | [], [], _ :: _, _, _, h, _ => (by cases h)
  | _ :: _, [], _, _, _, h, _ => (by cases h)
  | _ :: _, _ :: _, [], _, _, h, _ => (by cases h)
theorem trodAll_len {base : Nat} {sp : Nat → Bool} {hd : Bool} : ∀ (ts : List TypeId) (vs : List Value) (ds : List (DataW H)) (ps : List MemPlace), DataW.TrodAll enc P w base sp hd ts vs ds ps → ds.length = ts.length
  | [], [], [], _, _ => rfl
  | _ :: ts, _ :: vs, _ :: ds, _, ⟨_, _, _, h, _⟩ => by simp [trodAll_len ts vs ds _ h]
  | [], _ :: _, _, _, h => (by cases h)
  | [], [], _ :: _, _, h => (by cases h)
  | _ :: _, [], _, _, h => (by cases h)
  | _ :: _, _ :: _, [], _, h => (by cases h)
theorem law_calls (hm : P.follows .mixedOrders = true) {tbl : Nat → Option Fun'} (hT : TblOk P tbl) {W : World} (hG : GT W) {N : Nat} {us : List Ty} {xs : HD us} {vs : List Value} (hl : vs.length = (argsV us xs).length)
    (hrel : ∀ (i : Nat) (v : Value) (x : AV), vs[i]? = some v → ((argsV us xs).map encA)[i]? = some x → RelA [] (fun b => b < W.heap.size) W v x) {s : S} (hC : Conv tbl N (argsV us xs) [] (· = some s)) (hs : encA (res s.fr.length s.fr) = .b (.pv (.sc (.bool true)))) :
    Calls P (N % 10000) vs.toArray W fun e W' => e = .returned (.bool true) ∧ Below W.heap.size W W' := by
  obtain ⟨o, rfl, hA⟩ := acalls_conv hm hT hC
  refine (hA W [] (fun b => b < W.heap.size) vs (GW.of hG) ⟨rfl, fun b h => h, fun i j li lj g hi => (by simp at hi), fun i l g hi => (by simp at hi), fun i l o hi => (by simp at hi)⟩ (by rw [List.length_map, hl]) hrel).mono fun e W' hb => ?_
  rcases hb with ⟨v, r, os', θ', D', h1, h2, h3, _, h5, _⟩ | ⟨ch, _, _, h2, _⟩
  · have h6 : some (r, os') = some (encA (res s.fr.length s.fr), s.hp.map encO) := h2
    simp only [Option.some.injEq, Prod.mk.injEq] at h6
    rw [h6.1, hs] at h3
    have h7 : RelP D' W' v (.sc (.bool true)) := h3
    cases h7
    refine ⟨h1, h5.os, h5.tape, h5.output, h5.size, fun k hk => h5.block k hk ?_⟩
    rintro ⟨i, l, hi, _⟩
    simp at hi
  · cases h2
end
end Go.Ev
namespace Go.Ev
open Go Go.RowKit Go.Av
theorem wrap_i64 {n : Int} (h0 : -9223372036854775808 ≤ n) (h1 : n ≤ 9223372036854775807) : IntKind.wrap .i64 n = n := by
  simp only [IntKind.wrap, IntKind.bits, IntKind.signed]
  simp
  omega
theorem wrap_succ {i : Nat} {n : Nat} (hi : i < n) (hn : n ≤ 9223372036854775807) : IntKind.wrap .i64 ((i : Int) + 1) = ((i + 1 : Nat) : Int) := by
  rw [wrap_i64 (by omega) (by omega)]; rfl
section
variable {α β γ σ τ : Type}
theorem getI_nat {xs : List α} (i : Nat) : getI xs (i : Int) = xs[i]? := by
  simp [getI]
theorem wp_id {m : Nat → Option α} {Q : α → Prop} {a : α} (h : ∀ n, m n = some a) (hq : Q a) : Wp m Q := ⟨a, hq, 0, fun n _ => h n⟩
theorem Wp.imp {m : Nat → Option α} {Q Q' : α → Prop} (h : Wp m Q) (hk : ∀ r, Q r → Q' r) : Wp m Q' := wp_mono h hk
theorem wp_range {N : Nat} {body : Nat → σ → Option (σ ⊕ τ)} {s0 : σ} {Q : τ → Prop} (I : Nat → σ → Prop) (h0 : I 0 s0)
    (hstep : ∀ i s, i < N → I i s → Wp (fun n => body n s) fun r => match r with | .inl s' => I (i + 1) s' | .inr t => Q t)
    (hend : ∀ s, I N s → Wp (fun n => body n s) fun r => match r with | .inl _ => False | .inr t => Q t) : Wp (fun n => loopN n (body n) s0) Q := by
  have key : ∀ (k : Nat) (i : Nat) (s : σ), i + k = N → I i s → ∃ t, Q t ∧ ∃ n0, ∀ n m, n0 ≤ n → k + 1 ≤ m → loopN m (body n) s = some t := by
    intro k
    induction k with
    | zero =>
      intro i s hi hs
      have : i = N := by omega
      subst this
      obtain ⟨r, hr, n0, hn⟩ := hend s hs
      cases r with
      | inl s' => exact hr.elim
      | inr t =>
        refine ⟨t, hr, n0, fun n m h1 h2 => ?_⟩
        obtain ⟨m', rfl⟩ : ∃ m', m = m' + 1 := ⟨m - 1, by omega⟩
        simp only [loopN]
        have e : body n s = _ := hn n h1
        rw [e]; rfl
    | succ k ih =>
      intro i s hi hs
      obtain ⟨r, hr, n0, hn⟩ := hstep i s (by omega) hs
      cases r with
      | inl s' =>
        obtain ⟨t, ht, n1, hn1⟩ := ih (i + 1) s' (by omega) hr
        refine ⟨t, ht, max n0 n1, fun n m h1 h2 => ?_⟩
        obtain ⟨m', rfl⟩ : ∃ m', m = m' + 1 := ⟨m - 1, by omega⟩
        simp only [loopN]
        have e : body n s = _ := hn n (by omega)
        rw [e]
        exact hn1 n m' (by omega) (by omega)
      | inr t =>
        refine ⟨t, hr, n0, fun n m h1 h2 => ?_⟩
        obtain ⟨m', rfl⟩ : ∃ m', m = m' + 1 := ⟨m - 1, by omega⟩
        simp only [loopN]
        have e : body n s = _ := hn n h1
        rw [e]; rfl
  obtain ⟨t, ht, n0, hn⟩ := key N 0 s0 (by omega) h0
  exact ⟨t, ht, max n0 (N + 1), fun n hn' => hn n n (by omega) (by omega)⟩
end
end Go.Ev
namespace Go.Ev
open Go Go.RowKit Go.Av
section
variable {α β σ τ : Type}
theorem wp_bifT {b : Bool} {m k : Nat → Option α} {Q : α → Prop} (hb : b = true) (h : Wp m Q) : Wp (fun n => bif b then m n else k n) Q := by subst hb; exact h
theorem wp_bifF {b : Bool} {m k : Nat → Option α} {Q : α → Prop} (hb : b = false) (h : Wp k Q) : Wp (fun n => bif b then m n else k n) Q := by subst hb; exact h
theorem wp_or {a b : Bool} {m : Nat → Option Bool} {Q : Bool → Prop} (h : a = false → Wp m fun r => r = b) (hQ : Q (a || b)) : Wp (fun n => bif a then some true else m n) Q := by
  cases a
  · exact wp_mono (h rfl) fun r hr => by subst hr; exact hQ
  · exact wp_some hQ
theorem wp_and {a b : Bool} {m : Nat → Option Bool} {Q : Bool → Prop} (h : a = true → Wp m fun r => r = b) (hQ : Q (a && b)) : Wp (fun n => bif a then m n else some false) Q := by
  cases a
  · exact wp_some hQ
  · exact wp_mono (h rfl) fun r hr => by subst hr; exact hQ
end
section
variable {tbl : Nat → Option Fun'}
theorem calls_ex {f : Nat} {ars : List V} {os : List Ob} {sh : Sh} {R : HL sh.sl → Prop} (hp : ∀ c, packR sh (outQ sh c) = some c) (h : Conv tbl f ars os fun o => ∃ c, o = some (outQ sh c) ∧ R c) : ∃ c, R c ∧ Calls' tbl f ars os sh c := by
  obtain ⟨o, ⟨c, rfl, hr⟩, n0, hn⟩ := h
  exact ⟨c, hr, calls_of (hp c) ⟨_, rfl, n0, hn⟩⟩
end
end Go.Ev
namespace Go.Ev
open Go Go.RowKit Go.Av
section
variable {α β γ σ τ : Type}
theorem getI_lt {xs : List α} {i : Nat} (h : i < xs.length) : getI xs (i : Int) = some xs[i] := by rw [getI_nat]; exact List.getElem?_eq_getElem h
theorem wp_get0 {xs : List α} {i : Nat} {f : Nat → α → Option β} {Q : β → Prop} (h : i < xs.length) (hk : Wp (fun n => f n xs[i]) Q) : Wp (fun n => Option.bind (getI xs (i : Int)) (f n)) Q := by
  rw [getI_lt h]; exact hk
theorem wp_in {i N : Nat} {m k : Nat → Option α} {Q : α → Prop} (h : i < N) (hk : Wp m Q) : Wp (fun n => bif decide ((i : Int) < (N : Int)) then m n else k n) Q := by
  rw [show decide ((i : Int) < (N : Int)) = true from decide_eq_true (by omega)]; exact hk
theorem wp_out {N : Nat} {m k : Nat → Option α} {Q : α → Prop} (hk : Wp k Q) : Wp (fun n => bif decide ((N : Int) < (N : Int)) then m n else k n) Q := by
  rw [show decide ((N : Int) < (N : Int)) = false from decide_eq_false (by omega)]; exact hk
theorem wp_all {N : Nat} {good : Nat → Prop} {e : β} {g : γ} {body : Nat → (Int × Unit) → Option ((Int × Unit) ⊕ β ⊕ γ)} {Q : β ⊕ γ → Prop}
    (h : ∀ i, i < N → Wp (fun n => body n ((i : Int), ())) fun r => (good i ∧ r = .inl (((i + 1 : Nat) : Int), ())) ∨ (¬ good i ∧ r = .inr (.inl e)))
    (he : Wp (fun n => body n ((N : Int), ())) fun r => r = .inr (.inr g))
    (hg : (∀ i, i < N → good i) → Q (.inr g)) (hb : (∃ i, i < N ∧ ¬ good i) → Q (.inl e)) : Wp (fun n => loopN n (body n) ((0 : Int), ())) Q := by
  refine wp_range (N := N) (I := fun i s => s = ((i : Int), ()) ∧ ∀ j, j < i → good j) ⟨rfl, fun j hj => absurd hj (by omega)⟩ (fun i s hi hs => ?_) fun s hs => ?_
  · obtain ⟨rfl, hd⟩ := hs
    refine wp_mono (h i hi) fun r hr => ?_
    rcases hr with ⟨h1, rfl⟩ | ⟨h1, rfl⟩
    · exact ⟨rfl, fun j hj => by rcases Nat.lt_succ_iff_lt_or_eq.1 hj with h | rfl; exact hd j h; exact h1⟩
    · exact hb ⟨i, hi, h1⟩
  · obtain ⟨rfl, hd⟩ := hs
    refine wp_mono he fun r hr => ?_
    subst hr
    exact hg hd
theorem wp_stop {b : Bool} {good : Prop} {e : β} {s' s'' : σ} (hb : b = true ↔ ¬ good) (hs : s' = s'') : Wp (fun _ => bif b then (some (.inr (.inl e)) : Option (σ ⊕ β ⊕ γ)) else some (.inl s')) (fun r => (good ∧ r = .inl s'') ∨ (¬ good ∧ r = .inr (.inl e))) := by
  subst hs
  cases b
  · exact wp_some (.inl ⟨Classical.byContradiction fun h => by simpa using hb.2 h, rfl⟩)
  · exact wp_some (.inr ⟨hb.1 rfl, rfl⟩)
end
end Go.Ev
namespace Go.Ev
open Go Go.RowKit Go.Av
section
variable {α β γ σ τ : Type}
end
end Go.Ev

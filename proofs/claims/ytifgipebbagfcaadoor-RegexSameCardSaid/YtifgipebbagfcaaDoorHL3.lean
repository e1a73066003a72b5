/- Part ML3 of the layer: an abstract and a typed machine over the loaded code, proved sound. -/
import Derived.Laws.StructEq
import Derived.Laws.CopyRow
import Derived.MapKept
import Derived.Test.YtifgipebbagfcaaDoorHL2
set_option linter.unusedVariables false
set_option linter.unusedSimpArgs false
namespace Go.Av
open Go Go.RowKit
section
variable {P : Program} {o : Oper} {c : Ctx} {θ : List Loc} {D : Nat → Prop} {st : St} {a : Act} {w : World}
theorem relP_sc {v u : Value} (h : RelP D w v (.sc u)) : v = u := by cases h; rfl
def EqRun (P : Program) (D : Nat → Prop) (w : World) (d : Nat) : Prop := ∀ (t : TypeId) (p q : PV) (b : Bool) (v u : Value) (n : Nat), eqP P d t p q = some b → d ≤ n → RelP D w v p → RelP D w u q → (Op.equalIn n t v u).run P w = .ok b w
theorem eqFs_run {d : Nat} (ih : EqRun P D w d) : ∀ (l : List Field) (xs ys : List PV) (b : Bool) (vs us : Array Value) (n : Nat), eqP.eqFs P d l xs ys = some b → d ≤ n → RelP D w (.agg vs) (.agg xs) → RelP D w (.agg us) (.agg ys) → (Op.eqFields n vs us l).run P w = .ok b w := by
  intro l
  induction l with
  | nil =>
    intro xs ys b vs us n h _ _ _
    simp only [eqP.eqFs, Option.some.injEq] at h
    subst h
    simp [Op.eqFields]
  | cons f l ihl =>
    intro xs ys b vs us n h hn hv hu
    simp only [eqP.eqFs] at h
    split at h
    · cases h
    · rename_i hname
      simp only [Option.bind_eq_some_iff] at h
      obtain ⟨i, hi, h⟩ := h
      split at h
      · cases h
      · rename_i hc
        simp only [not_or, Nat.not_lt, not_and, Decidable.not_not, Option.isNone_iff_eq_none] at hc
        obtain ⟨h1, h2, h3, h4⟩ := hc
        obtain ⟨d0, hd0⟩ := Option.ne_none_iff_exists'.1 h1
        simp only [Option.bind_eq_some_iff] at h
        obtain ⟨b0, hb0, h⟩ := h
        have hsz : sizeT P f.type = some i.size := by simp [sizeT, hi]
        have hag1 : aggT P f.type = false → i.size = 1 := fun e => h4 e
        obtain ⟨s1, r1⟩ := relP_sub (off := f.offset) (sz := i.size) hv rfl h2 hag1
        obtain ⟨s2, r2⟩ := relP_sub (off := f.offset) (sz := i.size) hu rfl h3 hag1
        have p1 := run_part (P := P) (w := w) (t := f.type) (cs := vs) (off := f.offset) hd0 hsz (by rw [s1]; exact h2) hag1
        have p2 := run_part (P := P) (w := w) (t := f.type) (cs := us) (off := f.offset) hd0 hsz (by rw [s2]; exact h3) hag1
        have e := ih f.type _ _ b0 _ _ n hb0 hn r1 r2
        simp only [Op.eqFields]
        rw [if_pos hname]
        simp only [Sem.run_bind, p1, p2, e, Result.andThen_ok]
        cases b0
        · simp only [Bool.false_eq_true, if_false, Option.some.injEq] at h
          subst h
          simp
        · simp only [if_true] at h
          simp only [Bool.not_true, Bool.false_eq_true, if_false]
          exact ihl xs ys b vs us n h hn hv hu
theorem eqP_run : ∀ (d : Nat), EqRun P D w d := by
  intro d
  induction d with
  | zero => intro t p q b v u n h _ _ _; simp [eqP] at h
  | succ d ih =>
    intro t p q b v u n h hn hv hu
    obtain ⟨m, rfl⟩ : ∃ m, n = m + 1 := ⟨n - 1, by omega⟩
    unfold eqP at h
    split at h
    · rename_i ht
      rw [relP_sc hv, relP_sc hu]
      cases h
      exact run_equalIn_bool' w m t _ _ ht
    · rename_i ht
      rw [relP_sc hv, relP_sc hu]
      split at h
      · rename_i hk
        subst hk
        cases h
        exact run_equalIn_int w m t _ _ _ _ ht
      · cases h
    · rename_i ht
      rw [relP_sc hv, relP_sc hu]
      cases h
      rw [beq_toListBytes]
      exact run_equalIn_string w m t _ _ ht
    · rename_i fs xs ys ht
      split at h
      · cases h
      · rename_i hs
        have hf : P.fieldsOf t = fs := by simp [Program.fieldsOf, ht]
        cases hv with
        | agg vs _ hs1 hh1 =>
          cases hu with
          | agg us _ hs2 hh2 =>
            rw [run_equalIn_struct w m t vs us (by rw [hf]; exact ht) (by simpa using hs), hf]
            exact eqFs_run ih fs.toList xs ys b vs us m h (by omega) (.agg vs xs hs1 hh1) (.agg us ys hs2 hh2)
    · cases h
theorem sound_eqT (hI : Inv c θ D st a w) {K : AV → Prop} {op : BinOp} {neg : Bool} {t t' : TypeId} {fs : Array Field} {x y : Operand} (ho : o.op = .binOp op t x y t') (hop : op = if neg then .neq else .eql) (ht : P.underlying t = some (.struct fs)) (hg : P.eqGuardType P.depth t = false)
    (h : sev P st (.eqT neg t (.of x) (.of y)) K) : Yields P o a w (Res c θ st a K) := by
  obtain ⟨ax, hx, ay, hy, p, hp, q, hq, b, hb, hk⟩ := h
  have r1 := relA_toPV (hI.get hx) hp
  have r2 := relA_toPV (hI.get hy) hq
  refine yields_same hI ?_ hk (RelP.sc _)
  have e := eqP_run (P := P) (D := D) (w := w) 64 t p q b _ _ 10000 hb (by decide) r1 r2
  have hagg : ∃ xs ys, a.eval x = .agg xs ∧ a.eval y = .agg ys := by
    unfold eqP at hb
    rw [ht] at hb
    generalize a.eval x = u1 at r1 ⊢
    generalize a.eval y = u2 at r2 ⊢
    split at hb
    · rename_i h0; cases h0
    · rename_i h0; cases h0
    · rename_i h0; cases h0
    · cases r1; cases r2; exact ⟨_, _, rfl, rfl⟩
    · cases hb
  obtain ⟨xs, ys, e1, e2⟩ := hagg
  rw [e1, e2] at e
  simp only [execOp, ho, e1, e2, Sem.run_bind, run_eqGuard_agg w op t x y xs ys hg, Result.andThen_ok]
  subst hop
  cases neg
  · simp only [Bool.false_eq_true, if_false, run_eql_struct, e, Result.andThen_ok, Sem.run_pure, Bool.false_xor]
  · simp only [if_true, run_neq_struct, e, Result.andThen_ok, Sem.run_pure, Bool.true_xor]
theorem findP_get {k : TypeId} {x : PV} : ∀ {l : List (PV × PV)} {i : Nat} {r : Option (Nat × PV)}, findP P k x l i = some r →
    (r = none ∧ ∀ kv ∈ l, eqP P 64 k x kv.1 = some false) ∨ (∃ j kv, r = some (i + j, kv.2) ∧ l[j]? = some kv ∧ eqP P 64 k x kv.1 = some true ∧ ∀ kv' ∈ l.take j, eqP P 64 k x kv'.1 = some false)
  | [], i, r, h => by simp only [findP, Option.some.injEq] at h; exact .inl ⟨h.symm, by simp⟩
  | kv :: l, i, r, h => by
    simp only [findP, Option.bind_eq_some_iff] at h
    obtain ⟨b, hb, h⟩ := h
    cases b
    · simp only [Bool.false_eq_true, if_false] at h
      rcases findP_get h with ⟨h1, h2⟩ | ⟨j, kv', h1, h2, h3, h4⟩
      · exact .inl ⟨h1, fun y hy => (List.mem_cons.1 hy).elim (fun e => by rw [e]; exact hb) (h2 y)⟩
      · refine .inr ⟨j + 1, kv', by rw [h1]; simp; omega, by simpa using h2, h3, fun y hy => ?_⟩
        simp only [List.take_succ_cons, List.mem_cons] at hy
        rcases hy with rfl | hy
        · exact hb
        · exact h4 y hy
    · simp only [if_true, Option.some.injEq] at h
      exact .inr ⟨0, kv, by rw [← h]; simp, rfl, hb, by simp⟩
theorem findAsking_run {k : TypeId} {v : Value} : ∀ (es : List MapEntry) (i : Nat) (f : MapEntry → Bool), (∀ e ∈ es, (Op.equal k v e.key).run P w = .ok (f e) w) →
    (Instr.findAsking k v es i).run P w = .ok ((es.zipIdx i).find? (fun e => f e.1) |>.map fun e => (e.2, e.1.val)) w
  | [], i, f, _ => by simp [Instr.findAsking]
  | e :: es, i, f, h => by
    simp only [Instr.findAsking, Sem.run_bind, h e (by simp), Result.andThen_ok, List.zipIdx_cons, List.find?_cons]
    cases hf : f e
    · simp only [Bool.false_eq_true, if_false]
      exact findAsking_run es (i + 1) f fun y hy => h y (by simp [hy])
    · simp
theorem findNow_spec {d : TypeDesc} {v : Value} : ∀ (es : List MapEntry) (i : Nat) (f : MapEntry → Bool) {r : Option (Nat × Value)}, (∀ e ∈ es, ∀ b, Instr.sameNow d v e.key = some b → b = f e) → Instr.findNow d v es i = some r →
    r = ((es.zipIdx i).find? (fun e => f e.1) |>.map fun e => (e.2, e.1.val))
  | [], i, f, r, _, h => by simp only [Instr.findNow, Option.some.injEq] at h; subst h; simp
  | e :: es, i, f, r, hs, h => by
    simp only [Instr.findNow] at h
    simp only [List.zipIdx_cons, List.find?_cons]
    split at h
    · rename_i h1
      rw [← hs e (by simp) true h1]
      simp only [Option.some.injEq] at h
      subst h; rfl
    · rename_i h1
      rw [← hs e (by simp) false h1]
      exact findNow_spec es (i + 1) f (fun y hy => hs y (by simp [hy])) h
    · cases h
theorem find_of {es : List MapEntry} {l : List (PV × PV)} {k : TypeId} {x : PV} {i : Nat} {r : Option (Nat × PV)} {f : MapEntry → Bool} (hl : es.length = l.length) (hf : ∀ (j : Nat) (e : MapEntry) (kv : PV × PV), es[j]? = some e → l[j]? = some kv → eqP P 64 k x kv.1 = some (f e)) (h : findP P k x l i = some r) :
    (r = none ∧ (es.zipIdx i).find? (fun e => f e.1) = none) ∨ ∃ j kv e, r = some (i + j, kv.2) ∧ l[j]? = some kv ∧ es[j]? = some e ∧ (es.zipIdx i).find? (fun e => f e.1) = some (e, i + j) := by
  rcases findP_get h with ⟨h1, h2⟩ | ⟨j, kv, h1, h2, h3, h4⟩
  · refine .inl ⟨h1, ?_⟩
    rw [List.find?_eq_none]
    rintro ⟨e, n⟩ he
    obtain ⟨j, hj⟩ := List.getElem?_of_mem he
    rw [List.getElem?_zipIdx] at hj
    cases hej : es[j]? with
    | none => rw [hej] at hj; cases hj
    | some e0 =>
      rw [hej] at hj; cases hj
      obtain ⟨kv, hkv⟩ := getElem?_of_len (l := l) hl.symm hej
      have := hf j _ kv hej hkv
      rw [h2 kv (List.mem_of_getElem? hkv)] at this
      cases hfe : f e <;> simp_all
  · obtain ⟨e, he⟩ := getElem?_of_len (l := es) hl h2
    refine .inr ⟨j, kv, e, h1, h2, he, ?_⟩
    have hlt : j < es.length := (List.getElem?_eq_some_iff.1 he).1
    rw [List.find?_eq_some_iff_getElem]
    have hfe := hf j e kv he h2
    rw [h3] at hfe
    refine ⟨by simpa using (Option.some.inj hfe).symm, j, by simpa using hlt, ?_, fun m hm => ?_⟩
    · have : es[j] = e := (List.getElem?_eq_some_iff.1 he).2
      simp [this, Nat.add_comm]
    · have hml : m < es.length := by omega
      obtain ⟨kv', hkv'⟩ := getElem?_of_len (l := l) hl.symm (List.getElem?_eq_getElem hml)
      have h5 := hf m _ kv' (List.getElem?_eq_getElem hml) hkv'
      rw [h4 kv' (List.mem_of_getElem? (by rw [List.getElem?_take, if_pos hm]; exact hkv'))] at h5
      simpa using (Option.some.inj h5).symm
theorem run_checkKey_flat (em : Bool) : ∀ (d n : Nat) (t : TypeId) (v : Value) (p : PV), keyP P d t p = true → d ≤ n → RelP D w v p → (Instr.checkKey em n t v).run P w = .ok () w
  | 0, n, t, v, p, h, _, _ => by simp [keyP] at h
  | d + 1, n, t, v, p, h, hn, hv => by
    obtain ⟨m, rfl⟩ : ∃ m, n = m + 1 := ⟨n - 1, by omega⟩
    unfold keyP at h
    rw [Instr.checkKey]
    split at h
    · rename_i ht; rw [relP_sc hv]; simp [run_underlying ht]
    · rename_i ht; rw [relP_sc hv]; simp [run_underlying ht]
    · rename_i ht; rw [relP_sc hv]; simp [run_underlying ht]
    · rename_i fs xs ht
      cases hv with
      | agg vs _ hs hh =>
        have hv' : RelP D w (.agg vs) (.agg xs) := .agg vs xs hs hh
        simp only [Sem.run_bind, run_underlying ht, Result.andThen_ok]
        rw [← Array.forIn_toList]
        have hall := List.all_eq_true.1 h
        revert hall
        generalize fs.toList = l
        intro hall
        induction l with
        | nil => simp
        | cons f l ih =>
          have hf := hall f (by simp)
          simp only [Bool.and_eq_true, bne_iff_ne, ne_eq] at hf
          obtain ⟨hne, hf⟩ := hf
          split at hf
          · rename_i i hi
            simp only [Bool.and_eq_true, decide_eq_true_eq, Bool.or_eq_true] at hf
            obtain ⟨⟨⟨h1, h2⟩, h3⟩, h4⟩ := hf
            obtain ⟨d0, hd0⟩ := Option.isSome_iff_exists.1 h1
            have hsz : sizeT P f.type = some i.size := by simp [sizeT, hi]
            have hag : aggT P f.type = false → i.size = 1 := fun e => h3.elim (fun h3 => by rw [e] at h3; cases h3) id
            obtain ⟨s1, r1⟩ := relP_sub (off := f.offset) (sz := i.size) hv' rfl h2 hag
            have p1 := run_part (P := P) (w := w) (t := f.type) (cs := vs) (off := f.offset) hd0 hsz (by rw [s1]; exact h2) hag
            have e := run_checkKey_flat em d m f.type _ _ h4 (by omega) r1
            have ih' := ih fun f hf => hall f (by simp [hf])
            simp only [List.forIn_cons, Sem.run_bind, Sem.run_ite, hne, not_false_eq_true, ne_eq, if_true, p1, Result.andThen_ok, e, Sem.run_pure]
            simpa using ih'
          · cases hf
    · cases h
theorem run_findKey_flat {k : TypeId} {v : Value} {es : Array MapEntry} {f : MapEntry → Bool} {d : TypeDesc} (hd : P.underlying k = some d) (h : ∀ e ∈ es.toList, (Op.equal k v e.key).run P w = .ok (f e) w) (hs : ∀ e ∈ es.toList, ∀ b, Instr.sameNow d v e.key = some b → b = f e) :
    (Instr.findKey k v es.toList).run P w = .ok ((es.toList.zipIdx 0).find? (fun e => f e.1) |>.map fun e => (e.2, e.1.val)) w := by
  simp only [Instr.findKey, Sem.run_bind, run_underlying hd, Result.andThen_ok]
  cases hn : Instr.findNow d v es.toList 0 with
  | none => exact findAsking_run es.toList 0 f h
  | some r => rw [findNow_spec es.toList 0 f hs hn]; simp
theorem sameNow_eq {k : TypeId} {d : TypeDesc} {v u : Value} {b c : Bool} (hd : P.underlying k = some d) (h : Instr.sameNow d v u = some b) (he : (Op.equal k v u).run P w = .ok c w) : b = c := by
  have h9 : (Op.equal k v u) = Op.equalIn (9999 + 1) k v u := rfl
  rw [h9] at he
  unfold Instr.sameNow at h
  split at h
  · split at h
    · rename_i hk; subst hk; cases h; rw [run_equalIn_int w 9999 k _ _ _ _ hd] at he; cases he; rfl
    · cases h
  · cases h; rw [run_equalIn_string w 9999 k _ _ hd, ← beq_toListBytes] at he; cases he; rfl
  · cases h; rw [run_equalIn_bool' w 9999 k _ _ hd] at he; cases he; rfl
  · cases h
theorem map_find (hI : Inv c θ D st a w) {k : TypeId} {kvs : List (PV × PV)} {es : Array MapEntry} {v : Value} {p : PV} {r : Option (Nat × PV)} (hes : es.size = kvs.length)
    (hrel : ∀ (i : Nat) (en : MapEntry) (kv : PV × PV), es[i]? = some en → kvs[i]? = some kv → RelP D w en.key kv.1 ∧ RelP D w en.val kv.2) (hv : RelP D w v p) (hr : findP P k p kvs 0 = some r) (hall : ∀ kv ∈ kvs, (eqP P 64 k p kv.1).isSome = true) (hd : (P.underlying k).isSome = true) :
    ∃ res, (Instr.findKey k v es.toList).run P w = .ok res w ∧ ((r = none ∧ res = none) ∨ ∃ j kv en, r = some (j, kv.2) ∧ kvs[j]? = some kv ∧ es[j]? = some en ∧ res = some (j, en.val) ∧ eqP P 64 k p kv.1 = some true) := by
  have _ := hI
  obtain ⟨d, hd⟩ := Option.isSome_iff_exists.1 hd
  have hget : ∀ en ∈ es.toList, ∃ (i : Nat) (kv : PV × PV) (b : Bool), es[i]? = some en ∧ kvs[i]? = some kv ∧ eqP P 64 k p kv.1 = some b ∧ (Op.equal k v en.key).run P w = .ok b w := by
    intro en hen
    obtain ⟨i, hi⟩ := List.getElem?_of_mem hen
    rw [Array.getElem?_toList] at hi
    have hlt : i < kvs.length := by rw [← hes]; exact (Array.getElem?_eq_some_iff.1 hi).1
    have hkv := List.getElem?_eq_getElem hlt
    obtain ⟨b, hb⟩ := Option.isSome_iff_exists.1 (hall _ (List.mem_of_getElem? hkv))
    exact ⟨i, _, b, hi, hkv, hb, eqP_run (P := P) (D := D) (w := w) 64 k p _ b v en.key 10000 hb (by decide) hv (hrel i en _ hi hkv).1⟩
  classical
  let f : MapEntry → Bool := fun en => if h : en ∈ es.toList then (hget en h).choose_spec.choose_spec.choose else false
  have hf : ∀ en, (h : en ∈ es.toList) → (Op.equal k v en.key).run P w = .ok (f en) w := fun en h => by
    have := (hget en h).choose_spec.choose_spec.choose_spec.2.2.2
    simp only [f, dif_pos h]
    exact this
  have hfind := run_findKey_flat (f := f) hd hf fun en h b hb => sameNow_eq hd hb (hf en h)
  refine ⟨_, hfind, ?_⟩
  have hfe : ∀ (j : Nat) (en : MapEntry) (kv : PV × PV), es.toList[j]? = some en → kvs[j]? = some kv → eqP P 64 k p kv.1 = some (f en) := by
    intro j en kv hj hkv
    obtain ⟨b, hb⟩ := Option.isSome_iff_exists.1 (hall _ (List.mem_of_getElem? hkv))
    have h1 := eqP_run (P := P) (D := D) (w := w) 64 k p _ b v en.key 10000 hb (by decide) hv (hrel j en kv (by rw [← Array.getElem?_toList]; exact hj) hkv).1
    have h2 := hf en (List.mem_of_getElem? hj)
    have h3 : (Op.equal k v en.key).run P w = .ok b w := h1
    rw [h2] at h3
    cases h3
    exact hb
  rcases find_of (by simpa using hes) hfe hr with ⟨h1, h2⟩ | ⟨j, kv, en, h1, h2, h3, h4⟩
  · exact .inl ⟨h1, by rw [h2]; rfl⟩
  · refine .inr ⟨j, kv, en, by simpa using h1, h2, by rw [← Array.getElem?_toList]; exact h3, by rw [h4]; simp, ?_⟩
    have := hfe j en kv h3 h2
    rw [this]
    have := List.find?_some h4
    simpa using this
theorem run_getMap {g : Nat} {es : Array MapEntry} {clock : Nat} (h : w.heap[g]? = some (.map es clock)) : (getObj g).run P w = .ok (.map es clock) w := MapKept.run_getObj_map h
theorem sound_lookup (hI : Inv c θ D st a w) {K : AV → Prop} {t k e : TypeId} {m x : Operand} {okb : Bool} {z : Value} (ho : o.op = .lookup t m x okb) (ht : P.underlying t = some (.map k e)) (hz : zeroT P e = some z)
    (h : sev P st (.lookup k e okb z (.of m) (.of x)) K) : Yields P o a w (Res c θ st a K) := by
  obtain ⟨am, hm, ax, hx, id, kvs, rfl, hob, p, hp, hkey, hd, hall, r, hr, hk⟩ := h
  obtain ⟨g, hg, hv⟩ := hI.get hm
  obtain ⟨es, clock, h1, h2, h3⟩ := hI.ok.objs id _ _ hg hob
  have hrel := relA_toPV (hI.get hx) hp
  obtain ⟨res, hres, hcase⟩ := map_find hI h2 h3 hrel hr hall hd
  have hck : ∀ em, (Instr.checkKey em 10000 k (a.eval x)).run P w = .ok () w := fun em => run_checkKey_flat em 64 10000 k _ p hkey (by decide) hrel
  simp only [zeroT, Option.bind_eq_some_iff] at hz
  obtain ⟨it, hit, hz1⟩ := hz
  have hzero : (zeroValue e).run P w = .ok z w := by simp [zeroValue, typeInfo, hit, hz1]
  have fin : ∀ (u : Value) (q : PV) (b : Bool), RelP D w u q → (execOp a.eval o).run P w = .ok (.value (if okb then .tuple #[u, .bool b] else u)) w → K (match okb with | true => .tup [.pv q, .pv (.sc (.bool b))] | false => .p q) → Yields P o a w (Res c θ st a K) := by
    intro u q b hu hrun hk
    cases okb
    · exact yields_same hI hrun hk hu
    · refine yields_same hI hrun hk ⟨#[u, .bool b], rfl, rfl, fun i v x hv hx => ?_⟩
      match i with
      | 0 => simp at hv hx; subst hv; subst hx; exact hu
      | 1 => simp at hv hx; subst hv; subst hx; exact RelP.sc _
      | i + 2 => simp at hx
  rcases hcase with ⟨rfl, rfl⟩ | ⟨j, kv, en, rfl, hj, hen, rfl, _⟩
  · refine fin z (.sc z) false (RelP.sc z) ?_ (by cases okb <;> exact hk)
    simp [execOp, ho, Instr.lookup, run_underlying ht, hv, run_getMap h1, hck, hres, hzero]
  · refine fin en.val kv.2 true (h3 j en kv hen hj).2 ?_ (by cases okb <;> exact hk)
    simp [execOp, ho, Instr.lookup, run_underlying ht, hv, run_getMap h1, hck, hres]
theorem sound_lenM (hI : Inv c θ D st a w) {K : AV → Prop} {x : Operand} {t k e : TypeId} {cl : Call} (ho : o.op = .call cl) (hcl : cl.callee = .builtin .len) (hargs : cl.args = #[x]) (htys : cl.argTypes = #[t])
    (ht : P.underlying t = some (.map k e)) (h : sev P st (.lenM k e (.of x)) K) : Yields P o a w (Res c θ st a K) := by
  obtain ⟨ax, hx, id, kvs, rfl, hob, hk⟩ := h
  obtain ⟨g, hg, hv⟩ := hI.get hx
  obtain ⟨es, clock, h1, h2, h3⟩ := hI.ok.objs id _ _ hg hob
  refine yields_same hI ?_ hk (RelP.sc _)
  simp [execOp, ho, resolve, hcl, hargs, htys, invoke, builtin, Builtin.len_, run_underlying ht, hv, goInt, run_getMap h1, h2]
theorem mk_mkmap (hI : Inv c θ D st a w) (hd : ∀ k, o.dst = some k → k < c.n) {K KP : St → Prop} {t k e : TypeId} (ho : o.op = .makeMap t none) {pl : Option Nat}
    (h : smk st (.mkmap k e) fun ob mk => plOk st pl ∧ K ((st.new pl ob).putO o.dst (.b (mk (st.nid pl))))) : Leaves P o c K KP a w := by
  intro next Q hn _
  obtain ⟨hpl, h⟩ := h
  obtain ⟨θ', hI', hid⟩ := hI.allocAt hpl (l := .mp w.heap.size) (o := .map k e []) (ob := .map #[] 0) (fun _ h => h) fun θ' hθ => ⟨#[], 0, heap_new w _, rfl, fun i en kv he => by simp at he⟩
  have hrun : (execOp a.eval o).run P w = .ok (.value (.map (some w.heap.size))) (w.alloc (.map #[] 0)) := by
    simp [execOp, ho, Instr.makeMap]
  unfold Oper.wp
  rw [hrun]
  exact hn _ _ ⟨_, h, _, _, hI'.put hd ⟨w.heap.size, hid, rfl⟩⟩
theorem sound_mkmap (hI : Inv c θ D st a w) (hd : ∀ k, o.dst = some k → k < c.n) {K KP : St → Prop} {t k e : TypeId} (ho : o.op = .makeMap t none) (h : sexec P o.dst (.mkmap k e) st K KP) : Leaves P o c K KP a w :=
  mk_mkmap hI hd ho (pl := none) ⟨trivial, h⟩
theorem sameBits_plain : ∀ {p q : PV} {v u : Value}, p.plain = true → RelP D w v p → RelP D w u p → Instr.sameBits 10000 v u = true := by
  intro p q v u hp hv hu
  cases p with
  | sc s =>
    rw [relP_sc hv, relP_sc hu]
    cases s <;> simp [PV.plain] at hp <;> simp [Instr.sameBits, beq_toListBytes]
  | agg xs =>
    cases hv with
    | agg vs _ h1 h2 =>
      cases hu with
      | agg us _ h3 h4 =>
        simp only [PV.plain, List.all_eq_true] at hp
        show ((vs.size == us.size) && _) = true
        simp only [Bool.and_eq_true, beq_iff_eq, List.all_eq_true]
        refine ⟨by omega, fun x hx => ?_⟩
        obtain ⟨i, hi⟩ := List.getElem?_of_mem hx
        rw [List.getElem?_zip_eq_some] at hi
        obtain ⟨a1, a2⟩ := hi
        rw [Array.getElem?_toList] at a1 a2
        have hlt : i < xs.length := by rw [← h1]; exact (Array.getElem?_eq_some_iff.1 a1).1
        have hxi := List.getElem?_eq_getElem hlt
        have hpi := hp _ (List.mem_of_getElem? hxi)
        have r1 := h2 i _ _ a1 hxi
        have r2 := h4 i _ _ a2 hxi
        revert r1 r2 hpi
        generalize xs[i] = y
        intro hpi r1 r2
        cases y with
        | sc s => rw [relP_sc r1, relP_sc r2]; cases s <;> simp at hpi <;> simp [Instr.sameBits, beq_toListBytes]
        | _ => simp at hpi
  | _ => simp [PV.plain] at hp
theorem setIf_get {h : Array Obj} {g k : Nat} {ob : Obj} (hk : k ≠ g) : (h.setIfInBounds g ob)[k]? = h[k]? := Array.getElem?_setIfInBounds_ne (Ne.symm hk)
theorem sound_mapset (hI : Inv c θ D st a w) (hdn : o.dst = none) {K KP : St → Prop} {t k e : TypeId} {m x y : Operand} (ho : o.op = .mapUpdate t m x y ∨ o.op = .insert t m x y) (ht : P.underlying t = some (.map k e))
    (h : sexec P o.dst (.mapset k e (.of m) (.of x) (.of y)) st K KP) : Leaves P o c K KP a w := by
  intro next Q hn _
  obtain ⟨am, hm, ax, hx, ay, hy, id, kvs, rfl, hob, p, hp, q, hq, _, hplain, hkey, hd, hall, r, hr, hsame, hk⟩ := h
  obtain ⟨g, hg, hv⟩ := hI.get hm
  obtain ⟨es, clock, h1, h2, h3⟩ := hI.ok.objs id _ _ hg hob
  have hrel := relA_toPV (hI.get hx) hp
  have hval := relA_toPV (hI.get hy) hq
  obtain ⟨res, hres, hcase⟩ := map_find hI h2 h3 hrel hr hall hd
  have hck : ∀ em, (Instr.checkKey em 10000 k (a.eval x)).run P w = .ok () w := fun em => run_checkKey_flat em 64 10000 k _ p hkey (by decide) hrel
  have hgs : g < w.heap.size := (hI.ok.olt id _ g hg rfl).1
  have fin : ∀ (ob : Obj) (kvs' : List (PV × PV)), (execOp a.eval o).run P w = .ok .skip { w with heap := w.heap.setIfInBounds g ob } → (∃ (es' : Array MapEntry) (clock' : Nat), ob = .map es' clock' ∧ es'.size = kvs'.length ∧ ∀ (i : Nat) (en : MapEntry) (kv : PV × PV), es'[i]? = some en → kvs'[i]? = some kv → RelP D w en.key kv.1 ∧ RelP D w en.val kv.2) →
      K { st with hp := st.hp.set id (.map k e kvs') } → o.wp P a w next Q := by
    rintro ob kvs' hrun ⟨es', clock', rfl, hl', hrel'⟩ hk
    have hD : ∀ b, D b → ({ w with heap := w.heap.setIfInBounds g (.map es' clock') } : World).heap[b]? = w.heap[b]? := fun b hb => setIf_get fun e => (hI.ok.olt id _ g hg rfl).2 (e ▸ hb)
    have hI' := hI.store (o' := .map k e kvs') (w' := { w with heap := w.heap.setIfInBounds g (.map es' clock') }) hg rfl rfl rfl rfl (by simp) (fun k' hk' => setIf_get hk')
      ⟨es', clock', by simp [hgs], hl', fun i en kv he hkv => ⟨(hrel' i en kv he hkv).1.mono (fun _ h => h) hD, (hrel' i en kv he hkv).2.mono (fun _ h => h) hD⟩⟩
    unfold Oper.wp
    rw [hrun]
    refine hn _ _ ⟨_, hk, θ, D, ?_⟩
    have := hI'.put (d := none) (v := undef) (x := .v undef) (fun _ h => by cases h) (RelP.sc _)
    rw [hdn]
    exact this
  have hset : ∀ (ob : Obj), (setObj g ob).run P w = .ok () { w with heap := w.heap.setIfInBounds g ob } := fun ob => MapKept.run_setObj_map ob h1
  rcases hcase with ⟨rfl, rfl⟩ | ⟨j, kv, en, rfl, hj, hen, rfl, _⟩
  · refine fin (.map (es.push { key := a.eval x, val := a.eval y, born := clock }) (clock + 1)) (kvs ++ [(p, q)]) ?_ ⟨_, _, rfl, by simp [h2], fun i en kv he hkv => ?_⟩ hk
    · rcases ho with ho | ho <;> simp only [execOp, ho, Instr.mapUpdate, Sem.run_bind, run_underlying ht, Result.andThen_ok, hv, run_getMap h1, hck, hres, hset, Sem.run_pure]
    · rw [Array.getElem?_push] at he
      split at he
      · rename_i hi
        rw [hi, h2, List.getElem?_append_right (Nat.le_refl _), Nat.sub_self] at hkv
        cases he
        simp at hkv
        subst hkv
        exact ⟨hrel, hval⟩
      · rename_i hi
        have hlt : i < es.size := (Array.getElem?_eq_some_iff.1 he).1
        rw [List.getElem?_append_left (by omega)] at hkv
        exact h3 i en kv he hkv
  · obtain ⟨u', hu'⟩ := hsame j kv.2 rfl
    rw [hj] at hu'
    cases hu'
    have hold : ((es[j]?).map (·.key)).getD (a.eval x) = en.key := by rw [hen]; rfl
    have hbits := sameBits_plain (q := p) hplain (h3 j en _ hen hj).1 hrel
    refine fin (.map (es.modify j fun e => { e with key := a.eval x, val := a.eval y }) clock) (kvs.set j (p, q)) ?_ ⟨_, _, rfl, by simp [h2], fun i en' kv' he hkv => ?_⟩ hk
    · rcases ho with ho | ho <;> simp only [execOp, ho, Instr.mapUpdate, Sem.run_bind, run_underlying ht, Result.andThen_ok, hv, run_getMap h1, hck, hres, hold, Instr.keyThatStays, hbits, if_true, Sem.run_pure, hset]
    · rw [Array.getElem?_modify] at he
      rw [List.getElem?_set] at hkv
      by_cases hij : j = i
      · subst hij
        rw [if_pos rfl, hen] at he
        rw [if_pos rfl, if_pos (List.getElem?_eq_some_iff.1 hj).1] at hkv
        simp at he hkv
        subst he; subst hkv
        exact ⟨hrel, hval⟩
      · rw [if_neg hij] at he
        rw [if_neg hij] at hkv
        exact h3 i en' kv' he hkv
theorem sound_mkfn (hI : Inv c θ D st a w) {K : AV → Prop} {f : FuncId} {first caps : Array Operand} (ho : o.op = .makeFunc (.func f) first caps) (hf : first = #[]) (h : sev P st (.mkfn f (caps.toList.map SX.of)) K) : Yields P o a w (Res c θ st a K) := by
  obtain ⟨ars, has, hcase⟩ := h
  obtain ⟨m1, m2⟩ := mapM_some has
  subst hf
  have hrun : (execOp a.eval o).run P w = .ok (.value (.func (.func f) #[] (caps.map a.eval))) w := by simp [execOp, ho, Instr.makeFunc]
  have hev : ∀ (i : Nat) (x : AV), ars[i]? = some x → ∃ y, caps.toList[i]? = some y ∧ RelA θ D w (a.eval y) x := fun i x hx => by
    obtain ⟨s, hs⟩ := getElem?_of_len (l := caps.toList.map SX.of) m1 hx
    have hg := m2 i s x hs hx
    rw [List.getElem?_map] at hs
    cases hc : caps.toList[i]? with
    | none => rw [hc] at hs; cases hs
    | some y => rw [hc] at hs; cases hs; exact ⟨y, rfl, hI.get hg⟩
  rcases hcase with ⟨ids, rfl, hk⟩ | ⟨ps, rfl, hk⟩
  · refine yields_same hI hrun hk ?_
    have hg : ∀ (i : Nat), i < ids.length → ∃ g : Nat, ∀ id y, ids[i]? = some id → caps.toList[i]? = some y → θ[id]? = some (.blk g) ∧ a.eval y = .pointer (some ⟨g, 0, none⟩) := fun i hi => by
      obtain ⟨y, hy, hr⟩ := hev i (.b (.ptr ids[i] 0)) (by simp [List.getElem?_eq_getElem hi])
      obtain ⟨g, e1, e2⟩ := hr
      exact ⟨g, fun id y' h1 h2 => by rw [List.getElem?_eq_getElem hi] at h1; cases h1; rw [hy] at h2; cases h2; exact ⟨e1, e2⟩⟩
    obtain ⟨gs, g1, g2⟩ := choose_list hg
    refine ⟨gs, g1, fun k id g hid hgk => ?_, ?_⟩
    · have hk : k < ids.length := (List.getElem?_eq_some_iff.1 hid).1
      obtain ⟨y, hy, _⟩ := hev k (.b (.ptr id 0)) (by simp [hid])
      exact (g2 k g hgk id y hid hy).1
    · congr 1
      apply Array.ext'
      apply List.ext_getElem?
      intro i
      simp only [Array.toList_map, List.getElem?_map]
      have hlen : caps.toList.length = ids.length := by simpa using m1
      rcases Nat.lt_or_ge i ids.length with hi | hi
      · have hgi := List.getElem?_eq_getElem (l := gs) (i := i) (by omega)
        have hyi := List.getElem?_eq_getElem (l := caps.toList) (i := i) (by omega)
        rw [hgi, hyi]
        simp only [Option.map_some]
        rw [(g2 i _ hgi _ _ (List.getElem?_eq_getElem hi) hyi).2]
      · rw [List.getElem?_eq_none (by omega : caps.toList.length ≤ i), List.getElem?_eq_none (by omega : gs.length ≤ i)]
        rfl
  · refine yields_same hI hrun hk (RelP.fn _ _ _ (by simpa using m1) fun i v x hv hx => ?_)
    obtain ⟨y, hy, hr⟩ := hev i (.p x) (by simp [hx])
    rw [Array.getElem?_map] at hv
    rw [Array.getElem?_toList] at hy
    rw [hy] at hv
    cases hv
    exact hr
theorem sound_boxD (hI : Inv c θ D st a w) (hd : ∀ k, o.dst = some k → k < c.n) {K KP : St → Prop} {t : TypeId} {x : Operand} (ho : o.op = .box t x) (h : sev P st (.boxD t (.of x)) fun x => K (st.putO o.dst x)) : Leaves P o c K KP a w := by
  intro next Q hn _
  obtain ⟨ax, hx, p, hp, hok, hnf, hk⟩ := h
  have hX := hI.get hx
  obtain ⟨h1, h2⟩ := relA_cells hX hok
  have hrun : (execOp a.eval o).run P w = .ok (.value (.pointer (some ⟨w.heap.size, 0, none⟩))) (w.alloc (.cells (a.eval x).cells t)) := by
    simp [execOp, ho, Instr.box, newVar, newRow]
  have hI' := hI.below (D' := fun b => D b ∨ (w.heap.size ≤ b ∧ b < (w.alloc (.cells (a.eval x).cells t)).heap.size)) (below_alloc w _) hI.w0le (fun b hb => .inl hb) (fun b hb => hb)
  unfold Oper.wp
  rw [hrun]
  refine hn _ _ ⟨_, hk, θ, _, hI'.put hd ?_⟩
  have hz : ∀ (j : Nat) (y : PV), p.cells[j]? = some y → ∃ z, ax.cells[j]? = some z ∧ z.toPV = some y := by
    intro j y hy
    cases ax with
    | tup xs => simp [AV.ok, AV.cells, BV.cellOk, PV.cellOk] at hok
    | agg xs =>
      simp only [AV.toPV, Option.map_eq_some_iff] at hp
      obtain ⟨ps, hps, rfl⟩ := hp
      obtain ⟨m1, m2⟩ := mapM_some hps
      simp only [PV.cells] at hy
      obtain ⟨z, hz⟩ := getElem?_of_len (l := xs) m1 hy
      exact ⟨z, hz, m2 j z y hz hy⟩
    | b bx =>
      cases bx with
      | pv q =>
        cases hp
        exact ⟨.pv y, by simp [AV.cells, hy], rfl⟩
      | nils =>
        cases hp
        simp only [PV.cells] at hy
        cases j with
        | zero => simp at hy; subst hy; exact ⟨.nils, rfl, rfl⟩
        | succ j => simp at hy
      | full q => exact absurd rfl (hnf q)
      | _ => cases hp
  have hcells : ∀ (j : Nat) (y : PV), p.cells[j]? = some y → ∃ u, (a.eval x).cells[j]? = some u ∧ RelP D w u y := by
    intro j y hy
    obtain ⟨z, e1, e2⟩ := hz j y hy
    have hj : j < (a.eval x).cells.size := by rw [h1]; exact (List.getElem?_eq_some_iff.1 e1).1
    exact ⟨_, Array.getElem?_eq_getElem hj, relB_toPV (h2 j _ z (Array.getElem?_eq_getElem hj) e1).1 e2⟩
  exact relP_pto_mk (b := w.heap.size) (o := 0) (.inr ⟨Nat.le_refl _, by simp⟩) fun j y hy => by
    obtain ⟨u, e1, e2⟩ := hcells j y hy
    refine ⟨u, ?_, e2.mono (fun b hb => .inl hb) (fun b hb => heap_old w _ b (hI.ok.dlt b hb))⟩
    rw [Nat.zero_add, cell_of_row _ _ _ (a.eval x).cells t (0, 0) (heap_new w _)]
    exact e1
theorem sound_iface (hI : Inv c θ D st a w) {K : AV → Prop} {t : TypeId} {x : Operand} (ho : o.op = .makeInterface t x) (ht : (match P.underlying t with | some (.interface _) => false | some _ => true | none => false) = true) (h : sev P st (.iface t (.of x)) K) : Yields P o a w (Res c θ st a K) := by
  obtain ⟨ax, hx, hk⟩ := h
  cases hd : P.underlying t with
  | none => rw [hd] at ht; cases ht
  | some d =>
    refine yields_same hI (v := .iface t (a.eval x)) ?_ hk ⟨t, a.eval x, rfl⟩
    rw [hd] at ht
    cases d <;> simp at ht <;> simp [execOp, ho, Instr.makeInterface, run_underlying hd]
theorem min_fold {k : IntKind} (mx : Bool) : ∀ (ns : List Int) (n : Int), ((ns.map fun n => Value.int k n).foldlM (if mx then Builtin.max2 else Builtin.min2) (.int k n)).run P w = .ok (.int k (ns.foldl (fun a b => if mx then max a b else min a b) n)) w
  | [], n => by simp
  | m :: ns, n => by
    have ih := min_fold (k := k) mx ns (if mx then max n m else min n m)
    simp only [List.map_cons, List.foldlM_cons, List.foldl_cons, Sem.run_bind]
    cases mx
    · have : (Builtin.min2 (.int k n) (.int k m)).run P w = .ok (.int k (min n m)) w := by
        simp only [Builtin.min2, Sem.run_pure]
        congr 2
        split <;> omega
      simp only [Bool.false_eq_true, if_false, this, Result.andThen_ok] at ih ⊢
      exact ih
    · have : (Builtin.max2 (.int k n) (.int k m)).run P w = .ok (.int k (max n m)) w := by
        simp only [Builtin.max2, Sem.run_pure]
        congr 2
        split <;> omega
      simp only [if_true, this, Result.andThen_ok] at ih ⊢
      exact ih
theorem sound_mnmx (hI : Inv c θ D st a w) {K : AV → Prop} {mx : Bool} {k : IntKind} {x : Operand} {ys : List Operand} {cl : Call} (ho : o.op = .call cl) (hcl : cl.callee = .builtin (if mx then .max else .min)) (hargs : cl.args.toList = x :: ys)
    (h : sev P st (.mnmx mx k (.of x) (ys.map SX.of)) K) : Yields P o a w (Res c θ st a K) := by
  obtain ⟨ax, hx, hv⟩ := h
  obtain ⟨k1, n, hn, ars, has, ns, rfl, rfl, hk⟩ := relA_isV (hI.get hx) hv
  obtain ⟨m1, m2⟩ := mapM_some has
  have hvals : ys.map a.eval = ns.map fun n => Value.int k1 n := by
    apply List.ext_getElem?
    intro i
    simp only [List.getElem?_map]
    have hl : ys.length = ns.length := by simpa using m1
    rcases Nat.lt_or_ge i ns.length with hi | hi
    · have hy := List.getElem?_eq_getElem (l := ys) (i := i) (by omega)
      have hni := List.getElem?_eq_getElem hi
      rw [hy, hni]
      have := m2 i (SX.of ys[i]) (.v (.int k1 ns[i])) (by rw [List.getElem?_map, hy]; rfl) (by rw [List.getElem?_map, hni]; rfl)
      simp only [Option.map_some]
      rw [relA_v (hI.get this)]
    · rw [List.getElem?_eq_none (by omega : ys.length ≤ i), List.getElem?_eq_none hi]
      rfl
  have hargs' : cl.args.toList.map a.eval = Value.int k1 n :: ns.map fun n => Value.int k1 n := by
    rw [hargs, List.map_cons, hn, hvals]
  refine yields_same hI ?_ hk (RelP.sc _)
  have hf := min_fold (P := P) (w := w) (k := k1) mx ns n
  cases mx
  · simp only [Bool.false_eq_true, if_false] at hcl hf
    simp [execOp, ho, resolve, hcl, invoke, builtin, Builtin.min_, hargs', hf]
  · simp only [if_true] at hcl hf
    simp [execOp, ho, resolve, hcl, invoke, builtin, Builtin.max_, hargs', hf]
theorem sound_panic (hI : Inv c θ D st a w) {K KP : St → Prop} {x : Operand} (ho : o.op = .panic x) (h : sexec P o.dst (.panic (.of x)) st K KP) : Leaves P o c K KP a w := by
  intro next Q _ hp
  obtain ⟨ax, hx, rfl, hk⟩ := h
  obtain ⟨t, u, hv⟩ := hI.get hx
  have hrun : (execOp a.eval o).run P w = .halt (.panic (.iface t u)) w := by
    simp [execOp, ho, hv, Instr.panic, goPanic]
  unfold Oper.wp
  rw [hrun]
  exact hp _ w ⟨⟨t, u, rfl⟩, st, hk, θ, D, hI⟩
theorem run_first {L : List PV} {ad : Option Addr} {cap sz n : Nat} (hI : Inv c θ D st a w) (h0 : 0 < sz) (hok : ∀ p ∈ L, p.ok = true) (hn : n ≤ L.length)
    (hcells : 0 < L.length → ∃ b o, ad = some ⟨b, o, none⟩ ∧ b < w.heap.size ∧ (∀ x ∈ L, x.cells.length = sz) ∧ ∀ (i j : Nat) (x y : PV), L[i]? = some x → x.cells[j]? = some y → ∃ u, w.cell? ⟨b, o + i * sz + j, none⟩ = some u ∧ RelP D w u y) :
    ∃ news : List Value, news.length = n * sz ∧ (Builtin.firstCells sz n (.slice ad L.length cap)).run P w = .ok news.toArray w ∧ (∀ u ∈ news, u.oneCell' = true) ∧
      (0 < n → ∀ x ∈ L, x.cells.length = sz) ∧ ∀ (i j : Nat) (p q : PV), i < n → L[i]? = some p → p.cells[j]? = some q → ∃ u, news[i * sz + j]? = some u ∧ RelP D w u q := by
  have _ := hI
  rcases Nat.eq_zero_or_pos n with rfl | hpos
  · refine ⟨[], by simp, ?_, fun u hu => by simp at hu, fun h => absurd h (by omega), fun i j p q hi => absurd hi (by omega)⟩
    cases ad with
    | none => simp [Builtin.firstCells]
    | some ab => exact run_firstCells_some (P := P) w sz 0 ab L.length cap [] (by simp) (fun j v hj => by simp at hj)
  · obtain ⟨g, og, rfl, hg, hsz, hc⟩ := hcells (by omega)
    obtain ⟨news, n1, n2⟩ := choose_list (n := n * sz) (p := fun k u => w.cell? ⟨g, og + k, none⟩ = some u ∧ u.oneCell' = true ∧ ∀ (p q : PV), L[k / sz]? = some p → p.cells[k % sz]? = some q → RelP D w u q) (fun k hk => by
      have hi : k / sz < n := (Nat.div_lt_iff_lt_mul h0).2 hk
      have hj : k % sz < sz := Nat.mod_lt _ h0
      have hp := List.getElem?_eq_getElem (l := L) (i := k / sz) (by omega)
      have hpl := hsz _ (List.mem_of_getElem? hp)
      have hq := List.getElem?_eq_getElem (l := (L[k / sz]'(by omega)).cells) (i := k % sz) (by omega)
      obtain ⟨u, e1, e2⟩ := hc _ _ _ _ hp hq
      refine ⟨u, ?_, ?_, fun p q hp' hq' => ?_⟩
      · rw [← e1, Nat.add_assoc, Nat.mul_comm, Nat.div_add_mod]
      · have hok1 := hok _ (List.mem_of_getElem? hp)
        simp only [PV.ok, List.all_eq_true] at hok1
        exact relP_cellOk e2 (hok1 _ (List.mem_of_getElem? hq))
      · rw [hp] at hp'; cases hp'
        rw [hq] at hq'; cases hq'
        exact e2)
    refine ⟨news, n1, run_firstCells_some (P := P) w sz n ⟨g, og, none⟩ L.length cap news n1 (fun j v hj => by rw [addr_add]; exact (n2 j v hj).1), fun u hu => ?_, fun _ => hsz, fun i j p q hi hp hq => ?_⟩
    · obtain ⟨j, hj⟩ := List.getElem?_of_mem hu
      exact (n2 j u hj).2.1
    · have hj : j < sz := by rw [← hsz p (List.mem_of_getElem? hp)]; exact (List.getElem?_eq_some_iff.1 hq).1
      have hlt : i * sz + j < news.length := by
        rw [n1]
        have : (i + 1) * sz ≤ n * sz := Nat.mul_le_mul_right _ hi
        rw [Nat.add_mul, Nat.one_mul] at this
        omega
      refine ⟨news[i * sz + j], List.getElem?_eq_getElem hlt, ?_⟩
      obtain ⟨f1, f2⟩ := flat_get (i := i) hj
      exact (n2 _ _ (List.getElem?_eq_getElem hlt)).2.2 p q (by rw [f1]; exact hp) (by rw [f2]; exact hq)
theorem sound_copy (hI : Inv c θ D st a w) (hd : ∀ k, o.dst = some k → k < c.n) {K KP : St → Prop} {t u e : TypeId} {sz : Nat} {x y : Operand} {cl : Call} (ho : o.op = .call cl) (hcl : cl.callee = .builtin .copy) (hargs : cl.args = #[x, y]) (htys : cl.argTypes = #[t, u])
    (he : elemT P t = some e) (hs : sizeT P e = some sz) (h0 : 0 < sz) (h : sexec P o.dst (.copy e sz (.of x) (.of y)) st K KP) : Leaves P o c K KP a w := by
  intro next Q hn _
  obtain ⟨ax, hx, ay, hy, hl⟩ := h
  obtain ⟨L, ad, cap', ⟨hok, id, rfl, _, ob, hob, xs, rfl, hk⟩, hye, _, _, hcells⟩ := relA_list hI.ok (hI.get hy) hl
  obtain ⟨l, hlθ, hh⟩ := hI.get hx
  have hro := hI.ok.objs id l _ hlθ hob
  have hu : P.underlying t = some (.slice e) := by
    unfold elemT at he
    split at he
    · cases he; assumption
    · cases he
  have hsz : (sizeOf e).run P w = .ok sz w := run_sizeOf hs
  obtain ⟨news, n1, n2, n3, n4, n5⟩ := run_first (P := P) (cap := cap') (n := min L.length xs.length) hI h0 hok (Nat.min_le_left _ _) hcells
  have fin : ∀ (w' : World) (st' : St), (Builtin.copy_ #[t, u] o.type #[a.eval x, a.eval y]).run P w = .ok (goInt ((min L.length xs.length : Nat) : Int)) w' → Inv c θ D { st with hp := st.hp.set id (.vec e sz (L.take xs.length ++ xs.drop L.length)) } a w' → o.wp P a w next Q := by
    intro w' _ hr hI'
    unfold Oper.wp
    have : (execOp a.eval o).run P w = .ok (.value (goInt ((min L.length xs.length : Nat) : Int))) w' := by simp [execOp, ho, resolve, hcl, hargs, htys, invoke, builtin, hr]
    rw [this]
    refine hn _ _ ⟨_, hk, θ, D, hI'.put hd ?_⟩
    rw [Nat.min_comm]
    exact RelP.sc _
  cases l <;> simp only [RelO, Loc.head] at hro hh
  · rename_i a0
    subst hro
    have hm : min L.length ([] : List PV).length = 0 := by simp
    have hnil : news = [] := List.eq_nil_of_length_eq_zero (by rw [n1, hm, Nat.zero_mul])
    subst hnil
    have hm' : ((min L.length ([] : List PV).length : Nat) : Int) = 0 := by rw [hm]; rfl
    refine fin w st ?_ ?_
    · rw [hh, hye, hm']
      rw [hm] at n2
      have hlen : (Builtin.lenOf (.slice ad L.length cap')).run P w = .ok L.length w := rfl
      cases a0 <;> simp [Builtin.copy_, run_underlying hu, hlen, hsz, n2, storeCells]
    · have hset : st.hp.set id (.vec e sz (L.take ([] : List PV).length ++ ([] : List PV).drop L.length)) = st.hp := by
        apply List.ext_getElem?
        intro i
        by_cases hii : i = id
        · subst hii
          rw [List.getElem?_set_self (List.getElem?_eq_some_iff.1 hob).1, hob]
          simp
        · rw [List.getElem?_set_ne (Ne.symm hii)]
      rw [hset]
      exact hI
  · rename_i g m cap s O
    obtain ⟨rfl, rfl, h3, h4, h5, cur, h6, h7, h8⟩ := hro
    have hle : min L.length xs.length * s ≤ cur.size := by rw [h7]; exact Nat.mul_le_mul_right _ (by omega)
    have hst := run_storeCells_at P g 0 e news 0 cur w h6 (by rw [n1]; omega) n3
    simp only [Nat.zero_add, Nat.add_zero, List.take_zero, List.nil_append] at hst
    have hsr := setRow_get cur 0 news (by rw [n1]; omega)
    simp only [List.take_zero, List.nil_append, Nat.zero_add] at hsr
    obtain ⟨s1, s2⟩ := hsr
    refine fin (w.setRow g (news ++ cur.toList.drop news.length).toArray) st ?_ (hI.store (w' := w.setRow g (news ++ cur.toList.drop news.length).toArray) (l := .hdr g xs.length cap s O) hlθ (.inl rfl) rfl rfl rfl (by simp) (fun k hk => setRow_other _ _ _ _ hk) ?_)
    · rw [hh, hye]
      have hlen : (Builtin.lenOf (.slice ad L.length cap')).run P w = .ok L.length w := rfl
      have hmm : Nat.min L.length xs.length = min L.length xs.length := rfl
      simp [Builtin.copy_, run_underlying hu, hlen, hsz, hmm, n2, hst]
    · have hD : ∀ b, D b → (w.setRow g (news ++ cur.toList.drop news.length).toArray).heap[b]? = w.heap[b]? := fun b hb => setRow_other _ _ _ _ fun e => (hI.ok.olt id _ g hlθ (.inl rfl)).2 (e ▸ hb)
      refine ⟨rfl, by rw [List.length_append, List.length_take, List.length_drop]; omega, h3, h4, fun p hp => ?_, _, setRow_heap _ _ _ _ _ _ h6, by rw [s1, h7], fun i j p q hp hq => ?_⟩
      · rcases List.mem_append.1 hp with hp | hp
        · by_cases hm : 0 < min L.length xs.length
          · exact n4 hm p (List.mem_of_mem_take hp)
          · have : L.take xs.length = [] := List.eq_nil_of_length_eq_zero (by rw [List.length_take]; omega)
            rw [this] at hp; cases hp
        · exact h5 p (List.mem_of_mem_drop hp)
      · by_cases hi : i < min L.length xs.length
        · rw [List.getElem?_append_left (by rw [List.length_take]; omega), List.getElem?_take, if_pos (by omega)] at hp
          obtain ⟨u, e1, e2⟩ := n5 i j p q hi hp hq
          refine ⟨u, ?_, e2.mono (fun _ h => h) hD⟩
          have hlt := (List.getElem?_eq_some_iff.1 e1).1
          rw [s2, if_pos ⟨by omega, by omega⟩]
          simpa using e1
        · rw [List.getElem?_append_right (by rw [List.length_take]; omega), List.getElem?_drop] at hp
          have hidx : L.length + (i - (L.take xs.length).length) = i ∨ L.length + (i - (L.take xs.length).length) ≥ xs.length := by rw [List.length_take]; omega
          rcases hidx with hidx | hidx
          · rw [hidx] at hp
            obtain ⟨u, e1, e2⟩ := h8 i j p q hp hq
            refine ⟨u, ?_, e2.mono (fun _ h => h) hD⟩
            have hmul : min L.length xs.length * s ≤ i * s := Nat.mul_le_mul_right _ (by omega)
            rw [s2, if_neg (by rw [n1]; omega)]
            exact e1
          · rw [List.getElem?_eq_none hidx] at hp; cases hp
end
end Go.Av
namespace Go.Av
open Go Go.RowKit
section
variable {P : Program} {o : Oper} {c : Ctx} {θ : List Loc} {D : Nat → Prop} {st : St} {a : Act} {w : World}
theorem mk_append (hI : Inv c θ D st a w) (hd : ∀ k, o.dst = some k → k < c.n) {K KP : St → Prop} {t e : TypeId} {sz bytes : Nat} {z : Value} {x y : Operand} {cl : Call} (ho : o.op = .call cl) (hcl : cl.callee = .builtin .append) (hargs : cl.args = #[x, y]) (htys : cl.argTypes = #[t, t])
    (he : elemT P t = some e) (hs : sizeT P e = some sz) (hb : bytesT P e = some bytes) (hz : zeroT P e = some z) (hzs : z.cells.size = sz) (h0 : 0 < sz) (hb0 : 0 < bytes)
    {pl : Option Nat} (h : smk st (.append e sz bytes (.of x) (.of y)) fun ob mk => plOk st pl ∧ K ((st.new pl ob).putO o.dst (.b (mk (st.nid pl))))) : Leaves P o c K KP a w := by
  intro next Q hn _
  obtain ⟨ax, hx, ay, hy, hL⟩ := h
  have hX := hI.get hx
  obtain ⟨L, ad, m, ⟨hok, hxx, hbd, hpl, hk⟩, hye, hlm, hnil, hcells⟩ := relA_list hI.ok (hI.get hy) hL
  have hu : P.underlying t = some (.slice e) := by
    unfold elemT at he
    split at he
    · cases he; assumption
    · cases he
  simp only [sizeT, Option.map_eq_some_iff] at hs
  obtain ⟨it, hit, rfl⟩ := hs
  have hz1 : it.zero = some z := by simpa [zeroT, hit] using hz
  have hb1 : it.bytes = bytes := by simpa [bytesT, hit] using hb
  subst hb1
  have fin : ∀ (v : Value) (w' : World) (st' : St), (Builtin.append_ #[t, t] o.type #[a.eval x, a.eval y]).run P w = .ok v w' → K st' → Rel c st' (a.put o.dst v) w' → o.wp P a w next Q := by
    intro v w' st' hr hk hrel
    unfold Oper.wp
    have : (execOp a.eval o).run P w = .ok (.value v) w' := by simp [execOp, ho, resolve, hcl, hargs, htys, invoke, builtin, hr]
    rw [this]
    exact hn _ _ ⟨st', hk, hrel⟩
  have hnews : 0 < L.length → ∃ (ab : Addr) (news : List Value), ad = some ab ∧ news.length = L.length * it.size ∧ (∀ (j : Nat) (u : Value), news[j]? = some u → w.cell? (ab.add j) = some u) ∧ (∀ u ∈ news, u.oneCell' = true) ∧
      (∀ p ∈ L, p.cells.length = it.size) ∧ ∀ (i j : Nat) (p q : PV), L[i]? = some p → p.cells[j]? = some q → ∃ u, news[i * it.size + j]? = some u ∧ RelP D w u q := by
    intro hl
    obtain ⟨g, og, rfl, hg, hsz, hc⟩ := hcells hl
    obtain ⟨news, n1, n2⟩ := choose_list (n := L.length * it.size) (p := fun k u => w.cell? ⟨g, og + k, none⟩ = some u ∧ u.oneCell' = true ∧ ∀ (p q : PV), L[k / it.size]? = some p → p.cells[k % it.size]? = some q → RelP D w u q) (fun k hk => by
      have hi : k / it.size < L.length := (Nat.div_lt_iff_lt_mul h0).2 hk
      have hj : k % it.size < it.size := Nat.mod_lt _ h0
      have hp := List.getElem?_eq_getElem hi
      have hpl := hsz _ (List.mem_of_getElem? hp)
      have hq := List.getElem?_eq_getElem (l := (L[k / it.size]).cells) (i := k % it.size) (by omega)
      obtain ⟨u, e1, e2⟩ := hc _ _ _ _ hp hq
      refine ⟨u, ?_, ?_, fun p q hp' hq' => ?_⟩
      · rw [← e1, Nat.add_assoc, Nat.mul_comm, Nat.div_add_mod]
      · have hok1 := hok _ (List.mem_of_getElem? hp)
        simp only [PV.ok, List.all_eq_true] at hok1
        exact relP_cellOk e2 (hok1 _ (List.mem_of_getElem? hq))
      · rw [hp] at hp'; cases hp'
        rw [hq] at hq'; cases hq'
        exact e2)
    refine ⟨_, news, rfl, n1, fun j u hj => by rw [addr_add]; exact (n2 j u hj).1, fun u hu => ?_, hsz, fun i j p q hp hq => ?_⟩
    · obtain ⟨j, hj⟩ := List.getElem?_of_mem hu
      exact (n2 j u hj).2.1
    · have hj : j < it.size := by rw [← hsz p (List.mem_of_getElem? hp)]; exact (List.getElem?_eq_some_iff.1 hq).1
      have hi : i < L.length := (List.getElem?_eq_some_iff.1 hp).1
      have hlt : i * it.size + j < news.length := by
        rw [n1]
        have : (i + 1) * it.size ≤ L.length * it.size := Nat.mul_le_mul_right _ hi
        rw [Nat.add_mul, Nat.one_mul] at this
        omega
      refine ⟨news[i * it.size + j], List.getElem?_eq_getElem hlt, ?_⟩
      obtain ⟨f1, f2⟩ := flat_get (i := i) hj
      exact (n2 _ _ (List.getElem?_eq_getElem hlt)).2.2 p q (by rw [f1]; exact hp) (by rw [f2]; exact hq)
  have rowRel : ∀ (w' : World) (olds news : List Value) (xs : List PV) (cv : Array Value) (k : Nat), (∀ b, D b → w'.heap[b]? = w.heap[b]?) → olds.length = xs.length * it.size → cv.size = k * it.size →
      (∀ j, j < olds.length → cv[j]? = olds[j]?) → (∀ j, j < news.length → cv[olds.length + j]? = news[j]?) → (∀ p ∈ xs, p.cells.length = it.size) → (∀ p ∈ L, p.cells.length = it.size) → news.length = L.length * it.size →
      (∀ (i j : Nat) (p q : PV), xs[i]? = some p → p.cells[j]? = some q → ∃ u, olds[i * it.size + j]? = some u ∧ RelP D w u q) → (∀ (i j : Nat) (p q : PV), L[i]? = some p → p.cells[j]? = some q → ∃ u, news[i * it.size + j]? = some u ∧ RelP D w u q) →
      ∀ (i j : Nat) (p q : PV), (xs ++ L)[i]? = some p → p.cells[j]? = some q → ∃ u, cv[i * it.size + j]? = some u ∧ RelP D w' u q := by
    intro w' olds news xs cv k hDw hol hcv hco hcn hxs hLs hnl ro rn i j p q hp hq
    rcases Nat.lt_or_ge i xs.length with hi | hi
    · rw [List.getElem?_append_left hi] at hp
      obtain ⟨u, e1, e2⟩ := ro i j p q hp hq
      exact ⟨u, by rw [hco _ (List.getElem?_eq_some_iff.1 e1).1]; exact e1, e2.mono (fun _ h => h) hDw⟩
    · rw [List.getElem?_append_right hi] at hp
      obtain ⟨u, e1, e2⟩ := rn _ j p q hp hq
      refine ⟨u, ?_, e2.mono (fun _ h => h) hDw⟩
      have := hcn _ (List.getElem?_eq_some_iff.1 e1).1
      rw [e1] at this
      rw [← this, hol]
      congr 1
      have : i * it.size = xs.length * it.size + (i - xs.length) * it.size := by rw [← Nat.add_mul]; congr 1; omega
      omega
  have len_of0 : ∀ (k : Nat), L.length * it.bytes ≤ k → L.length ≤ k := fun k h => Nat.le_trans (Nat.le_mul_of_pos_right _ hb0) h
  obtain ⟨ad0, hxe⟩ : ∃ ad0, a.eval x = .slice ad0 0 0 := by
    rcases hxx with rfl | rfl
    · exact ⟨none, hX⟩
    · obtain ⟨h1, a0, n0, h2⟩ := hX
      refine ⟨a0, ?_⟩
      rw [h2] at h1 ⊢
      cases h1
      rfl
  have h63 : L.length ≤ 140737488355328 := len_of0 _ hbd
  by_cases hL0 : L.length = 0
  · have hLe : L = [] := List.eq_nil_of_length_eq_zero hL0
    subst hLe
    obtain ⟨θ', hp, hid⟩ := hI.pushAt hpl (l := .nil ad0) (o := .vec e it.size []) (fun θ' _ => rfl) (fun g hg => by cases hg)
    refine fin (.slice ad0 0 0) w _ ?_ hk ⟨_, D, hp.put hd ⟨.nil ad0, hid, rfl⟩⟩
    rw [hxe, hye]
    exact run_append_zero hu hit ad0 0 0 (Nat.le_refl _) ad m
  · obtain ⟨ab, news, rfl, n1, n2, n3, n4, n5⟩ := hnews (Nat.pos_of_ne_zero hL0)
    have hr := run_append_empty (P := P) (w := w) (ty := o.type) hu hit hz1 ad0 ab L.length m news n1 n2 (Nat.pos_of_ne_zero hL0) (by omega) (by omega)
    have hge := grownCap_ge w L.length 0 e
    have hcm : grownCap w L.length 0 e ≤ maxLen := grownCap_le_maxLen w _ 0 e (by simp only [maxLen]; omega)
    have hcs : (news.toArray ++ Builtin.zeroCells z.cells (grownCap w L.length 0 e - L.length)).size = grownCap w L.length 0 e * it.size := by
      simp only [Array.size_append, List.size_toArray, zeroCells_size, hzs, n1, ← Nat.add_mul]
      congr 1; omega
    have hDw : ∀ b, D b → (w.drew.alloc (.cells (news.toArray ++ Builtin.zeroCells z.cells (grownCap w L.length 0 e - L.length)) e)).heap[b]? = w.heap[b]? := fun b hb => heap_old w.drew _ b (hI.ok.dlt b hb)
    obtain ⟨θ', hI', hid⟩ := hI.drew.allocAt hpl (l := .hdr w.heap.size L.length (grownCap w L.length 0 e) it.size none') (o := .vec e it.size L) (ob := .cells (news.toArray ++ Builtin.zeroCells z.cells (grownCap w L.length 0 e - L.length)) e) (fun _ h => h.elim (fun h => h) False.elim) fun θ' hθ =>
      ⟨rfl, rfl, hge, hcm, n4, _, heap_new w.drew _, hcs, fun i j p q hp hq => by
        have := rowRel _ [] news [] _ _ hDw (by simp) hcs (fun j hj => by simp at hj) (fun j hj => by simp only [List.length_nil, Nat.zero_add]; rw [Array.getElem?_append_left (by simpa using hj)]; simp) (fun p hp => by cases hp) n4 n1 (fun i j p q hp => by simp at hp) n5 i j p q (by simpa using hp) hq
        exact this⟩
    refine fin _ _ _ ?_ hk ⟨_, D, hI'.put hd ⟨_, hid, rfl⟩⟩
    rw [hxe, hye]
    exact hr
theorem sound_appD (hI : Inv c θ D st a w) (hd : ∀ k, o.dst = some k → k < c.n) {K KP : St → Prop} {t e : TypeId} {sz bytes : Nat} {z : Value} {x y : Operand} {cl : Call} (ho : o.op = .call cl) (hcl : cl.callee = .builtin .append) (hargs : cl.args = #[x, y]) (htys : cl.argTypes = #[t, t])
    (he : elemT P t = some e) (hs : sizeT P e = some sz) (hb : bytesT P e = some bytes) (hz : zeroT P e = some z) (hzs : z.cells.size = sz) (h0 : 0 < sz) (hb0 : 0 < bytes)
    (h : sev P st (.appD e sz bytes (.of x) (.of y)) fun x => K (st.putO o.dst x)) : Leaves P o c K KP a w := by
  intro next Q hn _
  obtain ⟨ax, hx, ay, hy, hL⟩ := h
  have hX := hI.get hx
  obtain ⟨L, ad, m, ⟨hok, L0, hxx, hbd, hk⟩, hye, hlm, hnil, hcells⟩ := relA_list hI.ok (hI.get hy) hL
  have hu : P.underlying t = some (.slice e) := by
    unfold elemT at he
    split at he
    · cases he; assumption
    · cases he
  simp only [sizeT, Option.map_eq_some_iff] at hs
  obtain ⟨it, hit, rfl⟩ := hs
  have hz1 : it.zero = some z := by simpa [zeroT, hit] using hz
  have hb1 : it.bytes = bytes := by simpa [bytesT, hit] using hb
  subst hb1
  have fin : ∀ (v : Value) (w' : World) (st' : St), (Builtin.append_ #[t, t] o.type #[a.eval x, a.eval y]).run P w = .ok v w' → K st' → Rel c st' (a.put o.dst v) w' → o.wp P a w next Q := by
    intro v w' st' hr hk hrel
    unfold Oper.wp
    have : (execOp a.eval o).run P w = .ok (.value v) w' := by simp [execOp, ho, resolve, hcl, hargs, htys, invoke, builtin, hr]
    rw [this]
    exact hn _ _ ⟨st', hk, hrel⟩
  have hnews : 0 < L.length → ∃ (ab : Addr) (news : List Value), ad = some ab ∧ news.length = L.length * it.size ∧ (∀ (j : Nat) (u : Value), news[j]? = some u → w.cell? (ab.add j) = some u) ∧ (∀ u ∈ news, u.oneCell' = true) ∧
      (∀ p ∈ L, p.cells.length = it.size) ∧ ∀ (i j : Nat) (p q : PV), L[i]? = some p → p.cells[j]? = some q → ∃ u, news[i * it.size + j]? = some u ∧ RelP D w u q := by
    intro hl
    obtain ⟨g, og, rfl, hg, hsz, hc⟩ := hcells hl
    obtain ⟨news, n1, n2⟩ := choose_list (n := L.length * it.size) (p := fun k u => w.cell? ⟨g, og + k, none⟩ = some u ∧ u.oneCell' = true ∧ ∀ (p q : PV), L[k / it.size]? = some p → p.cells[k % it.size]? = some q → RelP D w u q) (fun k hk => by
      have hi : k / it.size < L.length := (Nat.div_lt_iff_lt_mul h0).2 hk
      have hj : k % it.size < it.size := Nat.mod_lt _ h0
      have hp := List.getElem?_eq_getElem hi
      have hpl := hsz _ (List.mem_of_getElem? hp)
      have hq := List.getElem?_eq_getElem (l := (L[k / it.size]).cells) (i := k % it.size) (by omega)
      obtain ⟨u, e1, e2⟩ := hc _ _ _ _ hp hq
      refine ⟨u, ?_, ?_, fun p q hp' hq' => ?_⟩
      · rw [← e1, Nat.add_assoc, Nat.mul_comm, Nat.div_add_mod]
      · have hok1 := hok _ (List.mem_of_getElem? hp)
        simp only [PV.ok, List.all_eq_true] at hok1
        exact relP_cellOk e2 (hok1 _ (List.mem_of_getElem? hq))
      · rw [hp] at hp'; cases hp'
        rw [hq] at hq'; cases hq'
        exact e2)
    refine ⟨_, news, rfl, n1, fun j u hj => by rw [addr_add]; exact (n2 j u hj).1, fun u hu => ?_, hsz, fun i j p q hp hq => ?_⟩
    · obtain ⟨j, hj⟩ := List.getElem?_of_mem hu
      exact (n2 j u hj).2.1
    · have hj : j < it.size := by rw [← hsz p (List.mem_of_getElem? hp)]; exact (List.getElem?_eq_some_iff.1 hq).1
      have hi : i < L.length := (List.getElem?_eq_some_iff.1 hp).1
      have hlt : i * it.size + j < news.length := by
        rw [n1]
        have : (i + 1) * it.size ≤ L.length * it.size := Nat.mul_le_mul_right _ hi
        rw [Nat.add_mul, Nat.one_mul] at this
        omega
      refine ⟨news[i * it.size + j], List.getElem?_eq_getElem hlt, ?_⟩
      obtain ⟨f1, f2⟩ := flat_get (i := i) hj
      exact (n2 _ _ (List.getElem?_eq_getElem hlt)).2.2 p q (by rw [f1]; exact hp) (by rw [f2]; exact hq)
  have rowRel : ∀ (w' : World) (olds news : List Value) (xs : List PV) (cv : Array Value) (k : Nat), (∀ b, D b → w'.heap[b]? = w.heap[b]?) → olds.length = xs.length * it.size → cv.size = k * it.size →
      (∀ j, j < olds.length → cv[j]? = olds[j]?) → (∀ j, j < news.length → cv[olds.length + j]? = news[j]?) → (∀ p ∈ xs, p.cells.length = it.size) → (∀ p ∈ L, p.cells.length = it.size) → news.length = L.length * it.size →
      (∀ (i j : Nat) (p q : PV), xs[i]? = some p → p.cells[j]? = some q → ∃ u, olds[i * it.size + j]? = some u ∧ RelP D w u q) → (∀ (i j : Nat) (p q : PV), L[i]? = some p → p.cells[j]? = some q → ∃ u, news[i * it.size + j]? = some u ∧ RelP D w u q) →
      ∀ (i j : Nat) (p q : PV), (xs ++ L)[i]? = some p → p.cells[j]? = some q → ∃ u, cv[i * it.size + j]? = some u ∧ RelP D w' u q := by
    intro w' olds news xs cv k hDw hol hcv hco hcn hxs hLs hnl ro rn i j p q hp hq
    rcases Nat.lt_or_ge i xs.length with hi | hi
    · rw [List.getElem?_append_left hi] at hp
      obtain ⟨u, e1, e2⟩ := ro i j p q hp hq
      exact ⟨u, by rw [hco _ (List.getElem?_eq_some_iff.1 e1).1]; exact e1, e2.mono (fun _ h => h) hDw⟩
    · rw [List.getElem?_append_right hi] at hp
      obtain ⟨u, e1, e2⟩ := rn _ j p q hp hq
      refine ⟨u, ?_, e2.mono (fun _ h => h) hDw⟩
      have := hcn _ (List.getElem?_eq_some_iff.1 e1).1
      rw [e1] at this
      rw [← this, hol]
      congr 1
      have : i * it.size = xs.length * it.size + (i - xs.length) * it.size := by rw [← Nat.add_mul]; congr 1; omega
      omega
  have h63 : L0.length + L.length ≤ 140737488355328 := Nat.le_trans (Nat.le_mul_of_pos_right _ hb0) hbd
  obtain ⟨a0, hxe, hold⟩ : ∃ a0 : Option Addr, a.eval x = .slice a0 L0.length L0.length ∧ (0 < L0.length → ∃ b o', a0 = some ⟨b, o', none⟩ ∧ (∀ p ∈ L0, p.cells.length = it.size) ∧ ∃ olds : List Value, olds.length = L0.length * it.size ∧
      (∀ (j : Nat) (u : Value), olds[j]? = some u → w.cell? ⟨b, o' + j, none⟩ = some u) ∧ ∀ (i j : Nat) (p q : PV), L0[i]? = some p → p.cells[j]? = some q → ∃ u, olds[i * it.size + j]? = some u ∧ RelP D w u q) := by
    rcases hxx with ⟨rfl, rfl⟩ | rfl
    · exact ⟨none, hX, fun h => absurd h (by simp)⟩
    · obtain ⟨h1, a0, n0, h2⟩ := hX
      obtain ⟨a1, cap, e1, e2, e3⟩ := relP_lst h1
      rw [h2] at e1
      cases e1
      refine ⟨a0, h2, fun hl => ?_⟩
      obtain ⟨b, o', rfl, hb, hsz, hc⟩ := e3 hl
      obtain ⟨olds, n1, n2⟩ := choose_list (n := L0.length * it.size) (p := fun k u => w.cell? ⟨b, o' + k, none⟩ = some u ∧ ∀ (p q : PV), L0[k / it.size]? = some p → p.cells[k % it.size]? = some q → RelP D w u q) (fun k hk => by
        have hi : k / it.size < L0.length := (Nat.div_lt_iff_lt_mul h0).2 hk
        have hj : k % it.size < it.size := Nat.mod_lt _ h0
        have hp := List.getElem?_eq_getElem hi
        have hpl := hsz _ (List.mem_of_getElem? hp)
        have hq := List.getElem?_eq_getElem (l := (L0[k / it.size]).cells) (i := k % it.size) (by omega)
        obtain ⟨u, e1, e2⟩ := hc _ _ _ _ hp hq
        refine ⟨u, ?_, fun p q hp' hq' => ?_⟩
        · rw [← e1, Nat.add_assoc, Nat.mul_comm, Nat.div_add_mod]
        · rw [hp] at hp'; cases hp'
          rw [hq] at hq'; cases hq'
          exact e2)
      refine ⟨b, o', rfl, hsz, olds, n1, fun j u hj => (n2 j u hj).1, fun i j p q hp hq => ?_⟩
      have hj : j < it.size := by rw [← hsz p (List.mem_of_getElem? hp)]; exact (List.getElem?_eq_some_iff.1 hq).1
      have hi : i < L0.length := (List.getElem?_eq_some_iff.1 hp).1
      have hlt : i * it.size + j < olds.length := by
        rw [n1]
        have : (i + 1) * it.size ≤ L0.length * it.size := Nat.mul_le_mul_right _ hi
        rw [Nat.add_mul, Nat.one_mul] at this
        omega
      refine ⟨olds[i * it.size + j], List.getElem?_eq_getElem hlt, ?_⟩
      obtain ⟨f1, f2⟩ := flat_get (i := i) hj
      exact (n2 _ _ (List.getElem?_eq_getElem hlt)).2 p q (by rw [f1]; exact hp) (by rw [f2]; exact hq)
  by_cases hL0 : L.length = 0
  · have hLe : L = [] := List.eq_nil_of_length_eq_zero hL0
    subst hLe
    refine fin (.slice a0 L0.length L0.length) w _ ?_ hk ⟨θ, D, hI.put hd ?_⟩
    · rw [hxe, hye]
      exact run_append_zero hu hit a0 _ _ (Nat.le_refl _) ad m
    · rw [List.append_nil]
      rcases hxx with ⟨rfl, rfl⟩ | rfl
      · exact .nil _ _
      · obtain ⟨h1, _⟩ := hX
        rw [hxe] at h1
        exact h1
  · obtain ⟨ab, news, rfl, n1, n2, n3, n4, n5⟩ := hnews (Nat.pos_of_ne_zero hL0)
    have grow : ∀ (olds : List Value), olds.length = L0.length * it.size → (∀ p ∈ L0, p.cells.length = it.size) → (∀ (i j : Nat) (p q : PV), L0[i]? = some p → p.cells[j]? = some q → ∃ u, olds[i * it.size + j]? = some u ∧ RelP D w u q) →
        (Builtin.append_ #[t, t] o.type #[.slice a0 L0.length L0.length, .slice (some ab) L.length m]).run P w = .ok (.slice (some ⟨w.heap.size, 0, none⟩) (L0.length + L.length) (grownCap w (L0.length + L.length) L0.length e)) (w.drew.alloc (.cells (olds.toArray ++ news.toArray ++ Builtin.zeroCells z.cells (grownCap w (L0.length + L.length) L0.length e - (L0.length + L.length))) e)) →
        o.wp P a w next Q := by
      intro olds hol hxs ro hrun
      have hge := grownCap_ge w (L0.length + L.length) L0.length e
      have hcs : (olds.toArray ++ news.toArray ++ Builtin.zeroCells z.cells (grownCap w (L0.length + L.length) L0.length e - (L0.length + L.length))).size = grownCap w (L0.length + L.length) L0.length e * it.size := by
        simp only [Array.size_append, List.size_toArray, zeroCells_size, hzs, hol, n1, ← Nat.add_mul]
        congr 1; omega
      generalize hw' : w.drew.alloc (.cells (olds.toArray ++ news.toArray ++ Builtin.zeroCells z.cells (grownCap w (L0.length + L.length) L0.length e - (L0.length + L.length))) e) = w' at hrun
      have hDw : ∀ b, D b → w'.heap[b]? = w.heap[b]? := fun b hb => by rw [← hw']; exact heap_old w.drew _ b (hI.ok.dlt b hb)
      have hnew : w'.heap[w.heap.size]? = some (.cells (olds.toArray ++ news.toArray ++ Builtin.zeroCells z.cells (grownCap w (L0.length + L.length) L0.length e - (L0.length + L.length))) e) := by rw [← hw']; exact heap_new w.drew _
      have hlts : w.heap.size < w'.heap.size := by rw [← hw']; simp
      have hI' := hI.drew.below (D' := fun b => D b ∨ (w.heap.size ≤ b ∧ b < w'.heap.size)) (w' := w') (by rw [← hw']; exact below_alloc w.drew _) hI.w0le (fun b hb => .inl hb) (fun b hb => hb)
      refine fin (.slice (some ⟨w.heap.size, 0, none⟩) (L0.length + L.length) (grownCap w (L0.length + L.length) L0.length e)) w' _ ?_ hk ⟨θ, _, hI'.put hd ?_⟩
      · rw [hxe, hye]; exact hrun
      · have hh : RelP (fun b => D b ∨ (w.heap.size ≤ b ∧ b < w'.heap.size)) w' (.slice (some ⟨w.heap.size, 0, none⟩) (L0 ++ L).length (grownCap w (L0.length + L.length) L0.length e)) (lst it.size (L0 ++ L)) := by
          refine relP_lst_mk (by simpa using hge) fun _ => ⟨w.heap.size, 0, rfl, .inr ⟨Nat.le_refl _, hlts⟩, fun p hp => (List.mem_append.1 hp).elim (hxs p) (n4 p), fun i j p q hp hq => ?_⟩
          obtain ⟨u, e1, e2⟩ := rowRel w' olds news L0 _ _ hDw hol hcs (fun j hj => by rw [Array.getElem?_append_left (by simp; omega), Array.getElem?_append_left (by simpa using hj)]; simp) (fun j hj => by
            rw [Array.getElem?_append_left (by simp; omega), Array.getElem?_append_right (by simp)]; simp) hxs n4 n1 ro n5 i j p q hp hq
          refine ⟨u, ?_, e2.mono (fun b hb => .inl hb) (fun _ _ => rfl)⟩
          rw [Nat.zero_add, cell_of_row _ _ _ _ e (0, 0) hnew]
          exact e1
        rw [List.length_append] at hh
        exact hh
    by_cases hl0 : L0.length = 0
    · have hLe : L0 = [] := List.eq_nil_of_length_eq_zero hl0
      subst hLe
      have hr := run_append_empty (P := P) (w := w) (ty := o.type) hu hit hz1 a0 ab L.length m news n1 n2 (Nat.pos_of_ne_zero hL0) (by simp only [List.length_nil] at h63; omega) (by simp only [List.length_nil, Nat.zero_add] at hbd; omega)
      refine grow [] (by simp) (fun p hp => by cases hp) (fun i j p q hp => by simp at hp) ?_
      simpa using hr
    · obtain ⟨b, o', rfl, hsz, olds, m1, m2, m3⟩ := hold (Nat.pos_of_ne_zero hl0)
      have q1 : 0 < L.length := Nat.pos_of_ne_zero hL0
      have q2 : L0.length < L0.length + L.length := Nat.lt_add_of_pos_right q1
      have q3 : 0 < L0.length + L.length := Nat.add_pos_right _ q1
      have q4 : L0.length + L.length ≤ 9223372036854775807 := Nat.le_trans h63 (by decide)
      have q5 : ((L0.length + L.length : Nat) : Int) ≤ 9223372036854775807 := Int.ofNat_le.2 q4
      have hr := run_append_grow (P := P) w t o.type e it z hu hit hz1 ⟨b, o', none⟩ L0.length L0.length olds m1 (fun j u hj => by rw [addr_add]; exact m2 j u hj) ab L.length m news n1 n2 (by first | exact q1 | exact q2 | exact q5) (by first | exact q1 | exact q2 | exact q5) (growslice_fits (by first | exact q1 | exact q2 | exact q3 | exact q5 | exact q5) hbd)
      exact grow olds m1 hsz m3 hr
end
end Go.Av
namespace Go.Av
open Go Go.RowKit
section
variable {P : Program} {o : Oper} {c : Ctx} {θ : List Loc} {D : Nat → Prop} {st : St} {a : Act} {w : World}
theorem array_one {α : Type} {xs : Array α} {x : α} (h : xs.toList = [x]) : xs = #[x] := by
  apply Array.ext'; simpa using h
theorem array_two {α : Type} {xs : Array α} {x y : α} (h : xs.toList = [x, y]) : xs = #[x, y] := by
  apply Array.ext'; simpa using h
theorem canon_eq {s s' : SOp} (hat : ∀ k q, s ≠ .atq k q) (h : s.canon = s') (h1 : ∀ e z l ps, s' ≠ .bslice false e z l ps) (h2 : ∀ f xs, s' ≠ .call false f xs) (h3 : ∀ t x, s' ≠ .box t x) (h4 : ∀ x xs, s' ≠ .callv false [] x xs) (h5 : ∀ e z b x y, s' ≠ .append e z b x y) (h6 : ∀ e z b v x y, s' ≠ .mslice e z b v x y := by simp) : s = s' := by
  cases s <;> simp only [SOp.canon] at h <;> first | exact h | exact absurd h.symm (h1 _ _ _ _) | exact absurd h.symm (h2 _ _) | exact absurd h.symm (h3 _ _) | exact absurd h.symm (h4 _ _) | exact absurd h.symm (h5 _ _ _ _ _) | exact absurd h.symm (h6 _ _ _ _ _ _) | exact absurd rfl (hat _ _)
theorem bnd_get (hI : Inv c θ D st a w) {q : Option Operand} {dflt : Nat} {K' : Nat → Prop} (h : bnd st (q.map SX.of) dflt K') :
    ∃ n, K' n ∧ ((q = none ∧ n = dflt) ∨ ∃ x k, ∃ m : Int, q = some x ∧ a.eval x = .int k m ∧ 0 ≤ m ∧ n = m.toNat) := by
  cases q with
  | none => exact ⟨dflt, h, .inl ⟨rfl, rfl⟩⟩
  | some x =>
    obtain ⟨av, hav, h⟩ := h
    obtain ⟨k, m, hm, h0, hk⟩ := relA_isV (hI.get hav) h
    exact ⟨_, hk, .inr ⟨x, k, m, rfl, hm, h0, rfl⟩⟩
theorem run_bound {k : IntKind} {m : Int} {y : Nat} {code : BoundsCode} (h0 : 0 ≤ m) (h1 : m.toNat ≤ y) : (Instr.sliceBound (.int k m) y code).run P w = .ok m.toNat w := by
  have h2 : m ≤ (y : Int) := by omega
  simp only [Instr.sliceBound, asIntOf, Sem.run_bind, Sem.run_pure, Result.andThen_ok]
  rw [if_pos ⟨h0, h2⟩]
  rfl
theorem run_bounds (hI : Inv c θ D st a w) {lo hi mx : Option Operand} {isS : Bool} {len cap l h m : Nat}
    (hl : (lo = none ∧ l = 0) ∨ ∃ x k, ∃ m : Int, lo = some x ∧ a.eval x = .int k m ∧ 0 ≤ m ∧ l = m.toNat) (hh : (hi = none ∧ h = len) ∨ ∃ x k, ∃ m : Int, hi = some x ∧ a.eval x = .int k m ∧ 0 ≤ m ∧ h = m.toNat)
    (hm : (mx = none ∧ m = len) ∨ ∃ x k, ∃ m' : Int, mx = some x ∧ a.eval x = .int k m' ∧ 0 ≤ m' ∧ m = m'.toNat) (hmh : mx.isSome = true → hi.isSome = true) (h1 : l ≤ h) (h2 : h ≤ m) (h3 : m ≤ len) (h4 : len ≤ cap) :
    (Instr.sliceBounds isS len cap (lo.map a.eval) (hi.map a.eval) (mx.map a.eval)).run P w = .ok (l, h, if mx.isSome then m else cap) w := by
  have _ := hI
  rcases hm with ⟨rfl, rfl⟩ | ⟨x3, k3, m3, rfl, e3, g3, rfl⟩ <;> rcases hh with ⟨rfl, rfl⟩ | ⟨x2, k2, m2, rfl, e2, g2, rfl⟩ <;> rcases hl with ⟨rfl, rfl⟩ | ⟨x1, k1, m1, rfl, e1, g1, rfl⟩
  · simp [Instr.sliceBounds]
  · simp [Instr.sliceBounds, e1, run_bound g1 h1]
  · simp [Instr.sliceBounds, e2, run_bound (y := cap) g2 (by omega)]
  · simp [Instr.sliceBounds, e2, e1, run_bound (y := cap) g2 (by omega), run_bound g1 h1]
  · simp at hmh
  · simp at hmh
  · simp [Instr.sliceBounds, e3, e2, run_bound (y := cap) g3 (by omega), run_bound g2 h2]
  · simp [Instr.sliceBounds, e3, e2, e1, run_bound (y := cap) g3 (by omega), run_bound g2 h2, run_bound g1 h1]
theorem sound_slc (hI : Inv c θ D st a w) {K : AV → Prop} {t e : TypeId} {sz : Nat} {x : Operand} {lo hi mx : Option Operand} (ho : o.op = .slice t x lo hi mx) (ht : P.underlying t = some (.slice e)) (hs : sizeT P e = some sz)
    (h : sev P st (.slc sz (.of x) (lo.map .of) (hi.map .of) (mx.map .of)) K) : Yields P o a w (Res c θ st a K) := by
  obtain ⟨ax, hx, q, hq, L, rfl, hb⟩ := h
  obtain ⟨b, cap, hv, hcap, hcells⟩ := relP_lst (relA_toPV (hI.get hx) hq)
  obtain ⟨l, hb, hl⟩ := bnd_get hI hb
  obtain ⟨hn, hb, hh⟩ := bnd_get hI hb
  obtain ⟨m, ⟨hmh, h1, h2, h3, hk⟩, hm⟩ := bnd_get hI hb
  have hmh' : mx.isSome = true → hi.isSome = true := by simpa using hmh
  have hr := run_bounds (P := P) (isS := true) hI hl hh hm hmh' h1 h2 h3 hcap
  generalize hmm : (if mx.isSome then m else cap) = mm at hr
  have hmm1 : hn ≤ mm ∧ mm ≤ cap := by rw [← hmm]; split <;> omega
  have hrun : (execOp a.eval o).run P w = .ok (.value (.slice (if mm = l then b else b.map (·.add (l * sz))) (hn - l) (mm - l))) w := by
    simp only [execOp, ho, Instr.sliceAt, Sem.run_bind, run_underlying ht, Result.andThen_ok, Instr.slice, hv, hr, run_sizeOf hs, Sem.run_pure]
  have hrel : RelP D w (.slice (if mm = l then b else b.map (·.add (l * sz))) (hn - l) (mm - l)) (lst sz ((L.take hn).drop l)) := by
    have hlen : ((L.take hn).drop l).length = hn - l := by simp; omega
    rw [← hlen]
    refine relP_lst_mk (by omega) fun hpos => ?_
    obtain ⟨g, og, rfl, hg, hsz, hc⟩ := hcells (by omega)
    rw [if_neg (by omega)]
    refine ⟨g, og + l * sz, by simp [addr_add], hg, fun p hp => hsz p (List.mem_of_mem_take (List.mem_of_mem_drop hp)), fun i j p q hp hq => ?_⟩
    rw [List.getElem?_drop, List.getElem?_take] at hp
    split at hp
    · obtain ⟨u, e1, e2⟩ := hc (l + i) j p q hp hq
      refine ⟨u, ?_, e2⟩
      rw [← e1, Nat.add_mul]
      congr 2
      omega
    · cases hp
  rcases hk with hk | ⟨hms, hhm, hk⟩
  · exact yields_same hI hrun hk hrel
  · have hmh : mm = hn := by
      rw [← hmm, if_pos (by simpa using hms)]
      exact hhm.symm
    refine yields_same hI (x := .b (.full (lst sz ((L.take hn).drop l)))) hrun hk ⟨hrel, (if mm = l then b else b.map (·.add (l * sz))), hn - l, ?_⟩
    rw [hmh]
theorem sound_slcS (hI : Inv c θ D st a w) {K : AV → Prop} {t : TypeId} {x : Operand} {lo hi : Option Operand} (ho : o.op = .slice t x lo hi none) (ht : P.underlying t = some .string)
    (h : sev P st (.slcS (.of x) (lo.map .of) (hi.map .of)) K) : Yields P o a w (Res c θ st a K) := by
  obtain ⟨ax, hx, hv⟩ := h
  obtain ⟨s, hs, hb⟩ := relA_isV (hI.get hx) hv
  obtain ⟨l, hb, hl⟩ := bnd_get hI hb
  obtain ⟨hn, ⟨h1, h2, hk⟩, hh⟩ := bnd_get hI hb
  have hr := run_bounds (P := P) (isS := false) (mx := none) (m := s.size) hI hl hh (.inl ⟨rfl, rfl⟩) (by simp) h1 h2 (Nat.le_refl _) (Nat.le_refl _)
  refine yields_same hI ?_ hk (RelP.sc _)
  simp only [Option.map_none] at hr
  simp [execOp, ho, Instr.sliceAt, run_underlying ht, Instr.slice, hs, hr]
end
end Go.Av
namespace Go.Av
open Go Go.RowKit
section
variable {P : Program} {o : Oper} {c : Ctx} {θ : List Loc} {D : Nat → Prop} {st : St} {a : Act} {w : World}
theorem canon_call {s : SOp} {f : FuncId} {xs : List SX} (hat : ∀ k q, s ≠ .atq k q) (h : s.canon = .call false f xs) : (∃ b, s = .call b f xs) ∨ ∃ b B, s = .callA b B f xs := by
  cases s <;> simp_all [SOp.canon]
theorem canon_callv {s : SOp} {x : SX} {xs : List SX} (hat : ∀ k q, s ≠ .atq k q) (h : s.canon = .callv false [] x xs) : (∃ b B, s = .callv b B x xs) ∨ ∃ b, s = .callp b x xs := by
  cases s <;> simp_all [SOp.canon]
theorem canon_box {s : SOp} {e : TypeId} {x : SX} (hat : ∀ k q, s ≠ .atq k q) (h : s.canon = .box e x) : s = .box e x ∨ s = .boxD e x := by
  cases s <;> simp_all [SOp.canon]
theorem canon_bslice {s : SOp} {e : TypeId} {z l : Nat} {xs : List SX} (hat : ∀ k q, s ≠ .atq k q) (h : s.canon = .bslice false e z l xs) : (∃ b, s = .bslice b e z l xs) ∨ s = .bsliceN e z l xs := by
  cases s <;> simp_all [SOp.canon]
theorem canon_mslice {s : SOp} {e : TypeId} {z b : Nat} {v : Value} {x y : SX} (hat : ∀ k q, s ≠ .atq k q) (h : s.canon = .mslice e z b v x y) : s = .mslice e z b v x y ∨ ∃ k, s = .msliceT k e z b v x y := by
  cases s <;> simp_all [SOp.canon]
theorem canon_append {s : SOp} {e : TypeId} {z b : Nat} {x y : SX} (hat : ∀ k q, s ≠ .atq k q) (h : s.canon = .append e z b x y) : s = .append e z b x y ∨ s = .appD e z b x y ∨ ∃ k, s = .appT k e z b x y := by
  cases s <;> simp_all [SOp.canon]
def sOk (P : Program) (o : Oper) : Bool := match o.op with
  | .binOp _ t _ _ _ => match P.underlying t with
    | some (.struct _) => !P.eqGuardType P.depth t
    | _ => true
  | .makeInterface t _ => match P.underlying t with
    | some (.interface _) => false
    | some _ => true
    | none => false
  | .panic x => match x with
    | .tmp _ => true
    | _ => false
  | _ => true
theorem compOp_sound' (hI : Inv c θ D st a w) (hd : ∀ k, o.dst = some k → k < c.n) {s : SOp} {K KP : St → Prop} (hat : ∀ k q, s ≠ .atq k q) (hc : compOp P o = some s.canon) (hok : sOk P o = true) (h : sexec P o.dst s st K KP) : Leaves P o c K KP a w := by
  have pure_ : Yields P o a w (Res c θ st a fun x => K (st.putO o.dst x)) → Leaves P o c K KP a w := fun hy => leaves_of_yields hd hy fun _ h => h
  unfold compOp at hc
  split at hc
  · rename_i x ho
    cases canon_eq hat (Option.some.inj hc).symm (by simp) (by simp) (by simp) (by simp) (by simp)
    exact pure_ (sound_mv hI (.inl ho) h)
  · rename_i x ho
    cases canon_eq hat (Option.some.inj hc).symm (by simp) (by simp) (by simp) (by simp) (by simp)
    exact pure_ (sound_mv hI (.inr ho) h)
  · rename_i x y z ho
    cases canon_eq hat (Option.some.inj hc).symm (by simp) (by simp) (by simp) (by simp) (by simp)
    exact pure_ (sound_pick hI ho h)
  · rename_i op t x y t' ho
    split at hc
    · cases canon_eq hat (Option.some.inj hc).symm (by simp) (by simp) (by simp) (by simp) (by simp)
      exact pure_ (sound_bin hI ho h)
    · cases canon_eq hat (Option.some.inj hc).symm (by simp) (by simp) (by simp) (by simp) (by simp)
      exact pure_ (sound_bin hI ho h)
    · rename_i ht
      split at hc
      · cases canon_eq hat (Option.some.inj hc).symm (by simp) (by simp) (by simp) (by simp) (by simp)
        exact pure_ (sound_eqB (neg := false) hI ho ht h)
      · cases canon_eq hat (Option.some.inj hc).symm (by simp) (by simp) (by simp) (by simp) (by simp)
        exact pure_ (sound_eqB (neg := true) hI ho ht h)
      · cases hc
    · rename_i fs ht
      have hg : P.eqGuardType P.depth t = false := by
        unfold sOk at hok
        rw [ho] at hok
        simp only [ht] at hok
        simpa using hok
      split at hc
      · cases canon_eq hat (Option.some.inj hc).symm (by simp) (by simp) (by simp) (by simp) (by simp)
        exact pure_ (sound_eqT (neg := false) hI ho rfl ht hg h)
      · cases canon_eq hat (Option.some.inj hc).symm (by simp) (by simp) (by simp) (by simp) (by simp)
        exact pure_ (sound_eqT (neg := true) hI ho rfl ht hg h)
      · cases hc
    · cases hc
  · rename_i op t x ho
    cases canon_eq hat (Option.some.inj hc).symm (by simp) (by simp) (by simp) (by simp) (by simp)
    exact pure_ (sound_un hI ho h)
  · rename_i cl ho
    split at hc
    · rename_i hcl
      split at hc
      · rename_i x t hargs htys
        split at hc
        · rename_i e ht
          cases canon_eq hat (Option.some.inj hc).symm (by simp) (by simp) (by simp) (by simp) (by simp)
          exact pure_ (sound_len hI ho hcl (array_one hargs) (array_one htys) ht h)
        · rename_i ht
          cases canon_eq hat (Option.some.inj hc).symm (by simp) (by simp) (by simp) (by simp) (by simp)
          exact pure_ (sound_lenS hI ho hcl (array_one hargs) (array_one htys) ht h)
        · rename_i n e ht
          cases canon_eq hat (Option.some.inj hc).symm (by simp) (by simp) (by simp) (by simp) (by simp)
          refine pure_ (sound_const hI ?_ h)
          simp [execOp, ho, resolve, hcl, array_one hargs, array_one htys, invoke, builtin, Builtin.len_, run_underlying ht, goInt]
        · rename_i k e ht
          cases canon_eq hat (Option.some.inj hc).symm (by simp) (by simp) (by simp) (by simp) (by simp)
          exact pure_ (sound_lenM hI ho hcl (array_one hargs) (array_one htys) ht h)
        · cases hc
      · cases hc
    · rename_i hcl
      split at hc
      · rename_i x y t u hargs htys
        split at hc
        · rename_i htu
          subst htu
          simp only [Option.bind_eq_some_iff] at hc
          obtain ⟨e, he, s', hs, b, hb, z, hz, hc⟩ := hc
          split at hc
          · rename_i hcond
            obtain ⟨h1, h2, h3⟩ := hcond
            rcases canon_append hat (Option.some.inj hc).symm with rfl | rfl | ⟨k, rfl⟩
            · exact sound_append hI hd ho hcl (array_two hargs) (array_two htys) he hs hb hz h1 h2 h3 h
            · exact sound_appD hI hd ho hcl (array_two hargs) (array_two htys) he hs hb hz h1 h2 h3 h
            · exact sound_appT hI hd ho hcl (array_two hargs) (array_two htys) he hs hb hz h1 h2 h3 h
          · cases hc
        · cases hc
      · cases hc
    · rename_i hcl
      split at hc
      · rename_i x y t u hargs htys
        simp only [Option.bind_eq_some_iff] at hc
        obtain ⟨e, he, e', he', s', hs, hc⟩ := hc
        split at hc
        · rename_i hcond
          obtain ⟨rfl, h0⟩ := hcond
          cases canon_eq hat (Option.some.inj hc).symm (by simp) (by simp) (by simp) (by simp) (by simp)
          exact sound_copy hI hd ho hcl (array_two hargs) (array_two htys) he hs h0 h
        · cases hc
      · cases hc
    · rename_i hcl
      split at hc
      · rename_i x ys t l hargs htys
        split at hc
        · cases canon_eq hat (Option.some.inj hc).symm (by simp) (by simp) (by simp) (by simp) (by simp)
          exact pure_ (sound_mnmx (mx := false) hI ho hcl hargs h)
        · cases hc
      · cases hc
    · rename_i hcl
      split at hc
      · rename_i x ys t l hargs htys
        split at hc
        · cases canon_eq hat (Option.some.inj hc).symm (by simp) (by simp) (by simp) (by simp) (by simp)
          exact pure_ (sound_mnmx (mx := true) hI ho hcl hargs h)
        · cases hc
      · cases hc
    · rename_i f hcl
      split at hc
      · rename_i hf
        rcases canon_call hat (Option.some.inj hc).symm with ⟨bor, rfl⟩ | ⟨bor, B, rfl⟩
        · exact sound_call hI hd ho hcl hf h
        · exact sound_callA hI hd ho hcl hf h
      · cases hc
    · rename_i t hcl
      rcases canon_callv hat (Option.some.inj hc).symm with ⟨bor, B, rfl⟩ | ⟨bor, rfl⟩
      · exact sound_callv hI hd ho hcl h
      · exact sound_callp hI hd ho hcl h
    · cases hc
  · rename_i t x i ho
    split at hc
    · rename_i ht
      cases canon_eq hat (Option.some.inj hc).symm (by simp) (by simp) (by simp) (by simp) (by simp)
      exact pure_ (sound_idxS hI ho ht h)
    · rename_i n e ht
      split at hc
      · rename_i hd'
        obtain ⟨d', hd'⟩ := Option.isSome_iff_exists.1 hd'
        simp only [Option.map_eq_some_iff] at hc
        obtain ⟨sz, hs, hc⟩ := hc
        cases canon_eq hat hc.symm (by simp) (by simp) (by simp) (by simp) (by simp)
        exact pure_ (sound_idxV hI ho ht hd' hs h)
      · cases hc
    · cases hc
  · rename_i t x i ho
    split at hc
    · rename_i e ht
      simp only [Option.map_eq_some_iff] at hc
      obtain ⟨sz, hs, hc⟩ := hc
      cases canon_eq hat hc.symm (by simp) (by simp) (by simp) (by simp) (by simp)
      exact pure_ (sound_idxA hI ho ht hs h)
    · rename_i n e ht
      simp only [Option.map_eq_some_iff] at hc
      obtain ⟨sz, hs, hc⟩ := hc
      cases canon_eq hat hc.symm (by simp) (by simp) (by simp) (by simp) (by simp)
      exact pure_ (sound_idxP hI ho ht hs h)
    · cases hc
  · rename_i t x f ho
    simp only [Option.bind_eq_some_iff] at hc
    obtain ⟨fd, hf, sz, hs, hc⟩ := hc
    split at hc
    · cases hc
    · rename_i hsz
      cases canon_eq hat (Option.some.inj hc).symm (by simp) (by simp) (by simp) (by simp) (by simp)
      exact pure_ (sound_fldA hI ho hf hs hsz h)
  · rename_i t x f ho
    simp only [Option.bind_eq_some_iff] at hc
    obtain ⟨fd, hf, hc⟩ := hc
    split at hc
    · rename_i hd'
      obtain ⟨d', hd'⟩ := Option.isSome_iff_exists.1 hd'
      simp only [Option.map_eq_some_iff] at hc
      obtain ⟨sz, hs, hc⟩ := hc
      cases canon_eq hat hc.symm (by simp) (by simp) (by simp) (by simp) (by simp)
      exact pure_ (sound_fld hI ho hf hd' hs h)
    · cases hc
  · rename_i t x ho
    simp only [Option.bind_eq_some_iff] at hc
    obtain ⟨sz, hs, hc⟩ := hc
    split at hc
    · rename_i hd'
      obtain ⟨d', hd'⟩ := Option.isSome_iff_exists.1 hd'
      cases canon_eq hat (Option.some.inj hc).symm (by simp) (by simp) (by simp) (by simp) (by simp)
      exact pure_ (sound_load hI ho hd' hs h)
    · cases hc
  · rename_i t x v ho
    simp only [Option.map_eq_some_iff] at hc
    obtain ⟨sz, hs, hc⟩ := hc
    cases canon_eq hat hc.symm (by simp) (by simp) (by simp) (by simp) (by simp)
    have hdn : o.dst = none := by
      obtain ⟨_, _, _, _, h1, _⟩ := h
      exact h1
    exact sound_store hI hdn ho hs h
  · rename_i e ho
    simp only [Option.map_eq_some_iff] at hc
    obtain ⟨z, hz, hc⟩ := hc
    cases canon_eq hat hc.symm (by simp) (by simp) (by simp) (by simp) (by simp)
    exact sound_alloc hI hd ho hz h
  · rename_i e x ho
    rcases canon_box hat (Option.some.inj hc).symm with rfl | rfl
    · exact sound_box hI hd ho h
    · exact sound_boxD hI hd ho h
  · rename_i t parts ho
    simp only [Option.bind_eq_some_iff, Option.map_eq_some_iff] at hc
    obtain ⟨z, hz, ps, hps, hc⟩ := hc
    cases canon_eq hat hc.symm (by simp) (by simp) (by simp) (by simp) (by simp)
    exact pure_ (sound_build hI ho hz hps h)
  · rename_i t len parts ho
    simp only [Option.bind_eq_some_iff] at hc
    obtain ⟨e, he, sz, hs, z, hz, hc⟩ := hc
    split at hc
    · rename_i hcond
      obtain ⟨h1, h2⟩ := hcond
      rcases canon_bslice hat (Option.some.inj hc).symm with ⟨own, rfl⟩ | rfl
      rotate_left
      · exact sound_bsliceN hI hd ho he hs hz h1 h2 h
      cases own
      · exact sound_bslice hI hd ho he hs hz h1 h2 h
      · exact sound_bsliceO hI hd ho he hs hz h1 h2 h
    · cases hc
  · rename_i t l m ho
    simp only [Option.bind_eq_some_iff, Option.map_eq_some_iff] at hc
    obtain ⟨e, he, sz, hs, b, hb, z, hz, hc⟩ := hc
    rcases canon_mslice hat hc.symm with rfl | ⟨k, rfl⟩
    · exact sound_mslice hI hd ho he hs hb hz h
    · exact sound_msliceT hI hd ho he hs hb hz h
  · rename_i s' d' x ho
    split at hc
    · rename_i ds k h1 h2
      cases canon_eq hat (Option.some.inj hc).symm (by simp) (by simp) (by simp) (by simp) (by simp)
      exact pure_ (sound_cvtI hI ho h1 h2 h)
    · rename_i e h1 h2
      split at hc
      · rename_i h3
        cases canon_eq hat (Option.some.inj hc).symm (by simp) (by simp) (by simp) (by simp) (by simp)
        exact pure_ (sound_b2s hI ho h1 h2 h3 h)
      · cases hc
    · cases hc
  · rename_i t x lo hi mx ho
    split at hc
    · rename_i e ht
      simp only [Option.map_eq_some_iff] at hc
      obtain ⟨sz, hs, hc⟩ := hc
      cases canon_eq hat hc.symm (by simp) (by simp) (by simp) (by simp) (by simp)
      exact pure_ (sound_slc hI ho ht hs h)
    · rename_i ht
      split at hc
      · cases canon_eq hat (Option.some.inj hc).symm (by simp) (by simp) (by simp) (by simp) (by simp)
        exact pure_ (sound_slcS hI ho ht h)
      · cases hc
    · cases hc
  · rename_i x i ho
    cases canon_eq hat (Option.some.inj hc).symm (by simp) (by simp) (by simp) (by simp) (by simp)
    exact pure_ (sound_ext hI ho h)
  · rename_i x ho
    cases canon_eq hat (Option.some.inj hc).symm (by simp) (by simp) (by simp) (by simp) (by simp)
    exact pure_ (sound_nilc hI ho h)
  · rename_i f first caps ho
    split at hc
    · rename_i hcond
      simp only [Bool.and_eq_true] at hcond
      cases canon_eq hat (Option.some.inj hc).symm (by simp) (by simp) (by simp) (by simp) (by simp)
      exact pure_ (sound_mkfn hI ho (by simpa using hcond.1) h)
    · cases hc
  · rename_i t ho
    split at hc
    · cases canon_eq hat (Option.some.inj hc).symm (by simp) (by simp) (by simp) (by simp) (by simp)
      exact sound_mkmap hI hd ho h
    · cases hc
  · rename_i t m x ok ho
    split at hc
    · rename_i k e ht
      simp only [Option.map_eq_some_iff] at hc
      obtain ⟨z, hz, hc⟩ := hc
      cases canon_eq hat hc.symm (by simp) (by simp) (by simp) (by simp) (by simp)
      exact pure_ (sound_lookup hI ho ht hz h)
    · cases hc
  · rename_i t m x v ho
    split at hc
    · rename_i k e ht
      cases canon_eq hat (Option.some.inj hc).symm (by simp) (by simp) (by simp) (by simp) (by simp)
      have hdn : o.dst = none := by
        obtain ⟨_, _, _, _, _, _, _, _, _, _, _, _, _, _, h1, _⟩ := h
        exact h1
      exact sound_mapset hI hdn (.inl ho) ht h
    · cases hc
  · rename_i t m x v ho
    split at hc
    · rename_i k e ht
      cases canon_eq hat (Option.some.inj hc).symm (by simp) (by simp) (by simp) (by simp) (by simp)
      have hdn : o.dst = none := by
        obtain ⟨_, _, _, _, _, _, _, _, _, _, _, _, _, _, h1, _⟩ := h
        exact h1
      exact sound_mapset hI hdn (.inr ho) ht h
    · cases hc
  · rename_i x ho
    cases canon_eq hat (Option.some.inj hc).symm (by simp) (by simp) (by simp) (by simp) (by simp)
    exact sound_panic hI ho h
  · rename_i t x ho
    cases canon_eq hat (Option.some.inj hc).symm (by simp) (by simp) (by simp) (by simp) (by simp)
    refine pure_ (sound_iface hI ho ?_ h)
    unfold sOk at hok
    rw [ho] at hok
    exact hok
  · cases hc
theorem comp_alloc {t : TypeId} {zl : List Value} (hc : compOp P o = some (.alloc t zl)) : ∃ z, o.op = .alloc t ∧ zeroT P t = some z ∧ zl = z.cells.toList := by
  unfold compOp at hc
  (repeat' split at hc) <;> simp_all [Option.bind_eq_some_iff, Option.map_eq_some_iff]
  obtain ⟨z, h1, rfl, rfl⟩ := hc
  exact ⟨rfl, z, h1, rfl⟩
theorem comp_box {t : TypeId} {x : SX} (hc : compOp P o = some (.box t x)) : ∃ y, o.op = .box t y ∧ x = .of y := by
  unfold compOp at hc
  (repeat' split at hc) <;> simp_all [Option.bind_eq_some_iff, Option.map_eq_some_iff]
theorem comp_mkmap {k e : TypeId} (hc : compOp P o = some (.mkmap k e)) : ∃ t, o.op = .makeMap t none := by
  unfold compOp at hc
  (repeat' split at hc) <;> simp_all [Option.bind_eq_some_iff, Option.map_eq_some_iff]
theorem comp_bslice {own : Bool} {e : TypeId} {sz len : Nat} {xs : List SX} (hc : compOp P o = some (.bslice own e sz len xs)) : ∃ t parts z, o.op = .buildSlice t len parts ∧ elemT P t = some e ∧ sizeT P e = some sz ∧ zeroT P e = some z ∧ inOrder parts.toList = true ∧ z.cells.size = sz ∧ xs = parts.toList.map fun q => SX.of q.2 := by
  unfold compOp at hc
  (repeat' split at hc) <;> simp_all [Option.bind_eq_some_iff, Option.map_eq_some_iff]
  obtain ⟨e', h1, s', h2, z, h3, ⟨h4, h5⟩, _, rfl, rfl, rfl, rfl⟩ := hc
  exact ⟨_, _, ⟨rfl, rfl, rfl⟩, h1, h2, z, h3, h4, h5, rfl⟩
theorem comp_mslice {e : TypeId} {sz b : Nat} {z : Value} {l m : SX} (hc : compOp P o = some (.mslice e sz b z l m)) : ∃ t x y, o.op = .makeSlice t x y ∧ elemT P t = some e ∧ sizeT P e = some sz ∧ bytesT P e = some b ∧ zeroT P e = some z ∧ l = .of x ∧ m = .of y := by
  unfold compOp at hc
  (repeat' split at hc) <;> simp_all [Option.bind_eq_some_iff, Option.map_eq_some_iff]
  obtain ⟨e', h1, s', h2, b', h3, z', h4, rfl, rfl, rfl, rfl, rfl, rfl⟩ := hc
  exact ⟨_, _, _, ⟨rfl, rfl, rfl⟩, h1, h2, h3, h4, rfl, rfl⟩
theorem comp_append {e : TypeId} {sz b : Nat} {l m : SX} (hc : compOp P o = some (.append e sz b l m)) : ∃ cl x y t z, o.op = .call cl ∧ cl.callee = .builtin .append ∧ cl.args = #[x, y] ∧ cl.argTypes = #[t, t] ∧ elemT P t = some e ∧ sizeT P e = some sz ∧ bytesT P e = some b ∧ zeroT P e = some z ∧ z.cells.size = sz ∧ 0 < sz ∧ 0 < b ∧ l = .of x ∧ m = .of y := by
  unfold compOp at hc
  (repeat' split at hc) <;> simp_all [Option.bind_eq_some_iff, Option.map_eq_some_iff]
  rename_i cl _ h6 _ _ x y t u h7 h8 h9
  obtain ⟨e', h1, s', h2, b', h3, z', h4, h5, rfl, rfl, rfl, rfl, rfl⟩ := hc
  exact ⟨x, y, array_two h7, u, array_two h8, h1, h2, h3, z', h4, h5.1, h5.2.1, h5.2.2, rfl, rfl⟩
theorem sound_at (hI : Inv c θ D st a w) (hd : ∀ k, o.dst = some k → k < c.n) {k : Nat} {q : SOp} {K KP : St → Prop} (hc : compOp P o = some q.canon) (h : sexec P o.dst (.atq k q) st K KP) : Leaves P o c K KP a w := by
  cases q with
  | alloc t zl =>
    obtain ⟨z, ho, hz, rfl⟩ := comp_alloc hc
    exact mk_alloc hI hd (pl := some k) ho hz h
  | box t x =>
    obtain ⟨y, ho, rfl⟩ := comp_box hc
    exact mk_box hI hd (pl := some k) ho h
  | mkmap t e =>
    obtain ⟨t, ho⟩ := comp_mkmap hc
    exact mk_mkmap hI hd (pl := some k) ho h
  | bslice own e sz len xs =>
    cases own with
    | false => exact h.elim
    | true =>
      obtain ⟨t, parts, z, ho, he, hs, hz, hord, hzs, rfl⟩ := comp_bslice hc
      exact mk_bslice hI hd ho he hs hz hord hzs (pl := some k) h
  | mslice e sz b z l m =>
    obtain ⟨t, x, y, ho, he, hs, hb, hz, rfl, rfl⟩ := comp_mslice hc
    exact mk_mslice hI hd ho he hs hb hz (pl := some k) h
  | append e sz b l m =>
    obtain ⟨cl, x, y, t, z, ho, hcl, hargs, htys, he, hs, hb, hz, hzs, h0, hb0, rfl, rfl⟩ := comp_append hc
    exact mk_append hI hd ho hcl hargs htys he hs hb hz hzs h0 hb0 (pl := some k) h
  | _ => exact h.elim
theorem compOp_sound (hI : Inv c θ D st a w) (hd : ∀ k, o.dst = some k → k < c.n) {s : SOp} {K KP : St → Prop} (hc : compOp P o = some s.canon) (hok : sOk P o = true) (h : sexec P o.dst s st K KP) : Leaves P o c K KP a w := by
  by_cases hat : ∀ k q, s ≠ .atq k q
  · exact compOp_sound' hI hd hat hc hok h
  · have : ∃ k q, s = .atq k q := Classical.byContradiction fun hn => hat fun k q e => hn ⟨k, q, e⟩
    obtain ⟨k, q, rfl⟩ := this
    exact sound_at hI hd (k := k) (q := q) hc h
def compOper (P : Program) (n : Nat) (ops : Array Oper) (o : Oper) (s : SOper) : Prop :=
  (compOp P o = some s.op.canon ∧ sOk P o = true) ∧ s.dst = o.dst ∧ (∀ k, o.dst = some k → k < n) ∧
    match o.guard with
    | none => s.gd = none
    | some (j, want) => ∃ t, (ops[j]?).bind (·.dst) = some t ∧ s.gd = some (t, want)
theorem yielded_eq {ops : Array Oper} {j t : Nat} (ht : (ops[j]?).bind (·.dst) = some t) (tmps : Array Value) : yielded ops tmps j = yv (tmps.getD t undef) := by
  unfold yielded
  rw [ht]
  simp only [Option.bind_some]
  rcases Nat.lt_or_ge t tmps.size with h | h
  · simp only [Array.getElem?_eq_getElem h, Array.getD, h, dif_pos]
    show _ = yv tmps[t]
    cases tmps[t] <;> rfl
  · simp only [Array.getElem?_eq_none h, Array.getD, Nat.not_lt.2 h, dif_neg, not_false_eq_true]
    rfl
theorem step_sound {n : Nat} {ops : Array Oper} {s : SOper} {K KP : St → Prop} (hI : Inv c θ D st a w) (hn : c.n = n) (hc : compOper P n ops o s) (h : sstep P s st K KP) (next : Act → World → Prop) (Q : Exit → Act → World → Prop)
    (hnext : ∀ a' w', (∃ st', K st' ∧ Rel c st' a' w') → next a' w') (hp : ∀ ch w', (Raised ch ∧ ∃ st', KP st' ∧ Rel c st' a w') → Q (.panic ch) a w') : if Region.wanted o (yielded ops a.tmps) then o.wp P a w next Q else next (a.put o.dst undef) w := by
  obtain ⟨h1, h2, h3, h4⟩ := hc
  have hd : ∀ k, o.dst = some k → k < c.n := by rw [hn]; exact h3
  unfold sstep at h
  unfold Region.wanted
  cases hg : o.guard with
  | none =>
    rw [hg] at h4
    simp only at h4
    rw [h4] at h
    simp only [if_true]
    rw [h2] at h
    exact compOp_sound hI hd h1.1 h1.2 h next Q hnext hp
  | some jw =>
    obtain ⟨j, want⟩ := jw
    rw [hg] at h4
    obtain ⟨t, ht, hgd⟩ := h4
    rw [hgd] at h
    obtain ⟨g, hlk, v, rfl, hyes, hno⟩ := h
    have hv := relA_v (hI.fr t _ hlk)
    simp only [yielded_eq ht, hv]
    by_cases hy : yv v = some want
    · rw [if_pos (by simpa using hy)]
      have := hyes hy
      rw [h2] at this
      exact compOp_sound hI hd h1.1 h1.2 this next Q hnext hp
    · rw [if_neg (by simpa using hy)]
      have := hno hy
      rw [h2] at this
      exact hnext _ _ ⟨_, this, θ, D, hI.put hd (RelP.sc _)⟩
end
end Go.Av
namespace Go.Av
open Go Go.RowKit
section
variable {P : Program} {c : Ctx} {st : St} {a : Act} {w : World}
def compOps (P : Program) (n : Nat) (ops : Array Oper) : List Oper → List SOper → Prop
  | [], [] => True
  | o :: l, s :: m => compOper P n ops o s ∧ compOps P n ops l m
  | _, _ => False
theorem compOps_get {n : Nat} {ops : Array Oper} : ∀ {l : List Oper} {m : List SOper}, compOps P n ops l m → l.length = m.length ∧ ∀ (i : Nat) (o : Oper) (s : SOper), l[i]? = some o → m[i]? = some s → compOper P n ops o s
  | [], [], _ => ⟨rfl, fun i o s h => by simp at h⟩
  | o :: l, s :: m, h => by
    obtain ⟨h1, h2⟩ := h
    obtain ⟨h3, h4⟩ := compOps_get h2
    refine ⟨by simp [h3], fun i o' s' ho hs => ?_⟩
    cases i with
    | zero => simp at ho hs; subst ho; subst hs; exact h1
    | succ i => exact h4 i o' s' (by simpa using ho) (by simpa using hs)
theorem sops_sound {n m : Nat} {ops : Array Oper} (hn : c.n = n) (hm : c.th.length ≤ m) {K KP : St → Prop} {Q : Exit → Act → World → Prop} (hQ : ∀ a w, (∃ st', K st' ∧ Rel c st' a w) → Q .normal a w) (hP : ∀ ch a w, (Raised ch ∧ ∃ st', KP st' ∧ Rel c st' a w) → Q (.panic ch) a w) :
    ∀ (suf : List Oper) (ss : List SOper) (k : Nat), (∀ i, suf[i]? = ops[k + i]?) → compOps P n ops suf ss → ∀ (st : St) (a : Act) (w : World), sops P m ss st K KP → Rel c st a w → wpOps P ops Q (List.range' k suf.length) a w := by
  intro suf
  induction suf with
  | nil =>
    intro ss k _ hc st a w h hr
    cases ss with
    | cons s ss => exact hc.elim
    | nil =>
      simp only [sops] at h
      obtain ⟨st', hw, hk⟩ := h
      exact hQ a w ⟨st', hk, hw _ _ _ hm hr⟩
  | cons o suf ih =>
    intro ss k hk hc st a w h hr
    cases ss with
    | nil => exact hc.elim
    | cons s ss =>
      obtain ⟨h1, h2⟩ := hc
      simp only [sops] at h
      obtain ⟨st1, hw, h⟩ := h
      obtain ⟨θ, D, hI⟩ := hw _ _ _ hm hr
      have ho : ops[k]? = some o := by simpa using (hk 0).symm
      have := step_sound hI hn h1 h (fun a' w' => wpOps P ops Q (List.range' (k + 1) suf.length) a' w') Q (fun a' w' ⟨st', hst, hrel⟩ =>
        ih ss (k + 1) (fun i => by have := hk (i + 1); simp only [List.getElem?_cons_succ] at this; rw [this]; congr 1; omega) h2 st' a' w' hst hrel) (fun ch w' hp => hP ch a w' hp)
      simp only [List.length_cons, List.range'_succ, wpOps, ho]
      split
      · rename_i hw
        rw [if_pos hw] at this
        exact .inl this
      · rename_i hw
        rw [if_neg hw] at this
        exact this
theorem region_sound {id n m : Nat} {ops : Array Oper} {ss : List SOper} (hn : c.n = n) (hm : c.th.length ≤ m) (hc : compOps P n ops ops.toList ss) {K KP : St → Prop} {Q : Exit → Act → World → Prop} (h : sops P m ss st K KP) (hr : Rel c st a w)
    (hQ : ∀ a w, (∃ st', K st' ∧ Rel c st' a w) → Q .normal a w) (hP : ∀ ch a w, (Raised ch ∧ ∃ st', KP st' ∧ Rel c st' a w) → Q (.panic ch) a w) : (Code.region id ops false).wp P Q a w := by
  refine wp_region ?_
  have := sops_sound hn hm hQ hP ops.toList ss 0 (fun i => by simp) hc st a w h hr
  rw [List.range_eq_range']
  simpa using this
def SX.rd : SX → List Nat
  | .tm k => [k]
  | _ => []
def SOp.rd : SOp → List Nat
  | .mv x | .un _ x | .len _ x | .lenM _ _ x | .fldA _ _ _ x | .fld _ _ _ x | .load _ _ x | .box _ x | .boxD _ x | .cvtI _ x | .ext x _ | .nilc x | .b2s x | .panic x | .iface _ x => x.rd
  | .pick c a b => c.rd ++ a.rd ++ b.rd
  | .bin _ x y | .eqB _ x y | .eqT _ _ x y | .idxS x y | .idxV _ _ _ x y | .idxA _ x y | .idxP _ _ _ x y | .store _ x y | .mslice _ _ _ _ x y | .append _ _ _ x y | .appD _ _ _ x y | .msliceT _ _ _ _ _ x y | .appT _ _ _ _ x y | .lookup _ _ _ _ x y | .copy _ _ x y => x.rd ++ y.rd
  | .mapset _ _ x y z => x.rd ++ y.rd ++ z.rd
  | .alloc _ _ | .mkmap _ _ => []
  | .build _ ps => ps.flatMap fun q => q.2.2.rd
  | .bslice _ _ _ _ ps => ps.flatMap SX.rd
  | .bsliceN _ _ _ ps => ps.flatMap SX.rd
  | .slc _ x lo hi mx => x.rd ++ (lo.map SX.rd).getD [] ++ (hi.map SX.rd).getD [] ++ (mx.map SX.rd).getD []
  | .slcS x lo hi => x.rd ++ (lo.map SX.rd).getD [] ++ (hi.map SX.rd).getD []
  | .call _ _ xs | .callA _ _ _ xs | .mkfn _ xs => xs.flatMap SX.rd
  | .callv _ _ x xs | .mnmx _ _ x xs | .callp _ x xs => x.rd ++ xs.flatMap SX.rd
  | .atq _ op => op.rd
def SOper.rd (o : SOper) : List Nat := o.op.rd ++ (o.gd.map fun g => [g.1]).getD []
theorem get_congr {st st' : St} {x : SX} (h : ∀ t ∈ x.rd, look st'.fr t = look st.fr t) : st'.get x = st.get x := by
  cases x <;> simp only [St.get]
  exact h _ (by simp [SX.rd])
theorem mapM_congr' {α β : Type} {f g : α → Option β} : ∀ {l : List α}, (∀ x ∈ l, f x = g x) → l.mapM f = l.mapM g
  | [], _ => rfl
  | x :: l, h => by
    rw [List.mapM_cons, List.mapM_cons, h x (by simp), mapM_congr' (l := l) fun y hy => h y (by simp [hy])]
theorem bnd_congr {st st' : St} {x : Option SX} (h : ∀ t ∈ (x.map SX.rd).getD [], look st'.fr t = look st.fr t) (d : Nat) (K : Nat → Prop) : bnd st' x d K = bnd st x d K := by
  cases x with
  | none => rfl
  | some x => simp only [bnd, get_congr (x := x) (by simpa using h)]
theorem sev_congr {st st' : St} {s : SOp} (hh : st'.hp = st.hp) (h : ∀ t ∈ s.rd, look st'.fr t = look st.fr t) (K : AV → Prop) : sev P st' s K = sev P st s K := by
  cases s <;> simp only [SOp.rd, List.mem_append] at h <;> simp only [sev, hh]
  case mv x => rw [get_congr h]
  case pick x y z => rw [get_congr (x := x) fun t ht => h t (.inl (.inl ht)), get_congr (x := y) fun t ht => h t (.inl (.inr ht)), get_congr (x := z) fun t ht => h t (.inr ht)]
  case un op x => rw [get_congr h]
  case len b x => rw [get_congr h]
  case fldA x => rw [get_congr h]
  case fld x => rw [get_congr h]
  case load x => rw [get_congr h]
  case cvtI x => rw [get_congr h]
  case ext x i => rw [get_congr h]
  case nilc x => rw [get_congr h]
  case b2s x => rw [get_congr h]
  case lenM k e x => rw [get_congr h]
  case boxD k x => rw [get_congr h]
  case iface k x => rw [get_congr h]
  case appD e sz bt x y => rw [get_congr (x := x) fun t ht => h t (.inl ht), get_congr (x := y) fun t ht => h t (.inr ht)]
  case eqT op t x y => rw [get_congr (x := x) fun t ht => h t (.inl ht), get_congr (x := y) fun t ht => h t (.inr ht)]
  case lookup k e ok z x y => rw [get_congr (x := x) fun t ht => h t (.inl ht), get_congr (x := y) fun t ht => h t (.inr ht)]
  case mkfn f xs => rw [mapM_congr' (l := xs) fun q hq => get_congr (x := q) fun t ht => h t (List.mem_flatMap.2 ⟨q, hq, ht⟩)]
  case mnmx mx k x xs => rw [get_congr (x := x) fun t ht => h t (.inl ht), mapM_congr' (l := xs) fun q hq => get_congr (x := q) fun t ht => h t (.inr (List.mem_flatMap.2 ⟨q, hq, ht⟩))]
  case bin op x y => rw [get_congr (x := x) fun t ht => h t (.inl ht), get_congr (x := y) fun t ht => h t (.inr ht)]
  case eqB op x y => rw [get_congr (x := x) fun t ht => h t (.inl ht), get_congr (x := y) fun t ht => h t (.inr ht)]
  case idxS x y => rw [get_congr (x := x) fun t ht => h t (.inl ht), get_congr (x := y) fun t ht => h t (.inr ht)]
  case idxV x y => rw [get_congr (x := x) fun t ht => h t (.inl ht), get_congr (x := y) fun t ht => h t (.inr ht)]
  case idxA x y => rw [get_congr (x := x) fun t ht => h t (.inl ht), get_congr (x := y) fun t ht => h t (.inr ht)]
  case idxP x y => rw [get_congr (x := x) fun t ht => h t (.inl ht), get_congr (x := y) fun t ht => h t (.inr ht)]
  case build z ps => rw [mapM_congr' (l := ps) fun q hq => by rw [get_congr (x := q.2.2) fun t ht => h t (List.mem_flatMap.2 ⟨q, hq, ht⟩)]]
  case bslice b e sz l ps =>
    cases b
    · simp only
      rw [mapM_congr' (l := ps) fun q hq => by rw [get_congr (x := q) fun t ht => h t (List.mem_flatMap.2 ⟨q, hq, ht⟩)]]
    · rfl
  case bsliceN e sz l ps => rw [mapM_congr' (l := ps) fun q hq => by rw [get_congr (x := q) fun t ht => h t (List.mem_flatMap.2 ⟨q, hq, ht⟩)]]
  case call b f xs => rw [mapM_congr' (l := xs) fun q hq => by rw [get_congr (x := q) fun t ht => h t (List.mem_flatMap.2 ⟨q, hq, ht⟩)]]
  case callp b x xs => rw [get_congr (x := x) fun t ht => h t (.inl ht), mapM_congr' (l := xs) fun q hq => by rw [get_congr (x := q) fun t ht => h t (.inr (List.mem_flatMap.2 ⟨q, hq, ht⟩))]]
  case slc sz x lo hi mx =>
    simp only [get_congr (x := x) fun t ht => h t (.inl (.inl (.inl ht))), bnd_congr (x := lo) fun t ht => h t (.inl (.inl (.inr ht))), bnd_congr (x := hi) fun t ht => h t (.inl (.inr ht)), bnd_congr (x := mx) fun t ht => h t (.inr ht)]
  case slcS x lo hi =>
    simp only [get_congr (x := x) fun t ht => h t (.inl (.inl ht)), bnd_congr (x := lo) fun t ht => h t (.inl (.inr ht)), bnd_congr (x := hi) fun t ht => h t (.inr ht)]
def syield (P : Program) (o : SOper) (st : St) (x : AV) : Prop :=
  match o.gd with
  | none => sev P st o.op fun y => y = x
  | some (t, want) => bindA (look st.fr t) fun g => isV g fun v => (yv v = some want → sev P st o.op fun y => y = x) ∧ (yv v ≠ some want → x = .v undef)
theorem syield_congr {o : SOper} {st st' : St} {x : AV} (hh : st'.hp = st.hp) (h : ∀ t ∈ o.rd, look st'.fr t = look st.fr t) (hy : syield P o st x) : syield P o st' x := by
  simp only [SOper.rd, List.mem_append] at h
  have h1 := sev_congr (P := P) (s := o.op) hh fun t ht => h t (.inl ht)
  unfold syield at hy ⊢
  split at hy
  · rename_i hg
    rw [h1]
    exact hy
  · rename_i t want hg
    rw [hg] at h
    rw [h t (.inr (by simp)), h1]
    exact hy
theorem bindA_mono {α : Type} {o : Option α} {K K' : α → Prop} (h : bindA o K) (hk : ∀ x, K x → K' x) : bindA o K' := let ⟨a, h1, h2⟩ := h; ⟨a, h1, hk a h2⟩
theorem isV_mono {a : AV} {K K' : Value → Prop} (h : isV a K) (hk : ∀ x, K x → K' x) : isV a K' := let ⟨v, h1, h2⟩ := h; ⟨v, h1, hk v h2⟩
theorem isInt_mono {v : Value} {K K' : IntKind → Int → Prop} (h : isInt v K) (hk : ∀ k n, K k n → K' k n) : isInt v K' := let ⟨k, n, h1, h2⟩ := h; ⟨k, n, h1, hk k n h2⟩
theorem isBool_mono {v : Value} {K K' : Bool → Prop} (h : isBool v K) (hk : ∀ x, K x → K' x) : isBool v K' := let ⟨b, h1, h2⟩ := h; ⟨b, h1, hk b h2⟩
theorem isStr_mono {v : Value} {K K' : ByteArray → Prop} (h : isStr v K) (hk : ∀ x, K x → K' x) : isStr v K' := let ⟨b, h1, h2⟩ := h; ⟨b, h1, hk b h2⟩
theorem isLen_mono {hp : List AObj} {a : AV} {K K' : Nat → Prop} (h : isLen hp a K) (hk : ∀ x, K x → K' x) : isLen hp a K' := by
  rcases h with ⟨h, h1⟩ | ⟨sz, L, h, h1⟩ | ⟨id, e, sz, L, h, h2, h1⟩ | ⟨sz, L, h, h1⟩ | ⟨id, e, sz, k, L, ho, h, h2, h1⟩
  · exact .inl ⟨h, hk _ h1⟩
  · exact .inr (.inl ⟨sz, L, h, hk _ h1⟩)
  · exact .inr (.inr (.inl ⟨id, e, sz, L, h, h2, hk _ h1⟩))
  · exact .inr (.inr (.inr (.inl ⟨sz, L, h, hk _ h1⟩)))
  · exact .inr (.inr (.inr (.inr ⟨id, e, sz, k, L, ho, h, h2, hk _ h1⟩)))
theorem isMap_mono {hp : List AObj} {k e : TypeId} {a : AV} {K K' : Nat → List (PV × PV) → Prop} (h : isMap hp k e a K) (hk : ∀ i x, K i x → K' i x) : isMap hp k e a K' := let ⟨id, kvs, h1, h2, h3⟩ := h; ⟨id, kvs, h1, h2, hk _ _ h3⟩
theorem bnd_mono {st : St} {x : Option SX} {d : Nat} {K K' : Nat → Prop} (h : bnd st x d K) (hk : ∀ n, K n → K' n) : bnd st x d K' := by
  cases x with
  | none => exact hk _ h
  | some x => exact bindA_mono h fun _ h => isV_mono h fun _ h => isInt_mono h fun _ _ h => ⟨h.1, hk _ h.2⟩
theorem binV_mono {op : BinOp} {x y : Value} {K K' : Value → Prop} (h : binV op x y K) (hk : ∀ v, K v → K' v) : binV op x y K' := by
  unfold binV at h ⊢
  split at h
  · cases op <;> simp only at h ⊢ <;> first | exact ⟨h.1, hk _ h.2⟩ | exact ⟨h.1, h.2.1, hk _ h.2.2⟩
  · cases op <;> simp only at h ⊢ <;> first | exact hk _ h | exact ⟨h.1, hk _ h.2⟩ | exact h
  · exact h
theorem unV_mono {op : UnOp} {x : Value} {K K' : Value → Prop} (h : unV op x K) (hk : ∀ v, K v → K' v) : unV op x K' := by
  unfold unV at h ⊢
  split at h
  · exact hk _ h
  · exact hk _ h
  · exact h
theorem loadA_mono {hp : List AObj} {sz : Nat} {ag : Bool} {a : AV} {K K' : AV → Prop} (h : loadA hp sz ag a K) (hk : ∀ v, K v → K' v) : loadA hp sz ag a K' := by
  unfold loadA at h ⊢
  split at h
  · exact ⟨h.1, h.2.1, hk _ h.2.2⟩
  · exact bindA_mono h fun _ ⟨t, cs, h1, h2, h3, h4⟩ => ⟨t, cs, h1, h2, h3, h4.imp (hk _) fun h => bindA_mono h fun _ h => hk _ h⟩
  · refine bindA_mono h fun _ h => h.imp (fun ⟨e, s, xs, h1, h2, h3, h4, h5⟩ => ⟨e, s, xs, h1, h2, h3, h4, ?_⟩) fun ⟨e, s, k, xs, ho, h1, h2, h3, h4, h5⟩ => ⟨e, s, k, xs, ho, h1, h2, h3, h4, h5.imp (fun h => ⟨h.1, hk _ h.2⟩) fun ⟨bv, h6, h7, h8, h9⟩ => ⟨bv, h6, h7, h8, hk _ h9⟩⟩
    rcases h5 with ⟨h6, h7, h8, h9⟩ | ⟨h6, h7⟩
    · exact .inl ⟨h6, h7, h8, hk _ h9⟩
    · exact .inr ⟨h6, hk _ h7⟩
  · exact h
theorem isList_mono {hp : List AObj} {sz : Nat} {a : AV} {K K' : List PV → Prop} (h : isList hp sz a K) (hk : ∀ x, K x → K' x) : isList hp sz a K' := by
  rcases h with ⟨h, h1⟩ | ⟨L, h, h1⟩ | ⟨id, e, L, h, h2, h1⟩ | ⟨L, h, h1⟩
  · exact .inl ⟨h, hk _ h1⟩
  · exact .inr (.inl ⟨L, h, hk _ h1⟩)
  · exact .inr (.inr (.inl ⟨id, e, L, h, h2, hk _ h1⟩))
  · exact .inr (.inr (.inr ⟨L, h, hk _ h1⟩))
theorem sev_mono {st : St} {s : SOp} {K K' : AV → Prop} (h : sev P st s K) (hk : ∀ x, K x → K' x) : sev P st s K' := by
  cases s <;> simp only [sev] at h ⊢
  case mv => exact bindA_mono h hk
  case pick => exact bindA_mono h fun _ h => isV_mono h fun _ h => isBool_mono h fun _ h => ⟨fun e => bindA_mono (h.1 e) hk, fun e => bindA_mono (h.2 e) hk⟩
  case bin => exact bindA_mono h fun _ h => bindA_mono h fun _ h => isV_mono h fun _ h => isV_mono h fun _ h => binV_mono h fun _ h => hk _ h
  case eqB => exact bindA_mono h fun _ h => bindA_mono h fun _ h => isV_mono h fun _ h => isV_mono h fun _ h => isBool_mono h fun _ h => isBool_mono h fun _ h => hk _ h
  case un => exact bindA_mono h fun _ h => isV_mono h fun _ h => unV_mono h fun _ h => hk _ h
  case len str x =>
    refine bindA_mono h fun _ h => ?_
    cases str
    · exact isLen_mono h fun _ h => hk _ h
    · exact isV_mono h fun _ h => isStr_mono h fun _ h => hk _ h
  case idxS => exact bindA_mono h fun _ h => bindA_mono h fun _ h => isV_mono h fun _ h => isV_mono h fun _ h => isInt_mono h fun _ _ h => isStr_mono h fun _ h => ⟨h.1, h.2.1, hk _ h.2.2⟩
  case idxV => exact bindA_mono h fun _ h => bindA_mono h fun _ h => isV_mono h fun _ h => isInt_mono h fun _ _ h => bindA_mono h fun _ ⟨h1, h2, h3, h4, h5, h6⟩ => ⟨h1, h2, h3, h4, h5, hk _ h6⟩
  case idxA =>
    refine bindA_mono h fun _ h => bindA_mono h fun _ h => isV_mono h fun _ h => isInt_mono h fun _ _ h => ?_
    rcases h with ⟨L, h1, h2, h3, h4⟩ | ⟨id, h1, h2⟩
    · exact .inl ⟨L, h1, h2, h3, hk _ h4⟩
    · exact .inr ⟨id, h1, bindA_mono h2 fun _ h => h.imp (fun ⟨e, L, h3, h4, h5, h6⟩ => ⟨e, L, h3, h4, h5, hk _ h6⟩) fun ⟨e, k, L, ho, h3, h4, h5, h6⟩ => ⟨e, k, L, ho, h3, h4, h5, hk _ h6⟩⟩
  case idxP =>
    refine bindA_mono h fun _ h => bindA_mono h fun _ h => isV_mono h fun _ h => isInt_mono h fun _ _ ⟨h1, h2, h⟩ => ⟨h1, h2, ?_⟩
    rcases h with ⟨id, off, h3, h4⟩ | ⟨p, h3, h4, h5, h6, h7⟩
    · exact .inl ⟨id, off, h3, hk _ h4⟩
    · exact .inr ⟨p, h3, h4, h5, h6, hk _ h7⟩
  case lenM => exact bindA_mono h fun _ h => isMap_mono h fun _ _ h => hk _ h
  case boxD => exact bindA_mono h fun _ h => bindA_mono h fun _ h => ⟨h.1, h.2.1, hk _ h.2.2⟩
  case iface => exact bindA_mono h fun _ h => hk _ h
  case eqT => exact bindA_mono h fun _ h => bindA_mono h fun _ h => bindA_mono h fun _ h => bindA_mono h fun _ h => bindA_mono h fun _ h => hk _ h
  case lookup => exact bindA_mono h fun _ h => bindA_mono h fun _ h => isMap_mono h fun _ _ h => bindA_mono h fun _ ⟨h1, h2, h3, h⟩ => ⟨h1, h2, h3, bindA_mono h fun _ h => hk _ h⟩
  case mkfn =>
    refine bindA_mono h fun _ h => ?_
    rcases h with ⟨ids, h1, h2⟩ | ⟨ps, h1, h2⟩
    · exact .inl ⟨ids, h1, hk _ h2⟩
    · exact .inr ⟨ps, h1, hk _ h2⟩
  case mnmx => exact bindA_mono h fun _ h => isV_mono h fun _ h => isInt_mono h fun _ _ h => bindA_mono h fun _ ⟨ns, h1, h2, h3⟩ => ⟨ns, h1, h2, hk _ h3⟩
  case fldA =>
    refine bindA_mono h fun _ h => ?_
    rcases h with ⟨p, h1, h2, h3, h4, h5⟩ | ⟨id, o, h1, h2⟩ | ⟨id, i, o, h1, h2⟩
    · exact .inl ⟨p, h1, h2, h3, h4, hk _ h5⟩
    · exact .inr (.inl ⟨id, o, h1, hk _ h2⟩)
    · exact .inr (.inr ⟨id, i, o, h1, hk _ h2⟩)
  case fld =>
    refine bindA_mono h fun _ h => ?_
    rcases h with ⟨p, h1, h2, h3, h4, h5⟩ | ⟨cs, h1, h2, h3, h4⟩
    · exact .inl ⟨p, h1, h2, h3, h4, hk _ h5⟩
    · exact .inr ⟨cs, h1, h2, h3, hk _ h4⟩
  case load => exact bindA_mono h fun _ h => loadA_mono h hk
  case cvtI => exact bindA_mono h fun _ h => isV_mono h fun _ h => isInt_mono h fun _ _ h => hk _ h
  case slc =>
    refine bindA_mono h fun _ h => bindA_mono h fun _ ⟨L, h1, h⟩ => ⟨L, h1, bnd_mono h fun _ h => bnd_mono h fun _ h => bnd_mono h fun _ ⟨h2, h3, h4, h5, h6⟩ => ⟨h2, h3, h4, h5, ?_⟩⟩
    rcases h6 with h6 | ⟨h6, h7, h8⟩
    · exact .inl (hk _ h6)
    · exact .inr ⟨h6, h7, hk _ h8⟩
  case slcS => exact bindA_mono h fun _ h => isV_mono h fun _ h => isStr_mono h fun _ h => bnd_mono h fun _ h => bnd_mono h fun _ ⟨h2, h3, h4⟩ => ⟨h2, h3, hk _ h4⟩
  case ext =>
    refine bindA_mono h fun _ h => ?_
    rcases h with ⟨xs, h1, h2⟩ | ⟨xs, h1, h2⟩
    · exact .inl ⟨xs, h1, bindA_mono h2 fun _ h => hk _ h⟩
    · exact .inr ⟨xs, h1, bindA_mono h2 fun _ h => hk _ h⟩
  case b2s => exact bindA_mono h fun _ h => isList_mono h fun _ h => bindA_mono h fun _ h => hk _ h
  case nilc => exact bindA_mono h fun _ h => ⟨h.1, hk _ h.2⟩
  case build => exact bindA_mono h fun _ h => ⟨h.1, hk _ h.2⟩
  case call => exact bindA_mono h fun _ h => ACalls.mono h fun _ ⟨r, os', h1, h2, h3, h4⟩ => ⟨r, os', h1, h2, h3, hk _ h4⟩
  case callp => exact bindA_mono h fun _ ⟨f, cs, h1, h2, h3⟩ => ⟨f, cs, h1, h2, bindA_mono h3 fun _ h => ACalls.mono h fun _ ⟨r, os', h1, h2, h3, h4⟩ => ⟨r, os', h1, h2, h3, hk _ h4⟩⟩
  case bslice own e sz len ps =>
    cases own
    · exact bindA_mono h fun _ ⟨h1, h2, h3, h4, h5⟩ => ⟨h1, h2, h3, h4, h5.imp (hk _) (hk _)⟩
    · exact h
  case bsliceN => exact bindA_mono h fun _ ⟨h1, h2, h3, h4, h5⟩ => ⟨h1, h2, h3, h4, hk _ h5⟩
  case appD => exact bindA_mono h fun _ h => bindA_mono h fun _ h => isList_mono h fun _ ⟨h1, L0, h2, h3, h4⟩ => ⟨h1, L0, h2, h3, hk _ h4⟩
theorem sstep_of_syield {o : SOper} {st : St} {x : AV} {K KP : St → Prop} (h : syield P o st x) (hk : K (st.putO o.dst x)) : sstep P o st K KP := by
  have key : ∀ s, (sev P st s fun y => y = x) → sexec P o.dst s st K KP := by
    intro s hs
    have h1 : sev P st s fun y => K (st.putO o.dst y) := sev_mono hs fun y hy => by rw [hy]; exact hk
    unfold sexec
    split <;> first | exact h1 | exact hs.elim
  unfold syield at h
  unfold sstep
  split at h
  · rename_i hg
    rw [hg]
    exact key _ h
  · rename_i t want hg
    rw [hg]
    refine bindA_mono h fun _ h => isV_mono h fun v h => ⟨fun e => key _ (h.1 e), fun e => by rw [← h.2 e]; exact hk⟩
end
end Go.Av

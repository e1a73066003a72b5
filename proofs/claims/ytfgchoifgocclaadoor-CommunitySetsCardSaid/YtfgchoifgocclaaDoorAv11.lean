/-
  THE ABSTRACT LAYER, 11: calls, allocations, stores: their soundness.
-/
import Derived.Test.YtfgchoifgocclaaDoorAv10
namespace Go.Av
open Go Go.RowKit

section
variable {P : Program} {o : Oper} {c : Ctx} {θ : List Loc} {D : Nat → Prop} {st : St} {a : Act} {w : World}

theorem heap_old (w : World) (o : Obj) (k : Nat) (h : k < w.heap.size) : (w.alloc o).heap[k]? = w.heap[k]? := Below.heap_alloc w o k h
theorem heap_new (w : World) (o : Obj) : (w.alloc o).heap[w.heap.size]? = some o := by
  show (w.heap.push o)[w.heap.size]? = _
  simp

/-- What an operation leaves: a state that is met again. -/
def Leaves (P : Program) (o : Oper) (c : Ctx) (K : St → Prop) (a : Act) (w : World) : Prop :=
  ∀ (next : Act → World → Prop) (Q : Exit → Act → World → Prop), (∀ a' w', (∃ st', K st' ∧ Rel c st' a' w') → next a' w') → o.wp P a w next Q

theorem leaves_of_yields {K : St → Prop} {K' : AV → Prop} (hd : ∀ k, o.dst = some k → k < c.n) (h : Yields P o a w (Res c θ st a K')) (hk : ∀ x, K' x → K (st.putO o.dst x)) : Leaves P o c K a w :=
  fun _ _ hn => h.wp fun _ _ ⟨x, D', hx, hI, hv⟩ => hn _ _ ⟨_, hk x hx, θ, D', hI.put hd hv⟩

theorem argPV_false {hp : List AObj} {x : AV} {p : PV} (h : argPV hp false x = some p) : x.toPV = some p := by
  unfold argPV at h
  split at h
  · simp at h
  · exact h

theorem rel_arg (hI : Inv c θ D st a w) {bor : Bool} {v : Value} {x : AV} {p : PV} (hv : RelA θ D w v x) (h : argPV st.hp bor x = some p) : RelP (if bor then fun b => b < w.heap.size else D) w v p := by
  cases bor
  · exact relA_toPV hv (argPV_false h)
  · unfold argPV at h
    split at h
    · rename_i id
      simp only [if_true] at h
      split at h
      · rename_i e sz xs ho
        cases h
        obtain ⟨L, b, cap, rfl, rfl, h1, h2, h3⟩ := relA_list (K := fun L => L = xs) hI.ok hv (.inr (.inr ⟨id, e, xs, rfl, ho, rfl⟩))
        refine relP_lst_mk h1 fun hl => ?_
        obtain ⟨g, o', h4, h5, h6, h7⟩ := h3 hl
        exact ⟨g, o', h4, h5, h6, fun i j x y hx hy => let ⟨u, e1, e2⟩ := h7 i j x y hx hy; ⟨u, e1, e2.mono (fun b hb => hI.ok.dlt b hb) (fun _ _ => rfl)⟩⟩
      · cases h
    · exact (relA_toPV hv h).mono (fun b hb => hI.ok.dlt b hb) (fun _ _ => rfl)

theorem sound_call (hI : Inv c θ D st a w) (hd : ∀ k, o.dst = some k → k < c.n) {K : St → Prop} {bor : Bool} {f : FuncId} {cl : Call} (ho : o.op = .call cl) (hcl : cl.callee = .value (.func f)) (hf : callable P f = true)
    (h : sev P st (.call bor f (cl.args.toList.map SX.of)) fun x => K (st.putO o.dst x)) : Leaves P o c K a w := by
  intro next Q hn
  obtain ⟨ps, hps, hc⟩ := h
  obtain ⟨m1, m2⟩ := mapM_some hps
  have hrun : (execOp a.eval o).run P w = .ok (.enter f (cl.args.map a.eval)) w := by
    have hcf : ∀ (args : Array Value), (callFunc f args).run P w = .ok (.enter f args) w := by
      intro args
      unfold callable at hf
      cases hfn : P.funcs[f]? with
      | none => rw [hfn] at hf; cases hf
      | some fn =>
        rw [hfn] at hf
        simp only [Bool.and_eq_true, bne_iff_ne, ne_eq] at hf
        obtain ⟨h1, h2⟩ := hf
        cases hb : fn.body with
        | none => rw [hb] at h1; cases h1
        | some b => simp [callFunc, hfn, h2, hb]
    simp [execOp, ho, resolve, hcl, Act.eval, Deferred.ofValue, invoke, hcf]
  unfold Oper.wp
  rw [hrun]
  simp only [Oper.upon]
  have hargs : (cl.args.map a.eval) = (cl.args.toList.map a.eval).toArray := by
    apply Array.ext'
    simp
  rw [hargs]
  have hrel : ∀ (i : Nat) (v : Value) (p : PV), (cl.args.toList.map a.eval)[i]? = some v → ps[i]? = some p → RelP (if bor then fun b => b < w.heap.size else D) w v p := by
    intro i v p hv hp
    rw [List.getElem?_map] at hv
    cases hx : cl.args.toList[i]? with
    | none => rw [hx] at hv; cases hv
    | some x =>
      rw [hx] at hv; cases hv
      have := m2 i (SX.of x) p (by rw [List.getElem?_map, hx]; rfl) hp
      simp only [Option.bind_eq_some_iff] at this
      obtain ⟨av, h1, h2⟩ := this
      exact rel_arg hI (hI.get h1) h2
  refine (hc w (if bor then fun b => b < w.heap.size else D) (cl.args.toList.map a.eval) (c.gk w hI.keep) (fun b hb => ?_) (by simpa using m1) hrel).mono fun e w' ⟨v, p, he, hr, hb, hp⟩ => ?_
  · cases bor
    · exact hI.ok.dlt b hb
    · exact hb
  · subst he
    obtain ⟨hflat, hk⟩ := hr
    have hI' := hI.below (D' := fun b => D b ∨ (w.heap.size ≤ b ∧ b < w'.heap.size)) hb hI.w0le (fun b hb => .inl hb) (fun b hb => hb)
    refine hn _ _ ⟨_, hk, θ, _, hI'.put hd ?_⟩
    show RelP _ w' v p
    cases bor
    · exact hp
    · exact hp.flat (hflat rfl)

theorem run_call {f : FuncId} {cl : Call} (ho : o.op = .call cl) (hcl : cl.callee = .value (.func f)) (hf : callable P f = true) : (execOp a.eval o).run P w = .ok (.enter f (cl.args.toList.map a.eval).toArray) w := by
  have hcf : ∀ (args : Array Value), (callFunc f args).run P w = .ok (.enter f args) w := by
    intro args
    unfold callable at hf
    cases hfn : P.funcs[f]? with
    | none => rw [hfn] at hf; cases hf
    | some fn =>
      rw [hfn] at hf
      simp only [Bool.and_eq_true, bne_iff_ne, ne_eq] at hf
      obtain ⟨h1, h2⟩ := hf
      cases hb : fn.body with
      | none => rw [hb] at h1; cases h1
      | some b => simp [callFunc, hfn, h2, hb]
  have hargs : (cl.args.map a.eval) = (cl.args.toList.map a.eval).toArray := by
    apply Array.ext'
    simp
  rw [← hargs]
  simp [execOp, ho, resolve, hcl, Act.eval, Deferred.ofValue, invoke, hcf]

theorem sound_callO (hI : Inv c θ D st a w) (hd : ∀ k, o.dst = some k → k < c.n) {K : St → Prop} {bor : Bool} {e : TypeId} {sz : Nat} {f : FuncId} {cl : Call} (ho : o.op = .call cl) (hcl : cl.callee = .value (.func f)) (hf : callable P f = true)
    (h : sexec P o.dst (.callO bor e sz f (cl.args.toList.map SX.of)) st K) : Leaves P o c K a w := by
  intro next Q hn
  obtain ⟨ps, hps, hc⟩ := h
  obtain ⟨m1, m2⟩ := mapM_some hps
  unfold Oper.wp
  rw [run_call ho hcl hf]
  simp only [Oper.upon]
  refine (hc w (if bor then fun b => b < w.heap.size else D) (cl.args.toList.map a.eval) (c.gk w hI.keep) (fun b hb => by
    cases bor
    · exact hI.ok.dlt b hb
    · exact hb) (by simpa using m1) fun i v p hv hp => ?_).mono fun en w' ⟨v, xs, he, ⟨hflat, hk⟩, hb, hcase⟩ => ?_
  · rw [List.getElem?_map] at hv
    cases hx : cl.args.toList[i]? with
    | none => rw [hx] at hv; cases hv
    | some x =>
      rw [hx] at hv; cases hv
      have := m2 i (SX.of x) p (by rw [List.getElem?_map, hx]; rfl) hp
      simp only [Option.bind_eq_some_iff] at this
      obtain ⟨av, h1, h2⟩ := this
      exact rel_arg hI (hI.get h1) h2
  · subst he
    rcases hcase with ⟨rfl, rfl⟩ | ⟨g, cap, cv, rfl, h1, h2, h3, h4, h5, h6, h7, h8⟩
    · have hI' := hI.below (D' := D) hb hI.w0le (fun b hb => hb) (fun b hb => .inl hb)
      have hp : Inv c (θ ++ [.nil]) D { st with hp := st.hp ++ [.vec e sz []] } a w' := hI'.push rfl (fun g hg => by cases hg)
      exact hn _ _ ⟨_, hk, _, _, hp.put hd ⟨.nil, by rw [← hI.ok.len]; simp, rfl⟩⟩
    · have hI' := hI.below (D' := fun b => D b ∨ (w.heap.size ≤ b ∧ b < w'.heap.size ∧ b ≠ g)) hb hI.w0le (fun b hb => .inl hb) (fun b hb => hb.imp id fun h => ⟨h.1, h.2.1⟩)
      have hp := hI'.push (l := .hdr g xs.length cap sz) (o := .vec e sz xs) ⟨rfl, rfl, h3, h4, h5, cv, h6, h7, fun i j x y hx hy => by
        obtain ⟨u, e1, e2⟩ := h8 i j x y hx hy
        refine ⟨u, e1, ?_⟩
        cases bor
        · exact e2
        · exact e2.flat (hflat rfl x (List.mem_of_getElem? hx) y (List.mem_of_getElem? hy))⟩ (fun g' hg' => by
        cases hg'
        refine ⟨Nat.le_trans hI.w0le h1, h2, fun hd => ?_, fun i li hi he => ?_⟩
        · rcases hd with hd | hd
          · have := hI.ok.dlt g hd; omega
          · exact hd.2.2 rfl
        · have := (hI.ok.olt i li g hi he).1; omega)
      exact hn _ _ ⟨_, hk, _, _, hp.put hd ⟨.hdr g xs.length cap sz, by rw [← hI.ok.len]; simp, rfl⟩⟩

theorem bytesOf_get : ∀ {L : List PV} {l : List Int}, bytesOf L = some l → L.length = l.length ∧ ∀ (i : Nat) (n : Int), l[i]? = some n → L[i]? = some (.sc (.int .u8 n))
  | [], l, h => by simp [bytesOf] at h; subst h; exact ⟨rfl, fun i b hb => by simp at hb⟩
  | p :: L, l, h => by
    unfold bytesOf at h
    split at h
    · rename_i h0; cases h0
    · rename_i n L' h0
      cases h0
      simp only [Option.map_eq_some_iff] at h
      obtain ⟨l', h1, rfl⟩ := h
      obtain ⟨h2, h3⟩ := bytesOf_get h1
      refine ⟨by simp [h2], fun i b hb => ?_⟩
      cases i with
      | zero => simp at hb; subst hb; rfl
      | succ i => exact h3 i b (by simpa using hb)
    · cases h

theorem sound_b2s (hI : Inv c θ D st a w) {K : AV → Prop} {s d e : TypeId} {x : Operand} (ho : o.op = .convert s d x) (hs : P.underlying s = some (.slice e)) (hd : P.underlying d = some .string) (he : P.underlying e = some (.int .u8)) (h : sev P st (.b2s (.of x)) K) : Yields P o a w (Res c θ st a K) := by
  obtain ⟨ax, hx, hl⟩ := h
  obtain ⟨L, ad, cap, ⟨l, hb, hk⟩, hv, hcap, hnil, hcells⟩ := relA_list hI.ok (hI.get hx) hl
  obtain ⟨hlen, hget⟩ := bytesOf_get hb
  refine yields_same hI (v := .string (strOfNums l)) ?_ hk (RelP.sc _)
  have hrun : (convert s d (a.eval x)).run P w = .ok (.string (strOfNums l)) w := by
    rw [hv]
    by_cases hpos : 0 < L.length
    · obtain ⟨g, og, rfl, hg, hsz, hc⟩ := hcells hpos
      refine run_convert_bytes_arg w s e hs he g og L.length cap l hlen.symm (fun i hi => ?_) d hd
      have hil : i < l.length := by omega
      have h1 := hget i _ (List.getElem?_eq_getElem hil)
      obtain ⟨u, e1, e2⟩ := hc i 0 _ _ h1 rfl
      cases e2
      rw [Nat.mul_one, Nat.add_zero] at e1
      rw [e1]
      simp [List.getD, List.getElem?_eq_getElem hil]
    · have h0 : L = [] := List.eq_nil_of_length_eq_zero (by omega)
      subst h0
      simp [bytesOf] at hb
      subst hb
      cases ad with
      | none => exact run_convert_bytes_nil w s e hs he 0 cap d hd
      | some ad =>
        rw [run_convert_bytes_string w s d e _ _ cap hs he hd]
        exact run_bytesToString w ad 0 cap [] rfl
  simp [execOp, ho, hrun]

theorem sound_alloc (hI : Inv c θ D st a w) (hd : ∀ k, o.dst = some k → k < c.n) {K : St → Prop} {t : TypeId} {z : Value} (ho : o.op = .alloc t) (hz : zeroT P t = some z) (h : sexec P o.dst (.alloc t z.cells.toList) st K) : Leaves P o c K a w := by
  intro next Q hn
  have hI' := hI.allocOwn (l := .blk w.heap.size) (o := .box t (z.cells.toList.map fun v => constB v)) (ob := .cells z.cells t) rfl fun θ' hθ =>
    ⟨z.cells, heap_new w _, by simp, relB_zero z.cells⟩
  simp only [zeroT, Option.bind_eq_some_iff] at hz
  obtain ⟨it, hit, hz1⟩ := hz
  have hrun : (execOp a.eval o).run P w = .ok (.value (.pointer (some ⟨w.heap.size, 0, none⟩))) (w.alloc (.cells z.cells t)) := by
    simp [execOp, ho, Instr.alloc, zeroValue, typeInfo, hit, hz1, newVar, newRow]
  unfold Oper.wp
  rw [hrun]
  refine hn _ _ ⟨_, h, _, _, hI'.put hd ?_⟩
  exact ⟨w.heap.size, by rw [← hI.ok.len]; simp, rfl⟩

theorem sound_box (hI : Inv c θ D st a w) (hd : ∀ k, o.dst = some k → k < c.n) {K : St → Prop} {t : TypeId} {x : Operand} (ho : o.op = .box t x) (h : sexec P o.dst (.box t (.of x)) st K) : Leaves P o c K a w := by
  intro next Q hn
  obtain ⟨ax, hx, hok, hk⟩ := h
  have hX := hI.get hx
  obtain ⟨h1, h2⟩ := relA_cells hX hok
  have hI' := hI.allocOwn (l := .blk w.heap.size) (o := .box t ax.cells) (ob := .cells (a.eval x).cells t) rfl fun θ' hθ =>
    ⟨(a.eval x).cells, heap_new w _, h1, fun i u y hu hy => ((h2 i u y hu hy).1.mono (fun _ h => h) (fun b hb => heap_old w _ b (hI.ok.dlt b hb))).ext hθ⟩
  have hrun : (execOp a.eval o).run P w = .ok (.value (.pointer (some ⟨w.heap.size, 0, none⟩))) (w.alloc (.cells (a.eval x).cells t)) := by
    simp [execOp, ho, Instr.box, newVar, newRow]
  unfold Oper.wp
  rw [hrun]
  refine hn _ _ ⟨_, hk, _, _, hI'.put hd ?_⟩
  exact ⟨w.heap.size, by rw [← hI.ok.len]; simp, rfl⟩

/-- A row of values, each of whose cells read as those of its PV. -/
theorem fill_seq {sz : Nat} : ∀ (parts : List (Nat × Value)) (ps : List PV) (s : Nat) (cells : Array Value), parts.length = ps.length →
    (∀ (i : Nat) (x : Nat × Value) (p : PV), parts[i]? = some x → ps[i]? = some p → x.1 = s + i ∧ RelP D w x.2 p ∧ p.ok = true ∧ p.cells.length = sz) → (s + parts.length) * sz ≤ cells.size →
    ∃ out, Instr.fill (fun i => some (i * sz, sz)) cells parts = some out ∧ out.size = cells.size ∧ (∀ k, k < s * sz → out[k]? = cells[k]?) ∧
      ∀ (i j : Nat) (p y : PV), ps[i]? = some p → p.cells[j]? = some y → ∃ u, out[(s + i) * sz + j]? = some u ∧ RelP D w u y
  | [], [], s, cells, _, _, _ => ⟨cells, rfl, rfl, fun _ _ => rfl, fun i j p y hp => by simp at hp⟩
  | (k, v) :: parts, p :: ps, s, cells, hl, hp, hs => by
    obtain ⟨h1, h2, h3, h4⟩ := hp 0 _ _ rfl rfl
    obtain rfl : k = s := h1
    obtain ⟨h6, h7⟩ := relP_cells h2 h3
    have hvs : v.cells.size = sz := by rw [← h4]; exact h6
    have hs' : (k + 1 + parts.length) * sz ≤ cells.size := by simp only [List.length_cons] at hs; rw [show k + 1 + parts.length = k + (parts.length + 1) by omega]; exact hs
    have hks : k * sz + sz ≤ cells.size := by
      have : (k + 1) * sz ≤ (k + 1 + parts.length) * sz := Nat.mul_le_mul_right _ (by omega)
      rw [Nat.add_mul, Nat.one_mul] at this
      omega
    obtain ⟨s1, s2⟩ := set_cells (k * sz) v.cells cells (by omega)
    obtain ⟨out, e1, e2, e3, e4⟩ := fill_seq parts ps (k + 1) (v.cells.zipIdx.foldl (fun cs (c, j) => cs.setIfInBounds (k * sz + j) c) cells) (by simpa using hl)
      (fun i x q hx hq => by have := hp (i + 1) x q (by simpa using hx) (by simpa using hq); exact ⟨by omega, this.2⟩) (by rw [s1]; exact hs')
    refine ⟨out, ?_, by rw [e2, s1], fun j hj => ?_, fun i j q y hq hy => ?_⟩
    · simp only [Instr.fill]
      rw [if_neg (by rw [hvs]; simp; exact hks)]
      exact e1
    · rw [e3 j (by rw [Nat.add_mul, Nat.one_mul]; omega), s2 j, if_neg (by omega)]
    · cases i with
      | zero =>
        simp only [List.getElem?_cons_zero, Option.some.injEq] at hq
        subst hq
        have hj : j < sz := by rw [← h4]; exact (List.getElem?_eq_some_iff.1 hy).1
        have hjv : j < v.cells.size := by omega
        refine ⟨v.cells[j], ?_, (h7 j _ y (Array.getElem?_eq_getElem hjv) hy).1⟩
        rw [Nat.add_zero, e3 _ (by rw [Nat.add_mul, Nat.one_mul]; omega), s2, if_pos ⟨by omega, by omega⟩]
        rw [show k * sz + j - k * sz = j by omega]
        exact Array.getElem?_eq_getElem hjv
      | succ i =>
        have := e4 i j q y (by simpa using hq) hy
        rwa [show k + 1 + i = k + (i + 1) by omega] at this

theorem run_bslice (hI : Inv c θ D st a w) {t e : TypeId} {len sz : Nat} {parts : Array (Nat × Operand)} {z : Value} {ps : List PV} (ho : o.op = .buildSlice t len parts) (he : elemT P t = some e) (hs : sizeT P e = some sz) (hz : zeroT P e = some z)
    (hord : inOrder parts.toList = true) (hzs : z.cells.size = sz) (hps : (parts.toList.map fun q => SX.of q.2).mapM (fun x => (st.get x).bind AV.toPV) = some ps) (hlen : ps.length = len) (h0 : 0 < sz) (hmax : len * sz ≤ 16777216) (hok : ∀ p ∈ ps, p.cells.length = sz ∧ p.ok = true) :
    ∃ out : Array Value, (execOp a.eval o).run P w = .ok (.value (.slice (some ⟨w.heap.size, 0, none⟩) len len)) (w.alloc (.cells out e)) ∧ out.size = len * sz ∧
      ∀ (i j : Nat) (p y : PV), ps[i]? = some p → p.cells[j]? = some y → ∃ u, out[i * sz + j]? = some u ∧ RelP D w u y := by
  obtain ⟨m1, m2⟩ := mapM_some hps
  have hpl : parts.size = ps.length := by simpa using m1
  have hu : P.underlying t = some (.slice e) := by
    unfold elemT at he
    split at he
    · cases he; assumption
    · cases he
  simp only [sizeT, Option.map_eq_some_iff] at hs
  obtain ⟨it, hit, rfl⟩ := hs
  have hz1 : it.zero = some z := by simpa [zeroT, hit] using hz
  have hidx : ∀ (i : Nat) (x : Nat × Operand), parts.toList[i]? = some x → x.1 = i := by
    intro i x hx
    simp only [inOrder, beq_iff_eq] at hord
    have h1 : (parts.toList.map (·.1))[i]? = some x.1 := by rw [List.getElem?_map, hx]; rfl
    rw [hord] at h1
    have hlt : i < parts.toList.length := (List.getElem?_eq_some_iff.1 hx).1
    rw [List.getElem?_range hlt] at h1
    exact (Option.some.inj h1).symm
  obtain ⟨out, e1, e2, e3, e4⟩ := fill_seq (D := D) (w := w) (sz := it.size) (parts.map fun (i, x) => (i, a.eval x)).toList ps 0 ((Array.range (len * it.size)).map (z.cells[· % z.cells.size]!)) (by simp [hpl])
    (fun i x p hx hp => by
      simp only [Array.toList_map, List.getElem?_map] at hx
      cases hpi : parts.toList[i]? with
      | none => rw [hpi] at hx; cases hx
      | some pr =>
        rw [hpi] at hx; cases hx
        have := m2 i (SX.of pr.2) p (by rw [List.getElem?_map, hpi]; rfl) hp
        simp only [Option.bind_eq_some_iff] at this
        obtain ⟨av, h1, h2⟩ := this
        obtain ⟨h3, h4⟩ := hok p (List.mem_of_getElem? hp)
        exact ⟨by simp [hidx i pr hpi], relA_toPV (hI.get h1) h2, h4, h3⟩) (by simp [hpl, hlen])
  refine ⟨out, ?_, by rw [e2]; simp, fun i j p y hp hy => by have := e4 i j p y hp hy; rwa [Nat.zero_add] at this⟩
  have hnm : ¬ (16777216 < len * it.size) := by omega
  by_cases hl0 : len * it.size = 0
  · have : len = 0 := by
      rcases Nat.mul_eq_zero.1 hl0 with h | h
      · exact h
      · omega
    subst this
    have hp0 : parts.toList = [] := List.eq_nil_of_length_eq_zero (by simp [hpl, hlen])
    have hp1 : parts = #[] := by simpa using hp0
    subst hp1
    have : out = #[] := by
      have := e2
      simp only [Array.size_map, Array.size_range, Nat.zero_mul] at this
      exact Array.eq_empty_of_size_eq_zero this
    subst this
    simp [execOp, ho, Instr.buildSlice, run_underlying hu, sizeOf, typeInfo, hit, Instr.fill, newRow, Array.range_zero']
  · simp [execOp, ho, Instr.buildSlice, run_underlying hu, sizeOf, typeInfo, hit, hnm, hl0, zeroValue, hz1, newRow]
    simp at e1
    rw [e1]
    simp

theorem sound_bslice (hI : Inv c θ D st a w) (hd : ∀ k, o.dst = some k → k < c.n) {K : St → Prop} {t e : TypeId} {len sz : Nat} {parts : Array (Nat × Operand)} {z : Value} (ho : o.op = .buildSlice t len parts) (he : elemT P t = some e) (hs : sizeT P e = some sz) (hz : zeroT P e = some z)
    (hord : inOrder parts.toList = true) (hzs : z.cells.size = sz) (h : sev P st (.bslice false e sz len (parts.toList.map fun q => SX.of q.2)) fun x => K (st.putO o.dst x)) : Leaves P o c K a w := by
  intro next Q hn
  obtain ⟨ps, hps, hlen, h0, hmax, hok, hk⟩ := h
  obtain ⟨out, hrun, h1, h2⟩ := run_bslice hI ho he hs hz hord hzs hps hlen h0 hmax hok
  have hI' := hI.below (D' := fun b => D b ∨ (w.heap.size ≤ b ∧ b < (w.alloc (.cells out e)).heap.size)) (below_alloc w (.cells out e)) hI.w0le (fun b hb => .inl hb) (fun b hb => hb)
  unfold Oper.wp
  rw [hrun]
  refine hn _ _ ⟨_, hk, θ, _, hI'.put hd ?_⟩
  show RelP _ _ _ (lst sz ps)
  subst hlen
  refine relP_lst_mk (Nat.le_refl _) fun hl => ⟨w.heap.size, 0, rfl, .inr ⟨Nat.le_refl _, by simp⟩, fun p hp => (hok p hp).1, fun i j x y hx hy => ?_⟩
  obtain ⟨u, e1, e2⟩ := h2 i j x y hx hy
  refine ⟨u, ?_, e2.mono (fun b hb => .inl hb) (fun b hb => heap_old w _ b (hI.ok.dlt b hb))⟩
  rw [Nat.zero_add, cell_of_row _ _ _ out e (0, 0) (heap_new w _)]
  exact e1

theorem sound_bsliceO (hI : Inv c θ D st a w) (hd : ∀ k, o.dst = some k → k < c.n) {K : St → Prop} {t e : TypeId} {len sz : Nat} {parts : Array (Nat × Operand)} {z : Value} (ho : o.op = .buildSlice t len parts) (he : elemT P t = some e) (hs : sizeT P e = some sz) (hz : zeroT P e = some z)
    (hord : inOrder parts.toList = true) (hzs : z.cells.size = sz) (h : sexec P o.dst (.bslice true e sz len (parts.toList.map fun q => SX.of q.2)) st K) : Leaves P o c K a w := by
  intro next Q hn
  obtain ⟨ps, hps, hlen, h0, hmax, hok, hk⟩ := h
  obtain ⟨out, hrun, h1, h2⟩ := run_bslice hI ho he hs hz hord hzs hps hlen h0 hmax hok
  subst hlen
  have hle : ps.length ≤ maxLen := by
    have : ps.length ≤ ps.length * sz := Nat.le_mul_of_pos_right _ h0
    simp only [maxLen]; omega
  have hI' := hI.allocOwn (l := .hdr w.heap.size ps.length ps.length sz) (o := .vec e sz ps) (ob := .cells out e) rfl fun θ' hθ =>
    ⟨rfl, rfl, Nat.le_refl _, hle, fun p hp => (hok p hp).1, out, heap_new w _, h1, fun i j x y hx hy => let ⟨u, e1, e2⟩ := h2 i j x y hx hy; ⟨u, e1, e2.mono (fun _ h => h) (fun b hb => heap_old w _ b (hI.ok.dlt b hb))⟩⟩
  unfold Oper.wp
  rw [hrun]
  refine hn _ _ ⟨_, hk, _, _, hI'.put hd ?_⟩
  exact ⟨.hdr w.heap.size ps.length ps.length sz, by rw [← hI.ok.len]; simp, rfl⟩

end
end Go.Av

/-
  THE ABSTRACT LAYER, 13: append: its soundness.
-/
import Derived.Test.YtfgchoifgocclaaDoorAv12
namespace Go.Av
open Go Go.RowKit

section
variable {P : Program} {o : Oper} {c : Ctx} {θ : List Loc} {D : Nat → Prop} {st : St} {a : Act} {w : World}

/-- Nothing is appended. -/
theorem run_append_zero {t ty e : TypeId} {i : TypeInfo} (ht : P.underlying t = some (.slice e)) (hi : P.info? e = some i) (base : Option Addr) (n cap : Nat) (hle : n ≤ cap) (b : Option Addr) (m : Nat) :
    (Builtin.append_ #[t, t] ty #[.slice base n cap, .slice b 0 m]).run P w = .ok (.slice base n cap) w := by
  have h1 : (Builtin.firstCells i.size 0 (.slice b 0 m)).run P w = .ok #[] w := by
    cases b <;> simp [Builtin.firstCells, loadCells, loadCellsFrom]
  cases base <;> simp [Builtin.append_, run_underlying ht, sizeOf, typeInfo, hi, Builtin.lenOf, hle, h1, storeCells]

theorem zeroCells_size (z : Array Value) (n : Nat) : (Builtin.zeroCells z n).size = n * z.size := by simp [Builtin.zeroCells]

theorem flat_get {sz i j : Nat} (hj : j < sz) : (i * sz + j) / sz = i ∧ (i * sz + j) % sz = j := by
  have h0 : 0 < sz := by omega
  rw [Nat.mul_comm]
  refine ⟨?_, ?_⟩
  · rw [Nat.mul_add_div h0, Nat.div_eq_of_lt hj, Nat.add_zero]
  · rw [Nat.mul_add_mod]; exact Nat.mod_eq_of_lt hj

theorem sound_append (hI : Inv c θ D st a w) (hd : ∀ k, o.dst = some k → k < c.n) {K : St → Prop} {t e : TypeId} {sz bytes : Nat} {z : Value} {x y : Operand} {cl : Call} (ho : o.op = .call cl) (hcl : cl.callee = .builtin .append) (hargs : cl.args = #[x, y]) (htys : cl.argTypes = #[t, t])
    (he : elemT P t = some e) (hs : sizeT P e = some sz) (hb : bytesT P e = some bytes) (hz : zeroT P e = some z) (hzs : z.cells.size = sz) (h0 : 0 < sz) (hb0 : 0 < bytes)
    (h : sexec P o.dst (.append e sz bytes (.of x) (.of y)) st K) : Leaves P o c K a w := by
  intro next Q hn
  obtain ⟨ax, hx, ay, hy, hL⟩ := h
  have hX := hI.get hx
  obtain ⟨L, ad, m, ⟨hok, hcase⟩, hye, hlm, hnil, hcells⟩ := relA_list hI.ok (hI.get hy) hL
  have hu : P.underlying t = some (.slice e) := by
    unfold elemT at he
    split at he
    · cases he; assumption
    · cases he
  simp only [sizeT, Option.map_eq_some_iff] at hs
  obtain ⟨it, hit, rfl⟩ := hs
  have hz1 : it.zero = some z := by simpa [zeroT, hit] using hz
  have hb1 : it.bytes = bytes := by simpa [bytesT, hit] using hb
  subst hb1
  have fin : ∀ (v : Value) (w' : World) (st' : St), (Builtin.append_ #[t, t] o.type #[a.eval x, a.eval y]).run P w = .ok v w' → K st' → Rel c st' (a.put o.dst v) w' → o.wp P a w next Q := by
    intro v w' st' hr hk hrel
    unfold Oper.wp
    have : (execOp a.eval o).run P w = .ok (.value v) w' := by simp [execOp, ho, resolve, hcl, hargs, htys, invoke, builtin, hr]
    rw [this]
    exact hn _ _ ⟨st', hk, hrel⟩
  -- the new cells
  have hnews : 0 < L.length → ∃ (ab : Addr) (news : List Value), ad = some ab ∧ news.length = L.length * it.size ∧ (∀ (j : Nat) (u : Value), news[j]? = some u → w.cell? (ab.add j) = some u) ∧ (∀ u ∈ news, u.oneCell' = true) ∧
      (∀ p ∈ L, p.cells.length = it.size) ∧ ∀ (i j : Nat) (p q : PV), L[i]? = some p → p.cells[j]? = some q → ∃ u, news[i * it.size + j]? = some u ∧ RelP D w u q := by
    intro hl
    obtain ⟨g, og, rfl, hg, hsz, hc⟩ := hcells hl
    obtain ⟨news, n1, n2⟩ := choose_list (n := L.length * it.size) (p := fun k u => w.cell? ⟨g, og + k, none⟩ = some u ∧ u.oneCell' = true ∧ ∀ (p q : PV), L[k / it.size]? = some p → p.cells[k % it.size]? = some q → RelP D w u q) (fun k hk => by
      have hi : k / it.size < L.length := (Nat.div_lt_iff_lt_mul h0).2 hk
      have hj : k % it.size < it.size := Nat.mod_lt _ h0
      have hp := List.getElem?_eq_getElem hi
      have hpl := hsz _ (List.mem_of_getElem? hp)
      have hq := List.getElem?_eq_getElem (l := (L[k / it.size]).cells) (i := k % it.size) (by omega)
      obtain ⟨u, e1, e2⟩ := hc _ _ _ _ hp hq
      refine ⟨u, ?_, ?_, fun p q hp' hq' => ?_⟩
      · rw [← e1, Nat.add_assoc, Nat.mul_comm, Nat.div_add_mod]
      · have hok1 := hok _ (List.mem_of_getElem? hp)
        simp only [PV.ok, List.all_eq_true] at hok1
        exact relP_cellOk e2 (hok1 _ (List.mem_of_getElem? hq))
      · rw [hp] at hp'; cases hp'
        rw [hq] at hq'; cases hq'
        exact e2)
    refine ⟨_, news, rfl, n1, fun j u hj => by rw [addr_add]; exact (n2 j u hj).1, fun u hu => ?_, hsz, fun i j p q hp hq => ?_⟩
    · obtain ⟨j, hj⟩ := List.getElem?_of_mem hu
      exact (n2 j u hj).2.1
    · have hj : j < it.size := by rw [← hsz p (List.mem_of_getElem? hp)]; exact (List.getElem?_eq_some_iff.1 hq).1
      have hi : i < L.length := (List.getElem?_eq_some_iff.1 hp).1
      have hlt : i * it.size + j < news.length := by
        rw [n1]
        have : (i + 1) * it.size ≤ L.length * it.size := Nat.mul_le_mul_right _ hi
        rw [Nat.add_mul, Nat.one_mul] at this
        omega
      refine ⟨news[i * it.size + j], List.getElem?_eq_getElem hlt, ?_⟩
      obtain ⟨f1, f2⟩ := flat_get (i := i) hj
      exact (n2 _ _ (List.getElem?_eq_getElem hlt)).2.2 p q (by rw [f1]; exact hp) (by rw [f2]; exact hq)
  -- a row of cells that reads as such elements
  have rowRel : ∀ (w' : World) (olds news : List Value) (xs : List PV) (cv : Array Value) (k : Nat), (∀ b, D b → w'.heap[b]? = w.heap[b]?) → olds.length = xs.length * it.size → cv.size = k * it.size →
      (∀ j, j < olds.length → cv[j]? = olds[j]?) → (∀ j, j < news.length → cv[olds.length + j]? = news[j]?) → (∀ p ∈ xs, p.cells.length = it.size) → (∀ p ∈ L, p.cells.length = it.size) → news.length = L.length * it.size →
      (∀ (i j : Nat) (p q : PV), xs[i]? = some p → p.cells[j]? = some q → ∃ u, olds[i * it.size + j]? = some u ∧ RelP D w u q) → (∀ (i j : Nat) (p q : PV), L[i]? = some p → p.cells[j]? = some q → ∃ u, news[i * it.size + j]? = some u ∧ RelP D w u q) →
      ∀ (i j : Nat) (p q : PV), (xs ++ L)[i]? = some p → p.cells[j]? = some q → ∃ u, cv[i * it.size + j]? = some u ∧ RelP D w' u q := by
    intro w' olds news xs cv k hDw hol hcv hco hcn hxs hLs hnl ro rn i j p q hp hq
    rcases Nat.lt_or_ge i xs.length with hi | hi
    · rw [List.getElem?_append_left hi] at hp
      obtain ⟨u, e1, e2⟩ := ro i j p q hp hq
      exact ⟨u, by rw [hco _ (List.getElem?_eq_some_iff.1 e1).1]; exact e1, e2.mono (fun _ h => h) hDw⟩
    · rw [List.getElem?_append_right hi] at hp
      obtain ⟨u, e1, e2⟩ := rn _ j p q hp hq
      refine ⟨u, ?_, e2.mono (fun _ h => h) hDw⟩
      have := hcn _ (List.getElem?_eq_some_iff.1 e1).1
      rw [e1] at this
      rw [← this, hol]
      congr 1
      have : i * it.size = xs.length * it.size + (i - xs.length) * it.size := by rw [← Nat.add_mul]; congr 1; omega
      omega
  have len_of : ∀ (xs : List PV) (k : Nat), (xs.length + L.length) * it.bytes ≤ k → xs.length + L.length ≤ k := fun xs k h => Nat.le_trans (Nat.le_mul_of_pos_right _ hb0) h
  rcases hcase with ⟨id, rfl, ob, hob, xs, rfl, hbd, hk⟩ | ⟨rfl, hbd, hk⟩
  · obtain ⟨l, hl, hh⟩ := hX
    have hro := hI.ok.objs id l _ hl hob
    have h63 := len_of xs _ hbd
    have hlt : id < θ.length := (List.getElem?_eq_some_iff.1 hl).1
    have hget : ∀ (l' : Loc), (θ.set id l')[id]? = some l' := fun l' => List.getElem?_set_self hlt
    by_cases hL0 : L.length = 0
    · have hLe : L = [] := List.eq_nil_of_length_eq_zero hL0
      subst hLe
      have hmv : Inv c (θ.set id l) D (st.moved id (.vec e it.size (xs ++ []))) a w := by
        refine hI.move hl (fun g hg => ?_) rfl rfl rfl (Nat.le_refl _) (fun _ _ _ => rfl) (fun g hg => ⟨(hI.ok.olt id l g hl hg).1, .inl hg⟩) ?_
        · subst hg; exact hro.elim
        · rw [List.append_nil]
          have hse : θ.set id l = θ := by
            apply List.ext_getElem?
            intro i
            by_cases hii : i = id
            · subst hii; rw [hget]; exact hl.symm
            · rw [List.getElem?_set_ne (Ne.symm hii)]
          rw [hse]
          exact hro
      cases l <;> simp only [RelO, Loc.head] at hro hh
      · refine fin (.slice none 0 0) w _ ?_ hk ⟨_, D, hmv.put hd ⟨.nil, hget _, rfl⟩⟩
        rw [hh, hye]
        exact run_append_zero hu hit none 0 0 (Nat.le_refl _) ad m
      · rename_i g n cap s
        obtain ⟨rfl, rfl, h3, _⟩ := hro
        refine fin _ w _ ?_ hk ⟨_, D, hmv.put hd ⟨_, hget _, rfl⟩⟩
        rw [hh, hye]
        exact run_append_zero hu hit _ _ cap h3 ad m
    · obtain ⟨ab, news, rfl, n1, n2, n3, n4, n5⟩ := hnews (Nat.pos_of_ne_zero hL0)
      -- a new array
      have grow : ∀ (old : Nat) (olds : List Value) (v : Value), olds.length = xs.length * it.size → (∀ p ∈ xs, p.cells.length = it.size) → (∀ (i j : Nat) (p q : PV), xs[i]? = some p → p.cells[j]? = some q → ∃ u, olds[i * it.size + j]? = some u ∧ RelP D w u q) →
          (Builtin.append_ #[t, t] o.type #[v, .slice (some ab) L.length m]).run P w = .ok (.slice (some ⟨w.heap.size, 0, none⟩) (xs.length + L.length) (grownCap w (xs.length + L.length) old e)) (w.drew.alloc (.cells (olds.toArray ++ news.toArray ++ Builtin.zeroCells z.cells (grownCap w (xs.length + L.length) old e - (xs.length + L.length))) e)) →
          a.eval x = v → o.wp P a w next Q := by
        intro old olds v hol hxs ro hrun hv
        have hge := grownCap_ge w (xs.length + L.length) old e
        have hcm : grownCap w (xs.length + L.length) old e ≤ maxLen := grownCap_le_maxLen w _ old e (by simp only [maxLen]; omega)
        have hcs : (olds.toArray ++ news.toArray ++ Builtin.zeroCells z.cells (grownCap w (xs.length + L.length) old e - (xs.length + L.length))).size = grownCap w (xs.length + L.length) old e * it.size := by
          simp only [Array.size_append, List.size_toArray, zeroCells_size, hzs, hol, n1, ← Nat.add_mul]
          congr 1; omega
        have hDw : ∀ b, D b → (w.drew.alloc (.cells (olds.toArray ++ news.toArray ++ Builtin.zeroCells z.cells (grownCap w (xs.length + L.length) old e - (xs.length + L.length))) e)).heap[b]? = w.heap[b]? := fun b hb => heap_old w.drew _ b (hI.ok.dlt b hb)
        have hmv := hI.move (l' := .hdr w.heap.size (xs.length + L.length) (grownCap w (xs.length + L.length) old e) it.size) (o' := .vec e it.size (xs ++ L)) (w' := w.drew.alloc (.cells (olds.toArray ++ news.toArray ++ Builtin.zeroCells z.cells (grownCap w (xs.length + L.length) old e - (xs.length + L.length))) e)) hl (fun g hg => by subst hg; exact hro.elim) rfl rfl rfl (by simp) (fun k hk _ => heap_old w.drew _ k hk)
          (fun g hg => by cases hg; exact ⟨by simp, .inr (Nat.le_refl _)⟩)
          ⟨rfl, by simp, hge, hcm, fun p hp => (List.mem_append.1 hp).elim (hxs p) (n4 p), _, heap_new w.drew _, hcs,
            rowRel _ olds news xs _ _ hDw hol hcs (fun j hj => by rw [Array.getElem?_append_left (by simp; omega), Array.getElem?_append_left (by simpa using hj)]; simp) (fun j hj => by
              rw [Array.getElem?_append_left (by simp; omega), Array.getElem?_append_right (by simp)]; simp) hxs n4 n1 ro n5⟩
        refine fin _ _ _ ?_ hk ⟨_, D, hmv.put hd ⟨_, hget _, rfl⟩⟩
        rw [hv, hye]
        exact hrun
      cases l <;> simp only [RelO, Loc.head] at hro hh
      · subst hro
        have hr := run_append_nil (P := P) w t o.type e it z hu hit hz1 ab L.length m news n1 n2 (Nat.pos_of_ne_zero hL0) (by simp only [List.length_nil] at h63; omega) (by simp only [List.length_nil, Nat.zero_add] at hbd; omega)
        refine grow 0 [] _ (by simp) (fun p hp => by cases hp) (fun i j p q hp => by simp at hp) ?_ hh
        simpa using hr
      · rename_i g n cap s
        obtain ⟨rfl, rfl, h3, h4, h5, cur, h6, h7, h8⟩ := hro
        by_cases hroom : xs.length + L.length ≤ cap
        · have hle : xs.length * it.size + news.length ≤ cur.size := by rw [n1, h7, ← Nat.add_mul]; exact Nat.mul_le_mul_right _ hroom
          have hr := run_append_room (P := P) w t o.type e it hu hit g xs.length cap cur h6 ab L.length m news n1 n2 n3 hroom hle
          obtain ⟨s1, s2⟩ := setRow_get cur (xs.length * it.size) news hle
          have hDw : ∀ b, D b → (w.setRow g (cur.toList.take (xs.length * it.size) ++ news ++ cur.toList.drop (xs.length * it.size + news.length)).toArray).heap[b]? = w.heap[b]? := fun b hb => setRow_other _ _ _ _ fun e => (hI.ok.olt id _ g hl rfl).2 (e ▸ hb)
          have hcl' : (cur.toList.take (xs.length * it.size)).length = xs.length * it.size := by simp; omega
          have hmv := hI.move (l' := .hdr g (xs.length + L.length) cap it.size) (o' := .vec e it.size (xs ++ L)) (w' := w.setRow g (cur.toList.take (xs.length * it.size) ++ news ++ cur.toList.drop (xs.length * it.size + news.length)).toArray) hl (fun g hg => by cases hg) rfl rfl rfl (by simp) (fun k _ hk => setRow_other _ _ _ _ fun e => hk (by rw [e]; rfl))
            (fun g' hg' => by cases hg'; exact ⟨by simp; exact (hI.ok.olt id _ g hl rfl).1, .inl rfl⟩)
            ⟨rfl, by simp, hroom, h4, fun p hp => (List.mem_append.1 hp).elim (h5 p) (n4 p), _, setRow_heap _ _ _ _ _ _ h6, by rw [s1, h7],
              rowRel _ (cur.toList.take (xs.length * it.size)) news xs _ cap hDw hcl' (by rw [s1, h7]) (fun j hj => by
                rw [hcl'] at hj
                rw [s2, if_neg (by omega), List.getElem?_take, if_pos hj, Array.getElem?_toList]) (fun j hj => by
                rw [s2, hcl', if_pos ⟨by omega, by omega⟩]; congr 1; omega) h5 n4 n1 (fun i j p q hp hq => by
                obtain ⟨u, e1, e2⟩ := h8 i j p q hp hq
                refine ⟨u, ?_, e2⟩
                have hj : j < it.size := by rw [← h5 p (List.mem_of_getElem? hp)]; exact (List.getElem?_eq_some_iff.1 hq).1
                have hi : i < xs.length := (List.getElem?_eq_some_iff.1 hp).1
                have : (i + 1) * it.size ≤ xs.length * it.size := Nat.mul_le_mul_right _ hi
                rw [Nat.add_mul, Nat.one_mul] at this
                rw [List.getElem?_take, if_pos (by omega), Array.getElem?_toList]
                exact e1) n5⟩
          refine fin _ _ _ ?_ hk ⟨_, D, hmv.put hd ⟨_, hget _, rfl⟩⟩
          rw [hh, hye]
          exact hr
        · have hle0 : xs.length * it.size ≤ cur.size := by rw [h7]; exact Nat.mul_le_mul_right _ h3
          have hol : (cur.toList.take (xs.length * it.size)).length = xs.length * it.size := by simp; omega
          have hr := run_append_grow (P := P) w t o.type e it z hu hit hz1 ⟨g, 0, none⟩ xs.length cap (cur.toList.take (xs.length * it.size)) hol (fun j u hj => by
            rw [addr_add, Nat.zero_add, cell_of_row w g j cur e (0, 0) h6]
            rw [List.getElem?_take] at hj
            split at hj
            · simpa using hj
            · cases hj) ab L.length m news n1 n2 (by omega) (by omega) (growslice_fits (by omega) hbd)
          refine grow cap _ _ hol h5 (fun i j p q hp hq => ?_) hr hh
          obtain ⟨u, e1, e2⟩ := h8 i j p q hp hq
          refine ⟨u, ?_, e2⟩
          have hj : j < it.size := by rw [← h5 p (List.mem_of_getElem? hp)]; exact (List.getElem?_eq_some_iff.1 hq).1
          have hi : i < xs.length := (List.getElem?_eq_some_iff.1 hp).1
          have : (i + 1) * it.size ≤ xs.length * it.size := Nat.mul_le_mul_right _ hi
          rw [Nat.add_mul, Nat.one_mul] at this
          rw [List.getElem?_take, if_pos (by omega), Array.getElem?_toList]
          exact e1
  · have hxe : a.eval x = .slice none 0 0 := hX
    have h63 := len_of [] _ (by simpa using hbd)
    simp only [List.length_nil, Nat.zero_add] at h63
    by_cases hL0 : L.length = 0
    · have hLe : L = [] := List.eq_nil_of_length_eq_zero hL0
      subst hLe
      have hp : Inv c (θ ++ [.nil]) D { st with hp := st.hp ++ [.vec e it.size []] } a w := hI.push rfl (fun g hg => by cases hg)
      refine fin (.slice none 0 0) w _ ?_ hk ⟨_, D, hp.put hd ⟨.nil, by rw [← hI.ok.len]; simp, rfl⟩⟩
      rw [hxe, hye]
      exact run_append_zero hu hit none 0 0 (Nat.le_refl _) ad m
    · obtain ⟨ab, news, rfl, n1, n2, n3, n4, n5⟩ := hnews (Nat.pos_of_ne_zero hL0)
      have hr := run_append_nil (P := P) w t o.type e it z hu hit hz1 ab L.length m news n1 n2 (Nat.pos_of_ne_zero hL0) (by omega) (by omega)
      have hge := grownCap_ge w L.length 0 e
      have hcm : grownCap w L.length 0 e ≤ maxLen := grownCap_le_maxLen w _ 0 e (by simp only [maxLen]; omega)
      have hcs : (news.toArray ++ Builtin.zeroCells z.cells (grownCap w L.length 0 e - L.length)).size = grownCap w L.length 0 e * it.size := by
        simp only [Array.size_append, List.size_toArray, zeroCells_size, hzs, n1, ← Nat.add_mul]
        congr 1; omega
      have hDw : ∀ b, D b → (w.drew.alloc (.cells (news.toArray ++ Builtin.zeroCells z.cells (grownCap w L.length 0 e - L.length)) e)).heap[b]? = w.heap[b]? := fun b hb => heap_old w.drew _ b (hI.ok.dlt b hb)
      have hI' := hI.drew.allocOwn (l := .hdr w.heap.size L.length (grownCap w L.length 0 e) it.size) (o := .vec e it.size L) (ob := .cells (news.toArray ++ Builtin.zeroCells z.cells (grownCap w L.length 0 e - L.length)) e) rfl fun θ' hθ =>
        ⟨rfl, rfl, hge, hcm, n4, _, heap_new w.drew _, hcs, fun i j p q hp hq => by
          have := rowRel _ [] news [] _ _ hDw (by simp) hcs (fun j hj => by simp at hj) (fun j hj => by simp only [List.length_nil, Nat.zero_add]; rw [Array.getElem?_append_left (by simpa using hj)]; simp) (fun p hp => by cases hp) n4 n1 (fun i j p q hp => by simp at hp) n5 i j p q (by simpa using hp) hq
          exact this⟩
      refine fin _ _ _ ?_ hk ⟨_, D, hI'.put hd ⟨.hdr w.heap.size L.length (grownCap w L.length 0 e) it.size, by rw [← hI.ok.len]; simp, rfl⟩⟩
      rw [hxe, hye]
      exact hr

end
end Go.Av

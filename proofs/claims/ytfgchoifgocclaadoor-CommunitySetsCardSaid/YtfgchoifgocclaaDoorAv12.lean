/-
  THE ABSTRACT LAYER, 12: stores, make, append: their soundness.
-/
import Derived.Test.YtfgchoifgocclaaDoorAv11
namespace Go.Av
open Go Go.RowKit

section
variable {P : Program} {o : Oper} {c : Ctx} {θ : List Loc} {D : Nat → Prop} {st : St} {a : Act} {w : World}

theorem setRow_get (cur : Array Value) (off : Nat) (vs : List Value) (h : off + vs.length ≤ cur.size) : ((cur.toList.take off ++ vs ++ cur.toList.drop (off + vs.length)).toArray).size = cur.size ∧
    ∀ k, ((cur.toList.take off ++ vs ++ cur.toList.drop (off + vs.length)).toArray)[k]? = if off ≤ k ∧ k < off + vs.length then vs[k - off]? else cur[k]? := by
  have h1 := splice_length cur.toList off vs (by simpa using h)
  refine ⟨by have := h1; unfold splice at this; simpa using this, fun k => ?_⟩
  have := splice_get cur.toList off vs (by simpa using h) k
  unfold splice at this
  rw [List.getElem?_toArray, this]
  split
  · rfl
  · exact Array.getElem?_toList

theorem run_storeAt {t : TypeId} {sz g off : Nat} {e : TypeId} {cur : Array Value} {v : Value} (hs : sizeT P t = some sz) (hv : v.cells.size = sz) (hg : w.heap[g]? = some (.cells cur e (0, 0))) (hle : off + sz ≤ cur.size) (h1 : ∀ u ∈ v.cells.toList, u.oneCell' = true) :
    (Instr.storeAt t (.pointer (some ⟨g, off, none⟩)) v).run P w = .ok () (w.setRow g (cur.toList.take off ++ v.cells.toList ++ cur.toList.drop (off + v.cells.toList.length)).toArray) := by
  have := run_storeCells_at P g off e v.cells.toList 0 cur w hg (by simpa [hv] using hle) h1
  simp only [Nat.add_zero] at this
  simp [Instr.storeAt, Instr.sureAddr, storeVar, run_sizeOf hs, hv, this]

theorem sound_store (hI : Inv c θ D st a w) (hd : o.dst = none) {K : St → Prop} {t : TypeId} {x y : Operand} {sz : Nat} (ho : o.op = .store t x y) (hs : sizeT P t = some sz) (h : sexec P o.dst (.store sz (.of x) (.of y)) st K) : Leaves P o c K a w := by
  intro next Q hn
  obtain ⟨ax, hx, ay, hy, _, hst⟩ := h
  have hX := hI.get hx
  have hY := hI.get hy
  have fin : ∀ (w' : World) (st' : St), (Instr.storeAt t (a.eval x) (a.eval y)).run P w = .ok () w' → K st' → Rel c st' a w' → o.wp P a w next Q := by
    intro w' st' hr hk hrel
    unfold Oper.wp
    have : (execOp a.eval o).run P w = .ok .skip w' := by simp [execOp, ho, hr]
    rw [this]
    simp only [Oper.upon, Act.put, hd]
    exact hn _ _ ⟨st', hk, hrel⟩
  unfold storeA at hst
  split at hst
  · rename_i id off
    obtain ⟨ob, hob, e, cs, rfl, hlen, hle, hok, hk⟩ := hst
    obtain ⟨g, hg, he⟩ := hX
    obtain ⟨cur, h1, h2, h3⟩ := hI.ok.objs id _ _ hg hob
    obtain ⟨h4, h5⟩ := relA_cells hY hok
    have hv : (a.eval y).cells.size = sz := by omega
    have hr := run_storeAt (P := P) (w := w) (off := off) hs hv h1 (by omega) (fun u hu => by
      obtain ⟨i, hi⟩ := List.getElem?_of_mem hu
      have hlt : i < ay.cells.length := by rw [← h4]; simpa using (List.getElem?_eq_some_iff.1 hi).1
      exact (h5 i u _ (by simpa using hi) (List.getElem?_eq_getElem hlt)).2)
    rw [← he] at hr
    obtain ⟨s1, s2⟩ := setRow_get cur off (a.eval y).cells.toList (by simp only [Array.length_toList, hv]; omega)
    refine fin _ _ hr hk ⟨θ, D, hI.store (l := .blk g) hg rfl (by simp) (by simp) (by simp) (by simp) (fun k hk => setRow_other _ _ _ _ hk) ⟨_, setRow_heap _ _ _ _ _ _ h1, ?_, ?_⟩⟩
    · rw [s1, h2, splice_length cs off ay.cells (by omega)]
    · intro i u z hu hz
      rw [s2 i] at hu
      rw [splice_get cs off ay.cells (by omega)] at hz
      simp only [Array.length_toList] at hu
      have hDw : ∀ b, D b → (w.setRow g (cur.toList.take off ++ (a.eval y).cells.toList ++ cur.toList.drop (off + (a.eval y).cells.toList.length)).toArray).heap[b]? = w.heap[b]? := fun b hb => setRow_other _ _ _ _ fun e => (hI.ok.olt id _ g hg rfl).2 (e ▸ hb)
      split at hu
      · rw [if_pos (by omega)] at hz
        exact ((h5 _ u z (by simpa using hu) hz).1).mono (fun _ h => h) hDw
      · rw [if_neg (by omega)] at hz
        exact (h3 i u z hu hz).mono (fun _ h => h) hDw
  · rename_i id i off
    obtain ⟨ob, hob, e, s, xs, rfl, hi, p, hp, hlen, hok, hcase⟩ := hst
    obtain ⟨g, n, cap, s', hg, he⟩ := hX
    obtain ⟨rfl, rfl, h3, h4, h5, cur, h6, h7, h8⟩ := hI.ok.objs id _ _ hg hob
    obtain ⟨q1, q2⟩ := relP_cells (relA_toPV hY hp) hok
    have hv : (a.eval y).cells.size = sz := by omega
    obtain ⟨p0, hx0⟩ : ∃ p0, xs[i]? = some p0 := ⟨_, List.getElem?_eq_getElem hi⟩
    have hgd : xs.getD i .any = p0 := getD_of_some hx0
    have hp0 : p0.cells.length = s' := h5 _ (List.mem_of_getElem? hx0)
    have hoff : off + sz ≤ s' := by rcases hcase with ⟨h, h', _⟩ | ⟨_, h, _⟩ <;> omega
    have hrow : i * s' + s' ≤ cur.size := by
      rw [h7]
      have : i + 1 ≤ cap := by omega
      have := Nat.mul_le_mul_right s' this
      rw [Nat.add_mul, Nat.one_mul] at this
      exact this
    have hr := run_storeAt (P := P) (w := w) (off := i * s' + off) hs hv h6 (by omega) (fun u hu => by
      obtain ⟨j, hj⟩ := List.getElem?_of_mem hu
      have hlt : j < p.cells.length := by rw [← q1]; simpa using (List.getElem?_eq_some_iff.1 hj).1
      exact (q2 j u _ (by simpa using hj) (List.getElem?_eq_getElem hlt)).2)
    rw [← he] at hr
    obtain ⟨s1, s2⟩ := setRow_get cur (i * s' + off) (a.eval y).cells.toList (by simp only [Array.length_toList, hv]; omega)
    have hDw : ∀ b, D b → (w.setRow g (cur.toList.take (i * s' + off) ++ (a.eval y).cells.toList ++ cur.toList.drop (i * s' + off + (a.eval y).cells.toList.length)).toArray).heap[b]? = w.heap[b]? := fun b hb => setRow_other _ _ _ _ fun e => (hI.ok.olt id _ g hg rfl).2 (e ▸ hb)
    have main : ∀ (p' : PV), p'.cells = splice p0.cells off p.cells → Inv c θ D { st with hp := st.hp.set id (.vec e s' (xs.set i p')) } a (w.setRow g (cur.toList.take (i * s' + off) ++ (a.eval y).cells.toList ++ cur.toList.drop (i * s' + off + (a.eval y).cells.toList.length)).toArray) := by
      intro p' hp'
      refine hI.store hg rfl (by simp) (by simp) (by simp) (by simp) (fun k hk => setRow_other _ _ _ _ hk) ⟨rfl, by simp, h3, h4, fun q hq => ?_, _, setRow_heap _ _ _ _ _ _ h6, by rw [s1, h7], fun k j q y' hq hy' => ?_⟩
      · rcases List.mem_or_eq_of_mem_set hq with h | h
        · exact h5 q h
        · subst h; rw [hp', splice_length _ _ _ (by omega), hp0]
      · by_cases hki : k = i
        · subst hki
          rw [List.getElem?_set_self hi] at hq
          cases hq
          rw [hp', splice_get _ _ _ (by omega)] at hy'
          split at hy'
          · rename_i hj
            have hjv : j - off < (a.eval y).cells.size := by omega
            refine ⟨(a.eval y).cells[j - off], ?_, ((q2 (j - off) _ y' (Array.getElem?_eq_getElem hjv) hy').1).mono (fun _ h => h) hDw⟩
            rw [s2, if_pos ⟨by omega, by simp; omega⟩, show k * s' + j - (k * s' + off) = j - off by omega]
            rw [Array.getElem?_toList]
            exact Array.getElem?_eq_getElem hjv
          · rename_i hj
            obtain ⟨u, e1, e2⟩ := h8 k j p0 y' hx0 hy'
            have hjs : j < s' := by rw [← hp0]; exact (List.getElem?_eq_some_iff.1 hy').1
            refine ⟨u, ?_, e2.mono (fun _ h => h) hDw⟩
            rw [s2, if_neg (by simp only [Array.length_toList]; omega)]
            exact e1
        · rw [List.getElem?_set_ne (Ne.symm hki)] at hq
          obtain ⟨u, e1, e2⟩ := h8 k j q y' hq hy'
          have hjs : j < s' := by rw [← h5 q (List.mem_of_getElem? hq)]; exact (List.getElem?_eq_some_iff.1 hy').1
          refine ⟨u, ?_, e2.mono (fun _ h => h) hDw⟩
          rw [s2, if_neg ?_]
          · exact e1
          · simp only [Array.length_toList, hv]
            intro ⟨h9, h10⟩
            rcases Nat.lt_or_ge k i with h11 | h11
            · have : (k + 1) * s' ≤ i * s' := Nat.mul_le_mul_right _ h11
              rw [Nat.add_mul, Nat.one_mul] at this
              omega
            · have : (i + 1) * s' ≤ k * s' := Nat.mul_le_mul_right _ (by omega)
              rw [Nat.add_mul, Nat.one_mul] at this
              omega
    rcases hcase with ⟨rfl, rfl, hk⟩ | ⟨hne, hle, hk⟩
    · refine fin _ _ hr hk ⟨θ, D, main p ?_⟩
      unfold splice
      rw [List.take_zero, List.drop_eq_nil_of_le (by omega)]
      simp
    · rw [hgd] at hk
      exact fin _ _ hr hk ⟨θ, D, main _ rfl⟩
  · exact hst.elim

theorem sound_mslice (hI : Inv c θ D st a w) (hd : ∀ k, o.dst = some k → k < c.n) {K : St → Prop} {t e : TypeId} {sz bytes : Nat} {z : Value} {l m : Operand} (ho : o.op = .makeSlice t l m) (he : elemT P t = some e) (hs : sizeT P e = some sz) (hb : bytesT P e = some bytes) (hz : zeroT P e = some z)
    (h : sexec P o.dst (.mslice e sz bytes z (.of l) (.of m)) st K) : Leaves P o c K a w := by
  intro next Q hn
  obtain ⟨al, hl, am, hm, hv⟩ := h
  have h1 := relA_isV (hI.get hl) hv
  have h2 := relA_isV (hI.get hm) h1
  obtain ⟨kl, nl, hnl, kc, nc, hnc, h0, hlc, h63, hby, hzl, hsz, pz, hpz, hok, hk⟩ := h2
  have hu : P.underlying t = some (.slice e) := by
    unfold elemT at he
    split at he
    · cases he; assumption
    · cases he
  simp only [sizeT, Option.map_eq_some_iff] at hs
  obtain ⟨it, hit, rfl⟩ := hs
  have hz1 : it.zero = some z := by simpa [zeroT, hit] using hz
  have hb1 : it.bytes = bytes := by simpa [bytesT, hit] using hb
  have hrun := run_make (P := P) w t e it z hu hit hz1 kl kc nl nc h0 hlc (by rw [hb1]; exact hby) h63
  have hzr : RelP D w z pz := relA_toPV (relA_const (θ := θ) z) hpz
  obtain ⟨c1, c2⟩ := relP_cells hzr hok
  have hzc : z.cells.size = it.size := by
    rw [c1, ← hzl]
    cases hq : constA z with
    | b x =>
      rw [hq] at hpz
      cases x <;> simp [AV.toPV, BV.toPV] at hpz
      · subst hpz; simp [AV.cells]
      · subst hpz; rfl
    | agg xs =>
      rw [hq] at hpz
      simp only [AV.toPV, Option.map_eq_some_iff] at hpz
      obtain ⟨ps, hps, rfl⟩ := hpz
      exact (mapM_some hps).1.symm
  have hpl : pz.cells.length = it.size := by omega
  have hcap : nc.toNat ≤ maxLen := by simp only [maxLen]; omega
  have hI' := hI.allocOwn (l := .hdr w.heap.size nl.toNat nc.toNat it.size) (o := .vec e it.size (List.replicate nl.toNat pz)) (ob := .cells (madeCells z.cells (nc.toNat * it.size)) e) rfl fun θ' hθ =>
    ⟨rfl, by simp, by omega, hcap, fun p hp => by rw [List.eq_of_mem_replicate hp]; exact hpl, _, heap_new w _, size_madeCells _ _, fun i j x y hx hy => by
      have hxe := List.eq_of_mem_replicate (List.mem_of_getElem? hx)
      have hi : i < nl.toNat := by simpa using (List.getElem?_eq_some_iff.1 hx).1
      subst hxe
      have hj : j < it.size := by rw [← hpl]; exact (List.getElem?_eq_some_iff.1 hy).1
      have hjz : j < z.cells.size := by omega
      refine ⟨z.cells[j], ?_, ((c2 j _ y (Array.getElem?_eq_getElem hjz) hy).1).mono (fun _ h => h) (fun b hb => heap_old w _ b (hI.ok.dlt b hb))⟩
      have hlt : i * it.size + j < nc.toNat * it.size := by
        have : (i + 1) * it.size ≤ nc.toNat * it.size := Nat.mul_le_mul_right _ (by omega)
        rw [Nat.add_mul, Nat.one_mul] at this
        omega
      have hmod : (i * it.size + j) % z.cells.size = j := by rw [hzc, Nat.mul_comm, Nat.mul_add_mod]; exact Nat.mod_eq_of_lt hj
      simp only [madeCells, Array.getElem?_map, Array.getElem?_range, if_pos hlt, Option.map_some, hmod]
      simp [hjz]⟩
  have hrun' : (execOp a.eval o).run P w = .ok (.value (.slice (some ⟨w.heap.size, 0, none⟩) nl.toNat nc.toNat)) (w.alloc (.cells (madeCells z.cells (nc.toNat * it.size)) e)) := by
    simp [execOp, ho, hnl, hnc, hrun]
  unfold Oper.wp
  rw [hrun']
  refine hn _ _ ⟨_, hk, _, _, hI'.put hd ?_⟩
  exact ⟨.hdr w.heap.size nl.toNat nc.toNat it.size, by rw [← hI.ok.len]; simp, rfl⟩

end
end Go.Av

/-
  dfa: AUTOMATA IN CANONICAL FORM: two of the same language are equal.
-/
import Derived.Test.YtbpdbooalkkenaaJLawDfaMul
import Derived.Test.YtbpdbooalkkenaaJPlMin
set_option linter.unusedVariables false
set_option linter.unusedSimpArgs false
namespace Go.Proofs.Ytbpdbooalkkenaa
open Go Go.Av Go.Ev Go.Pl
structure WF (d : DF) : Prop where
  starts : Starts d.1
  len : 0 < d.2.1.length ∧ d.2.2.1.length = d.2.1.length
  rows : ∀ r ∈ d.2.1, r.length = d.1.length
  start : 0 ≤ d.2.2.2.1 ∧ d.2.2.2.1 < (d.2.1.length : Int)
  to : ∀ r ∈ d.2.1, ∀ t ∈ r, 0 ≤ t ∧ t < (d.2.1.length : Int)
theorem Good.wf {d : DF} (h : Good d) : WF d := ⟨h.starts, h.len, h.rows, h.start, h.to⟩
theorem class_wf {xs : List Int} {v : Int} (hs : Starts xs) (hv : 0 ≤ v) : IsClass xs v (classS xs v) := by
  have key : ∀ n, 0 < n → ∃ c, ∃ h : c < xs.length, xs[c] ≤ v ∧ ∀ j (_ : j < xs.length), c < j → j < n → v < xs[j] := by
    intro n
    induction n with
    | zero => intro h; omega
    | succ n ih =>
      intro _
      rcases Nat.eq_zero_or_pos n with rfl | hn
      · exact ⟨0, hs.1, by rw [hs.2.1 hs.1]; exact hv, fun j _ h1 h2 => by omega⟩
      · obtain ⟨c, h1, h2, h3⟩ := ih hn
        by_cases hnl : n < xs.length
        · by_cases hle : xs[n] ≤ v
          · exact ⟨n, hnl, hle, fun j _ h4 h5 => by omega⟩
          · refine ⟨c, h1, h2, fun j hj h4 h5 => ?_⟩
            rcases Nat.lt_succ_iff_lt_or_eq.1 h5 with h6 | rfl
            · exact h3 j hj h4 h6
            · omega
        · exact ⟨c, h1, h2, fun j hj h4 h5 => h3 j hj h4 (by omega)⟩
  obtain ⟨c, h1, h2, h3⟩ := key xs.length hs.1
  have hc : IsClass xs v c := ⟨h1, h2, fun j hj h4 => h3 j hj h4 hj⟩
  rw [class_eq hc]; exact hc
theorem class_at {xs : List Int} (hs : Starts xs) {c : Nat} (hc : c < xs.length) : classS xs xs[c] = c :=
  class_eq ⟨hc, Int.le_refl _, fun j hj h => starts_lt hs j c hj h⟩
theorem starts_nonneg {xs : List Int} (hs : Starts xs) : ∀ v ∈ xs, 0 ≤ v ∧ v ≤ 4294967295 := fun v hv => by
  refine ⟨?_, hs.2.2.2 v hv⟩
  obtain ⟨i, hi, rfl⟩ := List.mem_iff_getElem.1 hv
  have h0 := hs.2.1 hs.1
  rcases Nat.eq_zero_or_pos i with rfl | hp
  · omega
  · have := starts_lt hs i 0 hi hp; omega
def In (d : DF) (s : Int) : Prop := 0 ≤ s ∧ s < (d.2.1.length : Int)
def colS (d : DF) (s : Int) (c : Nat) : Int := (d.2.1.getD s.toNat []).getD c 0
theorem step_col (d : DF) (s v : Int) : stepS d s v = colS d s (classS d.1 v) := rfl
theorem col_at {d : DF} (h : WF d) {s : Int} (hs : In d s) {c : Nat} (hc : c < d.1.length) : ∃ h1 : s.toNat < d.2.1.length, ∃ h2 : c < d.2.1[s.toNat].length, d.2.1[s.toNat][c] = colS d s c ∧ In d (colS d s c) := by
  have h1 : s.toNat < d.2.1.length := by have := hs.1; have := hs.2; omega
  have h2 : c < d.2.1[s.toNat].length := by rw [h.rows _ (List.getElem_mem h1)]; exact hc
  have e : d.2.1[s.toNat][c] = colS d s c := by
    unfold colS
    simp only [List.getD_eq_getElem?_getD, List.getElem?_eq_getElem h1, Option.getD_some, List.getElem?_eq_getElem h2]
  exact ⟨h1, h2, e, e ▸ h.to _ (List.getElem_mem h1) _ (List.getElem_mem h2)⟩
theorem step_in {d : DF} (h : WF d) {s v : Int} (hs : In d s) (hv : 0 ≤ v) : In d (stepS d s v) :=
  (col_at h hs (class_wf h.starts hv).1).2.2.2
theorem step_at_start {d : DF} (h : WF d) (s : Int) {c : Nat} (hc : c < d.1.length) : stepS d s d.1[c] = colS d s c := by
  rw [step_col, class_at h.starts hc]
def Valid (w : List Int) : Prop := ∀ v ∈ w, 0 ≤ v ∧ v ≤ 4294967295
theorem Valid.app {w u : List Int} (h : Valid w) (h' : Valid u) : Valid (w ++ u) := fun v hv => (List.mem_append.1 hv).elim (h v) (h' v)
theorem valid_one {v : Int} (h : 0 ≤ v ∧ v ≤ 4294967295) : Valid [v] := fun u hu => by simp at hu; subst hu; exact h
noncomputable def runD (d : DF) (w : List Int) : Int := w.foldl (stepS d) d.2.2.2.1
theorem runD_app (d : DF) (w u : List Int) : runD d (w ++ u) = u.foldl (stepS d) (runD d w) := List.foldl_append
def EqvN (d : DF) (s t : Int) : Prop := ∀ w, Valid w → accS d (w.foldl (stepS d) s) = accS d (w.foldl (stepS d) t)
theorem fold_in {d : DF} (h : WF d) : ∀ (w : List Int) (s : Int), In d s → Valid w → In d (w.foldl (stepS d) s)
  | [], _, hs, _ => hs
  | v :: w, s, hs, hw => fold_in h w _ (step_in h hs (hw v (List.mem_cons_self ..)).1) fun u hu => hw u (List.mem_cons_of_mem _ hu)
theorem runD_mem {d : DF} (h : WF d) {w : List Int} (hw : Valid w) : In d (runD d w) := fold_in h w _ h.start hw
def rangeI (n : Nat) : List Int := (List.range n).map fun (k : Nat) => (k : Int)
theorem rangeI_mem {n : Nat} {s : Int} : s ∈ rangeI n ↔ 0 ≤ s ∧ s < (n : Int) := by
  unfold rangeI
  rw [List.mem_map]
  constructor
  · rintro ⟨k, hk, rfl⟩; have := List.mem_range.1 hk; omega
  · rintro ⟨h1, h2⟩; exact ⟨s.toNat, List.mem_range.2 (by omega), by omega⟩
theorem rangeI_get {n k : Nat} (h : k < n) : (rangeI n)[k]? = some (k : Int) := by simp [rangeI, h]
theorem rangeI_len (n : Nat) : (rangeI n).length = n := by simp [rangeI]
structure Canon (d : DF) : Prop where
  wf : WF d
  bfs : ∃ i0, ∀ i, i0 ≤ i → (expl (stepS d) d.2.2.2.1 d.1 i).1 = rangeI d.2.1.length
  red : ∀ s t, In d s → In d t → EqvN d s t → s = t
  cols : ∀ c (h : c + 1 < d.1.length), ∃ s, In d s ∧ stepS d s d.1[c + 1] ≠ stepS d s d.1[c]
theorem bfs_reach {d : DF} (hw : WF d) {i : Nat} (hb : (expl (stepS d) d.2.2.2.1 d.1 i).1 = rangeI d.2.1.length) {s : Int} (hs : In d s) : ∃ w, Valid w ∧ runD d w = s := by
  have hm := rangeI_mem.2 hs
  rw [← hb] at hm
  obtain ⟨k, hk, hk2⟩ := List.mem_iff_getElem.1 hm
  obtain ⟨p, hp⟩ := (expl_ok (f := stepS d) (s0 := d.2.2.2.1) (ls := d.1) i).tr k hk
  obtain ⟨h1, h2⟩ := hp.reaches (expl_ok i)
  rw [List.getElem?_eq_getElem hk, hk2] at h1
  exact ⟨p, fun v hv => starts_nonneg hw.starts v (h2 v hv), (Option.some.inj h1).symm⟩
theorem mem_starts {d : DF} (h : Canon d) (v : Int) : v ∈ d.1 ↔ v = 0 ∨ (0 < v ∧ v ≤ 4294967295 ∧ ∃ w, Valid w ∧ runD d (w ++ [v]) ≠ runD d (w ++ [v - 1])) := by
  have hst := h.wf.starts
  constructor
  · intro hv
    have hv2 := starts_nonneg hst v hv
    obtain ⟨i, hi, rfl⟩ := List.mem_iff_getElem.1 hv
    cases i with
    | zero => exact .inl (hst.2.1 hst.1)
    | succ c =>
      have hlt := hst.2.2.1 c hi
      have h0 := (starts_nonneg hst d.1[c] (List.getElem_mem _)).1
      refine .inr ⟨by omega, hv2.2, ?_⟩
      obtain ⟨s, hs, hne⟩ := h.cols c hi
      obtain ⟨i0, hb⟩ := h.bfs
      obtain ⟨w, hw, rfl⟩ := bfs_reach h.wf (hb i0 (Nat.le_refl _)) hs
      refine ⟨w, hw, ?_⟩
      rw [runD_app, runD_app]
      show stepS d (runD d w) d.1[c + 1] ≠ stepS d (runD d w) (d.1[c + 1] - 1)
      have e : stepS d (runD d w) (d.1[c + 1] - 1) = stepS d (runD d w) d.1[c] := by
        rw [step_col, step_col, class_at hst (by omega)]
        congr 1
        refine class_eq ⟨by omega, by omega, fun j hj hcj => ?_⟩
        rcases Nat.lt_or_eq_of_le (show c + 1 ≤ j by omega) with h1 | rfl
        · have := starts_lt hst j (c + 1) hj h1; omega
        · omega
      rw [e]; exact hne
  · rintro (rfl | ⟨h0, hm, w, hw, hne⟩)
    · have := hst.2.1 hst.1
      rw [← this]; exact List.getElem_mem _
    · refine Classical.byContradiction fun hn => hne ?_
      rw [runD_app, runD_app]
      show stepS d (runD d w) v = stepS d (runD d w) (v - 1)
      rw [step_col, step_col]
      congr 1
      obtain ⟨h1, h2, h3⟩ := class_wf hst (show 0 ≤ v by omega)
      symm
      refine class_eq ⟨h1, ?_, fun j hj hcj => by have := h3 j hj hcj; omega⟩
      have : d.1[classS d.1 v] ≠ v := fun e => hn (e ▸ List.getElem_mem h1)
      omega
theorem canon_unique {a b : DF} (ha : Canon a) (hb : Canon b) (hl : ∀ w, Valid w → accS a (runD a w) = accS b (runD b w)) : a = b := by
  have half : ∀ {a b : DF}, Canon b → (∀ w, Valid w → accS a (runD a w) = accS b (runD b w)) → ∀ w u, Valid w → Valid u → runD a w = runD a u → runD b w = runD b u := by
    intro a b hb hl w u hw hu he
    refine hb.red _ _ (runD_mem hb.wf hw) (runD_mem hb.wf hu) fun x hx => ?_
    rw [← runD_app, ← runD_app, ← hl _ (hw.app hx), ← hl _ (hu.app hx), runD_app, runD_app, he]
  have hR : ∀ w u, Valid w → Valid u → (runD a w = runD a u ↔ runD b w = runD b u) := fun w u hw hu =>
    ⟨half hb hl w u hw hu, half ha (fun w hw => (hl w hw).symm) w u hw hu⟩
  have hst : a.1 = b.1 := by
    refine asc_unique _ _ (starts_asc ha.wf.starts) (starts_asc hb.wf.starts) fun v => ?_
    rw [mem_starts ha, mem_starts hb]
    refine or_congr Iff.rfl ⟨fun ⟨h0, hm, w, hw, hne⟩ => ⟨h0, hm, w, hw, fun e => hne ?_⟩, fun ⟨h0, hm, w, hw, hne⟩ => ⟨h0, hm, w, hw, fun e => hne ?_⟩⟩
    · exact (hR _ _ (hw.app (valid_one (by omega))) (hw.app (valid_one (by omega)))).2 e
    · exact (hR _ _ (hw.app (valid_one (by omega))) (hw.app (valid_one (by omega)))).1 e
  have hrel := expl_rel (f := stepS a) (g := stepS b) (h := id) (s0 := a.2.2.2.1) (t0 := b.2.2.2.1) (ls := a.1) (Rel := fun s t => ∃ w, Valid w ∧ runD a w = s ∧ runD b w = t)
    ⟨[], (fun _ h => by cases h), rfl, rfl⟩
    (fun x y c hc ⟨w, hw, h1, h2⟩ => ⟨w ++ [c], hw.app (valid_one (starts_nonneg ha.wf.starts c hc)), by rw [runD_app, h1]; rfl, by rw [runD_app, h2]; rfl⟩)
    (fun s s' t t' ⟨w, hw, h1, h2⟩ ⟨u, hu, g1, g2⟩ => by subst h1 h2 g1 g2; exact hR w u hw hu)
  obtain ⟨i1, hba⟩ := ha.bfs
  obtain ⟨i2, hbb⟩ := hb.bfs
  have hF := (hrel (max i1 i2)).1
  rw [List.map_id, hba _ (by omega), hst, hbb _ (by omega)] at hF
  have hn : a.2.1.length = b.2.1.length := by have := hF.len; rwa [rangeI_len, rangeI_len] at this
  have hk : ∀ s, In a s → ∃ w, Valid w ∧ runD a w = s ∧ runD b w = s := by
    intro s hs
    have h1 : s.toNat < a.2.1.length := by have := hs.1; have := hs.2; omega
    have e1 := rangeI_get h1
    have e2 := rangeI_get (n := b.2.1.length) (k := s.toNat) (by omega)
    rw [show ((s.toNat : Nat) : Int) = s from Int.toNat_of_nonneg hs.1] at e1 e2
    exact hF.get e1 e2
  have hstep : ∀ s v, In a s → 0 ≤ v ∧ v ≤ 4294967295 → stepS a s v = stepS b s v := by
    intro s v hs hv
    obtain ⟨w, hw, h1, h2⟩ := hk s hs
    obtain ⟨u, hu, g1, g2⟩ := hk _ (step_in ha.wf hs hv.1)
    have h3 : runD a (w ++ [v]) = stepS a s v := by rw [runD_app, h1]; rfl
    have h4 : runD b (w ++ [v]) = stepS b s v := by rw [runD_app, h2]; rfl
    have := (hR _ _ (hw.app (valid_one hv)) hu).1 (h3.trans g1.symm)
    rw [← h4, this, g2]
  refine Prod.ext hst (Prod.ext ?_ (Prod.ext ?_ (Prod.ext ?_ rfl)))
  · refine List.ext_getElem hn fun k h1 h2 => ?_
    have hin : In a (k : Int) := ⟨by omega, by omega⟩
    have hin' : In b (k : Int) := ⟨by omega, by omega⟩
    refine List.ext_getElem (by rw [ha.wf.rows _ (List.getElem_mem h1), hb.wf.rows _ (List.getElem_mem h2), hst]) fun c g1 g2 => ?_
    have hca : c < a.1.length := by rw [← ha.wf.rows _ (List.getElem_mem h1)]; exact g1
    have hcb : c < b.1.length := by rw [← hst]; exact hca
    obtain ⟨_, _, e1, _⟩ := col_at ha.wf hin hca
    obtain ⟨_, _, e2, _⟩ := col_at hb.wf hin' hcb
    simp only [Int.toNat_natCast] at e1 e2
    rw [e1, e2, ← step_at_start ha.wf _ hca, ← step_at_start hb.wf _ hcb]
    have e3 : b.1[c] = a.1[c] := by simp only [hst]
    rw [e3]
    exact hstep _ _ hin (starts_nonneg ha.wf.starts _ (List.getElem_mem _))
  · refine List.ext_getElem (by rw [ha.wf.len.2, hb.wf.len.2, hn]) fun k h1 h2 => ?_
    have hin : In a (k : Int) := ⟨by omega, by have := ha.wf.len.2; omega⟩
    obtain ⟨w, hw, e1, e2⟩ := hk _ hin
    have := hl w hw
    rw [e1, e2] at this
    unfold accS at this
    simpa [List.getD_eq_getElem?_getD, List.getElem?_eq_getElem h1, List.getElem?_eq_getElem h2] using this
  · have h0 := (expl_ok (f := stepS a) (s0 := a.2.2.2.1) (ls := a.1) (max i1 i2)).head
    have h0' := (expl_ok (f := stepS b) (s0 := b.2.2.2.1) (ls := b.1) (max i1 i2)).head
    rw [hba _ (by omega), rangeI_get ha.wf.len.1] at h0
    rw [hbb _ (by omega), rangeI_get hb.wf.len.1] at h0'
    rw [← Option.some.inj h0, ← Option.some.inj h0']
theorem mini_canon {d m : DF} (hm : WF m) {ψ : Int → Int} {P : Int → Prop} (hP0 : P d.2.2.2.1) (hPs : ∀ s v, P s → 0 ≤ v → P (stepS d s v)) (h1 : ψ d.2.2.2.1 = m.2.2.2.1)
    (h2 : ∀ s v, P s → 0 ≤ v → ψ (stepS d s v) = stepS m (ψ s) v) (h3 : ∀ s, P s → accS m (ψ s) = accS d s) (h4 : ∀ s t, P s → P t → EqvN d s t → ψ s = ψ t)
    (hb : ∃ i0, ∀ i, i0 ≤ i → (expl (stepS m) m.2.2.2.1 m.1 i).1 = rangeI m.2.1.length) (hc : ∀ c (h : c + 1 < m.1.length), ∃ s, In m s ∧ stepS m s m.1[c + 1] ≠ stepS m s m.1[c]) :
    Canon m ∧ ∀ w, Valid w → accS m (runD m w) = accS d (runD d w) := by
  have hf : ∀ (w : List Int) (s : Int), P s → Valid w → ψ (w.foldl (stepS d) s) = w.foldl (stepS m) (ψ s) ∧ P (w.foldl (stepS d) s) := by
    intro w
    induction w with
    | nil => intro s hs _; exact ⟨rfl, hs⟩
    | cons v w ih =>
      intro s hs hw
      have hv := (hw v (List.mem_cons_self ..)).1
      have := ih (stepS d s v) (hPs s v hs hv) fun u hu => hw u (List.mem_cons_of_mem _ hu)
      rw [h2 s v hs hv] at this
      exact this
  have hrun : ∀ w, Valid w → ψ (runD d w) = runD m w ∧ P (runD d w) := fun w hw => by
    have := hf w _ hP0 hw
    rw [h1] at this
    exact this
  refine ⟨⟨hm, hb, fun s t hs ht he => ?_, hc⟩, fun w hw => ?_⟩
  · obtain ⟨i0, hb0⟩ := hb
    obtain ⟨w, hw, rfl⟩ := bfs_reach hm (hb0 i0 (Nat.le_refl _)) hs
    obtain ⟨u, hu, rfl⟩ := bfs_reach hm (hb0 i0 (Nat.le_refl _)) ht
    obtain ⟨e1, p1⟩ := hrun w hw
    obtain ⟨e2, p2⟩ := hrun u hu
    rw [← e1, ← e2]
    refine h4 _ _ p1 p2 fun x hx => ?_
    have f1 := hf x _ p1 hx
    have f2 := hf x _ p2 hx
    rw [← h3 _ f1.2, ← h3 _ f2.2, f1.1, f2.1, e1, e2]
    exact he x hx
  · obtain ⟨e1, p1⟩ := hrun w hw
    rw [← e1, h3 _ p1]
end Go.Proofs.Ytbpdbooalkkenaa

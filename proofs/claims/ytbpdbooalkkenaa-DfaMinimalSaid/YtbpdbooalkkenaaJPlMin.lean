/-
  PLAIN: states with the same language; refining partitions; explorations that run alike.
-/
import Derived.Test.YtbpdbooalkkenaaJPlExpl
set_option linter.unusedVariables false
set_option linter.unusedSimpArgs false
namespace Go.Pl
section
variable {σ β σ' β' : Type}
inductive F2 (R : σ → σ' → Prop) : List σ → List σ' → Prop
  | nil : F2 R [] []
  | cons {x : σ} {y : σ'} {l : List σ} {l' : List σ'} : R x y → F2 R l l' → F2 R (x :: l) (y :: l')
theorem F2.len {R : σ → σ' → Prop} {l : List σ} {l' : List σ'} (h : F2 R l l') : l.length = l'.length := by
  induction h with
  | nil => rfl
  | cons _ _ ih => simp [ih]
theorem F2.get {R : σ → σ' → Prop} {l : List σ} {l' : List σ'} (h : F2 R l l') : ∀ {i : Nat} {x : σ} {y : σ'}, l[i]? = some x → l'[i]? = some y → R x y := by
  induction h with
  | nil => intro i x y h; simp at h
  | cons hr _ ih =>
    intro i x y hx hy
    cases i with
    | zero => simp at hx hy; subst hx hy; exact hr
    | succ i => exact ih (by simpa using hx) (by simpa using hy)
theorem F2.app {R : σ → σ' → Prop} {l k : List σ} {l' k' : List σ'} (h : F2 R l l') (h' : F2 R k k') : F2 R (l ++ k) (l' ++ k') := by
  induction h with
  | nil => exact h'
  | cons hr _ ih => exact .cons hr ih
def Eqv (f : σ → β → σ) (acc : σ → Bool) (ls : List β) (s t : σ) : Prop := ∀ w : List β, (∀ c ∈ w, c ∈ ls) → acc (w.foldl f s) = acc (w.foldl f t)
variable {f : σ → β → σ} {acc : σ → Bool} {ls : List β}
theorem Eqv.refl (s : σ) : Eqv f acc ls s s := fun _ _ => rfl
theorem Eqv.symm {s t : σ} (h : Eqv f acc ls s t) : Eqv f acc ls t s := fun w hw => (h w hw).symm
theorem Eqv.trans {s t u : σ} (h : Eqv f acc ls s t) (h' : Eqv f acc ls t u) : Eqv f acc ls s u := fun w hw => (h w hw).trans (h' w hw)
theorem Eqv.nil {s t : σ} (h : Eqv f acc ls s t) : acc s = acc t := h [] (by simp)
theorem Eqv.step {s t : σ} (h : Eqv f acc ls s t) {c : β} (hc : c ∈ ls) : Eqv f acc ls (f s c) (f t c) := fun w hw => h (c :: w) fun x hx => by
  rcases List.mem_cons.1 hx with rfl | hx
  · exact hc
  · exact hw x hx
theorem stable_eqv {P : σ → Prop} {b : σ → Int} (hP : ∀ s c, c ∈ ls → P s → P (f s c)) (ha : ∀ s t, P s → P t → b s = b t → acc s = acc t)
    (hs : ∀ s t c, c ∈ ls → P s → P t → b s = b t → b (f s c) = b (f t c)) {s t : σ} (h1 : P s) (h2 : P t) (h : b s = b t) : Eqv f acc ls s t := by
  intro w
  induction w generalizing s t with
  | nil => intro _; exact ha s t h1 h2 h
  | cons c w ih =>
    intro hw
    have hc := hw c (List.mem_cons_self ..)
    exact ih (hP s c hc h1) (hP t c hc h2) (hs s t c hc h1 h2 h) fun x hx => hw x (List.mem_cons_of_mem _ hx)
theorem same_classes {P : σ → Prop} {b b' : σ → Int} {m : Nat} (hon : ∀ i : Nat, i < m → ∃ s, P s ∧ b s = (i : Int)) (hb' : ∀ s, P s → 0 ≤ b' s ∧ b' s < (m : Int))
    (href : ∀ s t, P s → P t → b' s = b' t → b s = b t) {s t : σ} (h1 : P s) (h2 : P t) (h : b s = b t) : b' s = b' t := by
  obtain ⟨rep, hrep⟩ : ∃ rep : Nat → σ, ∀ i, i < m → P (rep i) ∧ b (rep i) = (i : Int) :=
    ⟨fun i => if h : i < m then Classical.choose (hon i h) else s, fun i hi => by simp only [hi, dif_pos]; exact Classical.choose_spec (hon i hi)⟩
  have hnd : ((List.range m).map fun i => b' (rep i)).Nodup := by
    rw [List.nodup_iff_pairwise_ne, List.pairwise_map]
    refine List.Pairwise.imp_of_mem ?_ (List.nodup_iff_pairwise_ne.1 List.nodup_range)
    intro i j hi hj hij he
    have hi := List.mem_range.1 hi
    have hj := List.mem_range.1 hj
    have := href _ _ (hrep i hi).1 (hrep j hj).1 he
    rw [(hrep i hi).2, (hrep j hj).2] at this
    omega
  have hall : ∀ x : Int, 0 ≤ x → x < (m : Int) → x ∈ (List.range m).map fun i => b' (rep i) := by
    intro x h0 hx
    refine Classical.byContradiction fun hn => ?_
    have hm : x ∈ (List.range m).map fun (i : Nat) => (i : Int) := List.mem_map.2 ⟨x.toNat, List.mem_range.2 (by omega), by omega⟩
    have := nodup_len ((List.range m).map fun i => b' (rep i)) (((List.range m).map fun (i : Nat) => (i : Int)).erase x) hnd fun y hy => by
      obtain ⟨i, hi, rfl⟩ := List.mem_map.1 hy
      have hi := List.mem_range.1 hi
      have hbi := hb' _ (hrep i hi).1
      refine (List.mem_erase_of_ne ?_).2 (List.mem_map.2 ⟨(b' (rep i)).toNat, List.mem_range.2 (by omega), by omega⟩)
      rintro rfl
      exact hn (List.mem_map.2 ⟨i, List.mem_range.2 hi, rfl⟩)
    have h3 := List.length_erase_of_mem hm
    have h4 := List.length_pos_of_mem hm
    simp only [List.length_map, List.length_range] at this h3 h4
    omega
  have key : ∀ u, P u → b' u = b' (rep (b u).toNat) := by
    intro u hu
    obtain ⟨i, hi, he⟩ := List.mem_map.1 (hall _ (hb' u hu).1 (hb' u hu).2)
    have hi := List.mem_range.1 hi
    have := href _ _ (hrep i hi).1 hu he
    rw [(hrep i hi).2] at this
    rw [← this]
    simp only [Int.toNat_natCast]
    exact he.symm
  rw [key s h1, key t h2, h]
variable [DecidableEq σ] [DecidableEq σ']
theorem row_rel {Rel : σ → σ' → Prop} {g : σ' → β' → σ'} {h : β → β'} {x : σ} {y : σ'} {i : Nat} (hinj : ∀ a a' b b', Rel a b → Rel a' b' → (a = a' ↔ b = b')) :
    ∀ (l : List β), (∀ c ∈ l, Rel (f x c) (g y (h c))) → ∀ (L : List σ) (L' : List σ') (T : List (Nat × β)) (R : List Nat), F2 Rel L L' →
    F2 Rel (l.foldl (rowStep f x i) (L, T, R)).1 ((l.map h).foldl (rowStep g y i) (L', T.map (fun t => (t.1, h t.2)), R)).1 ∧
    ((l.map h).foldl (rowStep g y i) (L', T.map (fun t => (t.1, h t.2)), R)).2.1 = (l.foldl (rowStep f x i) (L, T, R)).2.1.map (fun t => (t.1, h t.2)) ∧
    ((l.map h).foldl (rowStep g y i) (L', T.map (fun t => (t.1, h t.2)), R)).2.2 = (l.foldl (rowStep f x i) (L, T, R)).2.2
  | [], _, _, _, _, _, hL => ⟨hL, rfl, rfl⟩
  | c :: l, hst, L, L', T, R, hL => by
    have hc := hst c (List.mem_cons_self ..)
    have hmem : ∀ (L : List σ) (L' : List σ'), F2 Rel L L' → (f x c ∈ L ↔ g y (h c) ∈ L') ∧ pos L (f x c) = pos L' (g y (h c)) := by
      intro L L' hL
      induction hL with
      | nil => simp [pos]
      | @cons a b L L' hab hL ih =>
        have he := hinj a (f x c) b (g y (h c)) hab hc
        by_cases e : a = f x c
        · have e' := he.1 e
          subst e e'
          exact ⟨by simp, by rw [pos_eq, pos_eq]⟩
        · have e' : ¬ b = g y (h c) := fun h => e (he.2 h)
          refine ⟨?_, by rw [pos_ne e, pos_ne e', ih.2]⟩
          simp only [List.mem_cons, ih.1]
          constructor
          · rintro (h | h)
            · exact absurd h.symm e
            · exact .inr h
          · rintro (h | h)
            · exact absurd h.symm e'
            · exact .inr h
    have hm := hmem L L' hL
    have hlen : L.length = L'.length := F2.len hL
    have ih := row_rel (Rel := Rel) (g := g) (h := h) (x := x) (y := y) (i := i) hinj l fun c' hc' => hst c' (List.mem_cons_of_mem _ hc')
    rw [List.foldl_cons, List.map_cons, List.foldl_cons]
    by_cases hin : f x c ∈ L
    · have hin' := hm.1.1 hin
      have e1 : rowStep f x i (L, T, R) c = (L, T, R ++ [pos L (f x c)]) := by simp only [rowStep, if_pos hin]
      have e2 : rowStep g y i (L', T.map (fun t => (t.1, h t.2)), R) (h c) = (L', T.map (fun t => (t.1, h t.2)), R ++ [pos L (f x c)]) := by simp only [rowStep, if_pos hin', hm.2]
      rw [e1, e2]
      exact ih L L' T _ hL
    · have hin' : g y (h c) ∉ L' := fun e => hin (hm.1.2 e)
      have e1 : rowStep f x i (L, T, R) c = (L ++ [f x c], T ++ [(i, c)], R ++ [L.length]) := by simp only [rowStep, if_neg hin]
      have e2 : rowStep g y i (L', T.map (fun t => (t.1, h t.2)), R) (h c) = (L' ++ [g y (h c)], (T ++ [(i, c)]).map (fun t => (t.1, h t.2)), R ++ [L.length]) := by
        simp only [rowStep, if_neg hin', hlen, List.map_append, List.map_cons, List.map_nil]
      rw [e1, e2]
      refine ih _ _ _ _ (F2.app hL ?_)
      exact .cons hc .nil
theorem expl_rel {Rel : σ → σ' → Prop} {g : σ' → β' → σ'} {h : β → β'} {s0 : σ} {t0 : σ'} (h0 : Rel s0 t0) (hst : ∀ x y c, c ∈ ls → Rel x y → Rel (f x c) (g y (h c)))
    (hinj : ∀ a a' b b', Rel a b → Rel a' b' → (a = a' ↔ b = b')) : ∀ i, F2 Rel (expl f s0 ls i).1 (expl g t0 (ls.map h) i).1 ∧
    (expl g t0 (ls.map h) i).2.1 = (expl f s0 ls i).2.1.map (fun t => (t.1, h t.2)) ∧ (expl g t0 (ls.map h) i).2.2 = (expl f s0 ls i).2.2
  | 0 => ⟨.cons h0 .nil, rfl, rfl⟩
  | i + 1 => by
    obtain ⟨h1, h2, h3⟩ := expl_rel h0 hst hinj i
    have hlen := F2.len h1
    by_cases hi : i < (expl f s0 ls i).1.length
    · have hx := List.getElem?_eq_getElem hi
      have hy := List.getElem?_eq_getElem (l := (expl g t0 (ls.map h) i).1) (i := i) (by omega)
      rw [expl_succ_some hx, expl_succ_some hy, h2, h3]
      have hr : Rel (expl f s0 ls i).1[i] (expl g t0 (ls.map h) i).1[i] := F2.get h1 hx hy
      obtain ⟨g1, g2, g3⟩ := row_rel (f := f) (g := g) (h := h) (i := i) (x := (expl f s0 ls i).1[i]) (y := (expl g t0 (ls.map h) i).1[i]) hinj ls (fun c hc => hst _ _ c hc hr) _ _ (expl f s0 ls i).2.1 [] h1
      exact ⟨g1, g2, by rw [g3]⟩
    · rw [expl_succ_none (List.getElem?_eq_none (by omega)), expl_succ_none (List.getElem?_eq_none (by omega))]
      exact ⟨h1, h2, h3⟩
def addAll (L : List σ) (ys : List σ) : List σ := ys.foldl (fun L y => if y ∈ L then L else L ++ [y]) L
theorem row_addAll {x : σ} {i : Nat} : ∀ (l : List β) (st : List σ × List (Nat × β) × List Nat), (l.foldl (rowStep f x i) st).1 = addAll st.1 (l.map (f x))
  | [], _ => rfl
  | c :: l, st => by
    rw [List.foldl_cons, row_addAll l, List.map_cons]
    unfold addAll
    rw [List.foldl_cons]
    congr 1
    unfold rowStep
    split <;> rfl
theorem addAll_append (L ys zs : List σ) : addAll L (ys ++ zs) = addAll (addAll L ys) zs := List.foldl_append
theorem addAll_mem : ∀ (ys L : List σ), (∀ x ∈ L, x ∈ addAll L ys) ∧ ∀ y ∈ ys, y ∈ addAll L ys
  | [], L => ⟨fun _ h => h, by simp⟩
  | y :: ys, L => by
    have h1 : y ∈ (if y ∈ L then L else L ++ [y]) := by split <;> simp_all
    have h2 : ∀ x ∈ L, x ∈ (if y ∈ L then L else L ++ [y]) := fun x hx => by split <;> simp_all
    have ih := addAll_mem ys (if y ∈ L then L else L ++ [y])
    refine ⟨fun x hx => ih.1 x (h2 x hx), fun z hz => ?_⟩
    rcases List.mem_cons.1 hz with rfl | hz
    · exact ih.1 _ h1
    · exact ih.2 z hz
theorem addAll_in {L : List σ} {y : σ} (h : y ∈ L) : addAll L [y] = L := by simp [addAll, h]
theorem addAll_new {L : List σ} {y : σ} (h : y ∉ L) : addAll L [y] = L ++ [y] := by simp [addAll, h]
theorem addAll_filter (y : Nat → σ) (kp : Nat → Bool) : ∀ (k : Nat) (L : List σ), (∀ c, c < k → kp c = false → 0 < c ∧ y c = y (c - 1)) → addAll L (((List.range k).filter kp).map y) = addAll L ((List.range k).map y)
  | 0, _, _ => rfl
  | k + 1, L, h => by
    have ih := addAll_filter y kp k L fun c hc => h c (by omega)
    rw [List.range_succ, List.filter_append, List.map_append, List.map_append, addAll_append, addAll_append, ih]
    cases hk : kp k
    · obtain ⟨h0, he⟩ := h k (by omega) hk
      have : y k ∈ addAll L ((List.range k).map y) := (addAll_mem _ _).2 _ (List.mem_map.2 ⟨k - 1, List.mem_range.2 (by omega), he.symm⟩)
      rw [show [k].filter kp = [] from by simp [hk]]
      simp only [List.map_nil, List.map_cons]
      rw [addAll_in this]; rfl
    · rw [show [k].filter kp = [k] from by simp [hk]]
theorem expl_drop {f : σ → Nat → σ} {s0 : σ} {k : Nat} {kp : Nat → Bool} : ∀ i, (∀ x ∈ (expl f s0 (List.range k) i).1, ∀ c, c < k → kp c = false → 0 < c ∧ f x c = f x (c - 1)) →
    (expl f s0 ((List.range k).filter kp) i).1 = (expl f s0 (List.range k) i).1
  | 0, _ => rfl
  | i + 1, h => by
    have ih := expl_drop (f := f) (s0 := s0) (k := k) (kp := kp) i fun x hx => h x ((expl_pre i).1.subset hx)
    by_cases hi : i < (expl f s0 (List.range k) i).1.length
    · have hx := List.getElem?_eq_getElem hi
      have hx' : (expl f s0 ((List.range k).filter kp) i).1[i]? = some (expl f s0 (List.range k) i).1[i] := by rw [ih]; exact hx
      rw [expl_succ_some hx, expl_succ_some hx']
      simp only
      rw [row_addAll, row_addAll]
      simp only [ih]
      exact addAll_filter _ _ _ _ fun c hc hk => h _ ((expl_pre i).1.subset (List.getElem_mem hi)) c hc hk
    · rw [expl_succ_none (f := f) (ls := List.range k) (List.getElem?_eq_none (by omega)), expl_succ_none (List.getElem?_eq_none (by rw [ih]; omega)), ih]
end
end Go.Pl

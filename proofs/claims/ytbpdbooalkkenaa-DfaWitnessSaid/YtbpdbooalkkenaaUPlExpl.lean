/-
  PLAIN: exploring from a start, breadth first; every node once.
-/
set_option linter.unusedVariables false
set_option linter.unusedSimpArgs false
namespace Go.Pl
section
variable {α β σ τ : Type}
def foldS (f : σ → β → σ ⊕ τ) : σ → List β → σ ⊕ τ
  | s, [] => .inl s
  | s, x :: xs => match f s x with
    | .inl s' => foldS f s' xs
    | .inr b => .inr b
theorem nodup_len [DecidableEq α] : ∀ (l u : List α), l.Nodup → (∀ x ∈ l, x ∈ u) → l.length ≤ u.length
  | [], _, _, _ => Nat.zero_le _
  | x :: l, u, hn, hs => by
    have hx := hs x (List.mem_cons_self ..)
    have hn' := List.nodup_cons.1 hn
    have h := nodup_len l (u.erase x) hn'.2 fun y hy => by
      refine (List.mem_erase_of_ne ?_).2 (hs y (List.mem_cons_of_mem _ hy))
      rintro rfl
      exact hn'.1 hy
    have := List.length_erase_of_mem hx
    have := List.length_pos_of_mem hx
    simp only [List.length_cons]
    omega
theorem pre_get' {L L' : List τ} (h : L <+: L') {i : Nat} {x : τ} (hx : L[i]? = some x) : L'[i]? = some x := by
  obtain ⟨t, rfl⟩ := h
  rw [List.getElem?_append_left (List.getElem?_eq_some_iff.1 hx).1]; exact hx
section
variable {f : α → β → α} {s0 : α} {ls : List β}
theorem pre_get {L L' : List α} (h : L <+: L') {i : Nat} {x : α} (hx : L[i]? = some x) : L'[i]? = some x := by
  obtain ⟨t, rfl⟩ := h
  rw [List.getElem?_append_left (List.getElem?_eq_some_iff.1 hx).1]; exact hx
structure Ok (f : α → β → α) (s0 : α) (ls : List β) (L : List α) (T : List (Nat × β)) : Prop where
  nodup : L.Nodup
  len : L.length = T.length + 1
  head : L[0]? = some s0
  link : ∀ k j c, T[k]? = some (j, c) → j < k + 1 ∧ c ∈ ls ∧ ∃ x, L[j]? = some x ∧ L[k + 1]? = some (f x c)
theorem Ok.add {L : List α} {T : List (Nat × β)} (h : Ok f s0 ls L T) {x : α} {i : Nat} {c : β} (hx : L[i]? = some x) (hc : c ∈ ls) (hn : f x c ∉ L) : Ok f s0 ls (L ++ [f x c]) (T ++ [(i, c)]) := by
  have hi : i < L.length := (List.getElem?_eq_some_iff.1 hx).1
  have hl := h.len
  refine ⟨?_, by simp [hl], ?_, fun k j c' hk => ?_⟩
  · rw [List.nodup_append]
    exact ⟨h.nodup, by simp, fun a ha b hb => by simp at hb; subst hb; rintro rfl; exact hn ha⟩
  · rw [List.getElem?_append_left (by omega)]; exact h.head
  · by_cases hk2 : k < T.length
    · rw [List.getElem?_append_left hk2] at hk
      obtain ⟨h1, h2, y, h3, h4⟩ := h.link k j c' hk
      exact ⟨h1, h2, y, by rw [List.getElem?_append_left (by omega)]; exact h3, by rw [List.getElem?_append_left (by omega)]; exact h4⟩
    · rw [List.getElem?_append_right (by omega)] at hk
      have hk3 : k = T.length := by
        have := (List.getElem?_eq_some_iff.1 hk).1
        simp at this; omega
      subst hk3
      simp at hk
      obtain ⟨rfl, rfl⟩ := hk
      refine ⟨by omega, hc, x, by rw [List.getElem?_append_left hi]; exact hx, ?_⟩
      rw [show T.length + 1 = L.length by omega]
      simp
theorem Ok.inv {P : α → Prop} {L : List α} {T : List (Nat × β)} (h : Ok f s0 ls L T) (h0 : P s0) (hP : ∀ x c, c ∈ ls → P x → P (f x c)) : ∀ (k : Nat) (x : α), L[k]? = some x → P x := by
  intro k
  induction k using Nat.strongRecOn with
  | ind k ih =>
    intro x hx
    match k with
    | 0 => rw [h.head] at hx; cases hx; exact h0
    | k + 1 =>
      have hk := (List.getElem?_eq_some_iff.1 hx).1
      have hT := List.getElem?_eq_getElem (l := T) (i := k) (by have := h.len; omega)
      obtain ⟨h1, h2, y, h3, h4⟩ := h.link k _ _ hT
      rw [h4] at hx
      cases hx
      exact hP _ _ h2 (ih _ h1 y h3)
def Quiet (sp : List α → α → Bool) (L : List α) : Prop := ∀ k x, L[k + 1]? = some x → sp (L.take (k + 1)) x = false
theorem Quiet.add {sp : List α → α → Bool} {L : List α} {y : α} (h : Quiet sp L) (hs : sp L y = false) : Quiet sp (L ++ [y]) := by
  intro k x hx
  by_cases hk : k + 1 < L.length
  · rw [List.getElem?_append_left hk] at hx
    rw [List.take_append_of_le_length (by omega)]
    exact h k x hx
  · have hk2 := (List.getElem?_eq_some_iff.1 hx).1
    simp at hk2
    have : k + 1 = L.length := by omega
    rw [this] at hx ⊢
    simp at hx
    subst hx
    simpa using hs
theorem Ok.pre {L L' : List α} {T T' : List (Nat × β)} (h : Ok f s0 ls L T) (hL : L' <+: L) (hT : T' <+: T) (hl : L'.length = T'.length + 1) : Ok f s0 ls L' T' := by
  have hget : ∀ k, k < L'.length → L'[k]? = L[k]? := fun k hk => by
    obtain ⟨t, rfl⟩ := hL
    rw [List.getElem?_append_left hk]
  refine ⟨h.nodup.sublist hL.sublist, hl, by rw [hget 0 (by omega)]; exact h.head, fun k j c hk => ?_⟩
  have hk' := (List.getElem?_eq_some_iff.1 hk).1
  obtain ⟨h1, h2, x, h3, h4⟩ := h.link k j c (pre_get' hT hk)
  exact ⟨h1, h2, x, by rw [hget j (by omega)]; exact h3, by rw [hget (k + 1) (by omega)]; exact h4⟩
inductive Tr (T : List (Nat × β)) : Nat → List β → Prop
  | zero : Tr T 0 []
  | step {k j : Nat} {c : β} {p : List β} : T[k]? = some (j, c) → Tr T j p → Tr T (k + 1) (p ++ [c])
theorem Tr.unique {T : List (Nat × β)} {k : Nat} {p : List β} (h : Tr T k p) : ∀ {q : List β}, Tr T k q → p = q := by
  induction h with
  | zero => intro q h; cases h; rfl
  | step h1 _ ih =>
    intro q h
    cases h with
    | step g1 g2 =>
      rw [h1] at g1
      cases g1
      rw [ih g2]
theorem Tr.mono {T T' : List (Nat × β)} (hp : T <+: T') {k : Nat} {p : List β} (h : Tr T k p) : Tr T' k p := by
  induction h with
  | zero => exact .zero
  | step h1 _ ih => exact .step (pre_get' hp h1) ih
theorem Tr.reaches {L : List α} {T : List (Nat × β)} (h : Ok f s0 ls L T) {k : Nat} {p : List β} (ht : Tr T k p) : L[k]? = some (p.foldl f s0) ∧ ∀ c ∈ p, c ∈ ls := by
  induction ht with
  | zero => exact ⟨h.head, by simp⟩
  | step h1 _ ih =>
    obtain ⟨_, h2, x, h3, h4⟩ := h.link _ _ _ h1
    rw [ih.1] at h3
    cases h3
    refine ⟨by rw [h4, List.foldl_append]; rfl, fun c hc => ?_⟩
    rcases List.mem_append.1 hc with hc | hc
    · exact ih.2 c hc
    · simp at hc; subst hc; exact h2
theorem Ok.tr {L : List α} {T : List (Nat × β)} (h : Ok f s0 ls L T) : ∀ k, k < L.length → ∃ p, Tr T k p := by
  intro k
  induction k using Nat.strongRecOn with
  | ind k ih =>
    intro hk
    match k with
    | 0 => exact ⟨[], .zero⟩
    | k + 1 =>
      have hT := List.getElem?_eq_getElem (l := T) (i := k) (by have := h.len; omega)
      obtain ⟨h1, _⟩ := h.link k _ _ hT
      obtain ⟨p, hp⟩ := ih _ h1 (by omega)
      exact ⟨_, .step hT hp⟩
theorem Tr.len {L : List α} {T : List (Nat × β)} (h : Ok f s0 ls L T) {k : Nat} {p : List β} (ht : Tr T k p) : p.length ≤ k := by
  induction ht with
  | zero => exact Nat.le_refl _
  | step h1 _ ih =>
    have := (h.link _ _ _ h1).1
    simp only [List.length_append, List.length_singleton]
    omega
end
variable [DecidableEq α]
abbrev pos (L : List α) (x : α) : Nat := L.idxOf x
theorem pos_ne {x y : α} {L : List α} (h : x ≠ y) : pos (x :: L) y = pos L y + 1 := by
  unfold pos
  rw [List.idxOf_cons, show (x == y) = false from by simpa using h]; rfl
theorem pos_eq {x : α} {L : List α} : pos (x :: L) x = 0 := by
  unfold pos
  rw [List.idxOf_cons]; simp
def rowStep (f : α → β → α) (x : α) (i : Nat) (st : List α × List (Nat × β) × List Nat) (c : β) : List α × List (Nat × β) × List Nat :=
  if f x c ∈ st.1 then (st.1, st.2.1, st.2.2 ++ [st.1.idxOf (f x c)]) else (st.1 ++ [f x c], st.2.1 ++ [(i, c)], st.2.2 ++ [st.1.length])
def rowE (sp : List α → α → Bool) (f : α → β → α) (x : α) (i : Nat) (st : List α × List (Nat × β) × List Nat) (c : β) : (List α × List (Nat × β) × List Nat) ⊕ (List α × List (Nat × β)) :=
  if f x c ∈ st.1 then .inl (st.1, st.2.1, st.2.2 ++ [st.1.idxOf (f x c)])
  else if sp st.1 (f x c) then .inr (st.1 ++ [f x c], st.2.1 ++ [(i, c)]) else .inl (st.1 ++ [f x c], st.2.1 ++ [(i, c)], st.2.2 ++ [st.1.length])
theorem rowE_mem {sp : List α → α → Bool} {f : α → β → α} {x : α} {i : Nat} {c : β} {L : List α} {T : List (Nat × β)} {r : List Nat} {y : α} (hy : f x c = y) (h : y ∈ L) : rowE sp f x i (L, T, r) c = .inl (L, T, r ++ [L.idxOf y]) := by
  subst hy; simp only [rowE, if_pos h]
theorem rowE_stop {sp : List α → α → Bool} {f : α → β → α} {x : α} {i : Nat} {c : β} {L : List α} {T : List (Nat × β)} {r : List Nat} {y : α} (hy : f x c = y) (h : y ∉ L) (hs : sp L y = true) : rowE sp f x i (L, T, r) c = .inr (L ++ [y], T ++ [(i, c)]) := by
  subst hy; simp only [rowE, if_neg h, if_pos hs]
theorem rowE_new {sp : List α → α → Bool} {f : α → β → α} {x : α} {i : Nat} {c : β} {L : List α} {T : List (Nat × β)} {r : List Nat} {y : α} (hy : f x c = y) (h : y ∉ L) (hs : sp L y = false) : rowE sp f x i (L, T, r) c = .inl (L ++ [y], T ++ [(i, c)], r ++ [L.length]) := by
  subst hy; simp only [rowE, if_neg h, hs, Bool.false_eq_true, if_false]
variable (f : α → β → α) (s0 : α) (ls : List β)
def expl : Nat → List α × List (Nat × β) × List (List Nat)
  | 0 => ([s0], [], [])
  | i + 1 => match (expl i).1[i]? with
    | none => expl i
    | some x => let r := ls.foldl (rowStep f x i) ((expl i).1, (expl i).2.1, [])
      (r.1, r.2.1, (expl i).2.2 ++ [r.2.2])
def explE (sp : List α → α → Bool) : Nat → (List α × List (Nat × β) × List (List Nat)) ⊕ (List α × List (Nat × β) × List (List Nat))
  | 0 => .inl ([s0], [], [])
  | i + 1 => match explE sp i with
    | .inr r => .inr r
    | .inl S => match S.1[i]? with
      | none => .inl S
      | some x => match foldS (rowE sp f x i) (S.1, S.2.1, []) ls with
        | .inl r => .inl (r.1, r.2.1, S.2.2 ++ [r.2.2])
        | .inr r => .inr (r.1, r.2, S.2.2)
variable {f s0 ls}
theorem rowStep_pre (x : α) (i : Nat) (st : List α × List (Nat × β) × List Nat) (c : β) : st.1 <+: (rowStep f x i st c).1 ∧ st.2.1 <+: (rowStep f x i st c).2.1 := by
  unfold rowStep
  split
  · exact ⟨List.prefix_refl _, List.prefix_refl _⟩
  · exact ⟨List.prefix_append _ _, List.prefix_append _ _⟩
theorem fold_pre (x : α) (i : Nat) : ∀ (l : List β) (st : List α × List (Nat × β) × List Nat), st.1 <+: (l.foldl (rowStep f x i) st).1 ∧ st.2.1 <+: (l.foldl (rowStep f x i) st).2.1
  | [], st => ⟨List.prefix_refl _, List.prefix_refl _⟩
  | c :: l, st => by
    have h1 := rowStep_pre (f := f) x i st c
    have h2 := fold_pre x i l (rowStep f x i st c)
    exact ⟨h1.1.trans h2.1, h1.2.trans h2.2⟩
theorem idxOf_pre {L L' : List α} (h : L <+: L') {x : α} (hx : x ∈ L) : L'.idxOf x = L.idxOf x := by
  obtain ⟨t, rfl⟩ := h
  rw [List.idxOf_append, if_pos hx]
theorem fold_ok {x : α} {i : Nat} : ∀ (l : List β) (st : List α × List (Nat × β) × List Nat), Ok f s0 ls st.1 st.2.1 → st.1[i]? = some x → (∀ c ∈ l, c ∈ ls) →
    Ok f s0 ls (l.foldl (rowStep f x i) st).1 (l.foldl (rowStep f x i) st).2.1 ∧ (∀ c ∈ l, f x c ∈ (l.foldl (rowStep f x i) st).1) ∧
    (l.foldl (rowStep f x i) st).2.2 = st.2.2 ++ l.map fun c => (l.foldl (rowStep f x i) st).1.idxOf (f x c)
  | [], st, h, _, _ => ⟨h, by simp, by simp⟩
  | c :: l, st, h, hx, hc => by
    have hst : Ok f s0 ls (rowStep f x i st c).1 (rowStep f x i st c).2.1 ∧ f x c ∈ (rowStep f x i st c).1 ∧ (rowStep f x i st c).2.2 = st.2.2 ++ [(rowStep f x i st c).1.idxOf (f x c)] := by
      unfold rowStep
      split
      · exact ⟨h, by assumption, rfl⟩
      · rename_i hn
        refine ⟨h.add hx (hc c (List.mem_cons_self ..)) hn, by simp, ?_⟩
        simp [List.idxOf_append, hn]
    obtain ⟨h1, h2, h3⟩ := fold_ok l (rowStep f x i st c) hst.1 (pre_get (rowStep_pre x i st c).1 hx) fun c' hc' => hc c' (List.mem_cons_of_mem _ hc')
    have hp := (fold_pre (f := f) x i l (rowStep f x i st c)).1
    refine ⟨h1, fun c' hc' => ?_, ?_⟩
    · rcases List.mem_cons.1 hc' with rfl | hc'
      · exact hp.subset hst.2.1
      · exact h2 c' hc'
    · rw [List.foldl_cons, h3, hst.2.2, ← idxOf_pre hp hst.2.1]
      simp
theorem expl_succ_some {i : Nat} {x : α} (hx : (expl f s0 ls i).1[i]? = some x) : expl f s0 ls (i + 1) = ((ls.foldl (rowStep f x i) ((expl f s0 ls i).1, (expl f s0 ls i).2.1, [])).1, (ls.foldl (rowStep f x i) ((expl f s0 ls i).1, (expl f s0 ls i).2.1, [])).2.1, (expl f s0 ls i).2.2 ++ [(ls.foldl (rowStep f x i) ((expl f s0 ls i).1, (expl f s0 ls i).2.1, [])).2.2]) := by
  simp only [expl, hx]
theorem expl_succ_none {i : Nat} (hx : (expl f s0 ls i).1[i]? = none) : expl f s0 ls (i + 1) = expl f s0 ls i := by
  simp only [expl, hx]
theorem expl_ok : ∀ i, Ok f s0 ls (expl f s0 ls i).1 (expl f s0 ls i).2.1
  | 0 => ⟨by simp [expl], rfl, rfl, by simp [expl]⟩
  | i + 1 => by
    cases hx : (expl f s0 ls i).1[i]? with
    | none => rw [expl_succ_none hx]; exact expl_ok i
    | some x =>
      rw [expl_succ_some hx]
      exact (fold_ok ls ((expl f s0 ls i).1, (expl f s0 ls i).2.1, []) (expl_ok i) hx fun _ h => h).1
theorem expl_pre (i : Nat) : (expl f s0 ls i).1 <+: (expl f s0 ls (i + 1)).1 ∧ (expl f s0 ls i).2.1 <+: (expl f s0 ls (i + 1)).2.1 := by
  cases hx : (expl f s0 ls i).1[i]? with
  | none => rw [expl_succ_none hx]; exact ⟨List.prefix_refl _, List.prefix_refl _⟩
  | some x =>
    rw [expl_succ_some hx]
    exact fold_pre x i ls ((expl f s0 ls i).1, (expl f s0 ls i).2.1, [])
theorem expl_pre_le {i j : Nat} (h : i ≤ j) : (expl f s0 ls i).1 <+: (expl f s0 ls j).1 ∧ (expl f s0 ls i).2.1 <+: (expl f s0 ls j).2.1 := by
  induction h with
  | refl => exact ⟨List.prefix_refl _, List.prefix_refl _⟩
  | step _ ih => exact ⟨ih.1.trans (expl_pre _).1, ih.2.trans (expl_pre _).2⟩
theorem expl_rows : ∀ i, ∀ j ≥ i, (expl f s0 ls i).2.2 = ((expl f s0 ls i).1.take i).map fun x => ls.map fun c => (expl f s0 ls j).1.idxOf (f x c)
  | 0, j, _ => by simp [expl]
  | i + 1, j, hj => by
    cases hx : (expl f s0 ls i).1[i]? with
    | none =>
      have hle := List.getElem?_eq_none_iff.1 hx
      rw [expl_succ_none hx, expl_rows i j (by omega), List.take_of_length_le hle, List.take_of_length_le (by omega)]
    | some x =>
      have hi := (List.getElem?_eq_some_iff.1 hx).1
      have hk := fold_ok ls ((expl f s0 ls i).1, (expl f s0 ls i).2.1, []) (expl_ok i) hx fun _ h => h
      have hp := (expl_pre (f := f) (s0 := s0) (ls := ls) i).1
      have hx' := pre_get hp hx
      have e1 : (expl f s0 ls (i + 1)).1.take (i + 1) = (expl f s0 ls i).1.take i ++ [x] := by
        rw [List.take_add_one, hx']
        congr 1
        obtain ⟨t, ht⟩ := hp
        rw [← ht, List.take_append_of_le_length (by omega)]
      rw [e1, List.map_append, ← expl_rows i j (by omega)]
      have e2 : (expl f s0 ls (i + 1)).2.2 = (expl f s0 ls i).2.2 ++ [(ls.foldl (rowStep f x i) ((expl f s0 ls i).1, (expl f s0 ls i).2.1, [])).2.2] := by rw [expl_succ_some hx]
      rw [e2, hk.2.2]
      congr 1
      simp only [List.nil_append, List.map_cons, List.map_nil, List.cons.injEq, and_true]
      refine List.map_congr_left fun c hc => ?_
      have hm : f x c ∈ (expl f s0 ls (i + 1)).1 := by rw [expl_succ_some hx]; exact hk.2.1 c hc
      have e3 : (ls.foldl (rowStep f x i) ((expl f s0 ls i).1, (expl f s0 ls i).2.1, [])).1 = (expl f s0 ls (i + 1)).1 := by rw [expl_succ_some hx]
      rw [e3]
      exact (idxOf_pre (expl_pre_le hj).1 hm).symm
theorem Ok.bound {L : List α} {T : List (Nat × β)} (h : Ok f s0 ls L T) {u : List α} (h0 : s0 ∈ u) (hu : ∀ x c, c ∈ ls → x ∈ u → f x c ∈ u) : L.length ≤ u.length := by
  refine nodup_len _ _ h.nodup fun x hx => ?_
  obtain ⟨k, hk, rfl⟩ := List.mem_iff_getElem.1 hx
  exact h.inv (P := (· ∈ u)) h0 hu k _ (List.getElem?_eq_getElem hk)
theorem foldS_row {sp : List α → α → Bool} {x : α} {i : Nat} : ∀ (l : List β) (st : List α × List (Nat × β) × List Nat), Quiet sp st.1 →
    (∀ r, foldS (rowE sp f x i) st l = .inl r → r = l.foldl (rowStep f x i) st ∧ Quiet sp r.1) ∧
    (∀ r, foldS (rowE sp f x i) st l = .inr r → ∃ L y, r.1 = L ++ [y] ∧ Quiet sp L ∧ sp L y = true ∧ r.1 <+: (l.foldl (rowStep f x i) st).1 ∧ r.2 <+: (l.foldl (rowStep f x i) st).2.1 ∧ st.1 <+: L)
  | [], st, h => ⟨fun r hr => by cases hr; exact ⟨rfl, h⟩, fun r hr => by cases hr⟩
  | c :: l, st, h => by
    by_cases hm : f x c ∈ st.1
    · have e1 : rowE sp f x i st c = .inl (rowStep f x i st c) := by unfold rowE rowStep; rw [if_pos hm, if_pos hm]
      have ih := foldS_row (sp := sp) (x := x) (i := i) l (rowStep f x i st c) (by unfold rowStep; rw [if_pos hm]; exact h)
      have hp := (rowStep_pre (f := f) x i st c).1
      refine ⟨fun r hr => ?_, fun r hr => ?_⟩
      · simp only [foldS, e1] at hr; exact ih.1 r hr
      · simp only [foldS, e1] at hr
        obtain ⟨L, y, g1, g2, g3, g4, g5, g6⟩ := ih.2 r hr
        exact ⟨L, y, g1, g2, g3, g4, g5, hp.trans g6⟩
    · cases hs : sp st.1 (f x c)
      · have e1 : rowE sp f x i st c = .inl (rowStep f x i st c) := by unfold rowE rowStep; rw [if_neg hm, if_neg hm, if_neg (by rw [hs]; simp)]
        have ih := foldS_row (sp := sp) (x := x) (i := i) l (rowStep f x i st c) (by unfold rowStep; rw [if_neg hm]; exact h.add hs)
        have hp := (rowStep_pre (f := f) x i st c).1
        refine ⟨fun r hr => ?_, fun r hr => ?_⟩
        · simp only [foldS, e1] at hr; exact ih.1 r hr
        · simp only [foldS, e1] at hr
          obtain ⟨L, y, g1, g2, g3, g4, g5, g6⟩ := ih.2 r hr
          exact ⟨L, y, g1, g2, g3, g4, g5, hp.trans g6⟩
      · have e1 : rowE sp f x i st c = .inr (st.1 ++ [f x c], st.2.1 ++ [(i, c)]) := by unfold rowE; rw [if_neg hm, if_pos hs]
        have e2 : rowStep f x i st c = (st.1 ++ [f x c], st.2.1 ++ [(i, c)], st.2.2 ++ [st.1.length]) := by unfold rowStep; rw [if_neg hm]
        refine ⟨fun r hr => ?_, fun r hr => ?_⟩
        · simp only [foldS, e1] at hr; cases hr
        · simp only [foldS, e1] at hr
          cases hr
          have hp := fold_pre (f := f) x i l (rowStep f x i st c)
          rw [e2] at hp
          refine ⟨st.1, f x c, rfl, h, hs, ?_, ?_, List.prefix_refl _⟩
          · rw [List.foldl_cons, e2]; exact hp.1
          · rw [List.foldl_cons, e2]; exact hp.2
theorem explE_spec {sp : List α → α → Bool} : ∀ i,
    (∀ S, explE f s0 ls sp i = .inl S → S = expl f s0 ls i ∧ Quiet sp S.1) ∧
    (∀ r, explE f s0 ls sp i = .inr r → ∃ L y, r.1 = L ++ [y] ∧ L ≠ [] ∧ Quiet sp L ∧ sp L y = true ∧ r.1 <+: (expl f s0 ls i).1 ∧ r.2.1 <+: (expl f s0 ls i).2.1)
  | 0 => ⟨fun S h => by cases h; exact ⟨rfl, fun k x hx => by simp at hx⟩, fun r h => by cases h⟩
  | i + 1 => by
    have ih := explE_spec (sp := sp) i
    cases h : explE f s0 ls sp i with
    | inr r =>
      have e : explE f s0 ls sp (i + 1) = .inr r := by simp only [explE, h]
      refine ⟨fun S hS => (by rw [e] at hS; cases hS), fun r' hr => ?_⟩
      rw [e] at hr; cases hr
      obtain ⟨L, y, g1, g2, g3, g4, g5, g6⟩ := ih.2 r h
      exact ⟨L, y, g1, g2, g3, g4, g5.trans (expl_pre i).1, g6.trans (expl_pre i).2⟩
    | inl S =>
      obtain ⟨rfl, hq⟩ := ih.1 S h
      cases hx : (expl f s0 ls i).1[i]? with
      | none =>
        have e : explE f s0 ls sp (i + 1) = .inl (expl f s0 ls i) := by simp only [explE, h, hx]
        refine ⟨fun S hS => ?_, fun r hr => by rw [e] at hr; cases hr⟩
        rw [e] at hS; cases hS
        exact ⟨(expl_succ_none hx).symm, hq⟩
      | some x =>
        have hf := foldS_row (f := f) (sp := sp) (x := x) (i := i) ls ((expl f s0 ls i).1, (expl f s0 ls i).2.1, []) hq
        cases hr : foldS (rowE sp f x i) ((expl f s0 ls i).1, (expl f s0 ls i).2.1, []) ls with
        | inl r =>
          have e : explE f s0 ls sp (i + 1) = .inl (r.1, r.2.1, (expl f s0 ls i).2.2 ++ [r.2.2]) := by simp only [explE, h, hx, hr]
          refine ⟨fun S hS => ?_, fun r hr => by rw [e] at hr; cases hr⟩
          rw [e] at hS; cases hS
          obtain ⟨rfl, hq'⟩ := hf.1 r hr
          exact ⟨(expl_succ_some hx).symm, hq'⟩
        | inr r =>
          have e : explE f s0 ls sp (i + 1) = .inr (r.1, r.2, (expl f s0 ls i).2.2) := by simp only [explE, h, hx, hr]
          refine ⟨fun S hS => (by rw [e] at hS; cases hS), fun r' hr' => ?_⟩
          rw [e] at hr'; cases hr'
          obtain ⟨L, y, g1, g2, g3, g4, g5, g6⟩ := hf.2 r hr
          rw [expl_succ_some hx]
          refine ⟨L, y, g1, ?_, g2, g3, g4, g5⟩
          rintro rfl
          have h0 := (expl_ok (f := f) (s0 := s0) (ls := ls) i).head
          have h1 := List.prefix_nil.1 g6
          simp only at h1
          rw [h1] at h0; cases h0
theorem foldS_len {sp : List α → α → Bool} {x : α} {i : Nat} : ∀ (l : List β) (st : List α × List (Nat × β) × List Nat), st.1.length = st.2.1.length + 1 → ∀ r, foldS (rowE sp f x i) st l = .inr r → r.1.length = r.2.length + 1
  | [], _, _, r, h => by cases h
  | c :: l, st, hl, r, h => by
    obtain ⟨L, T, R⟩ := st
    simp only at hl
    by_cases hm : f x c ∈ L
    · simp only [foldS, rowE_mem (sp := sp) (i := i) (T := T) (r := R) rfl hm] at h
      exact foldS_len l _ hl r h
    · cases hs : sp L (f x c)
      · simp only [foldS, rowE_new (i := i) (T := T) (r := R) rfl hm hs] at h
        exact foldS_len l (L ++ [f x c], T ++ [(i, c)], R ++ [L.length]) (by simp [hl]) r h
      · simp only [foldS, rowE_stop (i := i) (T := T) (r := R) rfl hm hs] at h
        cases h
        simp [hl]
theorem explE_len {sp : List α → α → Bool} : ∀ i, ∀ r, explE f s0 ls sp i = .inr r → r.1.length = r.2.1.length + 1
  | 0, r, h => by cases h
  | i + 1, r, h => by
    cases h1 : explE f s0 ls sp i with
    | inr r' => simp only [explE, h1] at h; cases h; exact explE_len i _ h1
    | inl S =>
      obtain ⟨rfl, _⟩ := (explE_spec i).1 S h1
      have hl := (expl_ok (f := f) (s0 := s0) (ls := ls) i).len
      cases hx : (expl f s0 ls i).1[i]? with
      | none => simp only [explE, h1, hx] at h; cases h
      | some x =>
        cases hr : foldS (rowE sp f x i) ((expl f s0 ls i).1, (expl f s0 ls i).2.1, []) ls with
        | inl r' => simp only [explE, h1, hx, hr] at h; cases h
        | inr r' =>
          simp only [explE, h1, hx, hr] at h
          cases h
          exact foldS_len ls ((expl f s0 ls i).1, (expl f s0 ls i).2.1, []) hl r' hr
theorem explE_stop {sp : List α → α → Bool} {i j : Nat} (hij : i ≤ j) {r : List α × List (Nat × β) × List (List Nat)} (h : explE f s0 ls sp i = .inr r) : explE f s0 ls sp j = .inr r := by
  induction hij with
  | refl => exact h
  | step _ ih => simp only [explE, ih]
theorem explE_fin {sp : List α → α → Bool} {i j : Nat} (hij : i ≤ j) {S : List α × List (Nat × β) × List (List Nat)} (h : explE f s0 ls sp i = .inl S) (hf : S.1.length ≤ i) : explE f s0 ls sp j = .inl S := by
  induction hij with
  | refl => exact h
  | @step m hm ih =>
    have hm : i ≤ m := hm
    simp only [explE, ih, List.getElem?_eq_none (show S.1.length ≤ m from by omega)]
theorem pos_of {L : List α} {y : α} : ∀ {k : Nat}, k ≤ L.length → (∀ j z, j < k → L[j]? = some z → z ≠ y) → (∀ z, L[k]? = some z → z = y) → k = pos L y := by
  induction L with
  | nil => intro k hk _ _; simp at hk; subst hk; simp [pos]
  | cons x L ih =>
    intro k hk h1 h2
    cases k with
    | zero => rw [← h2 x rfl]; exact pos_eq.symm
    | succ k =>
      rw [pos_ne (h1 0 x (by omega) rfl), ← ih (k := k) (by simpa using hk) (fun j z hj hz => h1 (j + 1) z (by omega) (by simpa using hz)) (fun z hz => h2 z (by simpa using hz))]
theorem pos_lt {L : List α} {y : α} : y ∈ L ↔ pos L y < L.length := by unfold pos; exact List.idxOf_lt_length_iff.symm
theorem pos_out {L : List α} {y : α} (h : y ∉ L) : pos L y = L.length := by unfold pos; exact List.idxOf_eq_length h
end
end Go.Pl

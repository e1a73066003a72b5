/-
  PLAIN: exploring from a start, breadth first; every node once.
-/
set_option linter.unusedVariables false
set_option linter.unusedSimpArgs false
namespace Go.Pl
section
variable {α β σ τ : Type}
theorem pre_get' {L L' : List τ} (h : L <+: L') {i : Nat} {x : τ} (hx : L[i]? = some x) : L'[i]? = some x := by
  obtain ⟨t, rfl⟩ := h
  rw [List.getElem?_append_left (List.getElem?_eq_some_iff.1 hx).1]; exact hx
section
variable {f : α → β → α} {s0 : α} {ls : List β}
structure Ok (f : α → β → α) (s0 : α) (ls : List β) (L : List α) (T : List (Nat × β)) : Prop where
  nodup : L.Nodup
  len : L.length = T.length + 1
  head : L[0]? = some s0
  link : ∀ k j c, T[k]? = some (j, c) → j < k + 1 ∧ c ∈ ls ∧ ∃ x, L[j]? = some x ∧ L[k + 1]? = some (f x c)
theorem Ok.add {L : List α} {T : List (Nat × β)} (h : Ok f s0 ls L T) {x : α} {i : Nat} {c : β} (hx : L[i]? = some x) (hc : c ∈ ls) (hn : f x c ∉ L) : Ok f s0 ls (L ++ [f x c]) (T ++ [(i, c)]) := by
  have hi : i < L.length := (List.getElem?_eq_some_iff.1 hx).1
  have hl := h.len
  refine ⟨?_, by simp [hl], ?_, fun k j c' hk => ?_⟩
  · rw [List.nodup_append]
    exact ⟨h.nodup, by simp, fun a ha b hb => by simp at hb; subst hb; rintro rfl; exact hn ha⟩
  · rw [List.getElem?_append_left (by omega)]; exact h.head
  · by_cases hk2 : k < T.length
    · rw [List.getElem?_append_left hk2] at hk
      obtain ⟨h1, h2, y, h3, h4⟩ := h.link k j c' hk
      exact ⟨h1, h2, y, by rw [List.getElem?_append_left (by omega)]; exact h3, by rw [List.getElem?_append_left (by omega)]; exact h4⟩
    · rw [List.getElem?_append_right (by omega)] at hk
      have hk3 : k = T.length := by
        have := (List.getElem?_eq_some_iff.1 hk).1
        simp at this; omega
      subst hk3
      simp at hk
      obtain ⟨rfl, rfl⟩ := hk
      refine ⟨by omega, hc, x, by rw [List.getElem?_append_left hi]; exact hx, ?_⟩
      rw [show T.length + 1 = L.length by omega]
      simp
def Quiet (sp : List α → α → Bool) (L : List α) : Prop := ∀ k x, L[k + 1]? = some x → sp (L.take (k + 1)) x = false
theorem Quiet.add {sp : List α → α → Bool} {L : List α} {y : α} (h : Quiet sp L) (hs : sp L y = false) : Quiet sp (L ++ [y]) := by
  intro k x hx
  by_cases hk : k + 1 < L.length
  · rw [List.getElem?_append_left hk] at hx
    rw [List.take_append_of_le_length (by omega)]
    exact h k x hx
  · have hk2 := (List.getElem?_eq_some_iff.1 hx).1
    simp at hk2
    have : k + 1 = L.length := by omega
    rw [this] at hx ⊢
    simp at hx
    subst hx
    simpa using hs
theorem Ok.pre {L L' : List α} {T T' : List (Nat × β)} (h : Ok f s0 ls L T) (hL : L' <+: L) (hT : T' <+: T) (hl : L'.length = T'.length + 1) : Ok f s0 ls L' T' := by
  have hget : ∀ k, k < L'.length → L'[k]? = L[k]? := fun k hk => by
    obtain ⟨t, rfl⟩ := hL
    rw [List.getElem?_append_left hk]
  refine ⟨h.nodup.sublist hL.sublist, hl, by rw [hget 0 (by omega)]; exact h.head, fun k j c hk => ?_⟩
  have hk' := (List.getElem?_eq_some_iff.1 hk).1
  obtain ⟨h1, h2, x, h3, h4⟩ := h.link k j c (pre_get' hT hk)
  exact ⟨h1, h2, x, by rw [hget j (by omega)]; exact h3, by rw [hget (k + 1) (by omega)]; exact h4⟩
inductive Tr (T : List (Nat × β)) : Nat → List β → Prop
  | zero : Tr T 0 []
  | step {k j : Nat} {c : β} {p : List β} : T[k]? = some (j, c) → Tr T j p → Tr T (k + 1) (p ++ [c])
theorem Tr.mono {T T' : List (Nat × β)} (hp : T <+: T') {k : Nat} {p : List β} (h : Tr T k p) : Tr T' k p := by
  induction h with
  | zero => exact .zero
  | step h1 _ ih => exact .step (pre_get' hp h1) ih
theorem Tr.len {L : List α} {T : List (Nat × β)} (h : Ok f s0 ls L T) {k : Nat} {p : List β} (ht : Tr T k p) : p.length ≤ k := by
  induction ht with
  | zero => exact Nat.le_refl _
  | step h1 _ ih =>
    have := (h.link _ _ _ h1).1
    simp only [List.length_append, List.length_singleton]
    omega
end
variable [DecidableEq α]
variable (f : α → β → α) (s0 : α) (ls : List β)
variable {f s0 ls}
end
end Go.Pl

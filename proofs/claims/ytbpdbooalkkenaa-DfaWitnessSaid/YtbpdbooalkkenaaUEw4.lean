/-
  HOW CONTRACTS ARE SHOWN, 5: a fold that may stop, its invariant with the number of the round.
-/
import Derived.Test.YtbpdbooalkkenaaUL8
set_option linter.unusedVariables false
set_option linter.unusedSimpArgs false
namespace Go.Ev
open Go Go.RowKit Go.Av
section
variable {α β γ σ τ : Type}
theorem wp_getn {xs : List α} {i : Nat} {x : α} {f : Nat → α → Option β} {Q : β → Prop} (h : xs[i]? = some x) (hk : Wp (fun n => f n x) Q) : Wp (fun n => Option.bind (getI xs (i : Int)) (f n)) Q := by
  rw [getI_nat, h]; exact hk
theorem wp_foldI {ρ : Type} {xs : List α} {f : σ → α → σ ⊕ β} {s0 : σ} {Inv : Nat → σ → Prop} {enc : Nat → σ → ρ} {oE : σ → τ} {oB : β → τ} {body : Nat → ρ → Option (ρ ⊕ τ)} {Q : τ → Prop} (h0 : Inv 0 s0)
    (h : ∀ i (hi : i < xs.length) s, Inv i s → Wp (fun n => body n (enc i s)) fun r => match f s xs[i] with | .inl s' => Inv (i + 1) s' ∧ r = .inl (enc (i + 1) s') | .inr b => r = .inr (oB b))
    (he : ∀ s, Inv xs.length s → Wp (fun n => body n (enc xs.length s)) fun r => r = .inr (oE s))
    (hQ : ∀ r, foldE f s0 xs = r → (∀ s, r = .inl s → Inv xs.length s) → Q (match r with | .inl s => oE s | .inr b => oB b)) : Wp (fun n => loopN n (body n) (enc 0 s0)) Q := by
  refine wp_range (N := xs.length) (I := fun i t => ∃ s, t = enc i s ∧ Inv i s ∧ foldE f s0 xs = foldE f s (xs.drop i)) ⟨s0, rfl, h0, by simp⟩ (fun i t hi ht => ?_) fun t ht => ?_
  · obtain ⟨s, rfl, hs, hd⟩ := ht
    refine wp_mono (h i hi s hs) fun r hr => ?_
    rw [List.drop_eq_getElem_cons hi] at hd
    simp only [foldE] at hd
    split at hr
    · rename_i s' e
      rw [e] at hd
      obtain ⟨hi', rfl⟩ := hr
      exact ⟨s', rfl, hi', hd⟩
    · rename_i b e
      rw [e] at hd
      subst hr
      exact hQ _ hd fun s hs => by cases hs
  · obtain ⟨s, rfl, hs, hd⟩ := ht
    refine wp_mono (he s hs) fun r hr => ?_
    subst hr
    rw [List.drop_length] at hd
    exact hQ _ hd fun s' hs' => by cases hs'; exact hs
end
end Go.Ev

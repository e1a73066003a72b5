/-
  EXPRESSIONS: THE POSITIONS, as the program's matcher collects them; and its matcher.
-/
import Derived.Test.YtifgipebbagfcaaDoorJLawRxWalk
set_option linter.unusedVariables false
set_option linter.unusedSimpArgs false
namespace Go.Proofs.YtifgipebbagfcaaDoor
open Go Go.Av Go.Ev Go.Pl
theorem lieS {ks : List Rx} (hks : ∀ r ∈ ks, wellB r = true) (o i : Nat) : Lie o (gluS (ks.take i) o (Pl.g0 true)) ∧ (gluS (ks.take i) o (Pl.g0 true)).sp.length = cnts (ks.take i) := by
  have hl := glu_lie (.mk 3 0 0 (ks.take i)) o
  have e : glu (.mk 3 0 0 (ks.take i)) o = gluS (ks.take i) o (Pl.g0 true) := by simp [glu]
  rw [e] at hl
  refine ⟨hl, ?_⟩
  have : ∀ (l : List Rx) (a : G), (∀ r ∈ l, r ∈ ks) → (gluS l o a).sp.length = a.sp.length + cnts l := by
    intro l
    induction l with
    | nil => intro a _; simp [gluS, cnts]
    | cons r l ihl =>
      intro a hl
      have hr := hl r (List.mem_cons_self ..)
      obtain ⟨g1, g2⟩ := glu_well r (hks r hr) (o + a.sp.length)
      have g3 := ihl (seqG a (glu r (o + a.sp.length))) fun x hx => hl x (List.mem_cons_of_mem _ hx)
      simp only [gluS, g3, cnts]
      simp only [seqG, List.length_append, g1]
      omega
  have := this (ks.take i) (Pl.g0 true) fun r hr => List.mem_of_mem_take hr
  simpa [Pl.g0] using this
theorem lieA {ks : List Rx} (hks : ∀ r ∈ ks, wellB r = true) (o i : Nat) : Lie o (gluA (ks.take i) o (Pl.g0 false)) ∧ (gluA (ks.take i) o (Pl.g0 false)).sp.length = cnts (ks.take i) := by
  have hl := glu_lie (.mk 4 0 0 (ks.take i)) o
  have e : glu (.mk 4 0 0 (ks.take i)) o = gluA (ks.take i) o (Pl.g0 false) := by simp [glu]
  rw [e] at hl
  refine ⟨hl, ?_⟩
  have : ∀ (l : List Rx) (a : G), (∀ r ∈ l, r ∈ ks) → (gluA l o a).sp.length = a.sp.length + cnts l := by
    intro l
    induction l with
    | nil => intro a _; simp [gluA, cnts]
    | cons r l ihl =>
      intro a hl
      have hr := hl r (List.mem_cons_self ..)
      obtain ⟨g1, g2⟩ := glu_well r (hks r hr) (o + a.sp.length)
      have g3 := ihl (altG a (glu r (o + a.sp.length))) fun x hx => hl x (List.mem_cons_of_mem _ hx)
      simp only [gluA, g3, cnts]
      simp only [altG, List.length_append, g1]
      omega
  have := this (ks.take i) (Pl.g0 false) fun r hr => List.mem_of_mem_take hr
  simpa [Pl.g0] using this
end Go.Proofs.YtifgipebbagfcaaDoor

/-
  dfa: WITNESSES AND RUNS.
-/
import Derived.Test.YtbpdbooalkkenaaMLawDfaWit
set_option linter.unusedVariables false
set_option linter.unusedSimpArgs false
namespace Go.Proofs.Ytbpdbooalkkenaa
open Go Go.Av Go.Ev Go.Pl
theorem foldE_valid {d : DF} : ∀ (l : List Int) (s0 : Int), (∀ v ∈ l, 0 ≤ v ∧ v ≤ 4294967295) → foldE (stepE d) s0 l = .inl (l.foldl (stepS d) s0)
  | [], _, _ => rfl
  | x :: l, s0, hv => by
    have hx := hv x (List.mem_cons_self ..)
    have e : stepE d s0 x = .inl (stepS d s0 x) := by
      unfold stepE
      rw [show (decide (x < 0) || decide (x > 4294967295)) = false by simp; omega]; rfl
    simp only [foldE, e, List.foldl_cons]
    exact foldE_valid l _ fun v hv' => hv v (List.mem_cons_of_mem _ hv')
theorem match_valid {d : DF} (hg : Good d) {l : List Int} (hv : ∀ v ∈ l, 0 ≤ v ∧ v ≤ 4294967295) : matchS d l = accS d (l.foldl (stepS d) d.2.2.2.1) := by
  unfold matchS
  rw [if_pos hg, foldE_valid l _ hv]; rfl
theorem foldl_stepP {a b : DF} : ∀ (l : List Int) (x : PR), l.foldl (stepP a b) x = (l.foldl (stepS a) x.1, l.foldl (stepS b) x.2.1, ())
  | [], _ => rfl
  | v :: l, x => by rw [List.foldl_cons, foldl_stepP l]; rfl
end Go.Proofs.Ytbpdbooalkkenaa

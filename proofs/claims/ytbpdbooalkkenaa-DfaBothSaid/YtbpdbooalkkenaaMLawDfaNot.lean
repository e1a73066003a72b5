/-
  'DfaNot': THE PLAIN LAW.
-/
import Derived.Test.YtbpdbooalkkenaaMLawDfaRun
set_option linter.unusedVariables false
set_option linter.unusedSimpArgs false
namespace Go.Proofs.Ytbpdbooalkkenaa
open Go Go.Av Go.Ev
theorem okDF_good {d : DF} (h : Good d) : OkDF d := by
  have hl := good_len h
  exact ⟨by omega, by omega, fun r hr => by rw [h.rows r hr]; omega, by omega⟩
theorem run_bad {d : DF} : ∀ (l : List Int) (s0 : Int) (v : Int), v ∈ l → (v < 0 ∨ v > 4294967295) → foldE (stepE d) s0 l = .inr false
  | x :: l, s0, v, hv, hb => by
    cases hx : decide (x < 0) || decide (x > 4294967295)
    · have e : stepE d s0 x = .inl (stepS d s0 x) := by unfold stepE; rw [hx]; rfl
      have hv' : v ∈ l := by
        rcases List.mem_cons.1 hv with rfl | h
        · simp only [Bool.or_eq_false_iff, decide_eq_false_iff_not] at hx; omega
        · exact h
      simp only [foldE, e, run_bad l _ v hv' hb]
    · have e : stepE d s0 x = .inr false := by unfold stepE; rw [hx]; rfl
      simp only [foldE, e]
theorem match_bad {d : DF} {l : List Int} {v : Int} (hv : v ∈ l) (hb : v < 0 ∨ v > 4294967295) : matchS d l = false := by
  unfold matchS
  rw [run_bad l _ v hv hb]
  split <;> rfl
end Go.Proofs.Ytbpdbooalkkenaa

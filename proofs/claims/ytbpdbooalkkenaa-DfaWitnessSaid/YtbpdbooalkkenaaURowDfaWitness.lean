/- DfaWitness: witnesses are shortest differences. Conditions: none. -/
import Derived.Test.YtbpdbooalkkenaaUGlueB
import Derived.Test.YtbpdbooalkkenaaULawDfaWitness
set_option linter.unusedVariables false
set_option linter.unusedSimpArgs false
namespace Go.Proofs.Ytbpdbooalkkenaa
open Go Go.Av Go.Ev Go.RowKit Go.ChangeShapes Go.WideShapes Go.ChangeAt
set_option maxRecDepth 100000 in
theorem dfaWitness_lifted (os : Os) (started : os.Started) (H : Type) (enc : TypeId × Value → H) :
    ReturnsInHanded {} Try.checked os 6 .any (Rows.dfaWitnessSpec.pre6 enc Try.prog Try.f6 [] false)
      (Rows.dfaWitnessSpec.post enc Try.prog Try.f6 false true false false) := by
  refine returnsInHanded_of_change (C := Try.checked) own started (by kernel_rfl) Try.func6
    (ChangeSpec.witness6 (enc := enc) (C := Try.checked) (os := os) false ⟨#[], #[.agg #[.slice none 0 0, .slice none 0 0, .slice none 0 0, .int .i64 0], .agg #[.slice none 0 0, .slice none 0 0, .slice none 0 0, .int .i64 0]], []⟩ 8 (by kernel_rfl) (by kernel_rfl) (by kernel_rfl) (by kernel_rfl) (by kernel_rfl)) ?_
  intro W base args ds gs before hval0 hW _ _
  have hG : GT W := trivial
  have hval : ∀ (j : Nat) t v, Try.f6.params[j]? = some t → args[j]? = some v → Value.okWide Try.prog W .any base t v := hval0
  have hW' := hW
  obtain ⟨p, q, hA0, hV, rfl, hfz, hnd⟩ := hW
  have hA : DataW.TrodAll enc Try.prog W 0 (fun _ => true) true Try.f6.params.toList args.toList ds p := hA0
  rw [Try.params6] at hA hval
  have hA2 : DataW.TrodAll enc Try.prog W 0 (fun _ => true) true [26, 26] args.toList ds p := hA
  obtain ⟨rfl, rfl⟩ := trodVars_none hV
  clear hA0 hval0
  simp only [List.append_nil] at hW'
  have hlt : ∀ x ∈ p, x.block < W.heap.size := fun x hx => by simpa using hW'.lt x hx
  obtain ⟨xs, ok, hlen, hrel⟩ := read_all (P := Try.prog) [26, 26] [(pr [(.list tI), (.list (.list tI)), (.list tB), tI]), (pr [(.list tI), (.list (.list tI)), (.list tB), tI])] args.toList ds p (by kernel_rfl) hA2 (fun j t v ht hv => ⟨_, _, hval j t v (by simpa using ht) (by simpa using hv)⟩) hlt
  obtain ⟨s, hC, hs⟩ := law_DfaWitness xs ok
  have hcall := law_calls (P := Try.prog) mixed tblOk hG hlen hrel hC hs
  rw [show args.toList.toArray = args by simp] at hcall
  have hcall2 : Calls Try.prog 6 args W fun e W' => e = .returned (.bool true) ∧ Below W.heap.size W W' := hcall
  refine hcall2.mono fun e W' ⟨he, hnx⟩ => ?_
  subst he
  have hst := trodAll_stays (P := Try.prog) laidOut hnx [26, 26] args.toList ds p (by kernel_rfl) hA2 hlt
  have hdl := trodAll_len [26, 26] args.toList ds p hA2
  clear hA2 hA hlen hrel
  match ds, hdl, hst, hW' with
  | [d0, d1], _, hst, hW' =>
    refine ⟨_, rfl, _, _, _, [], p, [], hW', ?_, ?_, rfl, hnx.frame _, fun h => by cases h⟩
    · exact trodAll_mk1 (shut_bool Try.underlying4 true)
    · exact hst
theorem dfaWitness_holds : Rows.DfaWitnessSaid :=
  OpenClaim.holds_of_wide 6 Try.f6 rfl rfl rfl rfl rfl rfl rfl ⟨rfl, rfl, rfl, rfl, rfl⟩ rfl rfl rfl rfl rfl (by kernel_rfl) Try.func6 (by kernel_rfl)
    (of_decide_eq_true (by kernel_rfl)) (by unfold Func.isWrapper; rw [if_neg (of_decide_eq_false (by kernel_rfl))]; exact ⟨rfl, rfl⟩)
    (fun os started H enc _ => dfaWitness_lifted os started H enc)
#print axioms dfaWitness_holds
end Go.Proofs.Ytbpdbooalkkenaa

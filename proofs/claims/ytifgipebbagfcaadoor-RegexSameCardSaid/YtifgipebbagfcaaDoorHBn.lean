/-
  FUNCTIONS OF THE LIBRARY THAT ARE KNOWN BY THEIR CONTRACTS.
-/
import Derived.Test.YtifgipebbagfcaaDoorHL8
import Derived.Test.YtifgipebbagfcaaDoorHShelf
set_option linter.unusedVariables false
set_option linter.unusedSimpArgs false
namespace Go.Ev
open Go Go.RowKit Go.Av Go.Proofs Go.Sort
theorem acalls_below {P : Program} {f : FuncId} {ars : List AV} {r : AV} (h : ∀ (w : World) (D : Nat → Prop) (vs : List Value), GT w → vs.length = ars.length → (∀ (i : Nat) (v : Value) (x : AV), vs[i]? = some v → ars[i]? = some x → RelA [] D w v x) →
    Calls P f vs.toArray w fun e w' => ∃ v, e = .returned v ∧ RelA [] D w' v r ∧ Below w.heap.size w w') : ACalls P f ars [] fun o => o = some (r, []) := by
  intro w θ D vs hG hok hl hvs
  have hθ : θ = [] := List.eq_nil_of_length_eq_zero hok.len
  subst hθ
  refine (h w D vs (hG w (Keep.refl _ _)) hl hvs).mono fun e w' ⟨v, he, hr, hb⟩ => ?_
  refine .inl ⟨v, r, [], [], D, he, rfl, hr, ⟨rfl, fun b hd => Nat.lt_of_lt_of_le (hok.dlt b hd) hb.size, fun i j li lj g hi => (by simp at hi), fun i l g hi => (by simp at hi), fun i l o hi => (by simp at hi)⟩, .of_below hb, fun _ h => h, fun _ h => .inl h, fun i l g hi => (by simp at hi), fun k l hk => (by simp at hk), Nat.le_refl _⟩
def i64B (n : Int) : Bool := decide (-9223372036854775808 ≤ n) && decide (n ≤ 9223372036854775807)
def natItoa : List V → Option S
  | [.d (.int .i64) n] => bif i64B n then some ⟨[(0, .d .str (Lib.itoa n))], []⟩ else none
  | _ => none
theorem nat_itoa {f : Nat} (h : ∀ (n : Int) (_ : -9223372036854775808 ≤ n) (_ : n ≤ 9223372036854775807) (w : World) (_ : Lib.TabIs Tryd.prog w "internal/strconv.uint64pow10" .u64 Lib.pow10Tab),
    Calls Tryd.prog f #[.int .i64 n] w fun e w' => e = .returned (.string ⟨(Lib.itoa n).toArray⟩) ∧ ∃ k os, w' = grow (w.drewN k) os) : NatOk Tryd.prog f natItoa := by
  intro ars s hs
  unfold natItoa at hs
  split at hs
  · rename_i n
    obtain ⟨h1, h2⟩ := bif_eq hs
    cases h2
    simp only [i64B, Bool.and_eq_true, decide_eq_true_eq] at h1
    refine acalls_below fun w D vs hG hl hvs => ?_
    match vs, hl with
    | [v], _ =>
      have := hvs 0 v _ rfl rfl
      have hv : v = .int .i64 n := by
        have h3 : RelP D w v (.sc (.int .i64 n)) := this
        cases h3; rfl
      subst hv
      refine (h n h1.1 h1.2 w hG).mono fun e w' ⟨he, k, os, hw⟩ => ⟨_, he, .sc _, ?_⟩
      rw [hw]; exact Lib.below_grow _ _ (Nat.le_refl _) _ _
  · cases hs
end Go.Ev

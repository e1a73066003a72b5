/-
  REGULAR EXPRESSIONS, PLAINLY: the positions of an expression, which come first, last and after which; sets of positions as bits.
-/
import Derived.Test.YtifgipebbagfcaaDoorHPlExpl
import Derived.Test.YtifgipebbagfcaaDoorHL5
set_option linter.unusedVariables false
set_option linter.unusedSimpArgs false
namespace Go.Pl
open Go Go.Ev
theorem rx_ind {P : Rx → Prop} (h : ∀ k lo hi ks, (∀ r ∈ ks, P r) → P (.mk k lo hi ks)) : ∀ r, P r :=
  fun r => Rx.rec (motive_1 := P) (motive_2 := fun ks => ∀ r ∈ ks, P r) (fun k lo hi ks ih => h k lo hi ks ih) (fun r hr => by cases hr) (fun r ks ih1 ih2 x hx => by
    rcases List.mem_cons.1 hx with rfl | hx
    · exact ih1
    · exact ih2 x hx) r
theorem rx_eta (v : Rx) : Rx.mk v.out.1 v.out.2.1 v.out.2.2.1 v.out.2.2.2.1 = v := by cases v; rfl
structure G where
  fi : List Nat
  la : List Nat
  em : Bool
  pr : List (Nat × Nat)
  sp : List (Int × Int)
def g0 (e : Bool) : G := ⟨[], [], e, [], []⟩
structure Lie (o : Nat) (g : G) : Prop where
  fi : ∀ p ∈ g.fi, o ≤ p ∧ p < o + g.sp.length
  la : ∀ p ∈ g.la, o ≤ p ∧ p < o + g.sp.length
  pr : ∀ p q, (p, q) ∈ g.pr → (o ≤ p ∧ p < o + g.sp.length) ∧ o ≤ q ∧ q < o + g.sp.length
  fl : g.fi.length ≤ g.sp.length
  ll : g.la.length ≤ g.sp.length
end Go.Pl

/-
  MATCHING: both matchers as the plain one.
-/
import Derived.Test.YtifgipebbagfcaaDoorJLawRxPlaces
import Derived.Test.YtifgipebbagfcaaDoorJPlMatch
set_option linter.unusedVariables false
set_option linter.unusedSimpArgs false
namespace Go.Proofs.YtifgipebbagfcaaDoor
open Go Go.Av Go.Ev Go.Pl
section
variable {α β : Type}
theorem wp_rd {xs : List α} {i : Nat} {f : Nat → α → Option β} {Q : β → Prop} (h : i < xs.length) (hk : Wp (fun n => f n xs[i]) Q) : Wp (fun n => Option.bind (getI xs (i : Int)) fun _ => Option.bind xs[Int.toNat (i : Int)]? (f n)) Q := by
  refine wp_get0 h ?_
  rw [Int.toNat_natCast]
  exact wp_get (List.getElem?_eq_getElem h) hk
theorem wp_rdB {M i : Nat} {g : Nat → Bool} {f : Nat → Bool → Option β} {Q : β → Prop} (h : i < M) (hk : Wp (fun n => f n (g i)) Q) : Wp (fun n => Option.bind (getI (vecB M g) (i : Int)) fun _ => Option.bind (vecB M g)[Int.toNat (i : Int)]? (f n)) Q := by
  refine wp_rd (by rw [vecB_len]; exact h) ?_
  rw [vecB_get]
  exact hk
end
end Go.Proofs.YtifgipebbagfcaaDoor

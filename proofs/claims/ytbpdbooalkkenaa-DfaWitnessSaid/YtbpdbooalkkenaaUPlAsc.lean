/-
  PLAIN: ascending lists are determined by their elements.
-/
set_option linter.unusedVariables false
set_option linter.unusedSimpArgs false
namespace Go.Pl
def Asc (l : List Int) : Prop := l.Pairwise (· < ·)
theorem asc_unique : ∀ (l l' : List Int), Asc l → Asc l' → (∀ x, x ∈ l ↔ x ∈ l') → l = l'
  | [], [], _, _, _ => rfl
  | [], y :: l', _, _, h => by have := (h y).2 (List.mem_cons_self ..); cases this
  | x :: l, [], _, _, h => by have := (h x).1 (List.mem_cons_self ..); cases this
  | x :: l, y :: l', h1, h2, h => by
    have a1 := List.pairwise_cons.1 h1
    have a2 := List.pairwise_cons.1 h2
    have hxy : x = y := by
      have b1 := (h x).1 (List.mem_cons_self ..)
      have b2 := (h y).2 (List.mem_cons_self ..)
      rcases List.mem_cons.1 b1 with e | m1
      · exact e
      rcases List.mem_cons.1 b2 with e | m2
      · exact e.symm
      have := a1.1 y m2
      have := a2.1 x m1
      omega
    subst hxy
    rw [asc_unique l l' a1.2 a2.2 fun z => ?_]
    constructor
    · intro hz
      rcases List.mem_cons.1 ((h z).1 (List.mem_cons_of_mem _ hz)) with rfl | hz'
      · have := a1.1 z hz; omega
      · exact hz'
    · intro hz
      rcases List.mem_cons.1 ((h z).2 (List.mem_cons_of_mem _ hz)) with rfl | hz'
      · have := a2.1 z hz; omega
      · exact hz'
theorem asc_append {l l' : List Int} (h : Asc l) (h' : Asc l') (hlt : ∀ x ∈ l, ∀ y ∈ l', x < y) : Asc (l ++ l') := List.pairwise_append.2 ⟨h, h', hlt⟩
theorem asc_lt {l : List Int} (h : Asc l) {i j : Nat} (hij : i < j) (hj : j < l.length) : l[i] < l[j] := List.pairwise_iff_getElem.1 h i j (by omega) hj hij
open Classical in
noncomputable def ascS (l : List Int) : List Int := if h : ∃ c, Asc c ∧ ∀ x, x ∈ c ↔ x ∈ l then Classical.choose h else []
theorem ascS_eq {l c : List Int} (hc : Asc c) (hm : ∀ x, x ∈ c ↔ x ∈ l) : ascS l = c := by
  have hx : ∃ c, Asc c ∧ ∀ x, x ∈ c ↔ x ∈ l := ⟨c, hc, hm⟩
  unfold ascS
  rw [dif_pos hx]
  have hs := Classical.choose_spec hx
  exact asc_unique _ _ hs.1 hc fun x => (hs.2 x).trans (hm x).symm
end Go.Pl

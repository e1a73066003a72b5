/-
  LISTS OF NUMBERS: inserting, sorting, and what distinguishes an ascending list.
-/
namespace Go.Cm

def insGo (x : Int) : List Int → Bool → List Int
  | [], d => if d then [] else [x]
  | y :: r, d => (if !d && decide (x ≤ y) then [x] else []) ++ ((if y != x then [y] else []) ++ insGo x r (d || decide (x ≤ y)))
abbrev ins (x : Int) (l : List Int) : List Int := insGo x l false
def asc (l : List Int) : List Int := l.foldl (fun o x => ins x o) []
abbrev Up (l : List Int) : Prop := l.Pairwise (· < ·)

theorem mem_insGo (x z : Int) : ∀ (l : List Int) (d : Bool), z ∈ insGo x l d ↔ (z ∈ l ∧ z ≠ x) ∨ (d = false ∧ z = x)
  | [], d => by cases d <;> simp [insGo]
  | y :: r, d => by
    have := mem_insGo x z r (d || decide (x ≤ y))
    grind [insGo]
theorem mem_ins (x z : Int) (l : List Int) : z ∈ ins x l ↔ z ∈ l ∨ z = x := by have := mem_insGo x z l false; grind
theorem uniq : ∀ (a b : List Int), Up a → Up b → (∀ z, z ∈ a ↔ z ∈ b) → a = b
  | [], [], _, _, _ => rfl
  | [], y :: b, _, _, h => by have := h y; simp at this
  | y :: b, [], _, _, h => by have := h y; simp at this
  | x :: a, y :: b, ha, hb, h => by
    have h1 := (h x).1 (by simp)
    have h2 := (h y).2 (by simp)
    unfold Up at ha hb
    rw [List.pairwise_cons] at ha hb
    have e : x = y := by grind
    subst e
    rw [uniq a b ha.2 hb.2]
    grind
theorem len_insGo (x : Int) : ∀ (l : List Int) (d : Bool), (insGo x l d).length ≤ l.length + (if d then 0 else 1)
  | [], d => by cases d <;> simp [insGo]
  | y :: r, d => by
    have := len_insGo x r (d || decide (x ≤ y))
    grind [insGo]
theorem len_ins (x : Int) (l : List Int) : (ins x l).length ≤ l.length + 1 := len_insGo x l false
theorem up_insGo (x : Int) : ∀ (l : List Int) (d : Bool), Up l → (d = true → ∀ z ∈ l, x ≤ z) → Up (insGo x l d)
  | [], d, _, _ => by cases d <;> simp [insGo]
  | y :: r, d, hl, hd => by
    unfold Up at hl ⊢
    rw [List.pairwise_cons] at hl
    have ih := up_insGo x r (d || decide (x ≤ y)) hl.2 (by grind)
    have hm := fun z => mem_insGo x z r (d || decide (x ≤ y))
    simp only [insGo, List.pairwise_append]
    grind [List.Pairwise.nil]
theorem up_ins (x : Int) (l : List Int) (h : Up l) : Up (ins x l) := up_insGo x l false h (by simp)

theorem fold_ins : ∀ (l o : List Int), Up o → Up (l.foldl (fun o x => ins x o) o) ∧ (∀ z, z ∈ l.foldl (fun o x => ins x o) o ↔ z ∈ o ∨ z ∈ l) ∧ (l.foldl (fun o x => ins x o) o).length ≤ o.length + l.length
  | [], o, h => ⟨h, by simp, by simp⟩
  | x :: l, o, h => by
    have ⟨h1, h2, h3⟩ := fold_ins l (ins x o) (up_ins x o h)
    have := len_ins x o
    have hm := fun z => mem_ins x z o
    refine ⟨h1, fun z => ?_, ?_⟩
    · rw [List.foldl_cons, h2, hm]; grind
    · rw [List.foldl_cons]; grind
theorem up_asc (l : List Int) : Up (asc l) := (fold_ins l [] List.Pairwise.nil).1
theorem mem_asc (l : List Int) (z : Int) : z ∈ asc l ↔ z ∈ l := by
  have := (fold_ins l [] List.Pairwise.nil).2.1 z
  simpa [asc] using this
theorem len_asc (l : List Int) : (asc l).length ≤ l.length := by
  have := (fold_ins l [] List.Pairwise.nil).2.2
  simpa [asc] using this
theorem asc_eq {l o : List Int} (h : Up o) (hm : ∀ z, z ∈ o ↔ z ∈ l) : o = asc l := uniq _ _ h (up_asc l) (by grind [mem_asc])

theorem ins_asc (x : Int) (l : List Int) : ins x (asc l) = asc (asc l ++ [x]) := asc_eq (up_ins x _ (up_asc l)) (by intro z; rw [mem_ins]; simp)

/-- The loop of the inserting program. -/
def insAt (x : Int) (l : List Int) (k : Nat) (d : Bool) : List Int := insGo x (l.drop k) d
theorem insGo_step (x : Int) (l : List Int) (k : Nat) (d : Bool) (h : k < l.length) : insGo x (l.drop k) d = (if !d && decide (x ≤ l.getD k 0) then [x] else []) ++ ((if l.getD k 0 != x then [l.getD k 0] else []) ++ insGo x (l.drop (k + 1)) (d || decide (x ≤ l.getD k 0))) := by
  have e : l.getD k 0 = l[k] := by simp [List.getD, List.getElem?_eq_getElem h]
  rw [e, List.drop_eq_getElem_cons h]
  rfl
theorem take_succ_getD {l : List Int} {k : Nat} (h : k < l.length) : l.take (k + 1) = l.take k ++ [l.getD k 0] := by
  have e : l.getD k 0 = l[k] := by simp [List.getD, List.getElem?_eq_getElem h]
  rw [List.take_succ_eq_append_getElem h, e]

/-! ### Choosing the least above -/
/-- What is left to choose from. -/
def left (l out : List Int) : Nat := l.countP fun z => out.all (fun y => decide (y < z))
theorem left_step {l out : List Int} {b : Int} (hb : b ∈ l) (hgt : ∀ y ∈ out, y < b) : left l (out ++ [b]) + 1 ≤ left l out := by
  unfold left
  induction l with
  | nil => simp at hb
  | cons z l ih =>
    rw [List.countP_cons, List.countP_cons]
    have mono : l.countP (fun z => (out ++ [b]).all fun y => decide (y < z)) ≤ l.countP (fun z => out.all fun y => decide (y < z)) := by
      apply List.countP_mono_left
      intro z _ h
      simp only [List.all_append, Bool.and_eq_true] at h
      exact h.1
    by_cases e : z = b
    · subst e
      have h1 : ((out ++ [z]).all fun y => decide (y < z)) = false := by simp
      have h2 : (out.all fun y => decide (y < z)) = true := by simpa using hgt
      rw [h1, h2]
      simp only [Bool.false_eq_true, if_false, if_true]
      omega
    · have hb' : b ∈ l := by simp at hb; rcases hb with h | h; exact absurd h.symm e; exact h
      have ih' := ih hb'
      have h1 : (if ((out ++ [b]).all fun y => decide (y < z)) = true then 1 else 0) ≤ (if (out.all fun y => decide (y < z)) = true then 1 else 0) := by
        split
        · rename_i h
          simp only [List.all_append, Bool.and_eq_true] at h
          rw [if_pos h.1]
          exact Nat.le_refl 1
        · exact Nat.zero_le _
      omega
/-- Where the choice stands after the first k. -/
structure Best (l out : List Int) (k : Nat) (found : Bool) (best : Int) : Prop where
  yes : found = true → best ∈ l ∧ (∀ y ∈ out, y < best)
  least : ∀ z ∈ l.take k, (∀ y ∈ out, y < z) → found = true ∧ best ≤ z
/-- Where the outer loop stands. -/
structure Out (l out : List Int) : Prop where
  up : Up out
  sub : ∀ z ∈ out, z ∈ l
  all : ∀ z ∈ l, z ∈ out ∨ ∀ y ∈ out, y < z
  len : out.length + left l out ≤ l.length
theorem Out.zero (l : List Int) : Out l [] := ⟨List.Pairwise.nil, by simp, by simp, by simp [left]⟩
theorem Out.step {l out : List Int} {b : Int} (h : Out l out) (hb : Best l out l.length true b) : Out l (out ++ [b]) := by
  obtain ⟨h1, h2⟩ := hb.yes rfl
  have hl := left_step h1 h2
  have h3 := hb.least
  rw [List.take_length] at h3
  refine ⟨?_, ?_, fun z hz => ?_, ?_⟩
  · have := h.up
    unfold Up at this ⊢
    rw [List.pairwise_append]
    grind
  · have := h.sub; grind
  · rcases h.all z hz with h4 | h4
    · grind
    · have := (h3 z hz h4).2
      by_cases e : z = b
      · left; simp [e]
      · right; grind
  · have := h.len; simp; omega
theorem Out.done {l out : List Int} {b : Int} (h : Out l out) (hb : Best l out l.length false b) : out = asc l := by
  refine asc_eq h.up fun z => ⟨h.sub z, fun hz => ?_⟩
  have h3 := hb.least
  rw [List.take_length] at h3
  rcases h.all z hz with h4 | h4
  · exact h4
  · have := (h3 z hz h4).1; cases this
theorem last_gt {out : List Int} (h : Up out) (hne : out ≠ []) (z : Int) : (∀ y ∈ out, y < z) ↔ out.getD (out.length - 1) 0 < z := by
  have hl : out.length - 1 < out.length := by have := List.length_pos_iff.2 hne; omega
  have e : out.getD (out.length - 1) 0 = out[out.length - 1] := by simp [List.getD, List.getElem?_eq_getElem hl]
  rw [e]
  refine ⟨fun h => h _ (List.getElem_mem hl), fun hz y hy => ?_⟩
  obtain ⟨i, hi, rfl⟩ := List.getElem_of_mem hy
  unfold Up at h
  rw [List.pairwise_iff_getElem] at h
  by_cases e : i = out.length - 1
  · subst e; exact hz
  · have := h i (out.length - 1) hi hl (by omega); omega
theorem Best.zero (l out : List Int) (b : Int) : Best l out 0 false b := ⟨by simp, by simp⟩
/-- Taken. -/
theorem Best.take {l out : List Int} {k : Nat} {f : Bool} {b : Int} (h : Best l out k f b) (hk : k < l.length) (h1 : ∀ y ∈ out, y < l.getD k 0) (h2 : f = false ∨ l.getD k 0 < b) : Best l out (k + 1) true (l.getD k 0) := by
  have e : l.getD k 0 = l[k] := by simp [List.getD, List.getElem?_eq_getElem hk]
  have hm : l.getD k 0 ∈ l := by rw [e]; exact List.getElem_mem hk
  refine ⟨fun _ => ⟨hm, h1⟩, fun z hz hg => ⟨rfl, ?_⟩⟩
  rw [take_succ_getD hk] at hz
  have := h.least z
  grind
/-- Left. -/
theorem Best.skip {l out : List Int} {k : Nat} {f : Bool} {b : Int} (h : Best l out k f b) (hk : k < l.length) (h1 : (∀ y ∈ out, y < l.getD k 0) → f = true ∧ b ≤ l.getD k 0) : Best l out (k + 1) f b := by
  refine ⟨h.yes, fun z hz hg => ?_⟩
  rw [take_succ_getD hk] at hz
  have := h.least z
  grind

/-! ### Being ascending -/
theorem up_take {l : List Int} {k : Nat} (h : Up (l.take k)) (hk : k < l.length) (h1 : k = 0 ∨ l.getD (k - 1) 0 < l.getD k 0) : Up (l.take (k + 1)) := by
  rw [take_succ_getD hk]
  by_cases e : l.take k = []
  · rw [e]; simp
  · have := (last_gt h e (l.getD k 0)).2 ?_
    · unfold Up at h ⊢
      rw [List.pairwise_append]
      refine ⟨h, by simp, fun a ha b hb => ?_⟩
      simp only [List.mem_singleton] at hb
      rw [hb]; exact this a ha
    · have hk0 : k ≠ 0 := by intro h; subst h; simp at e
      have : (l.take k).getD ((l.take k).length - 1) 0 = l.getD (k - 1) 0 := by
        simp only [List.getD, List.length_take, List.getElem?_take]
        rw [show min k l.length = k by omega, if_pos (by omega)]
      rw [this]
      rcases h1 with h1 | h1
      · exact absurd h1 hk0
      · exact h1
theorem not_up {l : List Int} {k : Nat} (hk : k < l.length) (h0 : 0 < k) (h1 : l.getD k 0 ≤ l.getD (k - 1) 0) : ¬ Up l := by
  intro h
  unfold Up at h
  rw [List.pairwise_iff_getElem] at h
  have := h (k - 1) k (by omega) hk (by omega)
  have e1 : l.getD k 0 = l[k] := by simp [List.getD, List.getElem?_eq_getElem hk]
  have e2 : l.getD (k - 1) 0 = l[k - 1] := by simp [List.getD, List.getElem?_eq_getElem (show k - 1 < l.length by omega)]
  omega
def check (l : List Int) : Int := if 255 < l.length then 4 else if Up l then 0 else 16
theorem check_long {l : List Int} (h : 255 < l.length) : check l = 4 := by unfold check; rw [if_pos h]
theorem check_up {l : List Int} (h : ¬ 255 < l.length) (hu : Up l) : check l = 0 := by unfold check; rw [if_neg h, if_pos hu]
theorem check_not {l : List Int} (h : ¬ 255 < l.length) (hu : ¬ Up l) : check l = 16 := by unfold check; rw [if_neg h, if_neg hu]

/-! ### The operations -/
def add (l : List Int) (c : Int) : List Int := if 255 ≤ (asc l).length ∧ c ∉ asc l then asc l else ins c (asc l)
def drop (l : List Int) (c : Int) : List Int := (asc l).filter (fun x => x != c)
def join (a b : List Int) : List Int := ((b.foldl (fun o x => ins x o) (asc a)).take 255)
theorem join_eq (a b : List Int) : b.foldl (fun o x => ins x o) (asc a) = asc (a ++ b) := by
  have ⟨h1, h2, _⟩ := fold_ins b (asc a) (up_asc a)
  refine asc_eq h1 fun z => ?_
  rw [h2, mem_asc]; simp
theorem add_eq (l : List Int) (c : Int) : ins c (asc l) = asc (asc l ++ [c]) := ins_asc c l
end Go.Cm

/-
  POSITIONS THAT STAND IN A ROW ALONG A PATH: the plain matcher.
-/
import Derived.Test.YtifgipebbagfcaaDoorUPlRx
set_option linter.unusedVariables false
set_option linter.unusedSimpArgs false
namespace Go.Pl
open Go.Ev
def vecB (M : Nat) (f : Nat → Bool) : List Bool := (List.range M).map f
theorem vecB_len (M : Nat) (f : Nat → Bool) : (vecB M f).length = M := by simp [vecB]
theorem vecB_get {M i : Nat} (f : Nat → Bool) (h : i < (vecB M f).length) : (vecB M f)[i] = f i := by simp [vecB]
theorem vecB_congr {M : Nat} {f g : Nat → Bool} (h : ∀ i, i < M → f i = g i) : vecB M f = vecB M g := List.map_congr_left fun i hi => h i (List.mem_range.1 hi)
theorem vecB_set {M i : Nat} (f : Nat → Bool) (b : Bool) : (vecB M f).set i b = vecB M fun j => if j = i then b else f j := by
  refine List.ext_getElem (by simp [vecB]) fun j h1 h2 => ?_
  have hj : j < M := by simpa [vecB] using h2
  rw [List.getElem_set]
  by_cases e : i = j
  · subst e; simp [vecB]
  · have e' : ¬ j = i := fun h => e h.symm
    simp [vecB, e, e']
theorem vecB_rep (M : Nat) : List.replicate M false = vecB M fun _ => false := by
  refine List.ext_getElem (by simp [vecB]) fun j h1 h2 => ?_
  simp [vecB]
def hitB (g : G) (n : Int) (p : Nat) : Bool := match g.sp[p]? with
  | some q => decide (q.1 ≤ n) && decide (n ≤ q.2)
  | none => false
def atF (g : G) (can : Nat → Bool) (n : Int) (p : Nat) : Bool := can p && hitB g n p
def nxF (g : G) (at_ : Nat → Bool) (q : Nat) : Bool := g.pr.any fun x => at_ x.1 && decide (x.2 = q)
def stepF (g : G) (s : (Nat → Bool) × (Nat → Bool)) (n : Int) : (Nat → Bool) × (Nat → Bool) := (nxF g (atF g s.1 n), atF g s.1 n)
def runF (g : G) (path : List Int) : (Nat → Bool) × (Nat → Bool) := path.foldl (stepF g) (fun p => decide (p ∈ g.fi), fun _ => false)
def matchG (g : G) (path : List Int) : Bool := bif path.isEmpty then g.em else g.la.any (runF g path).2
theorem runF_take {g : G} {path : List Int} {i : Nat} (h : i < path.length) : runF g (path.take (i + 1)) = stepF g (runF g (path.take i)) path[i] := by
  unfold runF
  rw [List.take_add_one, List.getElem?_eq_getElem h, List.foldl_append]
  rfl
theorem nxF_iff {g : G} {f : Nat → Bool} {q : Nat} : nxF g f q = true ↔ ∃ p, f p = true ∧ (p, q) ∈ g.pr := by
  unfold nxF
  rw [List.any_eq_true]
  constructor
  · rintro ⟨⟨p, q'⟩, h1, h2⟩
    simp only [Bool.and_eq_true, decide_eq_true_eq] at h2
    obtain ⟨h2, rfl⟩ := h2
    exact ⟨p, h2, h1⟩
  · rintro ⟨p, h1, h2⟩
    exact ⟨(p, q), h2, by simp [h1]⟩
def rangeB (path : List Int) : Bool := path.all fun n => decide (0 ≤ n) && decide (n ≤ 4294967295)
theorem sp_in : ∀ (r : Rx), wellB r = true → ∀ o, ∀ q ∈ (glu r o).sp, 0 ≤ q.1 ∧ q.2 ≤ 4294967295 := by
  refine rx_ind fun k lo hi ks ih hw o => ?_
  obtain ⟨hn, hks⟩ := well_iff.1 hw
  have hA : ∀ (l : List Rx) (a : G), (∀ r ∈ l, r ∈ ks) → (∀ q ∈ a.sp, 0 ≤ q.1 ∧ q.2 ≤ 4294967295) → ∀ q ∈ (gluA l o a).sp, 0 ≤ q.1 ∧ q.2 ≤ 4294967295 := by
    intro l
    induction l with
    | nil => intro a _ h; exact h
    | cons r l il =>
      intro a hl h
      refine il _ (fun r hr => hl r (List.mem_cons_of_mem _ hr)) fun q hq => ?_
      rcases List.mem_append.1 hq with hq | hq
      · exact h q hq
      · exact ih r (hl r (List.mem_cons_self ..)) (hks r (hl r (List.mem_cons_self ..))) _ q hq
  have hS : ∀ (l : List Rx) (a : G), (∀ r ∈ l, r ∈ ks) → (∀ q ∈ a.sp, 0 ≤ q.1 ∧ q.2 ≤ 4294967295) → ∀ q ∈ (gluS l o a).sp, 0 ≤ q.1 ∧ q.2 ≤ 4294967295 := by
    intro l
    induction l with
    | nil => intro a _ h; exact h
    | cons r l il =>
      intro a hl h
      refine il _ (fun r hr => hl r (List.mem_cons_of_mem _ hr)) fun q hq => ?_
      rcases List.mem_append.1 hq with hq | hq
      · exact h q hq
      · exact ih r (hl r (List.mem_cons_self ..)) (hks r (hl r (List.mem_cons_self ..))) _ q hq
  have h0 : ∀ (e : Bool), ∀ q ∈ (g0 e).sp, 0 ≤ q.1 ∧ q.2 ≤ 4294967295 := fun e q hq => by simp [g0] at hq
  unfold glu
  split
  · rename_i h1
    have := hn.rng h1
    intro q hq
    simp only [gAt, List.mem_singleton] at hq
    subst hq
    exact ⟨by omega, by omega⟩
  split
  · intro q hq
    simp only [gAt, List.mem_singleton] at hq
    subst hq
    exact ⟨by decide, by decide⟩
  split
  · exact hS _ _ (fun _ h => h) (h0 _)
  split
  · exact hA _ _ (fun _ h => h) (h0 _)
  split
  · exact hA _ _ (fun _ h => h) (h0 _)
  split
  · exact hA _ _ (fun _ h => h) (h0 _)
  split
  · exact hA _ _ (fun _ h => h) (h0 _)
  · exact h0 _
theorem run_dead {g : G} : ∀ (l : List Int) (s : (Nat → Bool) × (Nat → Bool)), (∀ p, s.1 p = false) → (∀ p, s.2 p = false) → ∀ p, (l.foldl (stepF g) s).2 p = false
  | [], s, _, h2, p => h2 p
  | n :: l, s, h1, h2, p => by
    have ha : ∀ p, (stepF g s n).2 p = false := fun p => by show (s.1 p && _) = false; rw [h1]; rfl
    refine run_dead l (stepF g s n) (fun q => ?_) ha p
    cases e : (stepF g s n).1 q
    · rfl
    · obtain ⟨p, hp, _⟩ := nxF_iff.1 (show nxF g (atF g s.1 n) q = true from e)
      have := ha p
      rw [show (stepF g s n).2 p = atF g s.1 n p from rfl, hp] at this
      cases this
theorem match_out {r : Rx} (hw : wellB r = true) {path : List Int} (h : rangeB path = false) : matchG (glu r 0) path = false := by
  have : ∃ n ∈ path, ¬ (0 ≤ n ∧ n ≤ 4294967295) := by
    refine Classical.byContradiction fun hn => ?_
    have : rangeB path = true := by
      unfold rangeB
      rw [List.all_eq_true]
      intro n hm
      have := Classical.byContradiction fun hq => hn ⟨n, hm, hq⟩
      simp [this.1, this.2]
    rw [h] at this; cases this
  obtain ⟨n, hm, ho⟩ := this
  obtain ⟨l1, l2, rfl⟩ := List.append_of_mem hm
  unfold matchG
  have he : (l1 ++ n :: l2).isEmpty = false := by cases l1 <;> rfl
  rw [he]
  show (glu r 0).la.any _ = false
  rw [List.any_eq_false]
  intro p hp
  have hh : ∀ p, hitB (glu r 0) n p = false := fun p => by
    unfold hitB
    split
    · rename_i q hq
      have := sp_in r hw 0 q (List.mem_of_getElem? hq)
      by_cases h1 : q.1 ≤ n
      · have : ¬ n ≤ q.2 := by omega
        simp [this]
      · simp [h1]
    · rfl
  have ha : ∀ (s : (Nat → Bool) × (Nat → Bool)) p, (stepF (glu r 0) s n).2 p = false := fun s p => by show (_ && hitB _ n p) = false; rw [hh, Bool.and_false]
  have : (runF (glu r 0) (l1 ++ n :: l2)).2 p = false := by
    unfold runF
    rw [List.foldl_append, List.foldl_cons]
    refine run_dead l2 _ (fun q => ?_) (ha _) p
    cases e : (stepF (glu r 0) (List.foldl (stepF (glu r 0)) (fun p => decide (p ∈ (glu r 0).fi), fun _ => false) l1) n).1 q
    · rfl
    · obtain ⟨p, hp, _⟩ := nxF_iff.1 (show nxF _ _ q = true from e)
      have := ha (List.foldl (stepF (glu r 0)) (fun p => decide (p ∈ (glu r 0).fi), fun _ => false) l1) p
      rw [show (stepF (glu r 0) (List.foldl (stepF (glu r 0)) (fun p => decide (p ∈ (glu r 0).fi), fun _ => false) l1) n).2 p = atF _ _ n p from rfl, hp] at this
      cases this
  simp [this]
end Go.Pl

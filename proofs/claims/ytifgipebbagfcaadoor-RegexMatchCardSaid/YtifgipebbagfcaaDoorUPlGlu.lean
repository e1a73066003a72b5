/-
  REGULAR EXPRESSIONS, PLAINLY: the positions of an expression, which come first, last and after which; sets of positions as bits.
-/
import Derived.Test.YtifgipebbagfcaaDoorUPlExpl
import Derived.Test.YtifgipebbagfcaaDoorUL5
set_option linter.unusedVariables false
set_option linter.unusedSimpArgs false
namespace Go.Pl
open Go Go.Ev
theorem rx_ind {P : Rx → Prop} (h : ∀ k lo hi ks, (∀ r ∈ ks, P r) → P (.mk k lo hi ks)) : ∀ r, P r :=
  fun r => Rx.rec (motive_1 := P) (motive_2 := fun ks => ∀ r ∈ ks, P r) (fun k lo hi ks ih => h k lo hi ks ih) (fun r hr => by cases hr) (fun r ks ih1 ih2 x hx => by
    rcases List.mem_cons.1 hx with rfl | hx
    · exact ih1
    · exact ih2 x hx) r
theorem rx_eta (v : Rx) : Rx.mk v.out.1 v.out.2.1 v.out.2.2.1 v.out.2.2.2.1 = v := by cases v; rfl
structure G where
  fi : List Nat
  la : List Nat
  em : Bool
  pr : List (Nat × Nat)
  sp : List (Int × Int)
def prodL (a b : List Nat) : List (Nat × Nat) := a.flatMap fun p => b.map fun q => (p, q)
theorem prodL_mem {a b : List Nat} {p q : Nat} : (p, q) ∈ prodL a b ↔ p ∈ a ∧ q ∈ b := by
  unfold prodL
  simp only [List.mem_flatMap, List.mem_map, Prod.mk.injEq]
  constructor
  · rintro ⟨x, hx, y, hy, rfl, rfl⟩; exact ⟨hx, hy⟩
  · rintro ⟨hp, hq⟩; exact ⟨p, hp, q, hq, rfl, rfl⟩
def seqG (a x : G) : G := ⟨if a.em then a.fi ++ x.fi else a.fi, if x.em then a.la ++ x.la else x.la, a.em && x.em, a.pr ++ x.pr ++ prodL a.la x.fi, a.sp ++ x.sp⟩
def altG (a x : G) : G := ⟨a.fi ++ x.fi, a.la ++ x.la, a.em || x.em, a.pr ++ x.pr, a.sp ++ x.sp⟩
def loopG (x : G) : G := ⟨x.fi, x.la, x.em, x.pr ++ prodL x.la x.fi, x.sp⟩
def emG (x : G) : G := ⟨x.fi, x.la, true, x.pr, x.sp⟩
def g0 (e : Bool) : G := ⟨[], [], e, [], []⟩
def gAt (o : Nat) (lo hi : Int) : G := ⟨[o], [o], false, [], [(lo, hi)]⟩
mutual
def glu : Rx → Nat → G
  | .mk k lo hi ks, o =>
    if k = 1 then gAt o lo hi else if k = 2 then gAt o 0 4294967295
    else if k = 3 then gluS ks o (g0 true) else if k = 4 then gluA ks o (g0 false)
    else if k = 5 then emG (loopG (gluA ks o (g0 false))) else if k = 6 then loopG (gluA ks o (g0 false))
    else if k = 7 then emG (gluA ks o (g0 false)) else g0 true
def gluS : List Rx → Nat → G → G
  | [], _, a => a
  | r :: rs, o, a => gluS rs o (seqG a (glu r (o + a.sp.length)))
def gluA : List Rx → Nat → G → G
  | [], _, a => a
  | r :: rs, o, a => gluA rs o (altG a (glu r (o + a.sp.length)))
end
theorem gluS_app (o : Nat) : ∀ (l m : List Rx) (a : G), gluS (l ++ m) o a = gluS m o (gluS l o a)
  | [], _, _ => by simp [gluS]
  | r :: l, m, a => by simp only [List.cons_append, gluS]; exact gluS_app o l m _
theorem gluA_app (o : Nat) : ∀ (l m : List Rx) (a : G), gluA (l ++ m) o a = gluA m o (gluA l o a)
  | [], _, _ => by simp [gluA]
  | r :: l, m, a => by simp only [List.cons_append, gluA]; exact gluA_app o l m _
theorem gluS_take {o : Nat} {ks : List Rx} {i : Nat} (h : i < ks.length) (a : G) : gluS (ks.take (i + 1)) o a = seqG (gluS (ks.take i) o a) (glu ks[i] (o + (gluS (ks.take i) o a).sp.length)) := by
  rw [List.take_add_one, List.getElem?_eq_getElem h, gluS_app]; simp [gluS]
theorem gluA_take {o : Nat} {ks : List Rx} {i : Nat} (h : i < ks.length) (a : G) : gluA (ks.take (i + 1)) o a = altG (gluA (ks.take i) o a) (glu ks[i] (o + (gluA (ks.take i) o a).sp.length)) := by
  rw [List.take_add_one, List.getElem?_eq_getElem h, gluA_app]; simp [gluA]
theorem glu_ind {P : Nat → G → Prop} (h0 : ∀ o e, P o (g0 e)) (h1 : ∀ o lo hi, P o (gAt o lo hi)) (hs : ∀ o a x, P o a → P (o + a.sp.length) x → P o (seqG a x)) (ha : ∀ o a x, P o a → P (o + a.sp.length) x → P o (altG a x))
    (hl : ∀ o a, P o a → P o (loopG a)) (he : ∀ o a, P o a → P o (emG a)) : ∀ (r : Rx) (o : Nat), P o (glu r o) := by
  intro r
  refine rx_ind (P := fun r => ∀ o, P o (glu r o)) (fun k lo hi ks ih o => ?_) r
  have hA : ∀ (l : List Rx) (a : G), (∀ r ∈ l, ∀ o, P o (glu r o)) → P o a → P o (gluA l o a) := by
    intro l
    induction l with
    | nil => intro a _ h; exact h
    | cons r l ih => intro a hl h; exact ih _ (fun r hr => hl r (List.mem_cons_of_mem _ hr)) (ha o a _ h (hl r (List.mem_cons_self ..) _))
  have hS : ∀ (l : List Rx) (a : G), (∀ r ∈ l, ∀ o, P o (glu r o)) → P o a → P o (gluS l o a) := by
    intro l
    induction l with
    | nil => intro a _ h; exact h
    | cons r l ih => intro a hl h; exact ih _ (fun r hr => hl r (List.mem_cons_of_mem _ hr)) (hs o a _ h (hl r (List.mem_cons_self ..) _))
  unfold glu
  split
  · exact h1 _ _ _
  split
  · exact h1 _ _ _
  split
  · exact hS _ _ ih (h0 _ _)
  split
  · exact hA _ _ ih (h0 _ _)
  split
  · exact he _ _ (hl _ _ (hA _ _ ih (h0 _ _)))
  split
  · exact hl _ _ (hA _ _ ih (h0 _ _))
  split
  · exact he _ _ (hA _ _ ih (h0 _ _))
  · exact h0 _ _
structure Lie (o : Nat) (g : G) : Prop where
  fi : ∀ p ∈ g.fi, o ≤ p ∧ p < o + g.sp.length
  la : ∀ p ∈ g.la, o ≤ p ∧ p < o + g.sp.length
  pr : ∀ p q, (p, q) ∈ g.pr → (o ≤ p ∧ p < o + g.sp.length) ∧ o ≤ q ∧ q < o + g.sp.length
  fl : g.fi.length ≤ g.sp.length
  ll : g.la.length ≤ g.sp.length
theorem glu_lie : ∀ (r : Rx) (o : Nat), Lie o (glu r o) := by
  refine glu_ind (fun o e => ⟨by simp [g0], by simp [g0], by simp [g0], by simp [g0], by simp [g0]⟩) (fun o lo hi => ⟨by simp [gAt], by simp [gAt], by simp [gAt], by simp [gAt], by simp [gAt]⟩) ?_ ?_ (fun o a h => ⟨h.fi, h.la, fun p q hp => ?_, h.fl, h.ll⟩) (fun o a h => ⟨h.fi, h.la, h.pr, h.fl, h.ll⟩)
  · intro o a x ha hx
    have hfl := ha.fl; have hll := ha.ll; have hfx := hx.fl; have hlx := hx.ll
    refine ⟨fun p hp => ?_, fun p hp => ?_, fun p q hp => ?_, ?_, ?_⟩
    · simp only [seqG, List.length_append] at hp ⊢
      split at hp
      · rcases List.mem_append.1 hp with h | h
        · have := ha.fi p h; omega
        · have := hx.fi p h; omega
      · have := ha.fi p hp; omega
    · simp only [seqG, List.length_append] at hp ⊢
      split at hp
      · rcases List.mem_append.1 hp with h | h
        · have := ha.la p h; omega
        · have := hx.la p h; omega
      · have := hx.la p hp; omega
    · simp only [seqG, List.length_append, List.mem_append, prodL_mem] at hp ⊢
      rcases hp with (h | h) | ⟨h, h'⟩
      · have := ha.pr p q h; omega
      · have := hx.pr p q h; omega
      · have := ha.la p h; have := hx.fi q h'; omega
    · simp only [seqG, List.length_append]
      split
      · rw [List.length_append]; omega
      · omega
    · simp only [seqG, List.length_append]
      split
      · rw [List.length_append]; omega
      · omega
  · intro o a x ha hx
    have hfl := ha.fl; have hll := ha.ll; have hfx := hx.fl; have hlx := hx.ll
    refine ⟨fun p hp => ?_, fun p hp => ?_, fun p q hp => ?_, ?_, ?_⟩
    · simp only [altG, List.length_append] at hp ⊢
      rcases List.mem_append.1 hp with h | h
      · have := ha.fi p h; omega
      · have := hx.fi p h; omega
    · simp only [altG, List.length_append] at hp ⊢
      rcases List.mem_append.1 hp with h | h
      · have := ha.la p h; omega
      · have := hx.la p h; omega
    · simp only [altG, List.length_append, List.mem_append] at hp ⊢
      rcases hp with h | h
      · have := ha.pr p q h; omega
      · have := hx.pr p q h; omega
    · simp only [altG, List.length_append]; omega
    · simp only [altG, List.length_append]; omega
  · simp only [loopG, List.mem_append, prodL_mem] at hp ⊢
    rcases hp with hp | ⟨h1, h2⟩
    · exact h.pr p q hp
    · exact ⟨h.la p h1, h.fi q h2⟩
end Go.Pl

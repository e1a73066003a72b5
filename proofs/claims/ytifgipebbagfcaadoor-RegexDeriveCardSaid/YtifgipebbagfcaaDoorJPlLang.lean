/-
  THE LANGUAGE OF AN EXPRESSION, and that its positions read it.
-/
import Derived.Test.YtifgipebbagfcaaDoorJPlMatch
set_option linter.unusedVariables false
set_option linter.unusedSimpArgs false
namespace Go.Pl
open Go.Ev
inductive Star (L : List Int → Prop) : List Int → Prop
  | nil : Star L []
  | cons (a b : List Int) (h : L a) (k : Star L b) : Star L (a ++ b)
def Cat (K L : List Int → Prop) (l : List Int) : Prop := ∃ a b, l = a ++ b ∧ K a ∧ L b
theorem Star.one {L : List Int → Prop} {a : List Int} (h : L a) : Star L a := by
  have := Star.cons a [] h .nil
  rwa [List.append_nil] at this
theorem Star.app {L : List Int → Prop} {a b : List Int} (h : Star L a) (k : Star L b) : Star L (a ++ b) := by
  induction h with
  | nil => exact k
  | cons a b h _ ih => rw [List.append_assoc]; exact .cons _ _ h ih
theorem Star.mono {K L : List Int → Prop} (h : ∀ l, K l → L l) {a : List Int} (k : Star K a) : Star L a := by
  induction k with
  | nil => exact .nil
  | cons a b h1 _ ih => exact .cons _ _ (h _ h1) ih
mutual
def Lang : Rx → List Int → Prop
  | .mk k lo hi ks, l =>
    if k = 1 then ∃ n, l = [n] ∧ lo ≤ n ∧ n ≤ hi else if k = 2 then ∃ n, l = [n] ∧ 0 ≤ n ∧ n ≤ 4294967295
    else if k = 3 then LangS ks l else if k = 4 then LangA ks l
    else if k = 5 then Star (fun l => LangA ks l) l else if k = 6 then Cat (fun l => LangA ks l) (Star fun l => LangA ks l) l
    else if k = 7 then l = [] ∨ LangA ks l else l = []
def LangS : List Rx → List Int → Prop
  | [], l => l = []
  | r :: rs, l => Cat (fun l => Lang r l) (fun l => LangS rs l) l
def LangA : List Rx → List Int → Prop
  | [], _ => False
  | r :: rs, l => Lang r l ∨ LangA rs l
end
theorem mem_if {c : Bool} {l m : List Nat} {p : Nat} : p ∈ (if c = true then l ++ m else l) ↔ p ∈ l ∨ (c = true ∧ p ∈ m) := by
  cases c <;> simp
theorem mem_if' {c : Bool} {l m : List Nat} {p : Nat} : p ∈ (if c = true then l ++ m else m) ↔ (c = true ∧ p ∈ l) ∨ p ∈ m := by
  cases c <;> simp
def Hit (o : Nat) (g : G) (n : Int) (p : Nat) : Prop := ∃ q, g.sp[p - o]? = some q ∧ q.1 ≤ n ∧ n ≤ q.2
inductive Rd (o : Nat) (g : G) : List Int → Nat → Prop
  | one (n : Int) (p : Nat) (h : p ∈ g.fi) (k : Hit o g n p) : Rd o g [n] p
  | snoc (l : List Int) (p q : Nat) (n : Int) (h : Rd o g l p) (k : (p, q) ∈ g.pr) (j : Hit o g n q) : Rd o g (l ++ [n]) q
def AccN (o : Nat) (g : G) (l : List Int) : Prop := ∃ p ∈ g.la, Rd o g l p
def Acc (o : Nat) (g : G) (l : List Int) : Prop := (l = [] ∧ g.em = true) ∨ AccN o g l
theorem Rd.ne {o : Nat} {g : G} {l : List Int} {p : Nat} (h : Rd o g l p) : l ≠ [] := by
  cases h <;> simp
theorem Rd.in {o : Nat} {g : G} (hl : Lie o g) {l : List Int} {p : Nat} (h : Rd o g l p) : o ≤ p ∧ p < o + g.sp.length := by
  cases h with
  | one n p h k => exact hl.fi p h
  | snoc l p q n h k j => exact (hl.pr _ _ k).2
theorem acc_at (o : Nat) (lo hi : Int) (l : List Int) : Acc o (gAt o lo hi) l ↔ ∃ n, l = [n] ∧ lo ≤ n ∧ n ≤ hi := by
  constructor
  · rintro (⟨_, h⟩ | ⟨p, hp, h⟩)
    · cases h
    · cases h with
      | one n p h k =>
        obtain ⟨q, h1, h2⟩ := k
        simp only [gAt, List.mem_singleton] at h
        subst h
        simp [gAt] at h1
        subst h1
        exact ⟨n, rfl, h2⟩
      | snoc l p q n h k j => simp [gAt] at k
  · rintro ⟨n, rfl, h⟩
    exact .inr ⟨o, by simp [gAt], .one n o (by simp [gAt]) ⟨(lo, hi), by simp [gAt], h⟩⟩
theorem acc_g0 (o : Nat) (e : Bool) (l : List Int) : Acc o (g0 e) l ↔ l = [] ∧ e = true := by
  constructor
  · rintro (h | ⟨p, hp, _⟩)
    · exact h
    · simp [g0] at hp
  · exact .inl
section
variable {o : Nat} {a x : G}
theorem hit_l {g : G} (hg : g.sp = a.sp ++ x.sp) {n : Int} {p : Nat} (h : o ≤ p ∧ p < o + a.sp.length) : Hit o g n p ↔ Hit o a n p := by
  unfold Hit
  rw [hg, List.getElem?_append_left (by omega)]
theorem hit_r {g : G} (hg : g.sp = a.sp ++ x.sp) {n : Int} {p : Nat} (h : o + a.sp.length ≤ p) : Hit o g n p ↔ Hit (o + a.sp.length) x n p := by
  unfold Hit
  rw [hg, List.getElem?_append_right (by omega), show p - o - a.sp.length = p - (o + a.sp.length) by omega]
theorem rd_l (ha : Lie o a) {g : G} (hg : g.sp = a.sp ++ x.sp) (hf : ∀ p ∈ a.fi, p ∈ g.fi) (hp : ∀ y ∈ a.pr, y ∈ g.pr) {l : List Int} {p : Nat} (h : Rd o a l p) : Rd o g l p := by
  induction h with
  | one n p h k => exact .one n p (hf p h) ((hit_l hg (ha.fi p h)).2 k)
  | snoc l p q n _ k j ih => exact .snoc l p q n ih (hp _ k) ((hit_l hg (ha.pr _ _ k).2).2 j)
theorem acc_alt (ha : Lie o a) (hx : Lie (o + a.sp.length) x) (l : List Int) : Acc o (altG a x) l ↔ Acc o a l ∨ Acc (o + a.sp.length) x l := by
  have hsp : (altG a x).sp = a.sp ++ x.sp := rfl
  have fwd : ∀ l p, Rd o (altG a x) l p → (p < o + a.sp.length ∧ Rd o a l p) ∨ (o + a.sp.length ≤ p ∧ Rd (o + a.sp.length) x l p) := by
    intro l p h
    induction h with
    | one n p h k =>
      rcases List.mem_append.1 (show p ∈ a.fi ++ x.fi from h) with h | h
      · have := ha.fi p h
        exact .inl ⟨this.2, .one n p h ((hit_l hsp this).1 k)⟩
      · have := hx.fi p h
        exact .inr ⟨this.1, .one n p h ((hit_r hsp this.1).1 k)⟩
    | snoc l p q n _ k j ih =>
      rcases List.mem_append.1 (show (p, q) ∈ a.pr ++ x.pr from k) with k | k
      · have := ha.pr _ _ k
        rcases ih with ⟨_, ih⟩ | ⟨h1, _⟩
        · exact .inl ⟨this.2.2, .snoc l p q n ih k ((hit_l hsp this.2).1 j)⟩
        · omega
      · have := hx.pr _ _ k
        rcases ih with ⟨h1, _⟩ | ⟨_, ih⟩
        · omega
        · exact .inr ⟨this.2.1, .snoc l p q n ih k ((hit_r hsp this.2.1).1 j)⟩
  have bwd : ∀ l p, Rd (o + a.sp.length) x l p → Rd o (altG a x) l p := by
    intro l p h
    induction h with
    | one n p h k => exact .one n p (List.mem_append.2 (.inr h)) ((hit_r hsp (hx.fi p h).1).2 k)
    | snoc l p q n _ k j ih => exact .snoc l p q n ih (List.mem_append.2 (.inr k)) ((hit_r hsp (hx.pr _ _ k).2.1).2 j)
  constructor
  · rintro (⟨rfl, h⟩ | ⟨p, hp, h⟩)
    · rcases Bool.or_eq_true_iff.1 (show (a.em || x.em) = true from h) with h | h
      · exact .inl (.inl ⟨rfl, h⟩)
      · exact .inr (.inl ⟨rfl, h⟩)
    · rcases fwd l p h with ⟨h1, h2⟩ | ⟨h1, h2⟩
      · refine .inl (.inr ⟨p, ?_, h2⟩)
        rcases List.mem_append.1 (show p ∈ a.la ++ x.la from hp) with hp | hp
        · exact hp
        · have := hx.la p hp; omega
      · refine .inr (.inr ⟨p, ?_, h2⟩)
        rcases List.mem_append.1 (show p ∈ a.la ++ x.la from hp) with hp | hp
        · have := ha.la p hp; omega
        · exact hp
  · rintro ((⟨rfl, h⟩ | ⟨p, hp, h⟩) | (⟨rfl, h⟩ | ⟨p, hp, h⟩))
    · exact .inl ⟨rfl, by show (a.em || x.em) = true; rw [h]; rfl⟩
    · exact .inr ⟨p, List.mem_append.2 (.inl hp), rd_l ha hsp (fun _ h => List.mem_append.2 (.inl h)) (fun _ h => List.mem_append.2 (.inl h)) h⟩
    · exact .inl ⟨rfl, by show (a.em || x.em) = true; rw [h, Bool.or_true]⟩
    · exact .inr ⟨p, List.mem_append.2 (.inr hp), bwd l p h⟩
theorem acc_seq (ha : Lie o a) (hx : Lie (o + a.sp.length) x) (l : List Int) : Acc o (seqG a x) l ↔ Cat (Acc o a) (Acc (o + a.sp.length) x) l := by
  have hsp : (seqG a x).sp = a.sp ++ x.sp := rfl
  have hpr : ∀ y, y ∈ (seqG a x).pr ↔ (y ∈ a.pr ∨ y ∈ x.pr) ∨ y ∈ prodL a.la x.fi := fun y => by
    show y ∈ a.pr ++ x.pr ++ prodL a.la x.fi ↔ _
    rw [List.mem_append, List.mem_append]
  have fwd : ∀ l p, Rd o (seqG a x) l p → (p < o + a.sp.length ∧ Rd o a l p) ∨ (o + a.sp.length ≤ p ∧ ∃ l1 l2, l = l1 ++ l2 ∧ Acc o a l1 ∧ Rd (o + a.sp.length) x l2 p) := by
    intro l p h
    induction h with
    | one n p h k =>
      rcases mem_if.1 (show p ∈ (if a.em = true then a.fi ++ x.fi else a.fi) from h) with h | ⟨he, h⟩
      · have := ha.fi p h
        exact .inl ⟨this.2, .one n p h ((hit_l hsp this).1 k)⟩
      · have := hx.fi p h
        exact .inr ⟨this.1, [], [n], rfl, .inl ⟨rfl, he⟩, .one n p h ((hit_r hsp this.1).1 k)⟩
    | snoc l p q n _ k j ih =>
      rcases (hpr _).1 k with (k | k) | k
      · have := ha.pr _ _ k
        rcases ih with ⟨_, ih⟩ | ⟨h1, _⟩
        · exact .inl ⟨this.2.2, .snoc l p q n ih k ((hit_l hsp this.2).1 j)⟩
        · omega
      · have := hx.pr _ _ k
        rcases ih with ⟨h1, _⟩ | ⟨_, l1, l2, rfl, h2, h3⟩
        · omega
        · exact .inr ⟨this.2.1, l1, l2 ++ [n], by rw [List.append_assoc], h2, .snoc l2 p q n h3 k ((hit_r hsp this.2.1).1 j)⟩
      · obtain ⟨k1, k2⟩ := prodL_mem.1 k
        have h4 := ha.la p k1
        have h5 := hx.fi q k2
        rcases ih with ⟨_, ih⟩ | ⟨h1, _⟩
        · exact .inr ⟨h5.1, l, [n], rfl, .inr ⟨p, k1, ih⟩, .one n q k2 ((hit_r hsp h5.1).1 j)⟩
        · omega
  have left : ∀ l p, Rd o a l p → Rd o (seqG a x) l p := fun l p h => rd_l ha hsp (fun p h => mem_if.2 (.inl h)) (fun y h => (hpr y).2 (.inl (.inl h))) h
  have bwd : ∀ l1 l2 p, Acc o a l1 → Rd (o + a.sp.length) x l2 p → Rd o (seqG a x) (l1 ++ l2) p := by
    intro l1 l2 p h1 h
    induction h with
    | one n p h k =>
      have hp := hx.fi p h
      rcases h1 with ⟨rfl, he⟩ | ⟨q, hq, h1⟩
      · exact .one n p (mem_if.2 (.inr ⟨he, h⟩)) ((hit_r hsp hp.1).2 k)
      · exact .snoc l1 q p n (left _ _ h1) ((hpr _).2 (.inr (prodL_mem.2 ⟨hq, h⟩))) ((hit_r hsp hp.1).2 k)
    | snoc l p q n _ k j ih =>
      rw [← List.append_assoc]
      exact .snoc _ p q n ih ((hpr _).2 (.inl (.inr k))) ((hit_r hsp (hx.pr _ _ k).2.1).2 j)
  constructor
  · rintro (⟨rfl, h⟩ | ⟨p, hp, h⟩)
    · have h := Bool.and_eq_true_iff.1 (show (a.em && x.em) = true from h)
      exact ⟨[], [], rfl, .inl ⟨rfl, h.1⟩, .inl ⟨rfl, h.2⟩⟩
    · have hp := mem_if'.1 (show p ∈ (if x.em = true then a.la ++ x.la else x.la) from hp)
      rcases fwd l p h with ⟨h1, h2⟩ | ⟨h1, l1, l2, rfl, h2, h3⟩
      · rcases hp with ⟨he, hp⟩ | hp
        · exact ⟨l, [], (List.append_nil l).symm, .inr ⟨p, hp, h2⟩, .inl ⟨rfl, he⟩⟩
        · have := hx.la p hp; omega
      · rcases hp with ⟨he, hp⟩ | hp
        · have := ha.la p hp; omega
        · exact ⟨l1, l2, rfl, h2, .inr ⟨p, hp, h3⟩⟩
  · rintro ⟨l1, l2, rfl, h1, ⟨rfl, h2⟩ | ⟨p, hp, h2⟩⟩
    · rw [List.append_nil]
      rcases h1 with ⟨rfl, h1⟩ | ⟨p, hp, h1⟩
      · exact .inl ⟨rfl, by show (a.em && x.em) = true; rw [h1, h2]; rfl⟩
      · exact .inr ⟨p, mem_if'.2 (.inl ⟨h2, hp⟩), left _ _ h1⟩
    · exact .inr ⟨p, mem_if'.2 (.inr hp), bwd _ _ _ h1 h2⟩
end
theorem rd_em {o : Nat} {g : G} {l : List Int} {p : Nat} : Rd o (emG g) l p ↔ Rd o g l p := by
  constructor
  · intro h
    induction h with
    | one n p h k => exact .one n p h k
    | snoc l p q n _ k j ih => exact .snoc l p q n ih k j
  · intro h
    induction h with
    | one n p h k => exact .one n p h k
    | snoc l p q n _ k j ih => exact .snoc l p q n ih k j
theorem acc_em {o : Nat} {g : G} {l : List Int} : Acc o (emG g) l ↔ l = [] ∨ AccN o g l := by
  unfold Acc AccN
  constructor
  · rintro (⟨h, _⟩ | ⟨p, hp, h⟩)
    · exact .inl h
    · exact .inr ⟨p, hp, rd_em.1 h⟩
  · rintro (h | ⟨p, hp, h⟩)
    · exact .inl ⟨h, rfl⟩
    · exact .inr ⟨p, hp, rd_em.2 h⟩
section
variable {o : Nat} {x : G}
theorem loop_mono {l : List Int} {p : Nat} (h : Rd o x l p) : Rd o (loopG x) l p := by
  induction h with
  | one n p h k => exact .one n p h k
  | snoc l p q n _ k j ih => exact .snoc l p q n ih (List.mem_append.2 (.inl k)) j
theorem loop_app {w b : List Int} {q p : Nat} (hq : q ∈ x.la) (hw : Rd o (loopG x) w q) (h : Rd o (loopG x) b p) : Rd o (loopG x) (w ++ b) p := by
  induction h with
  | one n p h k => exact .snoc w q p n hw (List.mem_append.2 (.inr (prodL_mem.2 ⟨hq, h⟩))) k
  | snoc l p q n _ k j ih => rw [← List.append_assoc]; exact .snoc _ p q n ih k j
theorem accN_loop {l : List Int} : AccN o (loopG x) l ↔ Cat (Star (AccN o x)) (AccN o x) l := by
  have fwd : ∀ l p, Rd o (loopG x) l p → ∃ l1 l2, l = l1 ++ l2 ∧ Star (AccN o x) l1 ∧ Rd o x l2 p := by
    intro l p h
    induction h with
    | one n p h k => exact ⟨[], [n], rfl, .nil, .one n p h k⟩
    | snoc l p q n _ k j ih =>
      obtain ⟨l1, l2, rfl, h1, h2⟩ := ih
      rcases List.mem_append.1 (show (p, q) ∈ x.pr ++ prodL x.la x.fi from k) with k | k
      · exact ⟨l1, l2 ++ [n], by rw [List.append_assoc], h1, .snoc l2 p q n h2 k j⟩
      · obtain ⟨k1, k2⟩ := prodL_mem.1 k
        exact ⟨l1 ++ l2, [n], rfl, h1.app (.one ⟨p, k1, h2⟩), .one n q k2 j⟩
  have st : ∀ l1, Star (AccN o x) l1 → l1 = [] ∨ AccN o (loopG x) l1 := by
    intro l1 h
    induction h with
    | nil => exact .inl rfl
    | cons a b h _ ih =>
      obtain ⟨q, hq, h⟩ := h
      rcases ih with rfl | ⟨p, hp, h2⟩
      · rw [List.append_nil]; exact .inr ⟨q, hq, loop_mono h⟩
      · exact .inr ⟨p, hp, loop_app hq (loop_mono h) h2⟩
  constructor
  · rintro ⟨p, hp, h⟩
    obtain ⟨l1, l2, rfl, h1, h2⟩ := fwd l p h
    exact ⟨l1, l2, rfl, h1, p, hp, h2⟩
  · rintro ⟨l1, l2, rfl, h1, p, hp, h2⟩
    rcases st l1 h1 with rfl | ⟨q, hq, h3⟩
    · exact ⟨p, hp, loop_mono h2⟩
    · exact ⟨p, hp, loop_app hq h3 (loop_mono h2)⟩
theorem star_acc {l : List Int} (h : Star (Acc o x) l) : l = [] ∨ Cat (Star (AccN o x)) (AccN o x) l := by
  induction h with
  | nil => exact .inl rfl
  | cons a b h _ ih =>
    rcases h with ⟨rfl, _⟩ | h
    · exact ih
    · rcases ih with rfl | ⟨u, v, rfl, h1, h2⟩
      · rw [List.append_nil]; exact .inr ⟨[], a, rfl, .nil, h⟩
      · exact .inr ⟨a ++ u, v, by rw [List.append_assoc], .cons _ _ h h1, h2⟩
theorem acc_star {l : List Int} : Acc o (emG (loopG x)) l ↔ Star (Acc o x) l := by
  rw [acc_em, accN_loop]
  constructor
  · rintro (rfl | ⟨u, v, rfl, h1, h2⟩)
    · exact .nil
    · exact (h1.mono fun _ h => .inr h).app (.one (.inr h2))
  · exact star_acc
theorem acc_plus {l : List Int} : Acc o (loopG x) l ↔ Cat (Acc o x) (Star (Acc o x)) l := by
  constructor
  · rintro (⟨rfl, h⟩ | h)
    · exact ⟨[], [], rfl, .inl ⟨rfl, h⟩, .nil⟩
    · obtain ⟨u, v, rfl, h1, h2⟩ := accN_loop.1 h
      cases h1 with
      | nil => exact ⟨v, [], by simp, .inr h2, .nil⟩
      | cons a b h3 h4 => exact ⟨a, b ++ v, by rw [List.append_assoc], .inr h3, (h4.mono fun _ h => .inr h).app (.one (.inr h2))⟩
  · rintro ⟨a, b, rfl, h1, h2⟩
    rcases star_acc (.cons a b h1 h2) with h | h
    · have ha : a = [] := (List.append_eq_nil_iff.1 h).1
      rw [h]
      subst ha
      rcases h1 with ⟨_, he⟩ | ⟨p, _, hp⟩
      · exact .inl ⟨rfl, he⟩
      · exact absurd rfl hp.ne
    · exact .inr (accN_loop.2 h)
end
theorem cat_congr {K K' L L' : List Int → Prop} (h1 : ∀ l, K l ↔ K' l) (h2 : ∀ l, L l ↔ L' l) (l : List Int) : Cat K L l ↔ Cat K' L' l := by
  unfold Cat
  simp only [h1, h2]
theorem cat_assoc {K L M : List Int → Prop} (l : List Int) : Cat (Cat K L) M l ↔ Cat K (Cat L M) l := by
  constructor
  · rintro ⟨_, c, rfl, ⟨a, b, rfl, h1, h2⟩, h3⟩
    exact ⟨a, b ++ c, by rw [List.append_assoc], h1, b, c, rfl, h2, h3⟩
  · rintro ⟨a, _, rfl, h1, b, c, rfl, h2, h3⟩
    exact ⟨a ++ b, c, by rw [List.append_assoc], ⟨a, b, rfl, h1, h2⟩, h3⟩
theorem star_congr {K L : List Int → Prop} (h : ∀ l, K l ↔ L l) (l : List Int) : Star K l ↔ Star L l := ⟨Star.mono fun l => (h l).1, Star.mono fun l => (h l).2⟩
theorem glu_lang : ∀ (r : Rx) (o : Nat) (l : List Int), Acc o (glu r o) l ↔ Lang r l := by
  refine rx_ind fun k lo hi ks ih o l => ?_
  have hA : ∀ (rs : List Rx), (∀ r ∈ rs, r ∈ ks) → ∀ (o : Nat) (a : G), Lie o a → ∀ l, Acc o (gluA rs o a) l ↔ Acc o a l ∨ LangA rs l := by
    intro rs
    induction rs with
    | nil => intro _ o a _ l; simp [gluA, LangA]
    | cons r rs il =>
      intro hr o a ha l
      have hx := glu_lie r (o + a.sp.length)
      rw [gluA, il (fun r h => hr r (List.mem_cons_of_mem _ h)) o _ (lie_alt ha hx), acc_alt ha hx, ih r (hr r (List.mem_cons_self ..)), LangA, or_assoc]
  have hS : ∀ (rs : List Rx), (∀ r ∈ rs, r ∈ ks) → ∀ (o : Nat) (a : G), Lie o a → ∀ l, Acc o (gluS rs o a) l ↔ Cat (Acc o a) (fun l => LangS rs l) l := by
    intro rs
    induction rs with
    | nil =>
      intro _ o a _ l
      simp only [gluS, LangS]
      constructor
      · exact fun h => ⟨l, [], (List.append_nil l).symm, h, rfl⟩
      · rintro ⟨a1, b1, rfl, h, rfl⟩; rw [List.append_nil]; exact h
    | cons r rs il =>
      intro hr o a ha l
      have hx := glu_lie r (o + a.sp.length)
      rw [gluS, il (fun r h => hr r (List.mem_cons_of_mem _ h)) o _ (lie_seq ha hx)]
      refine (cat_congr (fun l => (acc_seq ha hx l).trans (cat_congr (fun _ => Iff.rfl) (fun l => ih r (hr r (List.mem_cons_self ..)) _ l) l)) (fun _ => Iff.rfl) l).trans ((cat_assoc l).trans (cat_congr (fun _ => Iff.rfl) (fun l => ?_) l))
      rw [LangS]
  have h4 : ∀ l, Acc o (gluA ks o (g0 false)) l ↔ LangA ks l := fun l => by
    rw [hA ks (fun _ h => h) o _ (lie_g0 o false), acc_g0]
    simp
  unfold glu Lang
  split
  · exact acc_at o lo hi l
  split
  · exact acc_at o 0 4294967295 l
  split
  · rw [hS ks (fun _ h => h) o _ (lie_g0 o true)]
    constructor
    · rintro ⟨a, b, rfl, h1, h2⟩
      obtain ⟨rfl, _⟩ := (acc_g0 o true a).1 h1
      exact h2
    · exact fun h => ⟨[], l, rfl, .inl ⟨rfl, rfl⟩, h⟩
  split
  · exact h4 l
  split
  · exact acc_star.trans (star_congr h4 l)
  split
  · exact acc_plus.trans (cat_congr h4 (star_congr h4) l)
  split
  · rw [acc_em, ← h4]
    unfold Acc
    constructor
    · rintro (h | h)
      · exact .inl h
      · exact .inr (.inr h)
    · rintro (h | ⟨h, _⟩ | h)
      · exact .inl h
      · exact .inl h
      · exact .inr h
  · rw [acc_g0]; simp
theorem hitB_iff {g : G} {n : Int} {p : Nat} : hitB g n p = true ↔ Hit 0 g n p := by
  unfold hitB Hit
  rw [Nat.sub_zero]
  constructor
  · intro h
    split at h
    · rename_i q hq
      simp only [Bool.and_eq_true, decide_eq_true_eq] at h
      exact ⟨q, hq, h⟩
    · cases h
  · rintro ⟨q, hq, h⟩
    rw [hq]
    simp [h.1, h.2]
theorem rd_snoc {o : Nat} {g : G} {l : List Int} {n : Int} {p : Nat} : Rd o g (l ++ [n]) p ↔ ((l = [] ∧ p ∈ g.fi) ∨ ∃ q, Rd o g l q ∧ (q, p) ∈ g.pr) ∧ Hit o g n p := by
  constructor
  · intro h
    generalize hw : l ++ [n] = w at h
    cases h with
    | one m p h k =>
      cases l with
      | nil => cases hw; exact ⟨.inl ⟨rfl, h⟩, k⟩
      | cons y l => simp at hw
    | snoc l' q p m h k j =>
      obtain ⟨rfl, h2⟩ := List.append_inj' hw rfl
      cases h2
      exact ⟨.inr ⟨q, h, k⟩, j⟩
  · rintro ⟨⟨rfl, h⟩ | ⟨q, h, k⟩, j⟩
    · exact .one n p h j
    · exact .snoc l q p n h k j
theorem run_rd (g : G) : ∀ (m : Nat) (l : List Int), l.length = m → (∀ p, (runF g l).2 p = true ↔ Rd 0 g l p) ∧ ∀ q, (runF g l).1 q = true ↔ (l = [] ∧ q ∈ g.fi) ∨ ∃ p, Rd 0 g l p ∧ (p, q) ∈ g.pr
  | 0, l, h => by
    have : l = [] := List.length_eq_zero_iff.1 h
    subst this
    refine ⟨fun p => ⟨fun h => (by cases h), fun h => absurd rfl h.ne⟩, fun q => ?_⟩
    show decide (q ∈ g.fi) = true ↔ _
    rw [decide_eq_true_eq]
    exact ⟨fun h => .inl ⟨rfl, h⟩, fun h => h.elim (·.2) fun ⟨p, h, _⟩ => absurd rfl h.ne⟩
  | m + 1, l, h => by
    rcases List.eq_nil_or_concat l with rfl | ⟨l', n, rfl⟩
    · cases h
    · rw [List.concat_eq_append] at h ⊢
      have hl : l'.length = m := by simpa using h
      obtain ⟨_, h2⟩ := run_rd g m l' hl
      have hr : runF g (l' ++ [n]) = stepF g (runF g l') n := by unfold runF; rw [List.foldl_append]; rfl
      have hat : ∀ p, (runF g (l' ++ [n])).2 p = true ↔ Rd 0 g (l' ++ [n]) p := fun p => by
        rw [hr, rd_snoc]
        show ((runF g l').1 p && hitB g n p) = true ↔ _
        rw [Bool.and_eq_true, h2, hitB_iff]
      refine ⟨hat, fun q => ?_⟩
      rw [show (runF g (l' ++ [n])).1 q = nxF g (runF g (l' ++ [n])).2 q by rw [hr]; rfl, nxF_iff]
      constructor
      · rintro ⟨p, h3, h4⟩; exact .inr ⟨p, (hat p).1 h3, h4⟩
      · rintro (⟨h3, _⟩ | ⟨p, h3, h4⟩)
        · simp at h3
        · exact ⟨p, (hat p).2 h3, h4⟩
theorem match_lang (r : Rx) (l : List Int) : matchG (glu r 0) l = true ↔ Lang r l := by
  rw [← glu_lang r 0 l]
  unfold matchG Acc AccN
  cases l with
  | nil =>
    show (glu r 0).em = true ↔ _
    exact ⟨fun h => .inl ⟨rfl, h⟩, fun h => h.elim (·.2) fun ⟨p, _, h⟩ => absurd rfl h.ne⟩
  | cons n l =>
    show (glu r 0).la.any _ = true ↔ _
    rw [List.any_eq_true]
    constructor
    · rintro ⟨p, h1, h2⟩; exact .inr ⟨p, h1, ((run_rd _ _ _ rfl).1 p).1 h2⟩
    · rintro (⟨h, _⟩ | ⟨p, h1, h2⟩)
      · cases h
      · exact ⟨p, h1, ((run_rd _ _ _ rfl).1 p).2 h2⟩
end Go.Pl

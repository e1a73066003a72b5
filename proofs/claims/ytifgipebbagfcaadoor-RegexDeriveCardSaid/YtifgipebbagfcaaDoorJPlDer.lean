/-
  DERIVATIVES, PLAINLY.
-/
import Derived.Test.YtifgipebbagfcaaDoorJPlLang
set_option linter.unusedVariables false
set_option linter.unusedSimpArgs false
namespace Go.Pl
open Go.Ev
def kindOf : Rx → Int
  | .mk k _ _ _ => k
def noR : Rx := .mk 4 0 0 []
def emR : Rx := .mk 0 0 0 []
def isNo : Rx → Bool
  | .mk k _ _ ks => k == 4 && ks.isEmpty
def thenR (a b : Rx) : Rx := if isNo a = true ∨ isNo b = true then noR else if kindOf a = 0 then b else if kindOf b = 0 then a else .mk 3 0 0 [a, b]
def restR : List Rx → Rx
  | [] => emR
  | r :: rs => thenR r (restR rs)
theorem lang_no {l : List Int} : ¬ Lang noR l := by
  show ¬ Lang (.mk 4 0 0 []) l
  rw [Lang, if_neg (by decide), if_neg (by decide), if_neg (by decide), if_pos rfl]
  exact id
theorem isNo_lang {r : Rx} (h : isNo r = true) (l : List Int) : ¬ Lang r l := by
  obtain ⟨k, lo, hi, ks⟩ := r
  simp only [isNo, Bool.and_eq_true, beq_iff_eq, List.isEmpty_iff] at h
  obtain ⟨rfl, rfl⟩ := h
  rw [Lang, if_neg (by decide), if_neg (by decide), if_neg (by decide), if_pos rfl]
  exact id
theorem lang_zero {r : Rx} (h : kindOf r = 0) (l : List Int) : Lang r l ↔ l = [] := by
  obtain ⟨k, lo, hi, ks⟩ := r
  have h : k = 0 := h
  subst h
  rw [Lang]
  simp
theorem lang_two {r s : Rx} {l : List Int} : Lang (.mk 3 0 0 [r, s]) l ↔ Cat (Lang r) (Lang s) l := by
  rw [Lang, if_neg (by decide), if_neg (by decide), if_pos rfl, LangS]
  refine cat_congr (fun _ => Iff.rfl) (fun l => ?_) l
  rw [LangS]
  constructor
  · rintro ⟨a, b, rfl, h, h2⟩
    have : b = [] := h2
    subst this
    rw [List.append_nil]; exact h
  · exact fun h => ⟨l, [], (List.append_nil l).symm, h, rfl⟩
theorem lang_then {a b : Rx} {l : List Int} : Lang (thenR a b) l ↔ Cat (Lang a) (Lang b) l := by
  unfold thenR
  split
  · rename_i h
    refine ⟨fun h2 => absurd h2 lang_no, ?_⟩
    rintro ⟨u, v, rfl, h1, h2⟩
    exact (h.elim (fun h => isNo_lang h u h1) fun h => isNo_lang h v h2).elim
  split
  · rename_i h0
    constructor
    · exact fun h => ⟨[], l, rfl, (lang_zero h0 []).2 rfl, h⟩
    · rintro ⟨u, v, rfl, h1, h2⟩
      obtain rfl := (lang_zero h0 u).1 h1
      exact h2
  split
  · rename_i h0
    constructor
    · exact fun h => ⟨l, [], (List.append_nil l).symm, h, (lang_zero h0 []).2 rfl⟩
    · rintro ⟨u, v, rfl, h1, h2⟩
      obtain rfl := (lang_zero h0 v).1 h2
      rw [List.append_nil]; exact h1
  · exact lang_two
theorem lang_rest : ∀ (rs : List Rx) (l : List Int), Lang (restR rs) l ↔ LangS rs l
  | [], l => by rw [restR, LangS]; exact lang_zero rfl l
  | r :: rs, l => by
    rw [restR, lang_then, LangS]
    exact cat_congr (fun _ => Iff.rfl) (fun l => lang_rest rs l) l
theorem well_then {a b : Rx} (ha : wellB a = true) (hb : wellB b = true) : wellB (thenR a b) = true := by
  unfold thenR
  split
  · rfl
  split
  · exact hb
  split
  · exact ha
  · refine well_iff.2 ⟨nodeE_zero.1 rfl, fun x hx => ?_⟩
    rcases List.mem_cons.1 hx with rfl | hx
    · exact ha
    · simp only [List.mem_singleton] at hx; subst hx; exact hb
theorem well_rest : ∀ (rs : List Rx), (∀ r ∈ rs, wellB r = true) → wellB (restR rs) = true
  | [], _ => rfl
  | r :: rs, h => well_then (h r (List.mem_cons_self ..)) (well_rest rs fun x hx => h x (List.mem_cons_of_mem _ hx))
open Classical in
noncomputable def addR (u : List Rx) (x : Rx) : List Rx := if isNo x = true ∨ x ∈ u then u else u ++ [x]
noncomputable def eitherR (l : List Rx) : Rx := match l.foldl addR [] with
  | [x] => x
  | u => .mk 4 0 0 u
theorem add_mem {u : List Rx} {x y : Rx} : y ∈ addR u x → y ∈ u ∨ y = x := by
  unfold addR
  split
  · exact .inl
  · intro h
    simpa using h
theorem add_lang {w : List Int} {u : List Rx} {x : Rx} : (∃ y ∈ addR u x, Lang y w) ↔ (∃ y ∈ u, Lang y w) ∨ Lang x w := by
  unfold addR
  split
  · rename_i h
    constructor
    · exact .inl
    · rintro (h2 | h2)
      · exact h2
      · rcases h with h | h
        · exact absurd h2 (isNo_lang h w)
        · exact ⟨x, h, h2⟩
  · constructor
    · rintro ⟨y, h1, h2⟩
      rcases List.mem_append.1 h1 with h1 | h1
      · exact .inl ⟨y, h1, h2⟩
      · simp only [List.mem_singleton] at h1; subst h1; exact .inr h2
    · rintro (⟨y, h1, h2⟩ | h2)
      · exact ⟨y, List.mem_append.2 (.inl h1), h2⟩
      · exact ⟨x, List.mem_append.2 (.inr (List.mem_singleton.2 rfl)), h2⟩
theorem fold_lang {w : List Int} : ∀ (l u : List Rx), (∃ y ∈ l.foldl addR u, Lang y w) ↔ (∃ y ∈ u, Lang y w) ∨ ∃ y ∈ l, Lang y w
  | [], u => by simp
  | x :: l, u => by
    rw [List.foldl_cons, fold_lang l, add_lang, or_assoc]
    simp
theorem fold_mem : ∀ (l u : List Rx) (y : Rx), y ∈ l.foldl addR u → y ∈ u ∨ y ∈ l
  | [], u, y, h => .inl h
  | x :: l, u, y, h => by
    rcases fold_mem l _ y h with h | h
    · rcases add_mem h with h | rfl
      · exact .inl h
      · exact .inr (List.mem_cons_self ..)
    · exact .inr (List.mem_cons_of_mem _ h)
theorem langA_iff {w : List Int} : ∀ (l : List Rx), LangA l w ↔ ∃ y ∈ l, Lang y w
  | [] => by simp [LangA]
  | r :: l => by rw [LangA, langA_iff l]; simp
theorem lang_four {u : List Rx} {w : List Int} : Lang (.mk 4 0 0 u) w ↔ LangA u w := by
  rw [Lang, if_neg (by decide), if_neg (by decide), if_neg (by decide), if_pos rfl]
theorem lang_either {l : List Rx} {w : List Int} : Lang (eitherR l) w ↔ ∃ y ∈ l, Lang y w := by
  have h := fold_lang (w := w) l []
  simp only [List.not_mem_nil, false_and, exists_false, false_or] at h
  rw [← h]
  unfold eitherR
  split
  · rename_i x hx
    rw [hx]; simp
  · rw [lang_four, langA_iff]
theorem well_either {l : List Rx} (hl : ∀ r ∈ l, wellB r = true) : wellB (eitherR l) = true := by
  have hm : ∀ y ∈ l.foldl addR [], wellB y = true := fun y hy => (fold_mem l [] y hy).elim (fun h => by simp at h) (hl y)
  unfold eitherR
  split
  · rename_i x hx
    exact hm x (by rw [hx]; simp)
  · rename_i u hu
    refine well_iff.2 ⟨⟨by simp, fun e => absurd e (by decide), fun _ => ⟨rfl, rfl⟩, fun e => by rcases e with e | e | e <;> exact absurd e (by decide), fun e => absurd e (by decide), fun _ e => ?_, fun e => by rcases e with e | e | e <;> exact absurd e (by decide)⟩, hm⟩
    obtain ⟨x, hx⟩ := len_one e
    exact hu x hx
mutual
noncomputable def der : Rx → Int → Rx
  | .mk k lo hi ks, n =>
    if k = 1 then (if lo ≤ n ∧ n ≤ hi then emR else noR) else if k = 2 then emR
    else if k = 3 then eitherR (derS ks n) else if k = 4 then eitherR (derA ks n)
    else if k = 5 ∨ k = 6 then thenR ((derA ks n).headD noR) (.mk 5 0 0 [ks.headD noR])
    else if k = 7 then (derA ks n).headD noR else noR
noncomputable def derS : List Rx → Int → List Rx
  | [], _ => []
  | r :: rs, n => thenR (der r n) (restR rs) :: (if nul r = true then derS rs n else [])
noncomputable def derA : List Rx → Int → List Rx
  | [], _ => []
  | r :: rs, n => der r n :: derA rs n
end
theorem nul_lang {r : Rx} (hw : wellB r = true) : nul r = true ↔ Lang r [] := by
  rw [← match_lang, ← (glu_well r hw 0).2]
  rfl
theorem cat_cons {K L : List Int → Prop} {n : Int} {l : List Int} : Cat K L (n :: l) ↔ Cat (fun w => K (n :: w)) L l ∨ (K [] ∧ L (n :: l)) := by
  constructor
  · rintro ⟨a, b, h, h1, h2⟩
    cases a with
    | nil => rw [List.nil_append] at h; subst h; exact .inr ⟨h1, h2⟩
    | cons m a =>
      simp only [List.cons_append, List.cons.injEq] at h
      obtain ⟨rfl, rfl⟩ := h
      exact .inl ⟨a, b, rfl, h1, h2⟩
  · rintro (⟨a, b, rfl, h1, h2⟩ | ⟨h1, h2⟩)
    · exact ⟨n :: a, b, rfl, h1, h2⟩
    · exact ⟨[], n :: l, rfl, h1, h2⟩
theorem star_cons {L : List Int → Prop} {n : Int} {l : List Int} : Star L (n :: l) ↔ Cat (fun w => L (n :: w)) (Star L) l := by
  constructor
  · intro h
    generalize hw : n :: l = w at h
    induction h with
    | nil => cases hw
    | cons a b h k ih =>
      cases a with
      | nil => exact ih hw
      | cons m a =>
        simp only [List.cons_append, List.cons.injEq] at hw
        obtain ⟨rfl, rfl⟩ := hw
        exact ⟨a, b, rfl, h, k⟩
  · rintro ⟨a, b, rfl, h1, h2⟩
    exact .cons (n :: a) b h1 h2
theorem der_ok : ∀ (r : Rx), wellB r = true → ∀ n : Int, 0 ≤ n → n ≤ 4294967295 → wellB (der r n) = true ∧ ∀ l, Lang (der r n) l ↔ Lang r (n :: l) := by
  refine rx_ind fun k lo hi ks ih hw n h0 h1 => ?_
  obtain ⟨hn, hks⟩ := well_iff.1 hw
  have hA : ∀ (rs : List Rx), (∀ r ∈ rs, r ∈ ks) → (∀ y ∈ derA rs n, wellB y = true) ∧ ∀ l, (∃ y ∈ derA rs n, Lang y l) ↔ LangA rs (n :: l) := by
    intro rs
    induction rs with
    | nil => intro _; exact ⟨fun y hy => by simp [derA] at hy, fun l => by simp [derA, LangA]⟩
    | cons r rs il =>
      intro hr
      obtain ⟨i1, i2⟩ := il fun r h => hr r (List.mem_cons_of_mem _ h)
      have hrk := hr r (List.mem_cons_self ..)
      obtain ⟨d1, d2⟩ := ih r hrk (hks r hrk) n h0 h1
      refine ⟨fun y hy => ?_, fun l => ?_⟩
      · rw [derA] at hy
        rcases List.mem_cons.1 hy with rfl | hy
        · exact d1
        · exact i1 y hy
      · rw [derA, LangA, ← i2, ← d2]
        simp
  have hS : ∀ (rs : List Rx), (∀ r ∈ rs, r ∈ ks) → (∀ y ∈ derS rs n, wellB y = true) ∧ ∀ l, (∃ y ∈ derS rs n, Lang y l) ↔ LangS rs (n :: l) := by
    intro rs
    induction rs with
    | nil => intro _; exact ⟨fun y hy => by simp [derS] at hy, fun l => by simp [derS, LangS]⟩
    | cons r rs il =>
      intro hr
      obtain ⟨i1, i2⟩ := il fun r h => hr r (List.mem_cons_of_mem _ h)
      have hrk := hr r (List.mem_cons_self ..)
      have hwr := hks r hrk
      obtain ⟨d1, d2⟩ := ih r hrk hwr n h0 h1
      have hrest : wellB (restR rs) = true := well_rest rs fun x hx => hks x (hr x (List.mem_cons_of_mem _ hx))
      have hcat : ∀ l, Lang (thenR (der r n) (restR rs)) l ↔ Cat (fun w => Lang r (n :: w)) (fun w => LangS rs w) l := fun l => by
        rw [lang_then]
        exact cat_congr d2 (lang_rest rs) l
      refine ⟨fun y hy => ?_, fun l => ?_⟩
      · rw [derS] at hy
        rcases List.mem_cons.1 hy with rfl | hy
        · exact well_then d1 hrest
        · split at hy
          · exact i1 y hy
          · simp at hy
      · rw [derS, LangS, cat_cons, ← hcat, ← i2, ← nul_lang hwr]
        cases hnl : nul r
        · simp
        · simp
  obtain ⟨a1, a2⟩ := hA ks fun _ h => h
  obtain ⟨s1, s2⟩ := hS ks fun _ h => h
  have hone : ∀ (r : Rx) (l : List Int), LangA [r] l ↔ Lang r l := fun r l => by simp [LangA]
  rcases hn.known with rfl | rfl | rfl | rfl | rfl | rfl | rfl | rfl
  · rw [der, if_neg (by decide), if_neg (by decide), if_neg (by decide), if_neg (by decide), if_neg (by decide), if_neg (by decide)]
    refine ⟨rfl, fun l => ⟨fun h => absurd h lang_no, fun h => ?_⟩⟩
    have := (lang_zero rfl _).1 h
    cases this
  · rw [der, if_pos rfl]
    have hL : ∀ l, Lang (.mk 1 lo hi ks) l ↔ ∃ m, l = [m] ∧ lo ≤ m ∧ m ≤ hi := fun l => by rw [Lang, if_pos rfl]
    split
    · rename_i h
      refine ⟨rfl, fun l => ?_⟩
      rw [hL, lang_zero rfl]
      exact ⟨fun e => ⟨n, by rw [e], h⟩, fun ⟨m, e, _⟩ => by cases e; rfl⟩
    · rename_i h
      refine ⟨rfl, fun l => ⟨fun e => absurd e lang_no, fun e => ?_⟩⟩
      obtain ⟨m, e, h2⟩ := (hL _).1 e
      cases e
      exact absurd h2 h
  · rw [der, if_neg (by decide), if_pos rfl]
    refine ⟨rfl, fun l => ?_⟩
    rw [lang_zero rfl, Lang, if_neg (by decide), if_pos rfl]
    exact ⟨fun e => ⟨n, by rw [e], h0, h1⟩, fun ⟨m, e, _⟩ => by cases e; rfl⟩
  · rw [der, if_neg (by decide), if_neg (by decide), if_pos rfl]
    refine ⟨well_either s1, fun l => lang_either.trans ((s2 l).trans ?_)⟩
    rw [Lang, if_neg (by decide), if_neg (by decide), if_pos rfl]
  · rw [der, if_neg (by decide), if_neg (by decide), if_neg (by decide), if_pos rfl]
    refine ⟨well_either a1, fun l => lang_either.trans ((a2 l).trans ?_)⟩
    rw [Lang, if_neg (by decide), if_neg (by decide), if_neg (by decide), if_pos rfl]
  · obtain ⟨r, rfl⟩ := len_one (hn.one (by simp))
    obtain ⟨rfl, rfl⟩ := hn.zero (by decide)
    obtain ⟨d1, d2⟩ := ih r (by simp) (hks r (by simp)) n h0 h1
    have hL : ∀ l, Lang (.mk 5 0 0 [r]) l ↔ Star (Lang r) l := fun l => by
      rw [Lang, if_neg (by decide), if_neg (by decide), if_neg (by decide), if_neg (by decide), if_pos rfl]
      exact star_congr (hone r) l
    rw [der, if_neg (by decide), if_neg (by decide), if_neg (by decide), if_neg (by decide), if_pos (by decide)]
    refine ⟨well_then d1 hw, fun l => ?_⟩
    rw [hL, star_cons]
    exact lang_then.trans (cat_congr d2 hL l)
  · obtain ⟨r, rfl⟩ := len_one (hn.one (by simp))
    obtain ⟨rfl, rfl⟩ := hn.zero (by decide)
    obtain ⟨d1, d2⟩ := ih r (by simp) (hks r (by simp)) n h0 h1
    have hL : ∀ l, Lang (.mk 5 0 0 [r]) l ↔ Star (Lang r) l := fun l => by
      rw [Lang, if_neg (by decide), if_neg (by decide), if_neg (by decide), if_neg (by decide), if_pos rfl]
      exact star_congr (hone r) l
    have hw5 : wellB (.mk 5 0 0 [r]) = true := well_iff.2 ⟨nodeE_zero.1 rfl, hks⟩
    rw [der, if_neg (by decide), if_neg (by decide), if_neg (by decide), if_neg (by decide), if_pos (by decide)]
    refine ⟨well_then d1 hw5, fun l => ?_⟩
    rw [Lang, if_neg (by decide), if_neg (by decide), if_neg (by decide), if_neg (by decide), if_neg (by decide), if_pos rfl]
    rw [cat_congr (hone r) (star_congr (hone r)) (n :: l), cat_cons]
    refine (lang_then.trans (cat_congr d2 hL l)).trans ⟨.inl, ?_⟩
    rintro (h | ⟨_, h⟩)
    · exact h
    · exact star_cons.1 h
  · obtain ⟨r, rfl⟩ := len_one (hn.one (by simp))
    obtain ⟨d1, d2⟩ := ih r (by simp) (hks r (by simp)) n h0 h1
    rw [der, if_neg (by decide), if_neg (by decide), if_neg (by decide), if_neg (by decide), if_neg (by decide), if_pos rfl]
    refine ⟨d1, fun l => ?_⟩
    rw [Lang, if_neg (by decide), if_neg (by decide), if_neg (by decide), if_neg (by decide), if_neg (by decide), if_neg (by decide), if_pos rfl, hone, ← d2]
    exact ⟨.inr, fun h => h.resolve_left (by simp)⟩
end Go.Pl

/-
  PARSING, PLAINLY: what a parser reads; it reads again what was printed.
-/
import Derived.Test.YtifgipebbagfcaaDoorKPlPat
set_option linter.unusedVariables false
set_option linter.unusedSimpArgs false
namespace Go.Pl
open Go Go.Ev Go.Lib
def hd (t : List UInt8) : Nat := (t.headD 0).toNat
def pk (s : List UInt8) (i : Nat) : Nat := (s.getD i 0).toNat
theorem pk_hd (s : List UInt8) (i : Nat) : pk s i = hd (s.drop i) := by
  unfold pk hd
  rw [List.headD_eq_head?_getD, List.head?_drop]; rfl
theorem pk_lt {s : List UInt8} {i : Nat} (h : pk s i ≠ 0) : i < s.length := by
  apply Classical.byContradiction
  intro hn
  apply h
  unfold pk
  rw [List.getD, List.getElem?_eq_none (by omega)]; rfl
theorem pk_get {s : List UInt8} {i : Nat} (h : i < s.length) : pk s i = s[i].toNat := by
  unfold pk
  rw [List.getD, List.getElem?_eq_getElem h]; rfl
theorem pk_end {s : List UInt8} {i : Nat} (h : ¬ i < s.length) : pk s i = 0 := by
  unfold pk
  rw [List.getD, List.getElem?_eq_none (by omega)]; rfl
theorem drop_app {s a t : List UInt8} {i : Nat} (h : s.drop i = a ++ t) : s.drop (i + a.length) = t := by
  rw [← List.drop_drop, h, List.drop_left]
theorem drop_one {s t : List UInt8} {b : UInt8} {i : Nat} (h : s.drop i = b :: t) : s.drop (i + 1) = t := drop_app (a := [b]) h
theorem hd_app {a t : List UInt8} (h : a ≠ []) : hd (a ++ t) = hd a := by
  cases a with
  | nil => exact absurd rfl h
  | cons b a => rfl
def dg (c : Nat) : Prop := 48 ≤ c ∧ c ≤ 57
section
variable (num : Nat → Option (Int × Nat)) (s : List UInt8)
def pAtom (alt : Nat → Option (Rx × Nat)) (i : Nat) : Option (Rx × Nat) :=
  if pk s i = 46 then some (.mk 2 0 0 [], i + 1)
  else if pk s i = 33 then some (.mk 4 0 0 [], i + 1)
  else if pk s i = 91 then
    match num (i + 1) with
    | none => none
    | some (lo, j) => if pk s j = 45 then (match num (j + 1) with
      | none => none
      | some (up, k) => if pk s k = 93 then some (.mk 1 lo up [], k + 1) else none) else none
  else if pk s i = 40 then
    if pk s (i + 1) = 41 then some (.mk 0 0 0 [], i + 2) else
    match alt (i + 1) with
    | none => none
    | some (r, j) => if pk s j = 41 then some (r, j + 1) else none
  else match num i with
    | none => none
    | some (n, j) => some (.mk 1 n n [], j)
def pItem (alt : Nat → Option (Rx × Nat)) (i : Nat) : Option (Rx × Nat) :=
  match pAtom num s alt i with
  | none => none
  | some (r, j) => if pk s j = 42 then some (.mk 5 0 0 [r], j + 1) else if pk s j = 43 then some (.mk 6 0 0 [r], j + 1) else if pk s j = 63 then some (.mk 7 0 0 [r], j + 1) else some (r, j)
def pMany (sep : Nat) (one : Nat → Option (Rx × Nat)) : Nat → List Rx → Nat → Option (List Rx × Nat)
  | 0, _, _ => none
  | f + 1, acc, i => match one i with
    | none => none
    | some (r, j) => if pk s j = sep then pMany sep one f (acc ++ [r]) (j + 1) else some (acc ++ [r], j)
def finR (k : Int) (l : List Rx) : Rx := match l with
  | [x] => x
  | l => .mk k 0 0 l
def pGrp (sep : Nat) (k : Int) (one : Nat → Option (Rx × Nat)) (i : Nat) : Option (Rx × Nat) := match pMany s sep one (s.length + 1 - i) [] i with
  | none => none
  | some (l, j) => some (finR k l, j)
def pSeq (alt : Nat → Option (Rx × Nat)) (i : Nat) : Option (Rx × Nat) := pGrp s 32 3 (pItem num s alt) i
def pAlt : Nat → Nat → Option (Rx × Nat)
  | 0, _ => none
  | b + 1, i => pGrp s 124 4 (pSeq num s (pAlt b)) i
end
structure NumOk (s : List UInt8) (num : Nat → Option (Int × Nat)) : Prop where
  bnd : ∀ i n j, i ≤ s.length → num i = some (n, j) → i < j ∧ j ≤ s.length
  txt : ∀ i (m : Nat) t, s.drop i = decDigits m ++ t → m ≤ 4294967295 → ¬ dg (hd t) → num i = some ((m : Int), i + (decDigits m).length)
def Bnd (s : List UInt8) (one : Nat → Option (Rx × Nat)) : Prop := ∀ i r j, i ≤ s.length → one i = some (r, j) → i < j ∧ j ≤ s.length ∧ sz r ≤ 2 * (j - i)
section
variable {num : Nat → Option (Int × Nat)} {s : List UInt8}
theorem bnd_atom (hn : NumOk s num) {alt : Nat → Option (Rx × Nat)} (ha : Bnd s alt) : Bnd s (pAtom num s alt) := by
  intro i r j hi h
  unfold pAtom at h
  have one : sz (.mk 0 0 0 []) = 1 := rfl
  split at h
  · rename_i h1
    have := pk_lt (s := s) (i := i) (by omega)
    cases h; refine ⟨by omega, by omega, ?_⟩; show 1 ≤ _; omega
  split at h
  · have := pk_lt (s := s) (i := i) (by omega)
    cases h; refine ⟨by omega, by omega, ?_⟩; show 1 ≤ _; omega
  split at h
  · have := pk_lt (s := s) (i := i) (by omega)
    split at h
    · cases h
    rename_i lo a e
    have b1 := hn.bnd _ _ _ (by omega) e
    split at h
    · have := pk_lt (s := s) (i := a) (by omega)
      split at h
      · cases h
      rename_i up b e2
      have b2 := hn.bnd _ _ _ (by omega) e2
      split at h
      · have := pk_lt (s := s) (i := b) (by omega)
        cases h; refine ⟨by omega, by omega, ?_⟩; show 1 ≤ _; omega
      · cases h
    · cases h
  split at h
  · have := pk_lt (s := s) (i := i) (by omega)
    split at h
    · have := pk_lt (s := s) (i := i + 1) (by omega)
      cases h; refine ⟨by omega, by omega, ?_⟩; show 1 ≤ _; omega
    split at h
    · cases h
    rename_i r2 a e
    obtain ⟨b1, b2, b3⟩ := ha _ _ _ (by omega) e
    split at h
    · have := pk_lt (s := s) (i := a) (by omega)
      cases h; exact ⟨by omega, by omega, by omega⟩
    · cases h
  split at h
  · cases h
  rename_i n a e
  have b1 := hn.bnd _ _ _ hi e
  cases h; refine ⟨by omega, by omega, ?_⟩; show 1 ≤ _; omega
theorem bnd_item (hn : NumOk s num) {alt : Nat → Option (Rx × Nat)} (ha : Bnd s alt) : Bnd s (pItem num s alt) := by
  intro i r j hi h
  unfold pItem at h
  split at h
  · cases h
  rename_i r2 a e
  obtain ⟨b1, b2, b3⟩ := bnd_atom hn ha _ _ _ hi e
  have hs : ∀ k : Int, sz (.mk k 0 0 [r2]) = sz r2 + 1 := fun k => by simp only [sz, szs]; omega
  split at h
  · have := pk_lt (s := s) (i := a) (by omega)
    cases h; rw [hs]; exact ⟨by omega, by omega, by omega⟩
  split at h
  · have := pk_lt (s := s) (i := a) (by omega)
    cases h; rw [hs]; exact ⟨by omega, by omega, by omega⟩
  split at h
  · have := pk_lt (s := s) (i := a) (by omega)
    cases h; rw [hs]; exact ⟨by omega, by omega, by omega⟩
  · cases h; exact ⟨b1, b2, b3⟩
theorem bnd_many {one : Nat → Option (Rx × Nat)} (ho : Bnd s one) {sep : Nat} (h0 : sep ≠ 0) : ∀ (f : Nat) (acc : List Rx) (i : Nat) (l : List Rx) (j : Nat), i ≤ s.length → pMany s sep one f acc i = some (l, j) →
    i < j ∧ j ≤ s.length ∧ szs l + 2 * l.length ≤ szs acc + 2 * acc.length + 2 * (j - i) + 2 ∧ acc.length < l.length
  | 0, _, _, _, _, _, h => by simp [pMany] at h
  | f + 1, acc, i, l, j, hi, h => by
    rw [pMany] at h
    split at h
    · cases h
    rename_i r a e
    obtain ⟨b1, b2, b3⟩ := ho _ _ _ hi e
    have e1 : szs (acc ++ [r]) = szs acc + sz r := by rw [szs_app]; simp [szs]
    split at h
    · have := pk_lt (s := s) (i := a) (by omega)
      obtain ⟨c1, c2, c3, c4⟩ := bnd_many ho h0 f _ _ _ _ (by omega) h
      rw [e1, List.length_append, List.length_singleton] at c3
      rw [List.length_append, List.length_singleton] at c4
      exact ⟨by omega, by omega, by omega, by omega⟩
    · cases h
      rw [e1, List.length_append, List.length_singleton]
      exact ⟨by omega, by omega, by omega, by omega⟩
theorem bnd_grp {one : Nat → Option (Rx × Nat)} (ho : Bnd s one) {sep : Nat} (h0 : sep ≠ 0) (k : Int) : Bnd s (pGrp s sep k one) := by
  intro i r j hi h
  unfold pGrp at h
  split at h
  · cases h
  rename_i l a e
  obtain ⟨b1, b2, b3, b4⟩ := bnd_many ho h0 _ _ _ _ _ hi e
  cases h
  refine ⟨b1, b2, ?_⟩
  unfold finR
  split
  · simp [szs] at b3; omega
  · rename_i hne
    have : 2 ≤ l.length := by
      match l, hne, b4 with
      | [], _, b4 => simp at b4
      | [x], hne, _ => exact absurd rfl (hne x)
      | x :: y :: l, _, _ => simp
    simp only [sz]
    simp [szs] at b3
    omega
theorem bnd_alt (hn : NumOk s num) : ∀ b : Nat, Bnd s (pAlt num s b)
  | 0 => fun i r j _ h => by simp [pAlt] at h
  | b + 1 => fun i r j hi h => by
    rw [pAlt] at h
    exact bnd_grp (one := pSeq num s (pAlt num s b)) (fun i r j hi h => bnd_grp (one := pItem num s (pAlt num s b)) (bnd_item hn (bnd_alt hn b)) (by decide) 3 i r j hi h) (by decide) 4 i r j hi h
end
mutual
def dep : Rx → Nat
  | .mk _ _ _ ks => 1 + deps ks
def deps : List Rx → Nat
  | [] => 0
  | r :: rs => max (dep r) (deps rs)
end
theorem dep_mem : ∀ {ks : List Rx} {r : Rx}, r ∈ ks → dep r ≤ deps ks
  | x :: ks, r, h => by
    simp only [deps]
    rcases List.mem_cons.1 h with rfl | h
    · omega
    · have := dep_mem h; omega
theorem encl_app (w : Bool) (l t : List UInt8) : encl w l ++ t = bif w then 40 :: (l ++ 41 :: t) else l ++ t := by
  cases w <;> simp [encl]
def fst (c : Nat) : Prop := dg c ∨ c = 46 ∨ c = 33 ∨ c = 91 ∨ c = 40
theorem dec_hd (n : Nat) : decDigits n ≠ [] ∧ dg (hd (decDigits n)) := by
  have h := decD_pos n
  have hd0 := decD_dig n
  cases e : decDigits n with
  | nil => rw [e] at h; simp at h
  | cons b l =>
    rw [e] at hd0
    exact ⟨by simp, hd0 b (by simp)⟩
theorem pat_fst : ∀ (r : Rx), wellB r = true → pat r ≠ [] ∧ fst (hd (pat r)) := by
  refine rx_ind fun k lo up ks ih hw => ?_
  obtain ⟨hn, hks⟩ := well_iff.1 hw
  have hin : ∀ p : Int, ∀ x ∈ ks, inn p x ≠ [] ∧ fst (hd (inn p x)) := fun p x hx => by
    obtain ⟨h1, h2⟩ := ih x hx (hks x hx)
    unfold inn encl
    cases wrapB p x
    · exact ⟨h1, h2⟩
    · exact ⟨by simp, .inr (.inr (.inr (.inr rfl)))⟩
  have hh : ∀ p : Int, ∀ t : List UInt8, ks ≠ [] → (ks.map (inn p)).headD [] ++ t ≠ [] ∧ fst (hd ((ks.map (inn p)).headD [] ++ t)) := fun p t h => by
    cases ks with
    | nil => exact absurd rfl h
    | cons x l =>
      obtain ⟨h1, h2⟩ := hin p x (List.mem_cons_self ..)
      simp only [List.map_cons, List.headD_cons]
      rw [hd_app h1]
      exact ⟨by simp [h1], h2⟩
  have hj : ∀ p : Int, ∀ c : UInt8, ks ≠ [] → jn c (ks.map (inn p)) ≠ [] ∧ fst (hd (jn c (ks.map (inn p)))) := fun p c h => by
    cases ks with
    | nil => exact absurd rfl h
    | cons x l =>
      obtain ⟨h1, h2⟩ := hin p x (List.mem_cons_self ..)
      cases l with
      | nil => exact ⟨h1, h2⟩
      | cons y l =>
        simp only [List.map_cons, jn]
        rw [hd_app h1]
        exact ⟨by simp [h1], h2⟩
  have hne : (k = 5 ∨ k = 6 ∨ k = 7) → ks ≠ [] := fun h e => by
    have := hn.one h
    rw [e] at this; simp at this
  have hne3 : k = 3 → ks ≠ [] := fun h e => by
    have := hn.seq h
    rw [e] at this; simp at this
  simp only [pat, pats_map]
  split
  · exact ⟨by simp, .inr (.inr (.inr (.inr rfl)))⟩
  split
  · exact ⟨by simp, .inr (.inl rfl)⟩
  split
  · split
    · exact ⟨(dec_hd _).1, .inl (dec_hd _).2⟩
    · exact ⟨by simp, .inr (.inr (.inr (.inl rfl)))⟩
  split
  · exact hh 5 _ (hne (by omega))
  split
  · exact hh 6 _ (hne (by omega))
  split
  · exact hh 7 _ (hne (by omega))
  split
  · split
    · exact ⟨by simp, .inr (.inr (.inl rfl))⟩
    · rename_i h; exact hj 4 124 h
  · rcases hn.known with h | h | h | h | h | h | h | h <;> try exact absurd h (by assumption)
    exact hj 3 32 (hne3 h)
def comp : Rx → Bool
  | .mk k _ _ ks => bif k == 4 then !ks.isEmpty else (k == 3 || k == 5 || k == 6 || k == 7)
def comp34 : Rx → Bool
  | .mk k _ _ ks => bif k == 4 then !ks.isEmpty else k == 3
def comp4 : Rx → Bool
  | .mk k _ _ ks => bif k == 4 then !ks.isEmpty else false
section
variable {num : Nat → Option (Int × Nat)} {s : List UInt8}
theorem atom_ok (hn : NumOk s num) {alt : Nat → Option (Rx × Nat)} {r : Rx} (hw : wellB r = true)
    (ha : comp r = true → ∀ i t, s.drop i = pat r ++ t → (hd t = 0 ∨ hd t = 41) → alt i = some (r, i + (pat r).length)) {i : Nat} {t : List UInt8}
    (h : s.drop i = encl (comp r) (pat r) ++ t) (hf : ¬ dg (hd t)) : pAtom num s alt i = some (r, i + (encl (comp r) (pat r)).length) := by
  cases hc : comp r with
  | true =>
    rw [hc, encl_app] at h
    have h : s.drop i = 40 :: (pat r ++ 41 :: t) := h
    have p0 : pk s i = 40 := by rw [pk_hd, h]; rfl
    have h1 := drop_one h
    obtain ⟨f1, f2⟩ := pat_fst r hw
    have p1 : pk s (i + 1) ≠ 41 := by
      rw [pk_hd, h1, hd_app f1]
      intro e
      rw [e] at f2
      revert f2; unfold fst dg; omega
    have h2 := ha hc (i + 1) (41 :: t) h1 (.inr rfl)
    have p2 : pk s (i + 1 + (pat r).length) = 41 := by rw [pk_hd, drop_app h1]; rfl
    unfold pAtom
    rw [if_neg (by omega), if_neg (by omega), if_neg (by omega), if_pos p0, if_neg p1, h2]
    simp only
    rw [if_pos p2]
    simp [encl]; omega
  | false =>
    rw [hc] at h
    have h : s.drop i = pat r ++ t := h
    show _ = some (r, i + (pat r).length)
    obtain ⟨k, lo, up, ks⟩ := r
    obtain ⟨nd, hks⟩ := well_iff.1 hw
    rcases nd.known with rfl | rfl | rfl | rfl | rfl | rfl | rfl | rfl
    · have e := len_nil (nd.leaf (by simp)); subst e
      obtain ⟨rfl, rfl⟩ := nd.zero (by decide)
      have h : s.drop i = 40 :: 41 :: t := h
      have p0 : pk s i = 40 := by rw [pk_hd, h]; rfl
      have p1 : pk s (i + 1) = 41 := by rw [pk_hd, drop_one h]; rfl
      unfold pAtom
      rw [if_neg (by omega), if_neg (by omega), if_neg (by omega), if_pos p0, if_pos p1]; rfl
    · have e := len_nil (nd.leaf (by simp)); subst e
      obtain ⟨r1, r2, r3⟩ := nd.rng rfl
      by_cases hl : lo = up
      · subst hl
        have ep : pat (.mk 1 lo lo []) = decDigits lo.toNat := by simp [pat]
        rw [ep] at h ⊢
        obtain ⟨d1, d2⟩ := dec_hd lo.toNat
        have p0 : dg (pk s i) := by rw [pk_hd, h, hd_app d1]; exact d2
        unfold dg at p0
        have hm := hn.txt i lo.toNat t h (by omega) hf
        unfold pAtom
        rw [if_neg (by omega), if_neg (by omega), if_neg (by omega), if_neg (by omega), hm]
        simp only
        rw [Int.toNat_of_nonneg r1]
      · have ep : pat (.mk 1 lo up []) = 91 :: (decDigits lo.toNat ++ 45 :: (decDigits up.toNat ++ [93])) := by simp [pat, hl]
        rw [ep] at h ⊢
        have h : s.drop i = 91 :: (decDigits lo.toNat ++ 45 :: (decDigits up.toNat ++ 93 :: t)) := by rw [h]; simp
        have p0 : pk s i = 91 := by rw [pk_hd, h]; rfl
        have h1 := drop_one h
        have m1 := hn.txt _ lo.toNat _ h1 (by omega) (by show ¬ dg 45; unfold dg; omega)
        have h2 := drop_app h1
        have p2 : pk s (i + 1 + (decDigits lo.toNat).length) = 45 := by rw [pk_hd, h2]; rfl
        have h3 := drop_one h2
        have m2 := hn.txt _ up.toNat _ h3 (by omega) (by show ¬ dg 93; unfold dg; omega)
        have p3 : pk s (i + 1 + (decDigits lo.toNat).length + 1 + (decDigits up.toNat).length) = 93 := by rw [pk_hd, drop_app h3]; rfl
        unfold pAtom
        rw [if_neg (by omega), if_neg (by omega), if_pos p0, m1]
        simp only
        rw [if_pos p2, m2]
        simp only
        rw [if_pos p3, Int.toNat_of_nonneg r1, Int.toNat_of_nonneg (by omega)]
        simp; omega
    · have e := len_nil (nd.leaf (by simp)); subst e
      obtain ⟨rfl, rfl⟩ := nd.zero (by decide)
      have h : s.drop i = 46 :: t := h
      have p0 : pk s i = 46 := by rw [pk_hd, h]; rfl
      unfold pAtom
      rw [if_pos p0]; rfl
    · exact absurd hc (by simp [comp])
    · obtain ⟨rfl, rfl⟩ := nd.zero (by decide)
      have e : ks = [] := by simpa [comp] using hc
      subst e
      have h : s.drop i = 33 :: t := by rw [h]; simp [pat]
      have p0 : pk s i = 33 := by rw [pk_hd, h]; rfl
      unfold pAtom
      rw [if_neg (by omega), if_pos p0]; simp [pat]
    · exact absurd hc (by simp [comp])
    · exact absurd hc (by simp [comp])
    · exact absurd hc (by simp [comp])
def f2 (c : Nat) : Prop := c = 0 ∨ c = 41 ∨ c = 124 ∨ c = 32
def AltOk (s : List UInt8) (alt : Nat → Option (Rx × Nat)) (b : Nat) : Prop := ∀ r, wellB r = true → dep r ≤ b → ∀ i t, s.drop i = pat r ++ t → (hd t = 0 ∨ hd t = 41) → alt i = some (r, i + (pat r).length)
theorem item_ok (hn : NumOk s num) {alt : Nat → Option (Rx × Nat)} {b : Nat} (ha : AltOk s alt b) {r : Rx} (hw : wellB r = true) (hb : dep r ≤ b + 1) (hb2 : comp34 r = true → dep r ≤ b) {i : Nat} {t : List UInt8}
    (h : s.drop i = inn 3 r ++ t) (hf : f2 (hd t)) : pItem num s alt i = some (r, i + (inn 3 r).length) := by
  obtain ⟨k, lo, up, ks⟩ := r
  obtain ⟨nd, hks⟩ := well_iff.1 hw
  have hnd : ¬ dg (hd t) := by unfold f2 at hf; unfold dg; omega
  by_cases hk : k = 5 ∨ k = 6 ∨ k = 7
  · obtain ⟨x, rfl⟩ := len_one (nd.one hk)
    obtain ⟨rfl, rfl⟩ := nd.zero (by omega)
    have hx : x ∈ [x] := List.mem_cons_self ..
    have hd1 := dep_mem hx
    have hdx : dep x ≤ b := by simp only [dep] at hb; omega
    have hwr : ∀ p : Int, (p = 5 ∨ p = 6 ∨ p = 7) → inn p x = encl (comp x) (pat x) := fun p hp => by
      obtain ⟨a, _, _, l⟩ := x
      unfold inn
      have : ((p == 5 || p == 6) || p == 7) = true := by simp; omega
      simp only [wrapB, comp, this, Bool.and_true]
      have h3 : (p != 4) = true := by simp; omega
      rw [h3]
      cases (a == 4) <;> cases (a == 3) <;> simp
    have hsg : ∃ c : UInt8, inn 3 (.mk k 0 0 [x]) = encl (comp x) (pat x) ++ [c] ∧ (c.toNat = 42 ∧ k = 5 ∨ c.toNat = 43 ∧ k = 6 ∨ c.toNat = 63 ∧ k = 7) := by
      rcases hk with rfl | rfl | rfl
      · refine ⟨42, ?_, by decide⟩
        show pat (.mk 5 0 0 [x]) = _
        simp [pat, pats_map, hwr]
      · refine ⟨43, ?_, by decide⟩
        show pat (.mk 6 0 0 [x]) = _
        simp [pat, pats_map, hwr]
      · refine ⟨63, ?_, by decide⟩
        show pat (.mk 7 0 0 [x]) = _
        simp [pat, pats_map, hwr]
    obtain ⟨c, e, hc⟩ := hsg
    rw [e] at h ⊢
    have h : s.drop i = encl (comp x) (pat x) ++ c :: t := by rw [h]; simp
    have ha1 := atom_ok hn (hks x hx) (fun _ => ha x (hks x hx) hdx) h (by show ¬ dg c.toNat; unfold dg; omega)
    have p1 : pk s (i + (encl (comp x) (pat x)).length) = c.toNat := by rw [pk_hd, drop_app h]; rfl
    unfold pItem
    rw [ha1]
    simp only [p1, List.length_append, List.length_singleton]
    rcases hc with ⟨hc, rfl⟩ | ⟨hc, rfl⟩ | ⟨hc, rfl⟩ <;> simp [hc] <;> omega
  · have e : inn 3 (.mk k lo up ks) = encl (comp (.mk k lo up ks)) (pat (.mk k lo up ks)) := by
      unfold inn
      simp only [wrapB, comp]
      have h5 : (k == 5) = false := by simp; omega
      have h6 : (k == 6) = false := by simp; omega
      have h7 : (k == 7) = false := by simp; omega
      rw [h5, h6, h7]
      cases (k == 4) <;> cases (k == 3) <;> simp
    have e2 : comp (.mk k lo up ks) = comp34 (.mk k lo up ks) := by
      simp only [comp, comp34]
      have h5 : (k == 5) = false := by simp; omega
      have h6 : (k == 6) = false := by simp; omega
      have h7 : (k == 7) = false := by simp; omega
      rw [h5, h6, h7]
      cases (k == 4) <;> cases (k == 3) <;> simp
    rw [e] at h ⊢
    have ha1 := atom_ok hn hw (fun hc => ha _ hw (hb2 (by rw [← e2]; exact hc))) h hnd
    have p1 : pk s (i + (encl (comp (.mk k lo up ks)) (pat (.mk k lo up ks))).length) = hd t := by rw [pk_hd, drop_app h]
    unfold pItem
    rw [ha1]
    unfold f2 at hf
    simp only [p1]
    rw [if_neg (by omega), if_neg (by omega), if_neg (by omega)]
theorem many_ok {one : Nat → Option (Rx × Nat)} {f : Rx → List UInt8} {sep : UInt8} {E : Nat → Prop} : ∀ (ks : List Rx), ks ≠ [] →
    (∀ x ∈ ks, ∀ i t, s.drop i = f x ++ t → (E (hd t) ∨ hd t = sep.toNat) → one i = some (x, i + (f x).length)) →
    (∀ x ∈ ks, f x ≠ []) → ∀ (fu : Nat) (acc : List Rx) (i : Nat) (t : List UInt8), s.drop i = jn sep (ks.map f) ++ t → E (hd t) → hd t ≠ sep.toNat → s.length + 1 ≤ fu + i → i ≤ s.length →
    pMany s sep.toNat one fu acc i = some (acc ++ ks, i + (jn sep (ks.map f)).length)
  | [], h, _, _, _, _, _, _, _, _, _, _, _ => absurd rfl h
  | [x], _, ho, hne, fu, acc, i, t, h, he, hs, hf, hi => by
    have h : s.drop i = f x ++ t := h
    have h1 := ho x (by simp) i t h (.inl he)
    obtain ⟨m, rfl⟩ : ∃ m, fu = m + 1 := ⟨fu - 1, by omega⟩
    have p1 : pk s (i + (f x).length) = hd t := by rw [pk_hd, drop_app h]
    rw [pMany, h1]
    simp only
    rw [if_neg (by rw [p1]; exact hs)]
    rfl
  | x :: y :: ks, _, ho, hne, fu, acc, i, t, h, he, hs, hf, hi => by
    have h : s.drop i = f x ++ sep :: (jn sep ((y :: ks).map f) ++ t) := by rw [h]; simp [jn]
    have h1 := ho x (by simp) i _ h (.inr rfl)
    obtain ⟨m, rfl⟩ : ∃ m, fu = m + 1 := ⟨fu - 1, by omega⟩
    have h2 := drop_app h
    have p1 : pk s (i + (f x).length) = sep.toNat := by rw [pk_hd, h2]; rfl
    have hlt : i + (f x).length < s.length := by
      apply Classical.byContradiction
      intro hge
      rw [List.drop_eq_nil_of_le (by omega)] at h2
      cases h2
    have := many_ok (y :: ks) (by simp) (fun z hz => ho z (List.mem_cons_of_mem _ hz)) (fun z hz => hne z (List.mem_cons_of_mem _ hz)) m (acc ++ [x]) (i + (f x).length + 1) t (drop_one h2) he hs (by omega) (by omega)
    rw [pMany, h1]
    simp only
    rw [if_pos p1, this]
    simp [jn]; omega
theorem fin_long {k : Int} {l : List Rx} (h : l.length ≠ 1) : finR k l = .mk k 0 0 l := by
  unfold finR
  split
  · simp at h
  · rfl
theorem seq_ok (hn : NumOk s num) {alt : Nat → Option (Rx × Nat)} {b : Nat} (ha : AltOk s alt b) {r : Rx} (hw : wellB r = true) (hb : dep r ≤ b + 1) (hb2 : comp4 r = true → dep r ≤ b) {i : Nat} {t : List UInt8}
    (h : s.drop i = inn 4 r ++ t) (hf : hd t = 0 ∨ hd t = 41 ∨ hd t = 124) (hi : i ≤ s.length) : pSeq num s alt i = some (r, i + (inn 4 r).length) := by
  obtain ⟨k, lo, up, ks⟩ := r
  obtain ⟨nd, hks⟩ := well_iff.1 hw
  unfold pSeq pGrp
  by_cases hk : k = 3
  · subst hk
    obtain ⟨rfl, rfl⟩ := nd.zero (by decide)
    have h2 : 2 ≤ (ks.length : Int) := nd.seq rfl
    have e : inn 4 (.mk 3 0 0 ks) = jn 32 (ks.map (inn 3)) := by
      show pat (.mk 3 0 0 ks) = _
      simp [pat, pats_map]
    rw [e] at h ⊢
    have hdk : ∀ x ∈ ks, dep x ≤ b := fun x hx => by
      have := dep_mem hx
      simp only [dep] at hb; omega
    have hne : ks ≠ [] := by intro e; rw [e] at h2; simp at h2
    have := many_ok (one := pItem num s alt) (f := inn 3) (sep := 32) (E := fun c => c = 0 ∨ c = 41 ∨ c = 124) ks hne (fun x hx i t hd0 hc => item_ok hn ha (hks x hx) (by have := hdk x hx; omega) (fun _ => hdk x hx) hd0 (by
        unfold f2
        rcases hc with hc | hc
        · omega
        · rw [hc]; decide)) (fun x hx => by
        unfold inn encl
        cases wrapB 3 x
        · exact (pat_fst x (hks x hx)).1
        · simp) (s.length + 1 - i) [] i t h hf (by
        show hd t ≠ 32
        omega) (by omega) hi
    have this : pMany s 32 (pItem num s alt) (s.length + 1 - i) [] i = _ := this
    rw [this]
    simp only [List.nil_append]
    rw [fin_long (by omega)]
  · have e : inn 4 (.mk k lo up ks) = inn 3 (.mk k lo up ks) := by
      unfold inn
      simp only [wrapB]
      have h3 : (k == 3) = false := by simpa using hk
      rw [h3]
      cases (k == 4) <;> simp
    have e2 : comp34 (.mk k lo up ks) = comp4 (.mk k lo up ks) := by
      simp only [comp34, comp4]
      have h3 : (k == 3) = false := by simpa using hk
      rw [h3]
    rw [e] at h ⊢
    have h1 := item_ok hn ha hw hb (by rw [e2]; exact hb2) h (by unfold f2; omega)
    have p1 : pk s (i + (inn 3 (.mk k lo up ks)).length) = hd t := by rw [pk_hd, drop_app h]
    obtain ⟨m, hm⟩ : ∃ m, s.length + 1 - i = m + 1 := ⟨s.length - i, by omega⟩
    rw [hm, pMany, h1]
    simp only
    rw [if_neg (by rw [p1]; omega)]
    simp [finR]
theorem drop_lt {a t : List UInt8} {i : Nat} (h : s.drop i = a ++ t) (ha : a ≠ []) : i < s.length := by
  apply Classical.byContradiction
  intro hge
  rw [List.drop_eq_nil_of_le (by omega)] at h
  have := List.append_eq_nil_iff.1 h.symm
  exact ha this.1
theorem inn_ne (p : Int) {x : Rx} (hx : wellB x = true) : inn p x ≠ [] := by
  unfold inn encl
  cases wrapB p x
  · exact (pat_fst x hx).1
  · simp
theorem alt_ok (hn : NumOk s num) : ∀ b : Nat, AltOk s (pAlt num s b) b
  | 0 => fun r _ hb => by cases r; simp [dep] at hb
  | b + 1 => fun r hw hb i t h hf => by
    have hi := drop_lt h (pat_fst r hw).1
    have ha := alt_ok hn b
    rw [pAlt]
    unfold pGrp
    cases hc : comp4 r with
    | true =>
      obtain ⟨k, lo, up, ks⟩ := r
      obtain ⟨nd, hks⟩ := well_iff.1 hw
      have hk : k = 4 := by
        simp only [comp4] at hc
        cases e : (k == 4)
        · rw [e] at hc; cases hc
        · simpa using e
      subst hk
      obtain ⟨rfl, rfl⟩ := nd.zero (by decide)
      have hne : ks ≠ [] := by simpa [comp4] using hc
      have h1 : (ks.length : Int) ≠ 1 := nd.alt rfl
      have e : pat (.mk 4 0 0 ks) = jn 124 (ks.map (inn 4)) := by
        simp [pat, pats_map, hne]
      rw [e] at h ⊢
      have hdk : ∀ x ∈ ks, dep x ≤ b := fun x hx => by
        have := dep_mem hx
        simp only [dep] at hb; omega
      have := many_ok (one := pSeq num s (pAlt num s b)) (f := inn 4) (sep := 124) (E := fun c => c = 0 ∨ c = 41) ks hne (fun x hx i t hd0 hc => seq_ok hn ha (hks x hx) (by have := hdk x hx; omega) (fun _ => hdk x hx) hd0 (by
          rcases hc with hc | hc
          · omega
          · rw [hc]; decide) (Nat.le_of_lt (drop_lt hd0 (inn_ne 4 (hks x hx))))) (fun x hx => inn_ne 4 (hks x hx)) (s.length + 1 - i) [] i t h hf (by
          show hd t ≠ 124
          omega) (by omega) (Nat.le_of_lt hi)
      have this : pMany s 124 (pSeq num s (pAlt num s b)) (s.length + 1 - i) [] i = _ := this
      rw [this]
      simp only [List.nil_append]
      rw [fin_long (by omega)]
    | false =>
      have e : pat r = inn 4 r := by
        obtain ⟨k, lo, up, ks⟩ := r
        unfold inn
        simp only [wrapB]
        simp only [comp4] at hc
        cases h4 : (k == 4)
        · cases h3 : (k == 3)
          · simp [encl]
          · simp [encl]
        · rw [h4] at hc
          simp only [cond_true] at hc
          simp only [cond_true, hc]
          rfl
      rw [e] at h ⊢
      have h1 := seq_ok hn ha hw hb (fun h => by rw [hc] at h; cases h) h (by omega) (Nat.le_of_lt hi)
      have p1 : pk s (i + (inn 4 r).length) = hd t := by rw [pk_hd, drop_app h]
      obtain ⟨m, hm⟩ : ∃ m, s.length + 1 - i = m + 1 := ⟨s.length - i, by omega⟩
      rw [hm, pMany, h1]
      simp only
      rw [if_neg (by rw [p1]; omega)]
      simp [finR]
end
theorem chk_dep : ∀ (r : Rx) (lv c : Int), (chk r lv c).2 = 0 → lv + (dep r : Int) ≤ 17 := by
  refine rx_ind fun k lo up ks ih lv c h => ?_
  rw [chk] at h
  split at h
  · cases h
  split at h
  · cases h
  split at h
  · rename_i h0; exact absurd h h0
  have hks : ∀ (l : List Rx), (∀ r ∈ l, r ∈ ks) → ∀ (c : Int), (chks l (lv + 1) c).2 = 0 → lv + 1 + (deps l : Int) ≤ 17 := by
    intro l
    induction l with
    | nil => intro _ c _; simp only [deps]; omega
    | cons r l il =>
      intro hm c h
      rw [chks] at h
      split at h
      · rename_i h0; exact absurd h h0
      · rename_i h0
        have h1 := ih r (hm r (List.mem_cons_self ..)) (lv + 1) c (Classical.not_not.1 h0)
        have h2 := il (fun x hx => hm x (List.mem_cons_of_mem _ hx)) _ h
        simp only [deps]
        omega
  have := hks ks (fun _ h => h) _ h
  simp only [dep]
  omega
theorem parse_pat {num : Nat → Option (Int × Nat)} {r : Rx} (hn : NumOk (pat r) num) (hw : wellB r = true) {b : Nat} (hb : dep r ≤ b) : pAlt num (pat r) b 0 = some (r, (pat r).length) := by
  have := alt_ok hn b r hw hb 0 [] (by simp) (.inl rfl)
  rw [this, Nat.zero_add]
end Go.Pl

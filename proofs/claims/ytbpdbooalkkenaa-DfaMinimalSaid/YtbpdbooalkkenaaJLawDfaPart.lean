/-
  dfa: PARTITIONS OF STATES, refined till they are stable; no program in sight.
-/
import Derived.Test.YtbpdbooalkkenaaJLawDfaReach
set_option linter.unusedVariables false
set_option linter.unusedSimpArgs false
namespace Go.Proofs.Ytbpdbooalkkenaa
open Go Go.Av Go.Ev Go.Pl
abbrev EqvC (d : DF) (s t : Int) : Prop := Eqv (colS d) (accS d) (List.range d.1.length) s t
def bv (B : List Int) (s : Int) : Int := B.getD s.toNat 0
theorem bv_at {B : List Int} {s : Int} (h : s.toNat < B.length) : B[s.toNat] = bv B s := by
  unfold bv
  simp only [List.getD_eq_getElem?_getD, List.getElem?_eq_getElem h, Option.getD_some]
theorem bv_set {B : List Int} {s t x : Int} (hs : 0 ≤ s) (ht : 0 ≤ t) (hl : s.toNat < B.length) : bv (B.set s.toNat x) t = if t = s then x else bv B t := by
  unfold bv
  simp only [List.getD_eq_getElem?_getD, List.getElem?_set]
  by_cases h : t = s
  · subst h; simp [hl]
  · have : s.toNat ≠ t.toNat := fun e => h (by omega)
    simp [this, h]
def Ref (d : DF) (B : List Int) (s t : Int) : Prop := bv B s = bv B t ∧ ∀ c, c < d.1.length → bv B (colS d s c) = bv B (colS d t c)
section
variable {d : DF} {P : Int → Prop} {B B' : List Int} {m m' : Nat}
structure Rng (P : Int → Prop) (B : List Int) (m : Nat) : Prop where
  rng : ∀ s, P s → 0 ≤ bv B s ∧ bv B s < (m : Int)
  onto : ∀ i : Nat, i < m → ∃ s, P s ∧ bv B s = (i : Int)
structure Weak (d : DF) (P : Int → Prop) (B : List Int) : Prop where
  coarse : ∀ s t, P s → P t → EqvC d s t → bv B s = bv B t
  acc : ∀ s t, P s → P t → bv B s = bv B t → accS d s = accS d t
structure RefOk (d : DF) (P : Int → Prop) (B B' : List Int) (m' : Nat) : Prop where
  rng : Rng P B' m'
  ref : ∀ s t, P s → P t → (bv B' s = bv B' t ↔ Ref d B s t)
structure BlkOk (d : DF) (P : Int → Prop) (B : List Int) (m : Nat) : Prop where
  rng : Rng P B m
  eqv : ∀ s t, P s → P t → (bv B s = bv B t ↔ EqvC d s t)
theorem rng_len {l : List Int} (hg : Rng (· ∈ l) B m) : m ≤ l.length := by
  obtain ⟨rep, hrep⟩ : ∃ rep : Nat → Int, ∀ i, i < m → rep i ∈ l ∧ bv B (rep i) = (i : Int) :=
    ⟨fun i => if h : i < m then Classical.choose (hg.onto i h) else 0, fun i hi => by simp only [hi, dif_pos]; exact Classical.choose_spec (hg.onto i hi)⟩
  have hnd : ((List.range m).map rep).Nodup := by
    rw [List.nodup_iff_pairwise_ne, List.pairwise_map]
    refine List.Pairwise.imp_of_mem ?_ (List.nodup_iff_pairwise_ne.1 List.nodup_range)
    intro i j hi hj hij he
    have := (hrep i (List.mem_range.1 hi)).2
    rw [he, (hrep j (List.mem_range.1 hj)).2] at this
    omega
  have := nodup_len _ l hnd fun x hx => by
    obtain ⟨i, hi, rfl⟩ := List.mem_map.1 hx
    exact (hrep i (List.mem_range.1 hi)).1
  simpa using this
theorem bv_zero (n : Nat) (s : Int) : bv (List.replicate n 0) s = 0 := by
  unfold bv
  rw [List.getD_eq_getElem?_getD, List.getElem?_replicate]
  split <;> rfl
theorem ref_weak (hP : ∀ s c, c < d.1.length → P s → P (colS d s c)) (hw : Weak d P B) (hr : RefOk d P B B' m') : Weak d P B' :=
  ⟨fun s t hs ht he => (hr.ref s t hs ht).2 ⟨hw.coarse s t hs ht he, fun c hc => hw.coarse _ _ (hP s c hc hs) (hP t c hc ht) (he.step (List.mem_range.2 hc))⟩,
    fun s t hs ht he => hw.acc s t hs ht ((hr.ref s t hs ht).1 he).1⟩
theorem ref_grow (hg : Rng P B m) (hr : RefOk d P B B' m') : m ≤ m' := by
  rcases Nat.eq_zero_or_pos m with rfl | hm
  · exact Nat.zero_le _
  obtain ⟨s0, hs0, _⟩ := hg.onto 0 hm
  obtain ⟨rep, hrep⟩ : ∃ rep : Nat → Int, ∀ i, i < m → P (rep i) ∧ bv B (rep i) = (i : Int) :=
    ⟨fun i => if h : i < m then Classical.choose (hg.onto i h) else 0, fun i hi => by simp only [hi, dif_pos]; exact Classical.choose_spec (hg.onto i hi)⟩
  have hnd : ((List.range m).map fun i => bv B' (rep i)).Nodup := by
    rw [List.nodup_iff_pairwise_ne, List.pairwise_map]
    refine List.Pairwise.imp_of_mem ?_ (List.nodup_iff_pairwise_ne.1 List.nodup_range)
    intro i j hi hj hij he
    have hi := List.mem_range.1 hi
    have hj := List.mem_range.1 hj
    have := ((hr.ref _ _ (hrep i hi).1 (hrep j hj).1).1 he).1
    rw [(hrep i hi).2, (hrep j hj).2] at this
    omega
  have := nodup_len _ (rangeI m') hnd fun x hx => by
    obtain ⟨i, hi, rfl⟩ := List.mem_map.1 hx
    exact rangeI_mem.2 (hr.rng.rng _ (hrep i (List.mem_range.1 hi)).1)
  simpa [rangeI_len] using this
theorem ref_stop (hP : ∀ s c, c < d.1.length → P s → P (colS d s c)) (hw : Weak d P B) (hg : Rng P B m) (hr : RefOk d P B B' m) : BlkOk d P B' m := by
  have hsame : ∀ s t, P s → P t → bv B s = bv B t → bv B' s = bv B' t := fun s t hs ht he =>
    same_classes (P := P) (b := bv B) (b' := bv B') hg.onto hr.rng.rng (fun s t hs ht he => ((hr.ref s t hs ht).1 he).1) hs ht he
  refine ⟨hr.rng, fun s t hs ht => ⟨fun he => ?_, fun he => (ref_weak hP hw hr).coarse s t hs ht he⟩⟩
  refine stable_eqv (P := P) (b := bv B') (fun s c hc => hP s c (List.mem_range.1 hc)) (ref_weak hP hw hr).acc (fun s t c hc hs ht he => ?_) hs ht he
  have hc := List.mem_range.1 hc
  exact hsame _ _ (hP s c hc hs) (hP t c hc ht) (((hr.ref s t hs ht).1 he).2 c hc)
end
section
variable {κ : Type} [DecidableEq κ]
structure Keyed (key : Int → κ) (l : List Int) (K : List κ) (B : List Int) : Prop where
  nodup : K.Nodup
  num : ∀ s ∈ l, bv B s = (pos K (key s) : Int) ∧ key s ∈ K
  onto : ∀ x ∈ K, ∃ s ∈ l, key s = x
theorem pos_inj {K : List κ} {x y : κ} (hx : x ∈ K) (h : pos K x = pos K y) : x = y := by
  have h1 := pos_lt.1 hx
  have e1 : K[pos K x]? = some x := by
    unfold pos at h1 ⊢
    rw [List.getElem?_eq_getElem h1, List.getElem_idxOf]
  have h2 : pos K y < K.length := by rw [← h]; exact h1
  have e2 : K[pos K y]? = some y := by
    unfold pos at h2 ⊢
    rw [List.getElem?_eq_getElem h2, List.getElem_idxOf]
  rw [h] at e1
  exact Option.some.inj (e1.symm.trans e2)
theorem Keyed.refOk {key : Int → κ} {l : List Int} {K : List κ} {d : DF} {B B' : List Int} (h : Keyed key l K B') (hk : ∀ s ∈ l, ∀ t ∈ l, key s = key t ↔ Ref d B s t) : RefOk d (· ∈ l) B B' K.length := by
  refine ⟨⟨fun s hs => ?_, fun i hi => ?_⟩, fun s t hs ht => ?_⟩
  · obtain ⟨h1, h2⟩ := h.num s hs
    have := pos_lt.1 h2
    omega
  · obtain ⟨s, hs, e⟩ := h.onto _ (List.getElem_mem hi)
    refine ⟨s, hs, ?_⟩
    rw [(h.num s hs).1, e]
    unfold pos
    rw [List.Nodup.idxOf_getElem h.nodup]
  · obtain ⟨h1, h2⟩ := h.num s hs
    obtain ⟨g1, g2⟩ := h.num t ht
    rw [← hk s hs t ht, h1, g1]
    exact ⟨fun e => pos_inj h2 (by omega), fun e => by rw [e]⟩
theorem Keyed.old {key : Int → κ} {l : List Int} {K : List κ} {B : List Int} (h : Keyed key l K B) (hl : ∀ s ∈ l, 0 ≤ s) {v : Int} (hv : 0 ≤ v) (hb : v.toNat < B.length) (hk : key v ∈ K) : Keyed key (l ++ [v]) K (B.set v.toNat (pos K (key v) : Int)) := by
  refine ⟨h.nodup, fun s hs => ?_, fun x hx => ?_⟩
  · rcases List.mem_append.1 hs with hs | hs
    · rw [bv_set hv (hl s hs) hb]
      split
      · rename_i e; subst e; exact ⟨rfl, hk⟩
      · exact h.num s hs
    · simp at hs; subst hs
      rw [bv_set hv hv hb, if_pos rfl]; exact ⟨rfl, hk⟩
  · obtain ⟨s, hs, e⟩ := h.onto x hx
    exact ⟨s, List.mem_append_left _ hs, e⟩
theorem Keyed.new {key : Int → κ} {l : List Int} {K : List κ} {B : List Int} (h : Keyed key l K B) (hl : ∀ s ∈ l, 0 ≤ s) {v : Int} (hv : 0 ≤ v) (hb : v.toNat < B.length) (hk : key v ∉ K) : Keyed key (l ++ [v]) (K ++ [key v]) (B.set v.toNat (K.length : Int)) := by
  have hp : pos (K ++ [key v]) (key v) = K.length := by
    unfold pos
    rw [List.idxOf_append, if_neg hk]; simp
  have hold : ∀ s ∈ l, pos (K ++ [key v]) (key s) = pos K (key s) := fun s hs => idxOf_pre (List.prefix_append _ _) (h.num s hs).2
  refine ⟨?_, fun s hs => ?_, fun x hx => ?_⟩
  · rw [List.nodup_append]
    exact ⟨h.nodup, by simp, fun a ha b hb => by simp at hb; subst hb; rintro rfl; exact hk ha⟩
  · rcases List.mem_append.1 hs with hs1 | hs
    · rw [bv_set hv (hl s hs1) hb]
      split
      · rename_i e; rw [e] at hs1; exact absurd (h.num v hs1).2 hk
      · rw [hold s hs1]; exact ⟨(h.num s hs1).1, List.mem_append_left _ (h.num s hs1).2⟩
    · simp at hs; subst hs
      rw [bv_set hv hv hb, if_pos rfl, hp]; exact ⟨rfl, by simp⟩
  · rcases List.mem_append.1 hx with hx | hx
    · obtain ⟨s, hs, e⟩ := h.onto x hx
      exact ⟨s, List.mem_append_left _ hs, e⟩
    · simp at hx; subst hx; exact ⟨v, by simp, rfl⟩
theorem Keyed.len {key : Int → κ} {l : List Int} {K : List κ} {B : List Int} (h : Keyed key l K B) : K.length ≤ l.length := by
  have := nodup_len K (l.map key) h.nodup fun x hx => by
    obtain ⟨s, hs, e⟩ := h.onto x hx
    exact List.mem_map.2 ⟨s, hs, e⟩
  simpa using this
end
end Go.Proofs.Ytbpdbooalkkenaa

/-
  THE ABSTRACT LAYER, 17: a region that asks the tape for its order: one evaluation serves every order.
-/
import Derived.Test.YtfgchoifgocclaaDoorAv16
namespace Go.Av
open Go Go.RowKit

/-- The first k operations leave the objects alone; the rest comes in order. -/
def sdraw (P : Program) : Nat → List SOper → St → (St → Prop) → Prop
  | 0, l, st, K => sops P l st K
  | _ + 1, [], st, K => K st
  | k + 1, o :: l, st, K => ∃ x, syield P o st x ∧ sdraw P k l (st.putO o.dst x) K

def ancs : List (List Nat) → List (List Nat) → List (List Nat)
  | acc, [] => acc
  | acc, l :: ls => ancs (acc ++ [l.flatMap fun e => e :: acc.getD e []]) ls

def apartB (x y : SOper) : Bool :=
  (match x.dst with | some d => !y.rd.contains d && y.dst != some d | none => true) && (match y.dst with | some d => !x.rd.contains d | none => true)

/-- What is asked of the operations' waits. -/
def drawOk (ops : List SOper) (anc : List (List Nat)) (k : Nat) : Bool :=
  (List.range ops.length).all fun j => (List.range j).all fun i => (anc.getD j []).contains i || (decide (j < k) && (match ops[i]?, ops[j]? with | some x, some y => apartB x y | _, _ => false))

def afterOf (ops : Array Oper) : List (List Nat) := ops.toList.map fun o => (o.after.toList.filter (Region.binds .any)).map (·.on)
def lowB (after : List (List Nat)) : Bool := (List.range after.length).all fun i => (after.getD i []).all fun e => decide (e < i)

section
variable {P : Program} {c : Ctx} {w : World} {a : Act}

/-! ### Puts by a set of operations -/
def lastBelow (p : Nat → Bool) : Nat → Option Nat
  | 0 => none
  | k + 1 => if p k then some k else lastBelow p k

theorem lastBelow_congr {p q : Nat → Bool} : ∀ {k : Nat}, (∀ j, j < k → p j = q j) → lastBelow p k = lastBelow q k
  | 0, _ => rfl
  | k + 1, h => by
    have ih := lastBelow_congr (p := p) (q := q) (k := k) fun j hj => h j (by omega)
    simp only [lastBelow, h k (by omega), ih]

theorem lastBelow_ge {p : Nat → Bool} : ∀ {k i : Nat}, i ≤ k → (∀ j, i ≤ j → j < k → p j = false) → lastBelow p k = lastBelow p i
  | 0, i, h, _ => by have : i = 0 := by omega
                     subst this; rfl
  | k + 1, i, h, hp => by
    rcases Nat.lt_or_ge i (k + 1) with h1 | h1
    · simp only [lastBelow, hp k (by omega) (by omega), Bool.false_eq_true, if_false]
      exact lastBelow_ge (by omega) fun j hj hk => hp j hj (by omega)
    · have : i = k + 1 := by omega
      subst this; rfl

def stP (d : Nat → Option Nat) (X : Nat → AV) (st : St) (S : Nat → Bool) : Nat → St
  | 0 => st
  | k + 1 => if S k then (stP d X st S k).putO (d k) (X k) else stP d X st S k

theorem stP_hp (d : Nat → Option Nat) (X : Nat → AV) (st : St) (S : Nat → Bool) : ∀ k, (stP d X st S k).hp = st.hp
  | 0 => rfl
  | k + 1 => by
    simp only [stP]
    split
    · cases d k <;> simp [St.putO, St.put, stP_hp d X st S k]
    · exact stP_hp d X st S k

theorem look_putO (st : St) (d : Option Nat) (x : AV) (t : Nat) : look (st.putO d x).fr t = if d = some t then some x else look st.fr t := by
  cases d with
  | none => simp [St.putO]
  | some k =>
    simp only [St.putO, St.put, look, Option.some.injEq]
    by_cases h : t = k
    · subst h; simp
    · rw [if_neg h, if_neg (Ne.symm h)]

theorem look_stP (d : Nat → Option Nat) (X : Nat → AV) (st : St) (S : Nat → Bool) (t : Nat) : ∀ k, look (stP d X st S k).fr t = (match lastBelow (fun j => S j && d j == some t) k with | some j => some (X j) | none => look st.fr t)
  | 0 => rfl
  | k + 1 => by
    simp only [stP, lastBelow]
    by_cases hS : S k = true
    · rw [if_pos hS, look_putO]
      by_cases hd : d k = some t
      · simp [hS, hd]
      · rw [if_neg hd, look_stP d X st S t k]
        simp [hd]
    · rw [if_neg hS, look_stP d X st S t k]
      simp [hS]

/-- Two states that say the same. -/
theorem Rel.congr {st st' : St} (hh : st'.hp = st.hp) (h : ∀ t, look st'.fr t = look st.fr t) (hr : Rel c st a w) : Rel c st' a w := by
  obtain ⟨θ, D, hI⟩ := hr
  exact ⟨θ, D, hI.size, hI.defers, by rw [hh]; exact hI.ok, hI.keep, hI.dsub, hI.dnew, hI.onew, fun k x hk => hI.fr k x (by rw [← h]; exact hk)⟩

/-- What the evaluation in lexical order gives. -/
theorem sdraw_get : ∀ (k : Nat) (ops : List SOper) (st : St) (K : St → Prop), sdraw P k ops st K → k ≤ ops.length →
    ∃ X : Nat → AV, (∀ i s, i < k → ops[i]? = some s → syield P s (stP (fun j => (ops[j]?).bind (·.dst)) X st (fun _ => true) i) (X i)) ∧ sops P (ops.drop k) (stP (fun j => (ops[j]?).bind (·.dst)) X st (fun _ => true) k) K
  | 0, ops, st, K, h, _ => ⟨fun _ => default, fun i s hi => absurd hi (by omega), h⟩
  | k + 1, [], st, K, _, hl => absurd hl (by simp)
  | k + 1, o :: ops, st, K, h, hl => by
    obtain ⟨x, hx, h⟩ := h
    obtain ⟨X, h1, h2⟩ := sdraw_get k ops _ K h (by simpa using hl)
    have hshift : ∀ i, stP (fun j => ((o :: ops)[j]?).bind (·.dst)) (fun j => match j with | 0 => x | j + 1 => X j) st (fun _ => true) (i + 1) = stP (fun j => (ops[j]?).bind (·.dst)) X (st.putO o.dst x) (fun _ => true) i := by
      intro i
      induction i with
      | zero => simp [stP]
      | succ i ih =>
        rw [stP, ih]
        simp [stP]
    refine ⟨fun j => match j with | 0 => x | j + 1 => X j, fun i s hi hs => ?_, ?_⟩
    · cases i with
      | zero => simp at hs; subst hs; exact hx
      | succ i =>
        rw [hshift]
        exact h1 i s (by omega) (by simpa using hs)
    · rw [hshift]
      simpa using h2

/-! ### The waits -/
theorem ancs_len : ∀ (ls acc : List (List Nat)), (ancs acc ls).length = acc.length + ls.length
  | [], acc => rfl
  | l :: ls, acc => by rw [ancs, ancs_len ls]; simp; omega

theorem ancs_old : ∀ (ls acc : List (List Nat)) (i : Nat), i < acc.length → (ancs acc ls)[i]? = acc[i]?
  | [], acc, i, _ => rfl
  | l :: ls, acc, i, h => by
    rw [ancs, ancs_old ls _ i (by simp; omega), List.getElem?_append_left h]

theorem ancs_get : ∀ (ls acc : List (List Nat)) (j : Nat) (l : List Nat), ls[j]? = some l → (ancs acc ls).getD (acc.length + j) [] = l.flatMap fun e => e :: (ancs acc (ls.take j)).getD e []
  | [], acc, j, l, h => by simp at h
  | m :: ls, acc, 0, l, h => by
    simp at h; subst h
    have : (ancs acc (m :: ls))[acc.length]? = some (m.flatMap fun e => e :: acc.getD e []) := by
      rw [ancs, ancs_old ls _ _ (by simp)]
      simp
    show ((ancs acc (m :: ls))[acc.length + 0]?).getD [] = _
    rw [Nat.add_zero, this]
    rfl
  | m :: ls, acc, j + 1, l, h => by
    have := ancs_get ls (acc ++ [m.flatMap fun e => e :: acc.getD e []]) j l (by simpa using h)
    simp only [List.length_append, List.length_singleton] at this
    rw [show acc.length + (j + 1) = acc.length + 1 + j by omega, ancs, this]
    rfl

theorem ancs_take (ls : List (List Nat)) (j e : Nat) (he : e < j) (hj : j ≤ ls.length) : (ancs [] (ls.take j)).getD e [] = (ancs [] ls).getD e [] := by
  have key : ∀ (ms ns acc : List (List Nat)), ancs acc (ms ++ ns) = ancs (ancs acc ms) ns := by
    intro ms
    induction ms with
    | nil => intro ns acc; rfl
    | cons m ms ih => intro ns acc; simp only [List.cons_append, ancs, ih]
  have h1 : (ancs [] (ls.take j)).length = j := by rw [ancs_len]; simp; omega
  have := key (ls.take j) (ls.drop j) []
  rw [List.take_append_drop] at this
  have h2 : (ancs [] ls)[e]? = (ancs [] (ls.take j))[e]? := by rw [this, ancs_old _ _ e (by omega)]
  simp only [List.getD, h2]

/-- What has come up is closed under waiting. -/
theorem closed_anc {after : List (List Nat)} (hlow : lowB after = true) {S : Nat → Prop} (hS : ∀ i l, after[i]? = some l → S i → ∀ e ∈ l, S e) : ∀ (n i j : Nat), i ≤ n → S i → (((ancs [] after).getD i []).contains j) = true → i < after.length → S j := by
  intro n
  induction n with
  | zero =>
    intro i j hi hs hc hlt
    have hi0 : i = 0 := by omega
    subst hi0
    have hl := List.getElem?_eq_getElem hlt
    have := ancs_get after [] 0 _ hl
    simp only [List.length_nil, Nat.zero_add] at this
    rw [this] at hc
    simp only [List.contains_iff_mem, List.mem_flatMap] at hc
    obtain ⟨e, he, _⟩ := hc
    simp only [lowB, List.all_eq_true, List.mem_range, decide_eq_true_eq] at hlow
    have := hlow 0 hlt e (by simpa [List.getD, hl] using he)
    omega
  | succ n ih =>
    intro i j hi hs hc hlt
    have hl := List.getElem?_eq_getElem hlt
    have hg := ancs_get after [] i _ hl
    simp only [List.length_nil, Nat.zero_add] at hg
    rw [hg] at hc
    simp only [List.contains_iff_mem, List.mem_flatMap] at hc
    obtain ⟨e, he, hj⟩ := hc
    have hse := hS i _ hl hs e he
    simp only [lowB, List.all_eq_true, List.mem_range, decide_eq_true_eq] at hlow
    have hei := hlow i hlt e (by simpa [List.getD, hl] using he)
    simp only [List.mem_cons] at hj
    rcases hj with rfl | hj
    · exact hse
    · rw [ancs_take after i e hei (by omega)] at hj
      exact ih e j (by omega) hse (by simpa using hj) (by omega)


theorem getD_listed {n : Nat} {listed : Array Bool} (hn : listed.size = n) {i j : Nat} (hi : i < n) : (listed.setIfInBounds i true).getD j false = (if j = i then true else listed.getD j false) := by
  by_cases h : j = i
  · subst h; simp [hn, hi]
  · simp [h, Array.getElem?_setIfInBounds_ne (Ne.symm h)]

theorem conflict {x y : SOper} {t : Nat} (h : apartB x y = true) : (x.dst = some t → t ∉ y.rd ∧ y.dst ≠ some t) ∧ (y.dst = some t → t ∉ x.rd) := by
  unfold apartB at h
  rw [Bool.and_eq_true] at h
  obtain ⟨h1, h2⟩ := h
  refine ⟨fun hx => ?_, fun hy => ?_⟩
  · rw [hx] at h1
    simpa using h1
  · rw [hy] at h2
    simpa using h2

/-- THE REGION IN WHATEVER ORDER. -/
theorem draw_sound {id n k : Nat} {ops : Array Oper} {ss : List SOper} {after : List (List Nat)} (hm : P.follows .mixedOrders = true) (hn : c.n = n) (hc : compOps P n ops ops.toList ss) (haf : after = afterOf ops) (hlow : lowB after = true) (hok : drawOk ss (ancs [] after) k = true) (hkl : k ≤ ss.length)
    {st : St} {K : St → Prop} {Q : Exit → Act → World → Prop} (h : sdraw P k ss st K) (hr : Rel c st a w) (hQ : ∀ a w, (∃ st', K st' ∧ Rel c st' a w) → Q .normal a w) : (Code.region id ops true).wp P Q a w := by
  obtain ⟨hlen, hget⟩ := compOps_get hc
  have hsz : ops.size = ss.length := by simpa using hlen
  obtain ⟨X, hX, hrest⟩ := sdraw_get k ss st K h hkl
  generalize hd : (fun j : Nat => (ss[j]?).bind (fun s : SOper => s.dst)) = d at hX hrest
  have hdj : ∀ (j : Nat) (s : SOper), ss[j]? = some s → d j = s.dst := fun j s hs => by rw [← hd]; simp [hs]
  have hal : after.length = ss.length := by rw [haf]; simp [afterOf, hsz]
  have hafo : ∀ (i : Nat) (o : Oper), ops[i]? = some o → after[i]? = some ((o.after.toList.filter (Region.binds .any)).map (·.on)) := fun i o ho => by
    rw [haf]; simp [afterOf, ho]
  -- the waits of each operation
  have ready_iff : ∀ (listed : Array Bool) (i : Nat), listed.size = ss.length → (i ∈ Region.ready .any ops listed ↔ i < ss.length ∧ listed.getD i true = false ∧ ∀ l : List Nat, after[i]? = some l → ∀ e ∈ l, listed.getD e false = true) := by
    intro listed i hls
    unfold Region.ready
    simp only [List.mem_filter, List.mem_range, Bool.and_eq_true, Bool.not_eq_true', hsz]
    constructor
    · rintro ⟨h1, h2, h3⟩
      refine ⟨h1, h2, fun l hl e he => ?_⟩
      have ho : ops[i]? = some ops[i] := Array.getElem?_eq_getElem (by omega)
      rw [hafo i _ ho] at hl
      cases hl
      rw [ho] at h3
      simp only [Option.map_some, Option.getD_some, Array.all_eq_true'] at h3
      simp only [List.mem_map, List.mem_filter] at he
      obtain ⟨ed, ⟨h4, h5⟩, rfl⟩ := he
      have := h3 ed (by simpa using h4)
      simpa [h5] using this
    · rintro ⟨h1, h2, h3⟩
      refine ⟨h1, h2, ?_⟩
      have ho : ops[i]? = some ops[i] := Array.getElem?_eq_getElem (by omega)
      rw [ho]
      simp only [Option.map_some, Option.getD_some, Array.all_eq_true']
      intro ed hed
      by_cases hb : Region.binds .any ed = true
      · have := h3 _ (hafo i _ ho) ed.on (List.mem_map.2 ⟨ed, List.mem_filter.2 ⟨by simpa using hed, hb⟩, rfl⟩)
        simp only [hb, Bool.not_true, Bool.false_or]
        exact this
      · simp [hb]
  have okij : ∀ i j, i < j → j < ss.length → ((ancs [] after).getD j []).contains i = true ∨ (j < k ∧ ∃ x y, ss[i]? = some x ∧ ss[j]? = some y ∧ apartB x y = true) := by
    intro i j hij hj
    simp only [drawOk, List.all_eq_true, List.mem_range, Bool.or_eq_true, Bool.and_eq_true, decide_eq_true_eq] at hok
    rcases hok j hj i hij with h1 | ⟨h1, h2⟩
    · exact .inl h1
    · refine .inr ⟨h1, ss[i], ss[j], List.getElem?_eq_getElem (by omega), List.getElem?_eq_getElem hj, ?_⟩
      simpa [List.getElem?_eq_getElem (show i < ss.length by omega), List.getElem?_eq_getElem hj] using h2
  -- behind the first k: one after the other
  have phase2 : ∀ (m j : Nat) (listed : Array Bool) (st' : St) (a : Act) (w : World), j ≤ ss.length → ss.length ≤ j + m → k ≤ j → listed.size = ss.length → (∀ i, i < ss.length → listed.getD i false = decide (i < j)) → sops P (ss.drop j) st' K → Rel c st' a w →
      wpAny P .any ops Q m listed a w := by
    have fin : ∀ (listed : Array Bool) (st' : St) (a : Act) (w : World), listed.size = ss.length → (∀ i, i < ss.length → listed.getD i false = decide (i < ss.length)) → sops P (ss.drop ss.length) st' K → Rel c st' a w → Region.ready .any ops listed = [] ∧ Q .normal a w := by
      intro listed st' a w hls hli hs hr
      rw [List.drop_length] at hs
      refine ⟨?_, hQ a w ⟨st', hs, hr⟩⟩
      apply List.eq_nil_iff_forall_not_mem.2
      intro i hi
      obtain ⟨h1, h2, _⟩ := (ready_iff listed i hls).1 hi
      have h3 := hli i h1
      have h4 : i < listed.size := by omega
      simp [h4, h1] at h2 h3
      rw [h3] at h2; cases h2
    intro m
    induction m with
    | zero =>
      intro j listed st' a w hj hm _ hls hli hs hr
      have hj' : j = ss.length := by omega
      subst hj'
      exact fin listed st' a w hls hli hs hr
    | succ m ih =>
      intro j listed st' a w hj hm hkj hls hli hs hr
      rcases Nat.lt_or_ge j ss.length with hjl | hjl
      case inr =>
        have hj' : j = ss.length := by omega
        subst hj'
        obtain ⟨f1, f2⟩ := fin listed st' a w hls hli hs hr
        exact ⟨fun _ => f2, fun i hi => by rw [f1] at hi; cases hi⟩
      have hgd : ∀ i, i < ss.length → listed.getD i true = decide (i < j) := fun i hi => by
        have h4 : i < listed.size := by omega
        have := hli i hi
        simp [h4] at this ⊢
        exact this
      have hrd : ∀ i, i ∈ Region.ready .any ops listed ↔ i = j := by
        intro i
        rw [ready_iff listed i hls]
        constructor
        · rintro ⟨h1, h2, h3⟩
          rw [hgd i h1] at h2
          simp only [decide_eq_false_iff_not, Nat.not_lt] at h2
          rcases Nat.lt_or_ge j i with h4 | h4
          · rcases okij j i h4 h1 with h5 | ⟨h5, _⟩
            · have hcl := closed_anc hlow (S := fun x => x < j ∨ x = i) (fun x l hl hx e he => by
                have hlow' := hlow
                simp only [lowB, List.all_eq_true, List.mem_range, decide_eq_true_eq] at hlow'
                have hxl := (List.getElem?_eq_some_iff.1 hl).1
                have hex := hlow' x hxl e (by simpa [List.getD, hl] using he)
                rcases hx with hx | rfl
                · exact .inl (by omega)
                · have := h3 l hl e he
                  rw [hli e (by omega)] at this
                  exact .inl (by simpa using this)) i i j (Nat.le_refl _) (.inr rfl) h5 (by omega)
              omega
            · omega
          · omega
        · rintro rfl
          refine ⟨hjl, by rw [hgd _ hjl]; simp, fun l hl e he => ?_⟩
          have hlow' := hlow
          simp only [lowB, List.all_eq_true, List.mem_range, decide_eq_true_eq] at hlow'
          have hxl := (List.getElem?_eq_some_iff.1 hl).1
          have hex := hlow' i hxl e (by simpa [List.getD, hl] using he)
          rw [hli e (by omega)]
          simpa using hex
      refine ⟨fun h0 => ?_, fun i hi => ?_⟩
      · have := (hrd j).2 rfl
        rw [h0] at this; cases this
      · have := (hrd i).1 hi
        subst this
        have ho : ops[i]? = some ops[i] := Array.getElem?_eq_getElem (by omega)
        have hsi := List.getElem?_eq_getElem hjl
        have hco := hget i _ _ (by rw [Array.getElem?_toList]; exact ho) hsi
        rw [List.drop_eq_getElem_cons hjl] at hs
        obtain ⟨θ, D, hI⟩ := hr
        have := step_sound hI hn hco hs (fun a' w' => wpAny P .any ops Q m (listed.setIfInBounds i true) a' w') Q (fun a' w' ⟨st'', h1, h2⟩ =>
          ih (i + 1) _ st'' a' w' (by omega) (by omega) (by omega) (by simpa using hls) (fun x hx => by
            rw [getD_listed hls (by omega), hli x hx]
            by_cases hxi : x = i
            · subst hxi; simp
            · rw [if_neg hxi]; apply decide_eq_decide.2; omega) h1 h2)
        unfold wpOp
        rw [ho]
        simp only
        split
        · rename_i hw
          rw [if_pos hw] at this
          exact .inl this
        · rename_i hw
          rw [if_neg hw] at this
          exact this
  -- among the first k: any of those that may come
  have phase1 : ∀ (m : Nat) (listed : Array Bool) (a : Act) (w : World), listed.size = ss.length → (∀ i, i < ss.length → listed.getD i false = true → i < k) → (∀ (i : Nat) (l : List Nat), after[i]? = some l → listed.getD i false = true → ∀ e ∈ l, listed.getD e false = true) →
      ((List.range ss.length).filter fun i => !listed.getD i false).length ≤ m → Rel c (stP d X st (fun j => listed.getD j false) k) a w → wpAny P .any ops Q m listed a w := by
    have full : ∀ (m : Nat) (listed : Array Bool) (a : Act) (w : World), listed.size = ss.length → (∀ i, i < ss.length → listed.getD i false = true → i < k) → (∀ i, i < k → listed.getD i false = true) → ss.length ≤ k + m → Rel c (stP d X st (fun j => listed.getD j false) k) a w → wpAny P .any ops Q m listed a w := by
      intro m listed a w hls hlk hall hm hr
      refine phase2 m k listed (stP d X st (fun _ => true) k) a w hkl hm (Nat.le_refl _) hls (fun i hi => ?_) hrest (Rel.congr ?_ (fun t => ?_) hr)
      · rcases Nat.lt_or_ge i k with h1 | h1
        · rw [hall i h1]; simp [h1]
        · cases hb : listed.getD i false with
          | true => have := hlk i hi hb; omega
          | false => simp; omega
      · rw [stP_hp, stP_hp]
      · rw [look_stP, look_stP, lastBelow_congr (p := fun j => (fun _ => true) j && d j == some t) (q := fun j => listed.getD j false && d j == some t) (k := k) fun j hj => by simp only [hall j hj]]
    have cntk : ∀ (listed : Array Bool), (∀ i, i < ss.length → listed.getD i false = true → i < k) → ss.length ≤ k + ((List.range ss.length).filter fun i => !listed.getD i false).length := by
      intro listed hlk
      have : ∀ n, n ≤ ss.length → n ≤ k + ((List.range n).filter fun i => !listed.getD i false).length := by
        intro n
        induction n with
        | zero => intro _; omega
        | succ n ih =>
          intro hn
          have := ih (by omega)
          rw [List.range_succ, List.filter_append, List.length_append]
          cases hb : listed.getD n false with
          | true => have := hlk n (by omega) hb; omega
          | false =>
            simp only [List.filter_cons, hb, Bool.not_false, if_true, List.filter_nil, List.length_singleton]
            omega
      exact this _ (Nat.le_refl _)
    intro m
    induction m with
    | zero =>
      intro listed a w hls hlk hcl hcnt hr
      refine full 0 listed a w hls hlk (fun i hi => ?_) (by have := cntk listed hlk; omega) hr
      have h0 := List.eq_nil_of_length_eq_zero (Nat.le_zero.1 hcnt)
      have := List.filter_eq_nil_iff.1 h0 i (by simp; omega)
      simpa using this
    | succ m ih =>
      intro listed a w hls hlk hcl hcnt hr
      by_cases hall : ∀ i, i < k → listed.getD i false = true
      · exact full (m + 1) listed a w hls hlk hall (by have := cntk listed hlk; omega) hr
      · -- the first that has not come
        obtain ⟨i0, hi0, hu0, hmin⟩ : ∃ i0, i0 < k ∧ listed.getD i0 false = false ∧ ∀ j, j < i0 → listed.getD j false = true := by
          have : ∀ n, (∃ i, i < n ∧ listed.getD i false = false) → ∃ i0, i0 < n ∧ listed.getD i0 false = false ∧ ∀ j, j < i0 → listed.getD j false = true := by
            intro n
            induction n with
            | zero => rintro ⟨i, hi, _⟩; omega
            | succ n ihn =>
              rintro ⟨i, hi, hu⟩
              by_cases h1 : ∃ i, i < n ∧ listed.getD i false = false
              · obtain ⟨i0, h2, h3⟩ := ihn h1
                exact ⟨i0, by omega, h3⟩
              · refine ⟨n, by omega, ?_, fun j hj => ?_⟩
                · have : i = n := by
                    rcases Nat.lt_or_ge i n with h2 | h2
                    · exact absurd ⟨i, h2, hu⟩ h1
                    · omega
                  subst this; exact hu
                · cases hb : listed.getD j false with
                  | true => rfl
                  | false => exact absurd ⟨j, hj, hb⟩ h1
          refine this k ?_
          apply Classical.byContradiction
          intro hne
          refine hall fun i hi => ?_
          cases hb : listed.getD i false with
          | true => rfl
          | false => exact absurd ⟨i, hi, hb⟩ hne
        have hlow' := hlow
        simp only [lowB, List.all_eq_true, List.mem_range, decide_eq_true_eq] at hlow'
        have htf : ∀ i, i < ss.length → listed.getD i true = listed.getD i false := fun i hi => by
          have h4 : i < listed.size := by omega
          simp [h4]
        refine ⟨fun h0 => ?_, fun i hi => ?_⟩
        · have : i0 ∈ Region.ready .any ops listed := (ready_iff listed i0 hls).2 ⟨by omega, by rw [htf i0 (by omega)]; exact hu0, fun l hl e he => hmin e (hlow' i0 (by omega) e (by simpa [List.getD, hl] using he))⟩
          rw [h0] at this; cases this
        · obtain ⟨r1, r2, r3⟩ := (ready_iff listed i hls).1 hi
          rw [htf i r1] at r2
          -- all that it waits for has come
          have hanc : ∀ j, ((ancs [] after).getD i []).contains j = true → j = i ∨ listed.getD j false = true := fun j hj => by
            have := closed_anc hlow (S := fun x => x = i ∨ listed.getD x false = true) (fun x l hl hx e he => by
              rcases hx with rfl | hx
              · exact .inr (r3 l hl e he)
              · exact .inr (hcl x l hl hx e he)) i i j (Nat.le_refl _) (.inl rfl) hj (by omega)
            exact this
          have hik : i < k := by
            apply Classical.byContradiction
            intro hnk
            rcases okij i0 i (by omega) r1 with h1 | ⟨h1, _⟩
            · rcases hanc i0 h1 with h2 | h2
              · omega
              · rw [hu0] at h2; cases h2
            · omega
          have ho : ops[i]? = some ops[i] := Array.getElem?_eq_getElem (by omega)
          have hsi : ss[i]? = some ss[i] := List.getElem?_eq_getElem r1
          have hco := hget i _ _ (by rw [Array.getElem?_toList]; exact ho) hsi
          -- which of the first k matter
          have later : ∀ j, i < j → j < k → listed.getD j false = true → ∃ y, ss[j]? = some y ∧ apartB ss[i] y = true := fun j hij hjk hl => by
            rcases okij i j hij (by omega) with h1 | ⟨_, x, y, hx, hy, h2⟩
            · have := closed_anc hlow (S := fun x => listed.getD x false = true) (fun x l hl hx e he => hcl x l hl hx e he) j j i (Nat.le_refl _) hl h1 (by omega)
              rw [r2] at this; cases this
            · rw [hsi] at hx; cases hx
              exact ⟨y, hy, h2⟩
          have earlier : ∀ j, j < i → listed.getD j false = false → ∃ y, ss[j]? = some y ∧ apartB y ss[i] = true := fun j hji hl => by
            rcases okij j i hji r1 with h1 | ⟨_, x, y, hx, hy, h2⟩
            · rcases hanc j h1 with h3 | h3
              · omega
              · rw [hl] at h3; cases h3
            · rw [hsi] at hy; cases hy
              exact ⟨x, hx, h2⟩
          have hreads : ∀ t ∈ ss[i].rd, look (stP d X st (fun j => listed.getD j false) k).fr t = look (stP d X st (fun _ => true) i).fr t := by
            intro t ht
            rw [look_stP, look_stP]
            have e1 : lastBelow (fun j => listed.getD j false && d j == some t) k = lastBelow (fun j => listed.getD j false && d j == some t) i := lastBelow_ge (by omega) fun j hj hjk => by
              rcases Nat.eq_or_lt_of_le hj with rfl | hj
              · rw [r2]; rfl
              · cases hb : listed.getD j false with
                | false => rfl
                | true =>
                  obtain ⟨y, hy, hap⟩ := later j hj hjk hb
                  rw [hdj j y hy]
                  cases hdt : (y.dst == some t) with
                  | false => rfl
                  | true => exact absurd ht ((conflict hap).2 (by simpa using hdt))
            have e2 : lastBelow (fun j => listed.getD j false && d j == some t) i = lastBelow (fun j => (fun _ => true) j && d j == some t) i := lastBelow_congr fun j hj => by
              cases hb : listed.getD j false with
              | true => rfl
              | false =>
                obtain ⟨y, hy, hap⟩ := earlier j hj hb
                rw [hdj j y hy]
                cases hdt : (y.dst == some t) with
                | false => rfl
                | true => exact absurd ht ((conflict hap).1 (by simpa using hdt)).1
            rw [e1, e2]
          have hy : syield P ss[i] (stP d X st (fun j => listed.getD j false) k) (X i) := syield_congr (by rw [stP_hp, stP_hp]) hreads (hX i _ hik hsi)
          obtain ⟨θ, D, hI⟩ := hr
          have := step_sound hI hn hco (sstep_of_syield (K := fun st' => st' = (stP d X st (fun j => listed.getD j false) k).putO ss[i].dst (X i)) hy rfl) (fun a' w' => wpAny P .any ops Q m (listed.setIfInBounds i true) a' w') Q (fun a' w' ⟨st'', h1, h2⟩ => by
            subst h1
            refine ih _ a' w' (by simpa using hls) (fun j hj hl => ?_) (fun j l hl hjl e he => ?_) ?_ (Rel.congr ?_ (fun t => ?_) h2)
            · rw [getD_listed hls r1] at hl
              split at hl
              · omega
              · exact hlk j hj hl
            · rw [getD_listed hls r1] at hjl ⊢
              split at hjl
              · rename_i hji
                subst hji
                split
                · rfl
                · exact r3 l hl e he
              · split
                · rfl
                · exact hcl j l hl hjl e he
            · have hlt : ∀ (l : List Nat), i ∈ l → (l.filter fun j => !(listed.setIfInBounds i true).getD j false).length < (l.filter fun j => !listed.getD j false).length := by
                intro l
                have hle : ∀ (l : List Nat), (l.filter fun j => !(listed.setIfInBounds i true).getD j false).length ≤ (l.filter fun j => !listed.getD j false).length := by
                  intro l
                  induction l with
                  | nil => exact Nat.le_refl _
                  | cons x l ihl =>
                    simp only [List.filter_cons, getD_listed hls r1] at ihl ⊢
                    by_cases hxi : x = i
                    · subst hxi; simp only [if_true, Bool.not_true, Bool.false_eq_true, if_false, r2, Bool.not_false, List.length_cons]; omega
                    · simp only [hxi, if_false]
                      split <;> (try simp only [List.length_cons]) <;> omega
                induction l with
                | nil => intro h; cases h
                | cons x l ihl =>
                  intro hmem
                  have hlel := hle l
                  simp only [List.filter_cons, getD_listed hls r1] at ihl hlel ⊢
                  by_cases hxi : x = i
                  · subst hxi; simp only [if_true, Bool.not_true, Bool.false_eq_true, if_false, r2, Bool.not_false, List.length_cons]; omega
                  · have hm' : i ∈ l := by
                      rcases List.mem_cons.1 hmem with h | h
                      · exact absurd h.symm hxi
                      · exact h
                    have := ihl hm'
                    simp only [hxi, if_false]
                    split <;> (try simp only [List.length_cons]) <;> omega
              have := hlt (List.range ss.length) (by simpa using r1)
              omega
            · cases hdi : ss[i].dst <;> simp [St.putO, St.put, stP_hp]
            · rw [look_putO, look_stP, look_stP]
              by_cases hdt : ss[i].dst = some t
              · rw [if_pos hdt]
                have e1 : lastBelow (fun j => (listed.setIfInBounds i true).getD j false && d j == some t) k = lastBelow (fun j => (listed.setIfInBounds i true).getD j false && d j == some t) (i + 1) := lastBelow_ge (by omega) fun j hj hjk => by
                  rw [getD_listed hls r1, if_neg (by omega)]
                  cases hb : listed.getD j false with
                  | false => rfl
                  | true =>
                    obtain ⟨y, hy', hap⟩ := later j (by omega) hjk hb
                    rw [hdj j y hy']
                    have := ((conflict hap).1 hdt).2
                    simpa using this
                rw [e1, lastBelow, getD_listed hls r1, if_pos rfl, hdj i _ hsi, hdt]
                simp
              · rw [if_neg hdt]
                rw [lastBelow_congr (p := fun j => (listed.setIfInBounds i true).getD j false && d j == some t) (q := fun j => listed.getD j false && d j == some t) fun j hj => by
                  rw [getD_listed hls r1]
                  split
                  · rename_i hji
                    subst hji
                    rw [hdj j _ hsi, r2]
                    simpa using hdt
                  · rfl])
          unfold wpOp
          rw [ho]
          simp only
          split
          · rename_i hw
            rw [if_pos hw] at this
            exact .inl this
          · rename_i hw
            rw [if_neg hw] at this
            exact this
  refine wp_region_any hm ?_
  have h0 := phase1 ops.size (Array.replicate ops.size false) a { w with drawn := w.drawn + 1 } (by simp [hsz]) (fun i hi hl => by simp [hsz, hi] at hl) (fun i l hl h2 => by
    have hi : i < ops.size := by have := (List.getElem?_eq_some_iff.1 hl).1; omega
    simp [hi] at h2) (by
      have := List.length_filter_le (fun i => !(Array.replicate ops.size false).getD i false) (List.range ss.length)
      simpa [hsz] using this) ?_
  · exact h0
  · have : ∀ j, stP d X st (fun j => (Array.replicate ops.size false).getD j false) j = st := by
      intro j
      induction j with
      | zero => rfl
      | succ j ih =>
        rw [stP, ih]
        have : (Array.replicate ops.size false).getD j false = false := by
          by_cases hj : j < ops.size <;> simp [hj]
        rw [this]; rfl
    rw [this]
    obtain ⟨θ, D, hI⟩ := hr
    exact ⟨θ, D, hI.drew⟩

end
end Go.Av

/- Part ML4 of the layer: an abstract and a typed machine over the loaded code, proved sound. -/
import Derived.Test.YtifgipebbagfcaaDoorHL3
import Derived.Recover
import Derived.Tactics
import Derived.Tactics2
import Derived.Laws.Pointers
set_option linter.unusedVariables false
set_option linter.unusedSimpArgs false
namespace Go.Av
open Go Go.RowKit
def sdraw (P : Program) (m : Nat) : Nat → List SOper → St → (St → Prop) → (St → Prop) → Prop
  | 0, l, st, K, KP => sops P m l st K KP
  | _ + 1, [], st, K, _ => K st
  | k + 1, o :: l, st, K, KP => ∃ x, syield P o st x ∧ sdraw P m k l (st.putO o.dst x) K KP
def ancs : List (List Nat) → List (List Nat) → List (List Nat)
  | acc, [] => acc
  | acc, l :: ls => ancs (acc ++ [l.flatMap fun e => e :: acc.getD e []]) ls
def apartB (x y : SOper) : Bool :=
  (match x.dst with | some d => !y.rd.contains d && y.dst != some d | none => true) && (match y.dst with | some d => !x.rd.contains d | none => true)
def drawOk (ops : List SOper) (anc : List (List Nat)) (k : Nat) : Bool :=
  (List.range ops.length).all fun j => (List.range j).all fun i => (anc.getD j []).contains i || (decide (j < k) && (match ops[i]?, ops[j]? with | some x, some y => apartB x y | _, _ => false))
def afterOf (ops : Array Oper) : List (List Nat) := ops.toList.map fun o => (o.after.toList.filter (Region.binds .any)).map (·.on)
def lowB (after : List (List Nat)) : Bool := (List.range after.length).all fun i => (after.getD i []).all fun e => decide (e < i)
section
variable {P : Program} {c : Ctx} {w : World} {a : Act}
def lastBelow (p : Nat → Bool) : Nat → Option Nat
  | 0 => none
  | k + 1 => if p k then some k else lastBelow p k
theorem lastBelow_congr {p q : Nat → Bool} : ∀ {k : Nat}, (∀ j, j < k → p j = q j) → lastBelow p k = lastBelow q k
  | 0, _ => rfl
  | k + 1, h => by
    have ih := lastBelow_congr (p := p) (q := q) (k := k) fun j hj => h j (by omega)
    simp only [lastBelow, h k (by omega), ih]
theorem lastBelow_ge {p : Nat → Bool} : ∀ {k i : Nat}, i ≤ k → (∀ j, i ≤ j → j < k → p j = false) → lastBelow p k = lastBelow p i
  | 0, i, h, _ => by have : i = 0 := by omega
                     subst this; rfl
  | k + 1, i, h, hp => by
    rcases Nat.lt_or_ge i (k + 1) with h1 | h1
    · simp only [lastBelow, hp k (by omega) (by omega), Bool.false_eq_true, if_false]
      exact lastBelow_ge (by omega) fun j hj hk => hp j hj (by omega)
    · have : i = k + 1 := by omega
      subst this; rfl
def stP (d : Nat → Option Nat) (X : Nat → AV) (st : St) (S : Nat → Bool) : Nat → St
  | 0 => st
  | k + 1 => if S k then (stP d X st S k).putO (d k) (X k) else stP d X st S k
theorem stP_hp (d : Nat → Option Nat) (X : Nat → AV) (st : St) (S : Nat → Bool) : ∀ k, (stP d X st S k).hp = st.hp
  | 0 => rfl
  | k + 1 => by
    simp only [stP]
    split
    · cases d k <;> simp [St.putO, St.put, stP_hp d X st S k]
    · exact stP_hp d X st S k
theorem look_putO (st : St) (d : Option Nat) (x : AV) (t : Nat) : look (st.putO d x).fr t = if d = some t then some x else look st.fr t := by
  cases d with
  | none => simp [St.putO]
  | some k =>
    simp only [St.putO, St.put, look, Option.some.injEq]
    by_cases h : t = k
    · subst h; simp
    · rw [if_neg h, if_neg (Ne.symm h)]
theorem look_stP (d : Nat → Option Nat) (X : Nat → AV) (st : St) (S : Nat → Bool) (t : Nat) : ∀ k, look (stP d X st S k).fr t = (match lastBelow (fun j => S j && d j == some t) k with | some j => some (X j) | none => look st.fr t)
  | 0 => rfl
  | k + 1 => by
    simp only [stP, lastBelow]
    by_cases hS : S k = true
    · rw [if_pos hS, look_putO]
      by_cases hd : d k = some t
      · simp [hS, hd]
      · rw [if_neg hd, look_stP d X st S t k]
        simp [hd]
    · rw [if_neg hS, look_stP d X st S t k]
      simp [hS]
theorem Rel.congr {st st' : St} (hh : st'.hp = st.hp) (h : ∀ t, look st'.fr t = look st.fr t) (hr : Rel c st a w) : Rel c st' a w := by
  obtain ⟨θ, D, hI⟩ := hr
  exact ⟨θ, D, hI.size, hI.defers, by rw [hh]; exact hI.ok, hI.keep, hI.dsub, hI.dnew, hI.onew, fun k x hk => hI.fr k x (by rw [← h]; exact hk), hI.fix⟩
theorem sdraw_get {m : Nat} : ∀ (k : Nat) (ops : List SOper) (st : St) (K KP : St → Prop), sdraw P m k ops st K KP → k ≤ ops.length →
    ∃ X : Nat → AV, (∀ i s, i < k → ops[i]? = some s → syield P s (stP (fun j => (ops[j]?).bind (·.dst)) X st (fun _ => true) i) (X i)) ∧ sops P m (ops.drop k) (stP (fun j => (ops[j]?).bind (·.dst)) X st (fun _ => true) k) K KP := by
  intro k
  induction k with
  | zero => intro ops st K KP h _; exact ⟨fun _ => default, fun i s hi => absurd hi (by omega), h⟩
  | succ k ih =>
    intro ops st K KP h hl
    cases ops with
    | nil => exact absurd hl (by simp)
    | cons o ops =>
    simp only [sdraw] at h
    obtain ⟨x, hx, h⟩ := h
    obtain ⟨X, h1, h2⟩ := ih ops _ K KP h (by simpa using hl)
    have hshift : ∀ i, stP (fun j => ((o :: ops)[j]?).bind (·.dst)) (fun j => match j with | 0 => x | j + 1 => X j) st (fun _ => true) (i + 1) = stP (fun j => (ops[j]?).bind (·.dst)) X (st.putO o.dst x) (fun _ => true) i := by
      intro i
      induction i with
      | zero => simp [stP]
      | succ i ih =>
        rw [stP, ih]
        simp [stP]
    refine ⟨fun j => match j with | 0 => x | j + 1 => X j, fun i s hi hs => ?_, ?_⟩
    · cases i with
      | zero => simp at hs; subst hs; exact hx
      | succ i =>
        rw [hshift]
        exact h1 i s (by omega) (by simpa using hs)
    · rw [hshift]
      simpa using h2
theorem ancs_len : ∀ (ls acc : List (List Nat)), (ancs acc ls).length = acc.length + ls.length
  | [], acc => rfl
  | l :: ls, acc => by rw [ancs, ancs_len ls]; simp; omega
theorem ancs_old : ∀ (ls acc : List (List Nat)) (i : Nat), i < acc.length → (ancs acc ls)[i]? = acc[i]?
  | [], acc, i, _ => rfl
  | l :: ls, acc, i, h => by
    rw [ancs, ancs_old ls _ i (by simp; omega), List.getElem?_append_left h]
theorem ancs_get : ∀ (ls acc : List (List Nat)) (j : Nat) (l : List Nat), ls[j]? = some l → (ancs acc ls).getD (acc.length + j) [] = l.flatMap fun e => e :: (ancs acc (ls.take j)).getD e []
  | [], acc, j, l, h => by simp at h
  | m :: ls, acc, 0, l, h => by
    simp at h; subst h
    have : (ancs acc (m :: ls))[acc.length]? = some (m.flatMap fun e => e :: acc.getD e []) := by
      rw [ancs, ancs_old ls _ _ (by simp)]
      simp
    show ((ancs acc (m :: ls))[acc.length + 0]?).getD [] = _
    rw [Nat.add_zero, this]
    rfl
  | m :: ls, acc, j + 1, l, h => by
    have := ancs_get ls (acc ++ [m.flatMap fun e => e :: acc.getD e []]) j l (by simpa using h)
    simp only [List.length_append, List.length_singleton] at this
    rw [show acc.length + (j + 1) = acc.length + 1 + j by omega, ancs, this]
    rfl
theorem ancs_take (ls : List (List Nat)) (j e : Nat) (he : e < j) (hj : j ≤ ls.length) : (ancs [] (ls.take j)).getD e [] = (ancs [] ls).getD e [] := by
  have key : ∀ (ms ns acc : List (List Nat)), ancs acc (ms ++ ns) = ancs (ancs acc ms) ns := by
    intro ms
    induction ms with
    | nil => intro ns acc; rfl
    | cons m ms ih => intro ns acc; simp only [List.cons_append, ancs, ih]
  have h1 : (ancs [] (ls.take j)).length = j := by rw [ancs_len]; simp; omega
  have := key (ls.take j) (ls.drop j) []
  rw [List.take_append_drop] at this
  have h2 : (ancs [] ls)[e]? = (ancs [] (ls.take j))[e]? := by rw [this, ancs_old _ _ e (by omega)]
  simp only [List.getD, h2]
theorem closed_anc {after : List (List Nat)} (hlow : lowB after = true) {S : Nat → Prop} (hS : ∀ i l, after[i]? = some l → S i → ∀ e ∈ l, S e) : ∀ (n i j : Nat), i ≤ n → S i → (((ancs [] after).getD i []).contains j) = true → i < after.length → S j := by
  intro n
  induction n with
  | zero =>
    intro i j hi hs hc hlt
    have hi0 : i = 0 := by omega
    subst hi0
    have hl := List.getElem?_eq_getElem hlt
    have := ancs_get after [] 0 _ hl
    simp only [List.length_nil, Nat.zero_add] at this
    rw [this] at hc
    simp only [List.contains_iff_mem, List.mem_flatMap] at hc
    obtain ⟨e, he, _⟩ := hc
    simp only [lowB, List.all_eq_true, List.mem_range, decide_eq_true_eq] at hlow
    have := hlow 0 hlt e (by simpa [List.getD, hl] using he)
    omega
  | succ n ih =>
    intro i j hi hs hc hlt
    have hl := List.getElem?_eq_getElem hlt
    have hg := ancs_get after [] i _ hl
    simp only [List.length_nil, Nat.zero_add] at hg
    rw [hg] at hc
    simp only [List.contains_iff_mem, List.mem_flatMap] at hc
    obtain ⟨e, he, hj⟩ := hc
    have hse := hS i _ hl hs e he
    simp only [lowB, List.all_eq_true, List.mem_range, decide_eq_true_eq] at hlow
    have hei := hlow i hlt e (by simpa [List.getD, hl] using he)
    simp only [List.mem_cons] at hj
    rcases hj with rfl | hj
    · exact hse
    · rw [ancs_take after i e hei (by omega)] at hj
      exact ih e j (by omega) hse (by simpa using hj) (by omega)
theorem getD_listed {n : Nat} {listed : Array Bool} (hn : listed.size = n) {i j : Nat} (hi : i < n) : (listed.setIfInBounds i true).getD j false = (if j = i then true else listed.getD j false) := by
  by_cases h : j = i
  · subst h; simp [hn, hi]
  · simp [h, Array.getElem?_setIfInBounds_ne (Ne.symm h)]
theorem conflict {x y : SOper} {t : Nat} (h : apartB x y = true) : (x.dst = some t → t ∉ y.rd ∧ y.dst ≠ some t) ∧ (y.dst = some t → t ∉ x.rd) := by
  unfold apartB at h
  rw [Bool.and_eq_true] at h
  obtain ⟨h1, h2⟩ := h
  refine ⟨fun hx => ?_, fun hy => ?_⟩
  · rw [hx] at h1
    simpa using h1
  · rw [hy] at h2
    simpa using h2
theorem draw_sound {id n k ml : Nat} {ops : Array Oper} {ss : List SOper} {after : List (List Nat)} (hm : P.follows .mixedOrders = true) (hn : c.n = n) (hmm : c.th.length ≤ ml) (hc : compOps P n ops ops.toList ss) (haf : after = afterOf ops) (hlow : lowB after = true) (hok : drawOk ss (ancs [] after) k = true) (hkl : k ≤ ss.length)
    {st : St} {K KP : St → Prop} {Q : Exit → Act → World → Prop} (h : sdraw P ml k ss st K KP) (hr : Rel c st a w) (hQ : ∀ a w, (∃ st', K st' ∧ Rel c st' a w) → Q .normal a w) (hP : ∀ ch a w, (Raised ch ∧ ∃ st', KP st' ∧ Rel c st' a w) → Q (.panic ch) a w) : (Code.region id ops true).wp P Q a w := by
  obtain ⟨hlen, hget⟩ := compOps_get hc
  have hsz : ops.size = ss.length := by simpa using hlen
  obtain ⟨X, hX, hrest⟩ := sdraw_get k ss st K KP h hkl
  generalize hd : (fun j : Nat => (ss[j]?).bind (fun s : SOper => s.dst)) = d at hX hrest
  have hdj : ∀ (j : Nat) (s : SOper), ss[j]? = some s → d j = s.dst := fun j s hs => by rw [← hd]; simp [hs]
  have hal : after.length = ss.length := by rw [haf]; simp [afterOf, hsz]
  have hafo : ∀ (i : Nat) (o : Oper), ops[i]? = some o → after[i]? = some ((o.after.toList.filter (Region.binds .any)).map (·.on)) := fun i o ho => by
    rw [haf]; simp [afterOf, ho]
  have ready_iff : ∀ (listed : Array Bool) (i : Nat), listed.size = ss.length → (i ∈ Region.ready .any ops listed ↔ i < ss.length ∧ listed.getD i true = false ∧ ∀ l : List Nat, after[i]? = some l → ∀ e ∈ l, listed.getD e false = true) := by
    intro listed i hls
    unfold Region.ready
    simp only [List.mem_filter, List.mem_range, Bool.and_eq_true, Bool.not_eq_true', hsz]
    constructor
    · rintro ⟨h1, h2, h3⟩
      refine ⟨h1, h2, fun l hl e he => ?_⟩
      have ho : ops[i]? = some ops[i] := Array.getElem?_eq_getElem (by omega)
      rw [hafo i _ ho] at hl
      cases hl
      rw [ho] at h3
      simp only [Option.map_some, Option.getD_some, Array.all_eq_true'] at h3
      simp only [List.mem_map, List.mem_filter] at he
      obtain ⟨ed, ⟨h4, h5⟩, rfl⟩ := he
      have := h3 ed (by simpa using h4)
      simpa [h5] using this
    · rintro ⟨h1, h2, h3⟩
      refine ⟨h1, h2, ?_⟩
      have ho : ops[i]? = some ops[i] := Array.getElem?_eq_getElem (by omega)
      rw [ho]
      simp only [Option.map_some, Option.getD_some, Array.all_eq_true']
      intro ed hed
      by_cases hb : Region.binds .any ed = true
      · have := h3 _ (hafo i _ ho) ed.on (List.mem_map.2 ⟨ed, List.mem_filter.2 ⟨by simpa using hed, hb⟩, rfl⟩)
        simp only [hb, Bool.not_true, Bool.false_or]
        exact this
      · simp [hb]
  have okij : ∀ i j, i < j → j < ss.length → ((ancs [] after).getD j []).contains i = true ∨ (j < k ∧ ∃ x y, ss[i]? = some x ∧ ss[j]? = some y ∧ apartB x y = true) := by
    intro i j hij hj
    simp only [drawOk, List.all_eq_true, List.mem_range, Bool.or_eq_true, Bool.and_eq_true, decide_eq_true_eq] at hok
    rcases hok j hj i hij with h1 | ⟨h1, h2⟩
    · exact .inl h1
    · refine .inr ⟨h1, ss[i], ss[j], List.getElem?_eq_getElem (by omega), List.getElem?_eq_getElem hj, ?_⟩
      simpa [List.getElem?_eq_getElem (show i < ss.length by omega), List.getElem?_eq_getElem hj] using h2
  have phase2 : ∀ (m j : Nat) (listed : Array Bool) (st' : St) (a : Act) (w : World), j ≤ ss.length → ss.length ≤ j + m → k ≤ j → listed.size = ss.length → (∀ i, i < ss.length → listed.getD i false = decide (i < j)) → sops P ml (ss.drop j) st' K KP → Rel c st' a w →
      wpAny P .any ops Q m listed a w := by
    have fin : ∀ (listed : Array Bool) (st' : St) (a : Act) (w : World), listed.size = ss.length → (∀ i, i < ss.length → listed.getD i false = decide (i < ss.length)) → sops P ml (ss.drop ss.length) st' K KP → Rel c st' a w → Region.ready .any ops listed = [] ∧ Q .normal a w := by
      intro listed st' a w hls hli hs hr
      rw [List.drop_length] at hs
      simp only [sops] at hs
      obtain ⟨st1, hw1, hs⟩ := hs
      refine ⟨?_, hQ a w ⟨st1, hs, hw1 _ _ _ hmm hr⟩⟩
      apply List.eq_nil_iff_forall_not_mem.2
      intro i hi
      obtain ⟨h1, h2, _⟩ := (ready_iff listed i hls).1 hi
      have h3 := hli i h1
      have h4 : i < listed.size := by omega
      simp [h4, h1] at h2 h3
      rw [h3] at h2; cases h2
    intro m
    induction m with
    | zero =>
      intro j listed st' a w hj hm _ hls hli hs hr
      have hj' : j = ss.length := by omega
      subst hj'
      exact fin listed st' a w hls hli hs hr
    | succ m ih =>
      intro j listed st' a w hj hm hkj hls hli hs hr
      rcases Nat.lt_or_ge j ss.length with hjl | hjl
      case inr =>
        have hj' : j = ss.length := by omega
        subst hj'
        obtain ⟨f1, f2⟩ := fin listed st' a w hls hli hs hr
        exact ⟨fun _ => f2, fun i hi => by rw [f1] at hi; cases hi⟩
      have hgd : ∀ i, i < ss.length → listed.getD i true = decide (i < j) := fun i hi => by
        have h4 : i < listed.size := by omega
        have := hli i hi
        simp [h4] at this ⊢
        exact this
      have hrd : ∀ i, i ∈ Region.ready .any ops listed ↔ i = j := by
        intro i
        rw [ready_iff listed i hls]
        constructor
        · rintro ⟨h1, h2, h3⟩
          rw [hgd i h1] at h2
          simp only [decide_eq_false_iff_not, Nat.not_lt] at h2
          rcases Nat.lt_or_ge j i with h4 | h4
          · rcases okij j i h4 h1 with h5 | ⟨h5, _⟩
            · have hcl := closed_anc hlow (S := fun x => x < j ∨ x = i) (fun x l hl hx e he => by
                have hlow' := hlow
                simp only [lowB, List.all_eq_true, List.mem_range, decide_eq_true_eq] at hlow'
                have hxl := (List.getElem?_eq_some_iff.1 hl).1
                have hex := hlow' x hxl e (by simpa [List.getD, hl] using he)
                rcases hx with hx | rfl
                · exact .inl (by omega)
                · have := h3 l hl e he
                  rw [hli e (by omega)] at this
                  exact .inl (by simpa using this)) i i j (Nat.le_refl _) (.inr rfl) h5 (by omega)
              omega
            · omega
          · omega
        · rintro rfl
          refine ⟨hjl, by rw [hgd _ hjl]; simp, fun l hl e he => ?_⟩
          have hlow' := hlow
          simp only [lowB, List.all_eq_true, List.mem_range, decide_eq_true_eq] at hlow'
          have hxl := (List.getElem?_eq_some_iff.1 hl).1
          have hex := hlow' i hxl e (by simpa [List.getD, hl] using he)
          rw [hli e (by omega)]
          simpa using hex
      refine ⟨fun h0 => ?_, fun i hi => ?_⟩
      · have := (hrd j).2 rfl
        rw [h0] at this; cases this
      · have := (hrd i).1 hi
        subst this
        have ho : ops[i]? = some ops[i] := Array.getElem?_eq_getElem (by omega)
        have hsi := List.getElem?_eq_getElem hjl
        have hco := hget i _ _ (by rw [Array.getElem?_toList]; exact ho) hsi
        rw [List.drop_eq_getElem_cons hjl] at hs
        simp only [sops] at hs
        obtain ⟨st1, hw1, hs⟩ := hs
        obtain ⟨θ, D, hI⟩ := hw1 _ _ _ hmm hr
        have := step_sound hI hn hco hs (fun a' w' => wpAny P .any ops Q m (listed.setIfInBounds i true) a' w') Q (fun a' w' ⟨st'', h1, h2⟩ =>
          ih (i + 1) _ st'' a' w' (by omega) (by omega) (by omega) (by simpa using hls) (fun x hx => by
            rw [getD_listed hls (by omega), hli x hx]
            by_cases hxi : x = i
            · subst hxi; simp
            · rw [if_neg hxi]; apply decide_eq_decide.2; omega) h1 h2) (fun ch w' hp => hP ch a w' hp)
        unfold wpOp
        rw [ho]
        simp only
        split
        · rename_i hw
          rw [if_pos hw] at this
          exact .inl this
        · rename_i hw
          rw [if_neg hw] at this
          exact this
  have phase1 : ∀ (m : Nat) (listed : Array Bool) (a : Act) (w : World), listed.size = ss.length → (∀ i, i < ss.length → listed.getD i false = true → i < k) → (∀ (i : Nat) (l : List Nat), after[i]? = some l → listed.getD i false = true → ∀ e ∈ l, listed.getD e false = true) →
      ((List.range ss.length).filter fun i => !listed.getD i false).length ≤ m → Rel c (stP d X st (fun j => listed.getD j false) k) a w → wpAny P .any ops Q m listed a w := by
    have full : ∀ (m : Nat) (listed : Array Bool) (a : Act) (w : World), listed.size = ss.length → (∀ i, i < ss.length → listed.getD i false = true → i < k) → (∀ i, i < k → listed.getD i false = true) → ss.length ≤ k + m → Rel c (stP d X st (fun j => listed.getD j false) k) a w → wpAny P .any ops Q m listed a w := by
      intro m listed a w hls hlk hall hm hr
      refine phase2 m k listed (stP d X st (fun _ => true) k) a w hkl hm (Nat.le_refl _) hls (fun i hi => ?_) hrest (Rel.congr ?_ (fun t => ?_) hr)
      · rcases Nat.lt_or_ge i k with h1 | h1
        · rw [hall i h1]; simp [h1]
        · cases hb : listed.getD i false with
          | true => have := hlk i hi hb; omega
          | false => simp; omega
      · rw [stP_hp, stP_hp]
      · rw [look_stP, look_stP, lastBelow_congr (p := fun j => (fun _ => true) j && d j == some t) (q := fun j => listed.getD j false && d j == some t) (k := k) fun j hj => by simp only [hall j hj]]
    have cntk : ∀ (listed : Array Bool), (∀ i, i < ss.length → listed.getD i false = true → i < k) → ss.length ≤ k + ((List.range ss.length).filter fun i => !listed.getD i false).length := by
      intro listed hlk
      have : ∀ n, n ≤ ss.length → n ≤ k + ((List.range n).filter fun i => !listed.getD i false).length := by
        intro n
        induction n with
        | zero => intro _; omega
        | succ n ih =>
          intro hn
          have := ih (by omega)
          rw [List.range_succ, List.filter_append, List.length_append]
          cases hb : listed.getD n false with
          | true => have := hlk n (by omega) hb; omega
          | false =>
            simp only [List.filter_cons, hb, Bool.not_false, if_true, List.filter_nil, List.length_singleton]
            omega
      exact this _ (Nat.le_refl _)
    intro m
    induction m with
    | zero =>
      intro listed a w hls hlk hcl hcnt hr
      refine full 0 listed a w hls hlk (fun i hi => ?_) (by have := cntk listed hlk; omega) hr
      have h0 := List.eq_nil_of_length_eq_zero (Nat.le_zero.1 hcnt)
      have := List.filter_eq_nil_iff.1 h0 i (by simp; omega)
      simpa using this
    | succ m ih =>
      intro listed a w hls hlk hcl hcnt hr
      by_cases hall : ∀ i, i < k → listed.getD i false = true
      · exact full (m + 1) listed a w hls hlk hall (by have := cntk listed hlk; omega) hr
      · obtain ⟨i0, hi0, hu0, hmin⟩ : ∃ i0, i0 < k ∧ listed.getD i0 false = false ∧ ∀ j, j < i0 → listed.getD j false = true := by
          have : ∀ n, (∃ i, i < n ∧ listed.getD i false = false) → ∃ i0, i0 < n ∧ listed.getD i0 false = false ∧ ∀ j, j < i0 → listed.getD j false = true := by
            intro n
            induction n with
            | zero => rintro ⟨i, hi, _⟩; omega
            | succ n ihn =>
              rintro ⟨i, hi, hu⟩
              by_cases h1 : ∃ i, i < n ∧ listed.getD i false = false
              · obtain ⟨i0, h2, h3⟩ := ihn h1
                exact ⟨i0, by omega, h3⟩
              · refine ⟨n, by omega, ?_, fun j hj => ?_⟩
                · have : i = n := by
                    rcases Nat.lt_or_ge i n with h2 | h2
                    · exact absurd ⟨i, h2, hu⟩ h1
                    · omega
                  subst this; exact hu
                · cases hb : listed.getD j false with
                  | true => rfl
                  | false => exact absurd ⟨j, hj, hb⟩ h1
          refine this k ?_
          apply Classical.byContradiction
          intro hne
          refine hall fun i hi => ?_
          cases hb : listed.getD i false with
          | true => rfl
          | false => exact absurd ⟨i, hi, hb⟩ hne
        have hlow' := hlow
        simp only [lowB, List.all_eq_true, List.mem_range, decide_eq_true_eq] at hlow'
        have htf : ∀ i, i < ss.length → listed.getD i true = listed.getD i false := fun i hi => by
          have h4 : i < listed.size := by omega
          simp [h4]
        refine ⟨fun h0 => ?_, fun i hi => ?_⟩
        · have : i0 ∈ Region.ready .any ops listed := (ready_iff listed i0 hls).2 ⟨by omega, by rw [htf i0 (by omega)]; exact hu0, fun l hl e he => hmin e (hlow' i0 (by omega) e (by simpa [List.getD, hl] using he))⟩
          rw [h0] at this; cases this
        · obtain ⟨r1, r2, r3⟩ := (ready_iff listed i hls).1 hi
          rw [htf i r1] at r2
          have hanc : ∀ j, ((ancs [] after).getD i []).contains j = true → j = i ∨ listed.getD j false = true := fun j hj => by
            have := closed_anc hlow (S := fun x => x = i ∨ listed.getD x false = true) (fun x l hl hx e he => by
              rcases hx with rfl | hx
              · exact .inr (r3 l hl e he)
              · exact .inr (hcl x l hl hx e he)) i i j (Nat.le_refl _) (.inl rfl) hj (by omega)
            exact this
          have hik : i < k := by
            apply Classical.byContradiction
            intro hnk
            rcases okij i0 i (by omega) r1 with h1 | ⟨h1, _⟩
            · rcases hanc i0 h1 with h2 | h2
              · omega
              · rw [hu0] at h2; cases h2
            · omega
          have ho : ops[i]? = some ops[i] := Array.getElem?_eq_getElem (by omega)
          have hsi : ss[i]? = some ss[i] := List.getElem?_eq_getElem r1
          have hco := hget i _ _ (by rw [Array.getElem?_toList]; exact ho) hsi
          have later : ∀ j, i < j → j < k → listed.getD j false = true → ∃ y, ss[j]? = some y ∧ apartB ss[i] y = true := fun j hij hjk hl => by
            rcases okij i j hij (by omega) with h1 | ⟨_, x, y, hx, hy, h2⟩
            · have := closed_anc hlow (S := fun x => listed.getD x false = true) (fun x l hl hx e he => hcl x l hl hx e he) j j i (Nat.le_refl _) hl h1 (by omega)
              rw [r2] at this; cases this
            · rw [hsi] at hx; cases hx
              exact ⟨y, hy, h2⟩
          have earlier : ∀ j, j < i → listed.getD j false = false → ∃ y, ss[j]? = some y ∧ apartB y ss[i] = true := fun j hji hl => by
            rcases okij j i hji r1 with h1 | ⟨_, x, y, hx, hy, h2⟩
            · rcases hanc j h1 with h3 | h3
              · omega
              · rw [hl] at h3; cases h3
            · rw [hsi] at hy; cases hy
              exact ⟨x, hx, h2⟩
          have hreads : ∀ t ∈ ss[i].rd, look (stP d X st (fun j => listed.getD j false) k).fr t = look (stP d X st (fun _ => true) i).fr t := by
            intro t ht
            rw [look_stP, look_stP]
            have e1 : lastBelow (fun j => listed.getD j false && d j == some t) k = lastBelow (fun j => listed.getD j false && d j == some t) i := lastBelow_ge (by omega) fun j hj hjk => by
              rcases Nat.eq_or_lt_of_le hj with rfl | hj
              · rw [r2]; rfl
              · cases hb : listed.getD j false with
                | false => rfl
                | true =>
                  obtain ⟨y, hy, hap⟩ := later j hj hjk hb
                  rw [hdj j y hy]
                  cases hdt : (y.dst == some t) with
                  | false => rfl
                  | true => exact absurd ht ((conflict hap).2 (by simpa using hdt))
            have e2 : lastBelow (fun j => listed.getD j false && d j == some t) i = lastBelow (fun j => (fun _ => true) j && d j == some t) i := lastBelow_congr fun j hj => by
              cases hb : listed.getD j false with
              | true => rfl
              | false =>
                obtain ⟨y, hy, hap⟩ := earlier j hj hb
                rw [hdj j y hy]
                cases hdt : (y.dst == some t) with
                | false => rfl
                | true => exact absurd ht ((conflict hap).1 (by simpa using hdt)).1
            rw [e1, e2]
          have hy : syield P ss[i] (stP d X st (fun j => listed.getD j false) k) (X i) := syield_congr (by rw [stP_hp, stP_hp]) hreads (hX i _ hik hsi)
          obtain ⟨θ, D, hI⟩ := hr
          have := step_sound (hp := fun _ _ h => h.2.elim fun _ h => h.1.elim) hI hn hco (sstep_of_syield (KP := fun _ => False) (K := fun st' => st' = (stP d X st (fun j => listed.getD j false) k).putO ss[i].dst (X i)) hy rfl) (fun a' w' => wpAny P .any ops Q m (listed.setIfInBounds i true) a' w') Q (fun a' w' ⟨st'', h1, h2⟩ => by
            subst h1
            refine ih _ a' w' (by simpa using hls) (fun j hj hl => ?_) (fun j l hl hjl e he => ?_) ?_ (Rel.congr ?_ (fun t => ?_) h2)
            · rw [getD_listed hls r1] at hl
              split at hl
              · omega
              · exact hlk j hj hl
            · rw [getD_listed hls r1] at hjl ⊢
              split at hjl
              · rename_i hji
                subst hji
                split
                · rfl
                · exact r3 l hl e he
              · split
                · rfl
                · exact hcl j l hl hjl e he
            · have hlt : ∀ (l : List Nat), i ∈ l → (l.filter fun j => !(listed.setIfInBounds i true).getD j false).length < (l.filter fun j => !listed.getD j false).length := by
                intro l
                have hle : ∀ (l : List Nat), (l.filter fun j => !(listed.setIfInBounds i true).getD j false).length ≤ (l.filter fun j => !listed.getD j false).length := by
                  intro l
                  induction l with
                  | nil => exact Nat.le_refl _
                  | cons x l ihl =>
                    simp only [List.filter_cons, getD_listed hls r1] at ihl ⊢
                    by_cases hxi : x = i
                    · subst hxi; simp only [if_true, Bool.not_true, Bool.false_eq_true, if_false, r2, Bool.not_false, List.length_cons]; omega
                    · simp only [hxi, if_false]
                      split <;> (try simp only [List.length_cons]) <;> omega
                induction l with
                | nil => intro h; cases h
                | cons x l ihl =>
                  intro hmem
                  have hlel := hle l
                  simp only [List.filter_cons, getD_listed hls r1] at ihl hlel ⊢
                  by_cases hxi : x = i
                  · subst hxi; simp only [if_true, Bool.not_true, Bool.false_eq_true, if_false, r2, Bool.not_false, List.length_cons]; omega
                  · have hm' : i ∈ l := by
                      rcases List.mem_cons.1 hmem with h | h
                      · exact absurd h.symm hxi
                      · exact h
                    have := ihl hm'
                    simp only [hxi, if_false]
                    split <;> (try simp only [List.length_cons]) <;> omega
              have := hlt (List.range ss.length) (by simpa using r1)
              omega
            · cases hdi : ss[i].dst <;> simp [St.putO, St.put, stP_hp]
            · rw [look_putO, look_stP, look_stP]
              by_cases hdt : ss[i].dst = some t
              · rw [if_pos hdt]
                have e1 : lastBelow (fun j => (listed.setIfInBounds i true).getD j false && d j == some t) k = lastBelow (fun j => (listed.setIfInBounds i true).getD j false && d j == some t) (i + 1) := lastBelow_ge (by omega) fun j hj hjk => by
                  rw [getD_listed hls r1, if_neg (by omega)]
                  cases hb : listed.getD j false with
                  | false => rfl
                  | true =>
                    obtain ⟨y, hy', hap⟩ := later j (by omega) hjk hb
                    rw [hdj j y hy']
                    have := ((conflict hap).1 hdt).2
                    simpa using this
                rw [e1, lastBelow, getD_listed hls r1, if_pos rfl, hdj i _ hsi, hdt]
                simp
              · rw [if_neg hdt]
                rw [lastBelow_congr (p := fun j => (listed.setIfInBounds i true).getD j false && d j == some t) (q := fun j => listed.getD j false && d j == some t) fun j hj => by
                  rw [getD_listed hls r1]
                  split
                  · rename_i hji
                    subst hji
                    rw [hdj j _ hsi, r2]
                    simpa using hdt
                  · rfl])
          unfold wpOp
          rw [ho]
          simp only
          split
          · rename_i hw
            rw [if_pos hw] at this
            exact .inl this
          · rename_i hw
            rw [if_neg hw] at this
            exact this
  refine wp_region_any hm ?_
  have h0 := phase1 ops.size (Array.replicate ops.size false) a { w with drawn := w.drawn + 1 } (by simp [hsz]) (fun i hi hl => by simp [hsz, hi] at hl) (fun i l hl h2 => by
    have hi : i < ops.size := by have := (List.getElem?_eq_some_iff.1 hl).1; omega
    simp [hi] at h2) (by
      have := List.length_filter_le (fun i => !(Array.replicate ops.size false).getD i false) (List.range ss.length)
      simpa [hsz] using this) ?_
  · exact h0
  · have : ∀ j, stP d X st (fun j => (Array.replicate ops.size false).getD j false) j = st := by
      intro j
      induction j with
      | zero => rfl
      | succ j ih =>
        rw [stP, ih]
        have : (Array.replicate ops.size false).getD j false = false := by
          by_cases hj : j < ops.size <;> simp [hj]
        rw [this]; rfl
    rw [this]
    obtain ⟨θ, D, hI⟩ := hr
    exact ⟨θ, D, hI.drew⟩
end
end Go.Av
namespace Go.Av
open Go Go.RowKit
theorem ids_constB (v : Value) : (constB v).ids = [] := by
  unfold constB; split <;> rfl
theorem ids_const (v : Value) : (constA v).ids = [] := by
  unfold constA
  split
  · simp only [AV.ids, List.flatMap_map, List.flatMap_eq_nil_iff]
    intro x _; exact ids_constB x
  · exact ids_constB _
structure Foot (rd : List Nat) (a b : St) : Prop where
  fr : ∀ k ∈ rd, ∀ y, look b.fr k = some y → look a.fr k = some y
  hp : ∀ k ∈ rd, ∀ y, look b.fr k = some y → ∀ i ∈ y.ids, ∀ ob, b.hp[i]? = some ob → a.hp[i]? = some ob
def HpOn (y : AV) (h h' : List AObj) : Prop := ∀ i ∈ y.ids, ∀ ob, h[i]? = some ob → h'[i]? = some ob
section
variable {P : Program} {rd : List Nat} {a b : St}
theorem Foot.get (h : Foot rd a b) {x : SX} (hx : ∀ t ∈ x.rd, t ∈ rd) {y : AV} (hy : b.get x = some y) : a.get x = some y ∧ HpOn y b.hp a.hp := by
  cases x with
  | tm k => exact ⟨h.fr k (hx k (by simp [SX.rd])) y hy, h.hp k (hx k (by simp [SX.rd])) y hy⟩
  | c v =>
    simp only [St.get, Option.some.injEq] at hy ⊢
    subst hy
    exact ⟨rfl, fun i hi => by rw [ids_const] at hi; cases hi⟩
  | g n =>
    simp only [St.get, Option.some.injEq] at hy ⊢
    subst hy
    exact ⟨rfl, fun i hi => by cases hi⟩
  | f n =>
    simp only [St.get, Option.some.injEq] at hy ⊢
    subst hy
    exact ⟨rfl, fun i hi => by cases hi⟩
theorem Foot.bind (h : Foot rd a b) {x : SX} (hx : ∀ t ∈ x.rd, t ∈ rd) {K K' : AV → Prop} (hs : bindA (b.get x) K) (hk : ∀ y, HpOn y b.hp a.hp → K y → K' y) : bindA (a.get x) K' := by
  obtain ⟨y, h1, h2⟩ := hs
  obtain ⟨h3, h4⟩ := h.get hx h1
  exact ⟨y, h3, hk y h4 h2⟩
theorem Foot.bnd (h : Foot rd a b) {x : Option SX} (hx : ∀ t ∈ (x.map SX.rd).getD [], t ∈ rd) {d : Nat} {K K' : Nat → Prop} (hs : bnd b x d K) (hk : ∀ n, K n → K' n) : bnd a x d K' := by
  cases x with
  | none => exact hk _ hs
  | some x => exact h.bind (by simpa using hx) hs fun y _ hy => isV_mono hy fun v hv => isInt_mono hv fun _ n hn => ⟨hn.1, hk _ hn.2⟩
theorem mapM_imp {α β : Type} {f g : α → Option β} : ∀ {l : List α} {m : List β}, (∀ x ∈ l, ∀ y, f x = some y → g x = some y) → l.mapM f = some m → l.mapM g = some m
  | [], m, _, hm => hm
  | x :: l, m, h, hm => by
    simp only [List.mapM_cons, Option.bind_eq_bind, Option.pure_def, Option.bind_eq_some_iff, Option.some.injEq] at hm ⊢
    obtain ⟨z, h1, m', h2, rfl⟩ := hm
    exact ⟨z, h x (by simp) _ h1, m', mapM_imp (fun y hy => h y (by simp [hy])) h2, rfl⟩
theorem Foot.bindM (h : Foot rd a b) {β : Type} {l : List SX} (hl : ∀ x ∈ l, ∀ t ∈ x.rd, t ∈ rd) {g g' : AV → Option β} (hg : ∀ y z, HpOn y b.hp a.hp → g y = some z → g' y = some z) {K : List β → Prop} (hs : bindA (l.mapM fun x => (b.get x).bind g) K) : bindA (l.mapM fun x => (a.get x).bind g') K := by
  obtain ⟨ys, h1, h2⟩ := hs
  refine ⟨ys, mapM_imp (fun x hx y hy => ?_) h1, h2⟩
  obtain ⟨u, e1, e2⟩ := Option.bind_eq_some_iff.1 hy
  obtain ⟨e3, e4⟩ := h.get (hl x hx) e1
  rw [e3]
  exact hg u y e4 e2
theorem isList_on {h h' : List AObj} {sz : Nat} {y : AV} {K K' : List PV → Prop} (hh : HpOn y h h') (hs : isList h sz y K) (hk : ∀ L, K L → K' L) : isList h' sz y K' := by
  rcases hs with ⟨rfl, hs⟩ | ⟨L, rfl, hs⟩ | ⟨id, e, L, rfl, ho, hs⟩ | ⟨L, rfl, hs⟩
  · exact .inl ⟨rfl, hk _ hs⟩
  · exact .inr (.inl ⟨L, rfl, hk _ hs⟩)
  · exact .inr (.inr (.inl ⟨id, e, L, rfl, hh id (by simp [AV.ids, BV.ids]) _ ho, hk _ hs⟩))
  · exact .inr (.inr (.inr ⟨L, rfl, hk _ hs⟩))
theorem isLen_on {h h' : List AObj} {y : AV} {K K' : Nat → Prop} (hh : HpOn y h h') (hs : isLen h y K) (hk : ∀ L, K L → K' L) : isLen h' y K' := by
  rcases hs with ⟨rfl, hs⟩ | ⟨sz, L, rfl, hs⟩ | ⟨id, e, sz, L, rfl, ho, hs⟩ | ⟨sz, L, rfl, hs⟩ | ⟨id, e, sz, k, L, hole, rfl, ho, hs⟩
  · exact .inl ⟨rfl, hk _ hs⟩
  · exact .inr (.inl ⟨sz, L, rfl, hk _ hs⟩)
  · exact .inr (.inr (.inl ⟨id, e, sz, L, rfl, hh id (by simp [AV.ids, BV.ids]) _ ho, hk _ hs⟩))
  · exact .inr (.inr (.inr (.inl ⟨sz, L, rfl, hk _ hs⟩)))
  · exact .inr (.inr (.inr (.inr ⟨id, e, sz, k, L, hole, rfl, hh id (by simp [AV.ids, BV.ids]) _ ho, hk _ hs⟩)))
theorem isMap_on {h h' : List AObj} {k e : TypeId} {y : AV} {K K' : Nat → List (PV × PV) → Prop} (hh : HpOn y h h') (hs : isMap h k e y K) (hk : ∀ i L, K i L → K' i L) : isMap h' k e y K' := by
  obtain ⟨id, kvs, rfl, ho, hs⟩ := hs
  exact ⟨id, kvs, rfl, hh id (by simp [AV.ids, BV.ids]) _ ho, hk _ _ hs⟩
theorem loadA_on {h h' : List AObj} {sz : Nat} {ag : Bool} {y : AV} {K K' : AV → Prop} (hh : HpOn y h h') (hs : loadA h sz ag y K) (hk : ∀ L, K L → K' L) : loadA h' sz ag y K' := by
  have h2 := loadA_mono hs hk
  revert h2
  unfold loadA
  split
  · exact fun h => h
  · rename_i id off
    rintro ⟨o, h1, h2⟩
    exact ⟨o, hh id (by simp [AV.ids, BV.ids]) _ h1, h2⟩
  · rename_i id i off
    rintro ⟨o, h1, h2⟩
    exact ⟨o, hh id (by simp [AV.ids, BV.ids]) _ h1, h2⟩
  · exact fun h => h
theorem argB_on {h h' : List AObj} {bor : Bool} {y : BV} {p : PV} (hh : ∀ i ∈ y.ids, ∀ ob, h[i]? = some ob → h'[i]? = some ob) (hs : argB h bor y = some p) : argB h' bor y = some p := by
  cases y with
  | sl id =>
    simp only [argB] at hs ⊢
    cases bor
    · exact hs
    · simp only [if_true, slP] at hs ⊢
      cases ho : h[id]? with
      | none => rw [ho] at hs; cases hs
      | some ob => rw [ho] at hs; rw [hh id (by simp [BV.ids]) _ ho]; exact hs
  | _ => exact hs
theorem argPV_on {h h' : List AObj} {bor : Bool} {y : AV} {p : PV} (hh : HpOn y h h') (hs : argPV h bor y = some p) : argPV h' bor y = some p := by
  cases y with
  | b x => exact argB_on (fun i hi ob ho => hh i hi ob ho) hs
  | agg xs =>
    simp only [argPV, Option.map_eq_some_iff] at hs ⊢
    obtain ⟨ps, h1, rfl⟩ := hs
    refine ⟨ps, mapM_imp (fun x hx y hy => argB_on (fun i hi ob ho => hh i (List.mem_flatMap.2 ⟨x, hx, hi⟩) ob ho) hy) h1, rfl⟩
  | tup xs => exact hs
theorem sev_foot {s : SOp} {K : AV → Prop} (h : Foot s.rd a b) (hs : sev P b s K) : sev P a s K := by
  cases s <;> simp only [SOp.rd] at h <;> simp only [sev] at hs ⊢
  case mv => exact h.bind (fun _ h => h) hs fun _ _ h => h
  case pick x y z => exact h.bind (fun t ht => by simp [ht]) hs fun _ _ hs => isV_mono hs fun _ hs => isBool_mono hs fun _ hs => ⟨fun e => h.bind (fun t ht => by simp [ht]) (hs.1 e) fun _ _ h => h, fun e => h.bind (fun t ht => by simp [ht]) (hs.2 e) fun _ _ h => h⟩
  case bin => exact h.bind (fun t ht => by simp [ht]) hs fun _ _ hs => h.bind (fun t ht => by simp [ht]) hs fun _ _ h => h
  case eqB => exact h.bind (fun t ht => by simp [ht]) hs fun _ _ hs => h.bind (fun t ht => by simp [ht]) hs fun _ _ h => h
  case un => exact h.bind (fun _ h => h) hs fun _ _ h => h
  case len str x =>
    refine h.bind (fun _ h => h) hs fun _ hh hs => ?_
    cases str
    · exact isLen_on hh hs fun _ h => h
    · exact hs
  case lenM => exact h.bind (fun _ h => h) hs fun _ hh hs => isMap_on hh hs fun _ _ h => h
  case idxS => exact h.bind (fun t ht => by simp [ht]) hs fun _ _ hs => h.bind (fun t ht => by simp [ht]) hs fun _ _ h => h
  case idxV => exact h.bind (fun t ht => by simp [ht]) hs fun _ _ hs => h.bind (fun t ht => by simp [ht]) hs fun _ _ h => h
  case idxA => exact h.bind (fun t ht => by simp [ht]) hs fun x hh hs => h.bind (fun t ht => by simp [ht]) hs fun _ _ hs => isV_mono hs fun _ hs => isInt_mono hs fun _ _ hs => by
                rcases hs with hs | ⟨id, rfl, ob, ho, hs⟩
                · exact .inl hs
                · exact .inr ⟨id, rfl, ob, hh id (by simp [AV.ids, BV.ids]) _ ho, hs⟩
  case idxP => exact h.bind (fun t ht => by simp [ht]) hs fun _ _ hs => h.bind (fun t ht => by simp [ht]) hs fun _ _ h => h
  case fldA => exact h.bind (fun _ h => h) hs fun _ _ h => h
  case fld => exact h.bind (fun _ h => h) hs fun _ _ h => h
  case load => exact h.bind (fun _ h => h) hs fun _ hh hs => loadA_on hh hs fun _ h => h
  case cvtI => exact h.bind (fun _ h => h) hs fun _ _ h => h
  case slc sz x lo hi mx =>
    refine h.bind (fun t ht => by simp [ht]) hs fun _ _ hs => bindA_mono hs fun q ⟨L, h2, h3⟩ => ⟨L, h2, h.bnd (fun t ht => by simp [ht]) h3 fun _ h4 => h.bnd (fun t ht => by simp [ht]) h4 fun _ h5 => h.bnd (fun t ht => by simp [ht]) h5 fun _ h => h⟩
  case slcS x lo hi => exact h.bind (fun t ht => by simp [ht]) hs fun _ _ hs => isV_mono hs fun _ hs => isStr_mono hs fun _ hs => h.bnd (fun t ht => by simp [ht]) hs fun _ hs => h.bnd (fun t ht => by simp [ht]) hs fun _ h => h
  case ext => exact h.bind (fun _ h => h) hs fun _ _ h => h
  case nilc => exact h.bind (fun _ h => h) hs fun _ _ h => h
  case build z ps =>
    obtain ⟨ys, h1, h2⟩ := hs
    refine ⟨ys, mapM_imp (fun q hq y hy => ?_) h1, h2⟩
    obtain ⟨u, e1, e2⟩ := Option.map_eq_some_iff.1 hy
    rw [(h.get (fun t ht => List.mem_flatMap.2 ⟨q, hq, ht⟩) e1).1, ← e2]; rfl
  case call => exact h.bindM (fun q hq t ht => List.mem_flatMap.2 ⟨q, hq, ht⟩) (fun y z hh hz => argPV_on hh hz) hs
  case callp => exact h.bind (fun t ht => by simp [ht]) hs fun _ _ ⟨f, cs, h1, h2, hs⟩ => ⟨f, cs, h1, h2, h.bindM (fun q hq t ht => List.mem_append.2 (.inr (List.mem_flatMap.2 ⟨q, hq, ht⟩))) (fun y z hh hz => argPV_on hh hz) hs⟩
  case boxD => exact h.bind (fun _ h => h) hs fun _ _ h => h
  case b2s => exact h.bind (fun _ h => h) hs fun _ hh hs => isList_on hh hs fun _ h => h
  case bslice own e sz len ps =>
    cases own
    · exact h.bindM (fun q hq t ht => List.mem_flatMap.2 ⟨q, hq, ht⟩) (fun y z _ hz => hz) hs
    · exact hs
  case bsliceN e sz len ps => exact h.bindM (fun q hq t ht => List.mem_flatMap.2 ⟨q, hq, ht⟩) (fun y z _ hz => hz) hs
  case mkfn f ps =>
    obtain ⟨ys, h1, h2⟩ := hs
    exact ⟨ys, mapM_imp (fun q hq y hy => (h.get (fun t ht => List.mem_flatMap.2 ⟨q, hq, ht⟩) hy).1) h1, h2⟩
  case lookup => exact h.bind (fun t ht => by simp [ht]) hs fun _ hh hs => h.bind (fun t ht => by simp [ht]) hs fun _ _ hs => isMap_on hh hs fun _ _ h => h
  case eqT => exact h.bind (fun t ht => by simp [ht]) hs fun _ _ hs => h.bind (fun t ht => by simp [ht]) hs fun _ _ h => h
  case mnmx mx k x ps =>
    refine h.bind (fun t ht => by simp [ht]) hs fun _ _ hs => isV_mono hs fun _ hs => isInt_mono hs fun _ _ hs => ?_
    obtain ⟨ys, h1, h2⟩ := hs
    exact ⟨ys, mapM_imp (fun q hq y hy => (h.get (fun t ht => List.mem_append.2 (.inr (List.mem_flatMap.2 ⟨q, hq, ht⟩))) hy).1) h1, h2⟩
  case iface => exact h.bind (fun _ h => h) hs fun _ _ h => h
  case appD => exact h.bind (fun t ht => by simp [ht]) hs fun _ _ hs => h.bind (fun t ht => by simp [ht]) hs fun _ hh hs => isList_on hh hs fun _ h => h
theorem smk_mono {st : St} {s : SOp} {R R' : AObj → (Nat → BV) → Prop} (hs : smk st s R) (hk : ∀ o m, R o m → R' o m) : smk st s R' := by
  cases s <;> simp only [smk] at hs ⊢
  case alloc => exact hk _ _ hs
  case box => exact bindA_mono hs fun _ h => ⟨h.1, hk _ _ h.2⟩
  case bslice own e sz len ps =>
    cases own
    · exact hs
    · exact bindA_mono hs fun _ ⟨h1, h2, h3, h4, h5⟩ => ⟨h1, h2, h3, h4, hk _ _ h5⟩
  case mslice => exact bindA_mono hs fun _ hs => bindA_mono hs fun _ hs => isV_mono hs fun _ hs => isV_mono hs fun _ hs => isInt_mono hs fun _ _ hs => isInt_mono hs fun _ _ ⟨h1, h2, h3, h4, h5, h6, h7⟩ => ⟨h1, h2, h3, h4, h5, h6, bindA_mono h7 fun _ h => ⟨h.1, hk _ _ h.2⟩⟩
  case append => exact bindA_mono hs fun _ hs => bindA_mono hs fun _ hs => isList_mono hs fun _ ⟨h1, h2, h3, h4⟩ => ⟨h1, h2, h3, hk _ _ h4⟩
  case mkmap => exact hk _ _ hs
theorem smk_foot {s : SOp} {R : AObj → (Nat → BV) → Prop} (h : Foot s.rd a b) (hs : smk b s R) : smk a s R := by
  cases s <;> simp only [SOp.rd] at h <;> simp only [smk] at hs ⊢
  case alloc => exact hs
  case box => exact h.bind (fun _ h => h) hs fun _ _ h => h
  case bslice own e sz len ps =>
    cases own
    · exact hs
    · exact h.bindM (fun q hq t ht => List.mem_flatMap.2 ⟨q, hq, ht⟩) (fun y z _ hz => hz) hs
  case mslice => exact h.bind (fun t ht => by simp [ht]) hs fun _ _ hs => h.bind (fun t ht => by simp [ht]) hs fun _ _ h => h
  case append => exact h.bind (fun t ht => by simp [ht]) hs fun _ _ hs => h.bind (fun t ht => by simp [ht]) hs fun _ hh hs => isList_on hh hs fun _ h => h
  case mkmap => exact hs
theorem syield_foot {o : SOper} {x : AV} (h : Foot o.rd a b) (hs : syield P o b x) : syield P o a x := by
  have hr : Foot o.op.rd a b := ⟨fun k hk => h.fr k (by simp [SOper.rd, hk]), fun k hk => h.hp k (by simp [SOper.rd, hk])⟩
  unfold syield at hs ⊢
  split at hs
  · rename_i hg
    exact sev_foot hr hs
  · rename_i t want hg
    obtain ⟨g, h1, v, rfl, h2, h3⟩ := hs
    exact ⟨_, h.fr t (by simp [SOper.rd, hg]) _ h1, v, rfl, fun e => sev_foot hr (h2 e), h3⟩
theorem storeA_mono {hp : List AObj} {sz : Nat} {a v : AV} {K K' : List AObj → Prop} (h : storeA hp sz a v K) (hk : ∀ x, K x → K' x) : storeA hp sz a v K' := by
  unfold storeA at h ⊢
  split at h
  · exact bindA_mono h fun _ ⟨t, cs, h1, h2, h3, h4, h5⟩ => ⟨t, cs, h1, h2, h3, h4, hk _ h5⟩
  · refine bindA_mono h fun _ h => h.imp (fun ⟨e, s, xs, h1, h2, h3⟩ => ⟨e, s, xs, h1, h2, bindA_mono h3 fun _ ⟨h4, h5, h6⟩ => ⟨h4, h5, ?_⟩⟩) fun ⟨e, s, k, xs, ho, h1, h2, h3, h4⟩ => ⟨e, s, k, xs, ho, h1, h2, h3, h4.imp (fun ⟨h5, h6, h7⟩ => ⟨h5, h6, bindA_mono h7 fun _ ⟨h8, h9, h10⟩ => ⟨h8, h9, hk _ h10⟩⟩) fun ⟨b, b', h5, h6, h7, h8, h9⟩ => ⟨b, b', h5, h6, h7, h8, hk _ h9⟩⟩
    rcases h6 with ⟨h7, h8, h9⟩ | ⟨h7, h8, h9⟩
    · exact .inl ⟨h7, h8, hk _ h9⟩
    · exact .inr ⟨h7, h8, hk _ h9⟩
  · exact h
theorem callK_mono {st : St} {d : Option Nat} {bor : Bool} {B : List Nat} {f : FuncId} {ars : List AV} {os : List AObj} {K K' KP KP' : St → Prop} (h : sexec.callK P st d bor B f ars os K KP) (hk : ∀ x, K x → K' x) (hkp : ∀ x, KP x → KP' x) : sexec.callK P st d bor B f ars os K' KP' := by
  obtain ⟨h1, h2, h3, h4⟩ := h
  refine ⟨h1, h2, h3, h4.mono fun o ho => ?_⟩
  match o, ho with
  | some (_, _), ho => exact ⟨ho.1, hk _ ho.2⟩
  | none, ho => exact hkp _ ho
theorem sexec_mono {d : Option Nat} {op : SOp} {st : St} {K K' KP KP' : St → Prop} (h : sexec P d op st K KP) (hk : ∀ x, K x → K' x) (hkp : ∀ x, KP x → KP' x) : sexec P d op st K' KP' := by
  have dflt : (sev P st op fun a => K (st.putO d a)) → sev P st op fun a => K' (st.putO d a) := fun h => sev_mono h fun _ h => hk _ h
  cases op <;> simp only [sexec] at h ⊢ <;> try exact dflt h
  case store => exact bindA_mono h fun _ h => bindA_mono h fun _ h => ⟨h.1, storeA_mono h.2 fun _ h => hk _ h⟩
  case alloc => exact hk _ h
  case box => exact bindA_mono h fun _ h => ⟨h.1, hk _ h.2⟩
  case bslice own e sz len ps =>
    cases own
    · exact dflt h
    · exact bindA_mono h fun _ ⟨h1, h2, h3, h4, h5⟩ => ⟨h1, h2, h3, h4, hk _ h5⟩
  case mslice => exact bindA_mono h fun _ h => bindA_mono h fun _ h => isV_mono h fun _ h => isV_mono h fun _ h => isInt_mono h fun _ _ h => isInt_mono h fun _ _ ⟨h1, h2, h3, h4, h5, h6, h7⟩ => ⟨h1, h2, h3, h4, h5, h6, bindA_mono h7 fun _ h => ⟨h.1, hk _ h.2⟩⟩
  case append =>
    refine bindA_mono h fun _ h => bindA_mono h fun _ h => isList_mono h fun _ ⟨h1, h2⟩ => ⟨h1, ?_⟩
    rcases h2 with ⟨id, h3, h4⟩ | ⟨h3, h4, h5⟩
    · exact .inl ⟨id, h3, bindA_mono h4 fun _ ⟨xs, h5, h6, h7⟩ => ⟨xs, h5, h6, hk _ h7⟩⟩
    · exact .inr ⟨h3, h4, hk _ h5⟩
  case msliceT => exact bindA_mono h fun _ h => bindA_mono h fun _ h => isV_mono h fun _ h => isV_mono h fun _ h => isInt_mono h fun _ _ h => isInt_mono h fun _ _ ⟨h1, h2, h3, h4, h5, h6, h7⟩ => ⟨h1, h2, h3, h4, h5, h6, bindA_mono h7 fun _ h => ⟨h.1, h.2.1, hk _ h.2.2⟩⟩
  case appT =>
    refine bindA_mono h fun _ h => bindA_mono h fun _ h => isList_mono h fun _ ⟨h1, h2⟩ => ⟨h1, ?_⟩
    rcases h2 with ⟨id, h3, h4⟩ | ⟨h3, h4, h5⟩
    · exact .inl ⟨id, h3, bindA_mono h4 fun _ ⟨xs, h5, h6, h7⟩ => ⟨xs, h5, h6, hk _ h7⟩⟩
    · exact .inr ⟨h3, h4, hk _ h5⟩
  case callA => exact bindA_mono h fun _ h => bindA_mono h fun _ h => callK_mono h hk hkp
  case callv => exact bindA_mono h fun _ ⟨f, caps, h1, h2, h3⟩ => ⟨f, caps, h1, h2, bindA_mono h3 fun _ h => bindA_mono h fun _ h => callK_mono h hk hkp⟩
  case mkmap => exact hk _ h
  case mapset => exact bindA_mono h fun _ h => bindA_mono h fun _ h => bindA_mono h fun _ h => isMap_mono h fun _ _ h => bindA_mono h fun _ h => bindA_mono h fun _ ⟨h1, h2, h3, h4, h5, h6⟩ => ⟨h1, h2, h3, h4, h5, bindA_mono h6 fun _ ⟨h7, h8⟩ => ⟨h7, hk _ h8⟩⟩
  case copy => exact bindA_mono h fun _ h => bindA_mono h fun _ h => isList_mono h fun _ ⟨h1, id, h2, h3, h4⟩ => ⟨h1, id, h2, h3, bindA_mono h4 fun _ ⟨xs, h5, h6⟩ => ⟨xs, h5, hk _ h6⟩⟩
  case panic => exact bindA_mono h fun _ h => ⟨h.1, hkp _ h.2⟩
  case atq => exact smk_mono h fun _ _ h => ⟨h.1, hk _ h.2⟩
theorem sstep_mono {o : SOper} {st : St} {K K' KP KP' : St → Prop} (h : sstep P o st K KP) (hk : ∀ x, K x → K' x) (hkp : ∀ x, KP x → KP' x) : sstep P o st K' KP' := by
  unfold sstep at h ⊢
  split at h
  · exact sexec_mono h hk hkp
  · exact bindA_mono h fun _ h => isV_mono h fun _ h => ⟨fun e => sexec_mono (h.1 e) hk hkp, fun e => hk _ (h.2 e)⟩
end
end Go.Av
namespace Go.Av
open Go Go.RowKit
theorem map_off {α : Type} {f : α → α} : ∀ {l : List α}, (∀ x ∈ l, f x = x) → l.map f = l
  | [], _ => rfl
  | x :: l, h => by rw [List.map_cons, h x (by simp), map_off fun y hy => h y (by simp [hy])]
theorem BV.kill_off {id : Nat} {x : BV} (h : id ∉ x.ids) : x.kill id = x := by
  cases x <;> simp only [BV.kill] <;> simp only [BV.ids, List.mem_singleton] at h
  · rw [if_neg (fun e => h e.symm)]
  · rw [if_neg (fun e => h e.symm)]
theorem AV.kill_off {id : Nat} {x : AV} (h : id ∉ x.ids) : x.kill id = x := by
  cases x with
  | b x => simp only [AV.kill, BV.kill_off h]
  | agg xs =>
    simp only [AV.kill, AV.agg.injEq]
    exact map_off (fun y hy => BV.kill_off fun hi => h (List.mem_flatMap.2 ⟨y, hy, hi⟩))
  | tup xs =>
    simp only [AV.kill, AV.tup.injEq]
    exact map_off (fun y hy => BV.kill_off fun hi => h (List.mem_flatMap.2 ⟨y, hy, hi⟩))
theorem AObj.kill_off {id : Nat} {o : AObj} (h : id ∉ o.ids) : o.kill id = o := by
  cases o <;> simp only [AObj.kill]
  case tree e sz k xs hole =>
    cases hole with
    | none => rfl
    | some q => obtain ⟨i, j, b⟩ := q; simp only [mapH, BV.kill_off (show id ∉ b.ids from h)]
  simp only [AObj.box.injEq, true_and]
  exact map_off (fun y hy => BV.kill_off fun hi => h (List.mem_flatMap.2 ⟨y, hy, hi⟩))
theorem BV.killB_off {B : List Nat} {x : BV} (h : ∀ i ∈ x.ids, i ∉ B) : x.killB B = x := by
  cases x <;> simp only [BV.killB]
  · rename_i k
    have := h k (by simp [BV.ids])
    simp [this]
  · rename_i k i o
    have := h k (by simp [BV.ids])
    simp [this]
theorem AV.killB_off {B : List Nat} {x : AV} (h : ∀ i ∈ x.ids, i ∉ B) : x.killB B = x := by
  cases x with
  | b x => simp only [AV.killB, BV.killB_off h]
  | agg xs =>
    simp only [AV.killB, AV.agg.injEq]
    exact map_off (fun y hy => BV.killB_off fun i hi => h i (List.mem_flatMap.2 ⟨y, hy, hi⟩))
  | tup xs =>
    simp only [AV.killB, AV.tup.injEq]
    exact map_off (fun y hy => BV.killB_off fun i hi => h i (List.mem_flatMap.2 ⟨y, hy, hi⟩))
theorem AObj.killB_off {B : List Nat} {o : AObj} (h : ∀ i ∈ o.ids, i ∉ B) : o.killB B = o := by
  cases o <;> simp only [AObj.killB]
  case tree e sz k xs hole =>
    cases hole with
    | none => rfl
    | some q => obtain ⟨i, j, b⟩ := q; simp only [mapH, BV.killB_off (show ∀ i ∈ b.ids, i ∉ B from h)]
  simp only [AObj.box.injEq, true_and]
  exact map_off (fun y hy => BV.killB_off fun i hi => h i (List.mem_flatMap.2 ⟨y, hy, hi⟩))
def SOp.lent : SOp → List Nat
  | .callA _ B _ _ => B
  | .callv _ B _ _ => B
  | .atq s op => s :: op.lent
  | _ => []
def touch (st : St) (o : SOper) : List Nat := (o.rd.flatMap fun k => match look st.fr k with | some a => a.ids | none => []) ++ o.op.lent
def Over (d : Option Nat) (x : AV) (st st1 : St) : Prop := st1.hp = st.hp ∧ ∀ t, look st1.fr t = if d = some t then some x else look st.fr t
structure Conf (T : List Nat) (d : Option Nat) (st st' : St) : Prop where
  fr : ∀ t, d ≠ some t → (∀ y, look st.fr t = some y → ∀ i ∈ y.ids, i ∉ T) → look st'.fr t = look st.fr t
  hp : ∀ i ob, st.hp[i]? = some ob → i ∉ T → (∀ j ∈ ob.ids, j ∉ T) → st'.hp[i]? = some ob
def KO (T : List Nat) (e : Option Nat) (d : Option Nat) (x : AV) (st : St) (K : St → Prop) : St → Prop := fun st' => Conf T e st st' ∧ ∃ st1', Over d x st' st1' ∧ K st1'
section
variable {P : Program} {T : List Nat} {e d : Option Nat} {x : AV} {st st1 : St} {K : St → Prop} {KP : Prop}
theorem over_put (hO : Over d x st st1) (hd : ∀ t, d = some t → e ≠ some t) (y : AV) : Over d x (st.putO e y) (st1.putO e y) := by
  refine ⟨by cases e <;> exact hO.1, fun t => ?_⟩
  rw [look_putO, look_putO, hO.2]
  by_cases h1 : e = some t
  · rw [if_pos h1, if_pos h1, if_neg (fun h2 => hd t h2 h1)]
  · rw [if_neg h1, if_neg h1]
theorem KO_hp (hO : Over d x st st1) (hd : ∀ t, d = some t → e ≠ some t) {h' : List AObj} {y : AV} (hc : ∀ i ob, st.hp[i]? = some ob → i ∉ T → (∀ j ∈ ob.ids, j ∉ T) → h'[i]? = some ob)
    (hk : K (St.putO { st1 with hp := h' } e y)) : KO T e d x st K (St.putO { st with hp := h' } e y) := by
  refine ⟨⟨fun t ht _ => ?_, fun i ob hi h1 h2 => ?_⟩, _, over_put (st := { st with hp := h' }) (st1 := { st1 with hp := h' }) ⟨rfl, hO.2⟩ hd y, hk⟩
  · rw [look_putO, if_neg ht]
  · have : (St.putO { st with hp := h' } e y).hp = h' := by cases e <;> rfl
    rw [this]; exact hc i ob hi h1 h2
theorem KO_moved (hO : Over d x st st1) (hd : ∀ t, d = some t → e ≠ some t) {id : Nat} {o : AObj} {y : AV} (hT : id ∈ T) (hx : ∀ i ∈ x.ids, i ∉ T) (hk : K ((st1.moved id o).putO e y)) : KO T e d x st K ((st.moved id o).putO e y) := by
  have hh : ∀ s : St, ((s.moved id o).putO e y).hp = (s.hp.map (AObj.kill id)).set id o := fun s => by cases e <;> rfl
  refine ⟨⟨fun t ht hy => ?_, fun i ob hi h1 h2 => ?_⟩, _, over_put (st := st.moved id o) (st1 := st1.moved id o) ⟨by simp only [St.moved, hO.1], fun t => ?_⟩ hd y, hk⟩
  · rw [look_putO, if_neg ht]
    simp only [St.moved, look_map]
    cases hl : look st.fr t with
    | none => rfl
    | some z => simp only [Option.map_some, AV.kill_off fun h => hy z hl id h hT]
  · rw [hh, List.getElem?_set_ne (fun e' => h1 (by rw [← e']; exact hT)), List.getElem?_map, hi]
    simp only [Option.map_some, AObj.kill_off fun h => h2 id h hT]
  · simp only [St.moved, look_map, hO.2]
    by_cases h : d = some t
    · rw [if_pos h, if_pos h]
      simp only [Option.map_some, AV.kill_off fun h => hx id h hT]
    · rw [if_neg h, if_neg h]
theorem backHp_off {B : List Nat} {hp os : List AObj} {i : Nat} {ob : AObj} (hi : hp[i]? = some ob) (hB : i ∉ B) : (backHp B hp os)[i]? = some (ob.killB B) := by
  unfold backHp
  have hlt : i < hp.length := (List.getElem?_eq_some_iff.1 hi).1
  rw [List.getElem?_append_left (by simpa using hlt), List.getElem?_mapIdx, hi]
  simp [hB]
theorem KO_back (hO : Over d x st st1) (hd : ∀ t, d = some t → e ≠ some t) {B : List Nat} {os : List AObj} {y : AV} (hT : ∀ i ∈ B, i ∈ T) (hx : ∀ i ∈ x.ids, i ∉ T) (hk : K ((st1.back B os).putO e y)) : KO T e d x st K ((st.back B os).putO e y) := by
  have hh : ∀ s : St, ((s.back B os).putO e y).hp = backHp B s.hp os := fun s => by cases e <;> rfl
  refine ⟨⟨fun t ht hy => ?_, fun i ob hi h1 h2 => ?_⟩, _, over_put (st := st.back B os) (st1 := st1.back B os) ⟨by simp only [St.back, hO.1], fun t => ?_⟩ hd y, hk⟩
  · rw [look_putO, if_neg ht]
    simp only [St.back, look_map]
    cases hl : look st.fr t with
    | none => rfl
    | some z => simp only [Option.map_some, AV.killB_off fun i hi hb => hy z hl i hi (hT i hb)]
  · rw [hh, backHp_off hi (fun hb => h1 (hT i hb)), AObj.killB_off fun j hj hb => h2 j hj (hT j hb)]
  · simp only [St.back, look_map, hO.2]
    by_cases h : d = some t
    · rw [if_pos h, if_pos h]
      simp only [Option.map_some, AV.killB_off fun i hi hb => hx i hi (hT i hb)]
    · rw [if_neg h, if_neg h]
theorem sexec_of_sev {op : SOp} {st : St} {KQ : St → Prop} (hs : sev P st op fun a => K (st.putO e a)) : sexec P e op st K KQ := by
  unfold sexec
  split <;> first | exact hs | exact hs.elim
theorem sexec_over {op : SOp} (hO : Over d x st st1) (hrd : ∀ t, d = some t → t ∉ op.rd) (hd : ∀ t, d = some t → e ≠ some t) (hT : ∀ t ∈ op.rd, ∀ y, look st.fr t = some y → ∀ i ∈ y.ids, i ∈ T) (hTl : ∀ i ∈ op.lent, i ∈ T)
    (hx : ∀ i ∈ x.ids, i ∉ T) (h : sexec P e op st1 K fun _ => KP) : sexec P e op st (KO T e d x st K) (fun _ => KP) := by
  have hl : ∀ t ∈ op.rd, look st1.fr t = look st.fr t := fun t ht => by rw [hO.2, if_neg fun h => hrd t h ht]
  have hF : Foot op.rd st st1 := ⟨fun k hk y hy => by rw [← hl k hk]; exact hy, fun k hk y hy i hi ob ho => by rw [← hO.1]; exact ho⟩
  have hg : ∀ q : SX, (∀ t ∈ q.rd, t ∈ op.rd) → st1.get q = st.get q := fun q hq => get_congr fun t ht => hl t (hq t ht)
  have hid : ∀ (q : SX) (y : AV), (∀ t ∈ q.rd, t ∈ op.rd) → st.get q = some y → ∀ i ∈ y.ids, i ∈ T := fun q y hq hy => by
    cases q with
    | tm k => exact hT k (hq k (by simp [SX.rd])) y hy
    | c v => simp only [St.get, Option.some.injEq] at hy; subst hy; intro i hi; rw [ids_const] at hi; cases hi
    | g n => simp only [St.get, Option.some.injEq] at hy; subst hy; intro i hi; cases hi
    | f n => simp only [St.get, Option.some.injEq] at hy; subst hy; intro i hi; cases hi
  have pure_ : sev P st1 op (fun a => K (st1.putO e a)) → sexec P e op st (KO T e d x st K) (fun _ => KP) := fun hs =>
    sexec_of_sev (sev_mono (sev_foot hF hs) fun a ha => KO_hp (h' := st.hp) hO hd (fun i ob hi _ _ => hi) (by rw [← hO.1]; exact ha))
  have fin : ∀ (o : AObj) (y : AV), K (St.putO { st1 with hp := st1.hp ++ [o] } e y) → KO T e d x st K (St.putO { st with hp := st.hp ++ [o] } e y) := fun o y hk =>
    KO_hp hO hd (fun i ob hi _ _ => get_append hi) (by rw [← hO.1]; exact hk)
  have fins : ∀ (id : Nat) (o : AObj) (y : AV), id ∈ T → K (St.putO { st1 with hp := st1.hp.set id o } e y) → KO T e d x st K (St.putO { st with hp := st.hp.set id o } e y) := fun id o y hid hk =>
    KO_hp hO hd (fun i ob hi h1 _ => by rw [List.getElem?_set_ne fun e' => h1 (by rw [← e']; exact hid)]; exact hi) (by rw [← hO.1]; exact hk)
  have args_ : ∀ (bor : Bool) (B : List Nat) (l : List SX), (∀ q ∈ l, ∀ t ∈ q.rd, t ∈ op.rd) → (l.mapM fun x => (st1.get x).bind (argAV st1.hp bor B)) = (l.mapM fun x => (st.get x).bind (argAV st.hp bor B)) := fun bor B l hl =>
    by rw [hO.1]; exact mapM_congr' fun q hq => by rw [hg q (hl q hq)]
  have call_ : ∀ (bor : Bool) (B : List Nat) (f : FuncId) (ars : List AV) (os : List AObj), (∀ i ∈ B, i ∈ T) → sexec.callK P st1 e bor B f ars os K (fun _ => KP) → sexec.callK P st e bor B f ars os (KO T e d x st K) (fun _ => KP) := fun bor B f ars os hB ⟨h1, h2, h3, h4⟩ => by
    refine ⟨h1, h2, h3, h4.mono fun o ho => ?_⟩
    cases o with
    | none => exact ho
    | some r =>
      refine ⟨ho.1, KO_back hO hd hB hx ?_⟩
      have := ho.2
      rw [hO.1] at this
      exact this
  cases op with
  | store sz q v =>
    obtain ⟨aq, hq, av, hv, he, hs⟩ := h
    have hq' := hq
    rw [hg q (fun t ht => by simp [SOp.rd, ht])] at hq
    rw [hg v (fun t ht => by simp [SOp.rd, ht])] at hv
    have hqi := hid q aq (fun t ht => by simp [SOp.rd, ht]) hq
    refine ⟨aq, hq, av, hv, he, ?_⟩
    subst he
    rw [hO.1] at hs
    revert hs
    unfold storeA
    split
    · rename_i id off
      rintro ⟨o, h1, t, cs, h2, h3, h4, h5, hk⟩
      have := fins id (.box t (splice cs off av.cells)) av (hqi id (by simp [AV.ids, BV.ids])) (by rw [hO.1]; exact hk)
      exact ⟨o, h1, t, cs, h2, h3, h4, h5, this⟩
    · rename_i id i off
      have hi := hqi id (by simp [AV.ids, BV.ids])
      rintro ⟨o, h1, ⟨t, s, xs, h2, h3, p, h4, h5, h6, hk⟩ | ⟨t, s, k, xs, ho, h2, h3, h4, hk⟩⟩
      · refine ⟨o, h1, .inl ⟨t, s, xs, h2, h3, p, h4, h5, h6, ?_⟩⟩
        rcases hk with ⟨h7, h8, hk⟩ | ⟨h7, h8, hk⟩
        · exact .inl ⟨h7, h8, fins id _ av hi (by rw [hO.1]; exact hk)⟩
        · exact .inr ⟨h7, h8, fins id _ av hi (by rw [hO.1]; exact hk)⟩
      · refine ⟨o, h1, .inr ⟨t, s, k, xs, ho, h2, h3, h4, ?_⟩⟩
        rcases hk with ⟨h5, h6, p, h7, h8, h9, hk⟩ | ⟨b, b', h5, h6, h7, h8, hk⟩
        · exact .inl ⟨h5, h6, p, h7, h8, h9, fins id _ av hi (by rw [hO.1]; exact hk)⟩
        · exact .inr ⟨b, b', h5, h6, h7, h8, fins id _ av hi (by rw [hO.1]; exact hk)⟩
    · exact fun h => h
  | alloc t zero => exact fin _ _ (by have := h; simp only [sexec, hO.1] at this ⊢; exact this)
  | box t q =>
    obtain ⟨aq, hq, h1, hk⟩ := h
    rw [hg q (fun t ht => by simp [SOp.rd, ht])] at hq
    exact ⟨aq, hq, h1, fin _ _ (by rw [hO.1] at hk ⊢; exact hk)⟩
  | bslice own t sz len ps =>
    cases own with
    | false => exact pure_ h
    | true =>
      obtain ⟨qs, hq, h1, h2, h3, h4, hk⟩ := h
      rw [mapM_congr' (g := fun x => (st.get x).bind AV.toPV) fun q hq => by rw [hg q (fun t ht => List.mem_flatMap.2 ⟨q, hq, ht⟩)]] at hq
      exact ⟨qs, hq, h1, h2, h3, h4, fin _ _ (by rw [hO.1] at hk ⊢; exact hk)⟩
  | mslice t sz by_ zero l c =>
    obtain ⟨al, hq, ac, hc, hk⟩ := h
    rw [hg l (fun t ht => by simp [SOp.rd, ht])] at hq
    rw [hg c (fun t ht => by simp [SOp.rd, ht])] at hc
    exact ⟨al, hq, ac, hc, isV_mono hk fun _ hk => isV_mono hk fun _ hk => isInt_mono hk fun _ _ hk => isInt_mono hk fun _ _ ⟨h1, h2, h3, h4, h5, h6, h7⟩ => ⟨h1, h2, h3, h4, h5, h6, bindA_mono h7 fun _ h => ⟨h.1, fin _ _ (by have := h.2; rw [hO.1] at this ⊢; exact this)⟩⟩⟩
  | append t sz by_ q v =>
    obtain ⟨aq, hq, av, hv, hs⟩ := h
    rw [hg q (fun t ht => by simp [SOp.rd, ht])] at hq
    rw [hg v (fun t ht => by simp [SOp.rd, ht])] at hv
    have hqi := hid q aq (fun t ht => by simp [SOp.rd, ht]) hq
    refine ⟨aq, hq, av, hv, ?_⟩
    rw [hO.1] at hs
    refine isList_mono hs fun L hs => ⟨hs.1, ?_⟩
    rcases hs.2 with ⟨id, rfl, o, ho, xs, rfl, h1, hk⟩ | ⟨h1, h2, hk⟩
    · exact .inl ⟨id, rfl, _, ho, xs, rfl, h1, KO_moved hO hd (hqi id (by simp [AV.ids, BV.ids])) hx hk⟩
    · exact .inr ⟨h1, h2, fin _ _ (by rw [hO.1]; exact hk)⟩
  | msliceT kk t sz by_ zero l c =>
    obtain ⟨al, hq, ac, hc, hk⟩ := h
    rw [hg l (fun t ht => by simp [SOp.rd, ht])] at hq
    rw [hg c (fun t ht => by simp [SOp.rd, ht])] at hc
    exact ⟨al, hq, ac, hc, isV_mono hk fun _ hk => isV_mono hk fun _ hk => isInt_mono hk fun _ _ hk => isInt_mono hk fun _ _ ⟨h1, h2, h3, h4, h5, h6, h7⟩ => ⟨h1, h2, h3, h4, h5, h6, bindA_mono h7 fun _ h => ⟨h.1, h.2.1, fin _ _ (by have := h.2.2; rw [hO.1] at this ⊢; exact this)⟩⟩⟩
  | appT kk t sz by_ q v =>
    obtain ⟨aq, hq, av, hv, hs⟩ := h
    rw [hg q (fun t ht => by simp [SOp.rd, ht])] at hq
    rw [hg v (fun t ht => by simp [SOp.rd, ht])] at hv
    have hqi := hid q aq (fun t ht => by simp [SOp.rd, ht]) hq
    refine ⟨aq, hq, av, hv, ?_⟩
    rw [hO.1] at hs
    refine isList_mono hs fun L hs => ⟨hs.1, ?_⟩
    rcases hs.2 with ⟨id, rfl, o, ho, xs, rfl, h1, hk⟩ | ⟨h1, h2, hk⟩
    · exact .inl ⟨id, rfl, _, ho, xs, rfl, h1, KO_moved hO hd (hqi id (by simp [AV.ids, BV.ids])) hx hk⟩
    · exact .inr ⟨h1, h2, fin _ _ (by rw [hO.1]; exact hk)⟩
  | callA bor B f args =>
    obtain ⟨ars, h1, os, h2, hk⟩ := h
    rw [args_ bor B args (fun q hq t ht => List.mem_flatMap.2 ⟨q, hq, ht⟩)] at h1
    rw [hO.1] at h2
    exact ⟨ars, h1, os, h2, call_ bor B f ars os hTl hk⟩
  | callv bor B q args =>
    obtain ⟨aq, hq, f, caps, h0, h00, ars, h1, os, h2, hk⟩ := h
    rw [hg q (fun t ht => by simp [SOp.rd, ht])] at hq
    rw [args_ bor B args (fun q hq t ht => List.mem_append.2 (.inr (List.mem_flatMap.2 ⟨q, hq, ht⟩)))] at h1
    rw [hO.1] at h2
    exact ⟨aq, hq, f, caps, h0, h00, ars, h1, os, h2, call_ bor B f _ os hTl hk⟩
  | mkmap k t => exact fin _ _ (by have := h; simp only [sexec, hO.1] at this ⊢; exact this)
  | mapset k t m q v =>
    obtain ⟨am, hm, aq, hq, av, hv, hs⟩ := h
    rw [hg m (fun t ht => by simp [SOp.rd, ht])] at hm
    rw [hg q (fun t ht => by simp [SOp.rd, ht])] at hq
    rw [hg v (fun t ht => by simp [SOp.rd, ht])] at hv
    have hmi := hid m am (fun t ht => by simp [SOp.rd, ht]) hm
    refine ⟨am, hm, aq, hq, av, hv, ?_⟩
    rw [hO.1] at hs
    obtain ⟨id, kvs, rfl, ho, p, h1, r, h2, he, h3, h4, h5, h6, u, h7, h8, hk⟩ := hs
    refine ⟨id, kvs, rfl, ho, p, h1, r, h2, he, h3, h4, h5, h6, u, h7, h8, ?_⟩
    subst he
    exact fins id _ av (hmi id (by simp [AV.ids, BV.ids])) (by rw [hO.1]; exact hk)
  | copy t sz q v =>
    obtain ⟨aq, hq, av, hv, hs⟩ := h
    rw [hg q (fun t ht => by simp [SOp.rd, ht])] at hq
    rw [hg v (fun t ht => by simp [SOp.rd, ht])] at hv
    have hqi := hid q aq (fun t ht => by simp [SOp.rd, ht]) hq
    refine ⟨aq, hq, av, hv, ?_⟩
    rw [hO.1] at hs
    refine isList_mono hs fun L ⟨h1, id, h2, h3, o, ho, xs, h4, hk⟩ => ?_
    subst h2
    exact ⟨h1, id, rfl, h3, o, ho, xs, h4, fins id _ _ (hqi id (by simp [AV.ids, BV.ids])) (by rw [hO.1]; exact hk)⟩
  | panic q =>
    obtain ⟨aq, hq, h1, hk⟩ := h
    rw [hg q (fun t ht => by simp [SOp.rd, ht])] at hq
    exact ⟨aq, hq, h1, hk⟩
  | atq s q =>
    have hF' : Foot q.rd st st1 := hF
    have h' : smk st1 q fun o m => plOk st1 (some s) ∧ K ((st1.new (some s) o).putO e (.b (m s))) := h
    show smk st q fun o m => plOk st (some s) ∧ KO T e d x st K ((st.new (some s) o).putO e (.b (m s)))
    refine smk_mono (smk_foot hF' h') fun o m ⟨h1, hk⟩ => ⟨?_, ?_⟩
    · simp only [plOk] at h1 ⊢; rw [← hO.1]; exact h1
    · exact fins s o _ (hTl s (by simp [SOp.lent])) hk
  | _ => exact pure_ h
end
end Go.Av
namespace Go.Av
open Go Go.RowKit
structure Eff where
  x : AV
  slot : Option (Nat × AObj)
def St.app (st : St) (d : Option Nat) (E : Eff) : St := St.putO ⟨st.fr, match E.slot with | none => st.hp | some (s, ob) => st.hp.set s ob⟩ d E.x
def leff (P : Program) (o : SOper) (st : St) (E : Eff) : Prop := match E.slot with
  | none => syield P o st E.x
  | some (s, ob) => o.gd = none ∧ ∃ q, o.op = .atq s q ∧ smk st q fun ob' mk => ob' = ob ∧ E.x = .b (mk s) ∧ st.hp[s]? = some .free
def Eqs (a b : St) : Prop := a.hp = b.hp ∧ ∀ t, look a.fr t = look b.fr t
theorem Eqs.refl (a : St) : Eqs a a := ⟨rfl, fun _ => rfl⟩
theorem Eqs.symm {a b : St} (h : Eqs a b) : Eqs b a := ⟨h.1.symm, fun t => (h.2 t).symm⟩
theorem Eqs.trans {a b c : St} (h : Eqs a b) (k : Eqs b c) : Eqs a c := ⟨h.1.trans k.1, fun t => (h.2 t).trans (k.2 t)⟩
def comm (r : Rec) (T : List Nat) (o : SOper) (b : Bool) : Prop :=
  (∀ t, r.d = some t → t ∉ o.rd ∧ o.dst ≠ some t) ∧ (∀ t, o.dst = some t → t ∉ r.rd) ∧ (∀ s, r.s = some s → s ∉ T) ∧ (b = true → ∀ s ∈ o.op.lent, s ∉ r.F) ∧ (b = false → r.s = none ∧ ∀ i ∈ T, i ∉ r.F)
def SOp.hf : SOp → Bool
  | .mv _ => true
  | _ => false
def touchL (st : St) (o : SOper) : List Nat := if o.op.hf = true ∧ o.gd = none then [] else touch st o
def CovL (F : List Nat) (st : St) (o : SOper) (E : Eff) : Prop :=
  (∀ i ∈ touchL st o, i ∈ F ∧ ∃ ob, st.hp[i]? = some ob ∧ ∀ j ∈ ob.ids, j ∈ F) ∧ ∀ i ∈ E.x.ids, i ∈ F
def srun (P : Program) (un : Nat → Nat → Bool) (K : St → Prop) (KP : Prop) : List Rec → List (Nat × Bool × SOper) → St → Prop
  | _, [], st => ∃ st2, Eqs st2 st ∧ K st2
  | R, (j, true, o) :: l, st => (∀ r ∈ R, un r.i j = true → comm r (touchL st o) o true) ∧ ∃ E F, leff P o st E ∧ CovL F st o E ∧ srun P un K KP (R ++ [⟨j, o.dst, o.rd, E.slot.map (·.1), F⟩]) l (st.app o.dst E)
  | R, (j, false, o) :: l, st => (∀ r ∈ R, un r.i j = true → comm r (touch st o) o false) ∧ sstep P o st (fun st' => srun P un K KP R l st') fun _ => KP
section
variable {P : Program} {un : Nat → Nat → Bool} {K : St → Prop} {KP : Prop}
theorem flatMap_off {α β : Type} {f g : α → List β} : ∀ {l : List α}, (∀ x ∈ l, f x = g x) → l.flatMap f = l.flatMap g
  | [], _ => rfl
  | x :: l, h => by rw [List.flatMap_cons, List.flatMap_cons, h x (by simp), flatMap_off fun y hy => h y (by simp [hy])]
theorem touch_eq {a b : St} {o : SOper} (h : ∀ t ∈ o.rd, look a.fr t = look b.fr t) : touch a o = touch b o := by
  unfold touch
  congr 1
  exact flatMap_off fun k hk => by rw [h k hk]
theorem touchL_eq {a b : St} {o : SOper} (h : ∀ t ∈ o.rd, look a.fr t = look b.fr t) : touchL a o = touchL b o := by
  unfold touchL
  rw [touch_eq h]
theorem touch_rd {st : St} {o : SOper} {t : Nat} {y : AV} {i : Nat} (ht : t ∈ o.rd) (hy : look st.fr t = some y) (hi : i ∈ y.ids) : i ∈ touch st o :=
  List.mem_append.2 (.inl (List.mem_flatMap.2 ⟨t, ht, by rw [hy]; exact hi⟩))
theorem touch_lent {st : St} {o : SOper} {i : Nat} (hi : i ∈ o.op.lent) : i ∈ touch st o := List.mem_append.2 (.inr hi)
theorem look_app (st : St) (d : Option Nat) (E : Eff) (t : Nat) : look (st.app d E).fr t = if d = some t then some E.x else look st.fr t := look_putO _ _ _ _
theorem hp_app (st : St) (d : Option Nat) (E : Eff) : (st.app d E).hp = match E.slot with | none => st.hp | some (s, ob) => st.hp.set s ob := by
  unfold St.app; cases d <;> rfl
theorem hp_app_ne {st : St} {d : Option Nat} {E : Eff} {i : Nat} (h : ∀ s, E.slot.map (·.1) = some s → i ≠ s) : (st.app d E).hp[i]? = st.hp[i]? := by
  rw [hp_app]
  cases hs : E.slot with
  | none => rfl
  | some q =>
    simp only
    rw [List.getElem?_set_ne (fun e => h q.1 (by rw [hs]; rfl) e.symm)]
theorem sstep_over {o : SOper} {T : List Nat} {d : Option Nat} {x : AV} {st st1 : St} (hO : Over d x st st1) (hrd : ∀ t, d = some t → t ∉ o.rd ∧ o.dst ≠ some t) (hT : ∀ i ∈ touch st o, i ∈ T) (hx : ∀ i ∈ x.ids, i ∉ T)
    (h : sstep P o st1 K fun _ => KP) : sstep P o st (KO T o.dst d x st K) (fun _ => KP) := by
  have ex : sexec P o.dst o.op st1 K (fun _ => KP) → sexec P o.dst o.op st (KO T o.dst d x st K) (fun _ => KP) := fun h =>
    sexec_over hO (fun t ht hr => (hrd t ht).1 (by simp [SOper.rd, hr])) (fun t ht => (hrd t ht).2) (fun t ht y hy i hi => hT i (touch_rd (by simp [SOper.rd, ht]) hy hi)) (fun i hi => hT i (touch_lent hi)) hx h
  unfold sstep at h ⊢
  split at h
  · exact ex h
  · rename_i t want hg
    obtain ⟨g, h1, v, rfl, h2, h3⟩ := h
    have ht : look st1.fr t = look st.fr t := by rw [hO.2, if_neg fun e => (hrd t e).1 (by simp [SOper.rd, hg])]
    refine ⟨_, by rw [← ht]; exact h1, v, rfl, fun e => ex (h2 e), fun e => KO_hp (h' := st.hp) hO (fun t ht => (hrd t ht).2) (fun i ob hi _ _ => hi) (by rw [← hO.1]; exact h3 e)⟩
theorem leff_foot {o : SOper} {a b : St} {E : Eff} (h : Foot o.rd a b) (hf : ∀ s, E.slot.map (·.1) = some s → b.hp[s]? = some .free → a.hp[s]? = some .free) (he : leff P o b E) : leff P o a E := by
  unfold leff at he ⊢
  cases hs : E.slot with
  | none => rw [hs] at he; exact syield_foot h he
  | some q =>
    rw [hs] at he
    obtain ⟨h1, p, h2, h3⟩ := he
    refine ⟨h1, p, h2, smk_mono (smk_foot ⟨fun k hk => h.fr k ?_, fun k hk => h.hp k ?_⟩ h3) fun o m ⟨e1, e2, e3⟩ => ⟨e1, e2, hf _ (by rw [hs]; rfl) e3⟩⟩
    · simp only [SOper.rd, h2, SOp.rd, List.mem_append]; exact .inl hk
    · simp only [SOper.rd, h2, SOp.rd, List.mem_append]; exact .inl hk
theorem leff_footL {o : SOper} {a b : St} {E : Eff} (hfr : ∀ k ∈ o.rd, ∀ y, look b.fr k = some y → look a.fr k = some y) (hhp : ∀ i ∈ touchL b o, ∀ ob, b.hp[i]? = some ob → a.hp[i]? = some ob)
    (hf : ∀ s, E.slot.map (·.1) = some s → b.hp[s]? = some .free → a.hp[s]? = some .free) (he : leff P o b E) : leff P o a E := by
  by_cases hh : o.op.hf = true ∧ o.gd = none
  · obtain ⟨h1, h2⟩ := hh
    unfold leff at he ⊢
    cases hs : E.slot with
    | none =>
      rw [hs] at he
      cases ho : o.op <;> rw [ho] at h1 <;> try (cases h1; done)
      rename_i x
      simp only [syield, h2, ho, sev] at he ⊢
      obtain ⟨y, e1, e2⟩ := he
      refine ⟨y, ?_, e2⟩
      cases x with
      | tm k => exact hfr k (by simp [SOper.rd, ho, SOp.rd, SX.rd]) y e1
      | _ => exact e1
    | some q =>
      rw [hs] at he
      obtain ⟨_, p, h3, _⟩ := he
      rw [h3] at h1; cases h1
  · have ht : touchL b o = touch b o := if_neg hh
    exact leff_foot ⟨hfr, fun k hk y hy i hi ob ho => hhp i (by rw [ht]; exact touch_rd hk hy hi) ob ho⟩ hf he
theorem leff_ids {o : SOper} {st : St} {E : Eff} {F : List Nat} (he : leff P o st E) (hC : CovL F st o E) {t : Nat} (ht : t ∈ o.rd) {y : AV} (hy : look st.fr t = some y) : ∀ i ∈ y.ids, i ∈ F := by
  intro i hi
  by_cases hh : o.op.hf = true ∧ o.gd = none
  · obtain ⟨h1, h2⟩ := hh
    unfold leff at he
    cases hs : E.slot with
    | none =>
      rw [hs] at he
      cases ho : o.op <;> rw [ho] at h1 <;> try (cases h1; done)
      rename_i x
      simp only [SOper.rd, ho, h2, SOp.rd, Option.map_none, Option.getD_none, List.append_nil] at ht
      cases x with
      | tm k =>
        simp only [SX.rd, List.mem_singleton] at ht
        subst ht
        simp only [syield, h2, ho, sev] at he
        obtain ⟨z, e1, e2⟩ := he
        have e3 : look st.fr t = some z := e1
        rw [hy] at e3; cases e3
        exact hC.2 i (by rw [← e2]; exact hi)
      | _ => cases ht
    | some q =>
      rw [hs] at he
      obtain ⟨_, p, h3, _⟩ := he
      rw [h3] at h1; cases h1
  · have ht' : touchL st o = touch st o := if_neg hh
    exact (hC.1 i (by rw [ht']; exact touch_rd ht hy hi)).1
theorem leff_free {o : SOper} {a : St} {E : Eff} (he : leff P o a E) : ∀ s, E.slot.map (·.1) = some s → a.hp[s]? = some .free ∧ s ∈ o.op.lent := by
  intro s hs
  unfold leff at he
  cases hq : E.slot with
  | none => rw [hq] at hs; cases hs
  | some q =>
    rw [hq] at he hs
    simp only [Option.map_some, Option.some.injEq] at hs
    obtain ⟨h1, p, h2, h3⟩ := he
    rw [h2, ← hs]
    refine ⟨?_, by simp [SOp.lent]⟩
    clear h2
    cases p <;> simp only [smk] at h3
    case alloc => exact h3.2.2
    case box => obtain ⟨_, _, _, h⟩ := h3; exact h.2.2
    case bslice own _ _ _ _ =>
      cases own
      · exact h3.elim
      · obtain ⟨_, _, _, _, _, _, h⟩ := h3; exact h.2.2
    case mslice => obtain ⟨_, _, _, _, _, _, _, _, _, _, _, _, _, _, _, _, _, _, _, _, _, _, _, h⟩ := h3; exact h.2.2
    case append =>
      obtain ⟨_, _, _, _, h⟩ := h3
      rcases h with ⟨_, _, _, _, h⟩ | ⟨_, _, _, _, _, h⟩ | ⟨_, _, _, _, _, _, _, _, h⟩ | ⟨_, _, _, _, _, h⟩ <;> exact h.2.2
    case mkmap => exact h3.2.2
theorem sstep_of_leff {o : SOper} {st : St} {E : Eff} {K KQ : St → Prop} (h : leff P o st E) (hk : K (st.app o.dst E)) : sstep P o st K KQ := by
  unfold leff at h
  cases hs : E.slot with
  | none =>
    rw [hs] at h
    refine sstep_of_syield h ?_
    have : st.app o.dst E = st.putO o.dst E.x := by unfold St.app; rw [hs]
    rw [← this]; exact hk
  | some q =>
    rw [hs] at h
    obtain ⟨h1, p, h2, h3⟩ := h
    unfold sstep
    rw [h1, h2]
    show smk st p fun o' mk => plOk st (some q.1) ∧ K ((st.new (some q.1) o').putO o.dst (.b (mk q.1)))
    refine smk_mono h3 fun ob m ⟨e1, e2, e3⟩ => ⟨e3, ?_⟩
    have : st.app o.dst E = (st.new (some q.1) ob).putO o.dst (.b (m q.1)) := by
      unfold St.app; rw [hs, e1, e2]; rfl
    rw [← this]; exact hk
theorem eqs_over {a b : St} (h : Eqs a b) : Over none (.v undef) b a := ⟨h.1, fun t => by rw [h.2 t]; simp⟩
theorem eqs_foot {a b : St} (h : Eqs a b) (rd : List Nat) : Foot rd b a := ⟨fun k _ y hy => by rw [← h.2]; exact hy, fun k _ y _ i _ ob ho => by rw [← h.1]; exact ho⟩
theorem eqs_app {a b : St} (h : Eqs a b) (d : Option Nat) (E : Eff) : Eqs (a.app d E) (b.app d E) := ⟨by rw [hp_app, hp_app, h.1], fun t => by rw [look_app, look_app, h.2 t]⟩
theorem srun_eqs : ∀ (l : List (Nat × Bool × SOper)) (R : List Rec) (a b : St), Eqs a b → srun P un K KP R l a → srun P un K KP R l b
  | [], R, a, b, h, hs => by
    obtain ⟨st2, h1, h2⟩ := hs
    exact ⟨st2, h1.trans h, h2⟩
  | (j, true, o) :: l, R, a, b, h, hs => by
    obtain ⟨h1, E, F, h2, h3, h4⟩ := hs
    have ht : touchL b o = touchL a o := touchL_eq fun t _ => (h.2 t).symm
    refine ⟨fun r hr hu => by rw [ht]; exact h1 r hr hu, E, F, leff_foot (eqs_foot h _) (fun s _ hf => by rw [← h.1]; exact hf) h2, ⟨fun i hi => ?_, h3.2⟩, srun_eqs l _ _ _ (eqs_app h _ _) h4⟩
    rw [ht] at hi
    exact ⟨(h3.1 i hi).1, by rw [← h.1]; exact (h3.1 i hi).2⟩
  | (j, false, o) :: l, R, a, b, h, hs => by
    obtain ⟨h1, h2⟩ := hs
    have ht : touch b o = touch a o := touch_eq fun t _ => (h.2 t).symm
    refine ⟨fun r hr hu => by rw [ht]; exact h1 r hr hu, ?_⟩
    refine sstep_mono (sstep_over (T := touch b o) (eqs_over h) (fun t e => by cases e) (fun i hi => hi) (fun i hi => by cases hi) h2) (fun st' ⟨_, st1, hO, hk⟩ => ?_) fun _ h => h
    exact srun_eqs l _ _ _ ⟨hO.1, fun t => by rw [hO.2]; simp⟩ hk
theorem srun_less : ∀ (l : List (Nat × Bool × SOper)) (R R' : List Rec) (a : St), (∀ r ∈ R', r ∈ R) → srun P un K KP R l a → srun P un K KP R' l a
  | [], R, R', a, _, hs => hs
  | (j, true, o) :: l, R, R', a, h, hs => by
    obtain ⟨h1, E, F, h2, h3, h4⟩ := hs
    refine ⟨fun r hr => h1 r (h r hr), E, F, h2, h3, srun_less l _ _ _ (fun r hr => ?_) h4⟩
    simp only [List.mem_append] at hr ⊢
    exact hr.imp (h r) id
  | (j, false, o) :: l, R, R', a, h, hs => ⟨fun r hr => hs.1 r (h r hr), sstep_mono hs.2 (fun st' hk => srun_less l _ _ _ h hk) fun _ h => h⟩
def Hd (P : Program) (un : Nat → Nat → Bool) (K : St → Prop) (KP : Prop) (R : List Rec) (l : List (Nat × Bool × SOper)) (st : St) (o : SOper) : Bool → Prop
  | true => ∃ G, leff P o st G ∧ srun P un K KP R l (st.app o.dst G)
  | false => sstep P o st (fun st' => srun P un K KP R l st') fun _ => KP
theorem hoist {l2 : List (Nat × Bool × SOper)} {j : Nat} {b : Bool} {o : SOper} : ∀ (l1 : List (Nat × Bool × SOper)) (R : List Rec) (st : St), srun P un K KP R (l1 ++ (j, b, o) :: l2) st → (∀ u ∈ l1, u.2.1 = true ∧ un u.1 j = true) →
    (∀ r ∈ R, un r.i j = true → comm r (match b with | true => touchL st o | false => touch st o) o b) ∧ Hd P un K KP R (l1 ++ l2) st o b := by
  intro l1
  induction l1 with
  | nil =>
    intro R st h _
    cases b with
    | true =>
      obtain ⟨h1, E, F, h2, h3, h4⟩ := h
      exact ⟨h1, E, h2, srun_less l2 _ _ _ (fun r hr => List.mem_append.2 (.inl hr)) h4⟩
    | false => exact h
  | cons q l1 ih =>
    intro R st h hu
    obtain ⟨i, bu, u⟩ := q
    obtain ⟨hb, hun⟩ := hu _ (List.mem_cons_self ..)
    simp only at hb hun
    subst hb
    obtain ⟨h1, E, F, h2, h3, h4⟩ := h
    obtain ⟨hA, hB⟩ := ih _ _ h4 fun v hv => hu v (List.mem_cons_of_mem _ hv)
    obtain ⟨c1, c2, c3, c4, c5⟩ := hA ⟨i, u.dst, u.rd, E.slot.map (·.1), F⟩ (by simp) hun
    simp only at c1 c2 c3 c4 c5
    have hlo : ∀ t ∈ o.rd, look (st.app u.dst E).fr t = look st.fr t := fun t ht => by rw [look_app, if_neg fun e => (c1 t e).1 ht]
    have hto : touch (st.app u.dst E) o = touch st o := touch_eq hlo
    have htoL : touchL (st.app u.dst E) o = touchL st o := touchL_eq hlo
    have hfu := leff_free h2
    cases b with
    | true =>
      refine ⟨fun r hr hur => by have := hA r (List.mem_append.2 (.inl hr)) hur; simp only at this; rw [htoL] at this; exact this, ?_⟩
      simp only at c3 c5
      rw [htoL] at c3
      obtain ⟨G, g1, g2⟩ := hB
      have hfo := leff_free g1
      have g1' : leff P o st G := by
        refine leff_footL (fun k hk y hy => by rw [← hlo k hk]; exact hy) (fun i hi ob ho => ?_) (fun s hs hf => ?_) g1
        · rw [htoL] at hi
          rw [← hp_app_ne (d := u.dst) (E := E) fun s hs e => c3 s hs (e ▸ hi)]
          exact ho
        · rw [← hp_app_ne (d := u.dst) (E := E) fun s' hs' e => ?_]
          · exact hf
          · have h9 := (hfo s hs).2
            by_cases hh : o.op.hf = true ∧ o.gd = none
            · cases ho : o.op <;> rw [ho] at hh <;> try (cases hh.1; done)
              rw [ho] at h9; cases h9
            · refine c3 s' hs' (e ▸ ?_)
              rw [show touchL st o = touch st o from if_neg hh]
              exact touch_lent h9
      have hlu : ∀ t ∈ u.rd, look (st.app o.dst G).fr t = look st.fr t := fun t ht => by rw [look_app, if_neg fun e => c2 t e ht]
      have htu : touchL (st.app o.dst G) u = touchL st u := touchL_eq hlu
      have hne : ∀ i ∈ touchL st u, (st.app o.dst G).hp[i]? = st.hp[i]? := fun i hi => hp_app_ne fun s hs e => c4 rfl s (hfo s hs).2 (e ▸ (h3.1 i hi).1)
      have hlentF : ∀ s, E.slot.map (·.1) = some s → s ∈ F := fun s hs => by
        have h9 := (hfu s hs).2
        by_cases hh : u.op.hf = true ∧ u.gd = none
        · cases ho : u.op <;> rw [ho] at hh <;> try (cases hh.1; done)
          rw [ho] at h9; cases h9
        · exact (h3.1 s (by rw [show touchL st u = touch st u from if_neg hh]; exact touch_lent h9)).1
      refine ⟨G, g1', fun r hr hur => by rw [htu]; exact h1 r hr hur, E, F, ?_, ⟨fun i hi => ?_, h3.2⟩, srun_eqs _ _ _ _ ⟨?_, fun t => ?_⟩ g2⟩
      · refine leff_footL (fun k hk y hy => by rw [hlu k hk]; exact hy) (fun i hi ob ho => by rw [hne i hi]; exact ho) (fun s hs hf => ?_) h2
        rw [hp_app_ne fun s' hs' e => c4 rfl s' (hfo s' hs').2 (e ▸ hlentF s hs)]
        exact hf
      · rw [htu] at hi
        exact ⟨(h3.1 i hi).1, by rw [hne i hi]; exact (h3.1 i hi).2⟩
      · rw [hp_app, hp_app, hp_app, hp_app]
        cases hs : E.slot with
        | none => rfl
        | some p =>
          cases hs' : G.slot with
          | none => rfl
          | some p' =>
            simp only
            exact List.set_comm _ _ fun e => c4 rfl p'.1 (hfo p'.1 (by rw [hs']; rfl)).2 (e ▸ hlentF p.1 (by rw [hs]; rfl))
      · rw [look_app, look_app, look_app, look_app]
        by_cases e1 : o.dst = some t
        · rw [if_pos e1, if_pos e1, if_neg fun e2 => (c1 t e2).2 e1]
        · rw [if_neg e1, if_neg e1]
    | false =>
      refine ⟨fun r hr hur => by have := hA r (List.mem_append.2 (.inl hr)) hur; simp only at this; rw [hto] at this; exact this, ?_⟩
      have c5' := c5 rfl
      rw [hto] at c5'
      obtain ⟨c6, c7⟩ := c5'
      have hsl : E.slot = none := by
        cases hs : E.slot with
        | none => rfl
        | some p => rw [hs] at c6; cases c6
      have hO : Over u.dst E.x st (st.app u.dst E) := ⟨by rw [hp_app, hsl], fun t => look_app _ _ _ t⟩
      refine sstep_mono (sstep_over (T := touch st o) hO c1 (fun i hi => hi) (fun i hi hT => c7 i hT (h3.2 i hi)) hB) (fun st' ⟨hC, st1, hO1, hk⟩ => ?_) fun _ h => h
      have hdis : ∀ i ∈ touchL st u, i ∉ touch st o := fun i hi hT => c7 i hT (h3.1 i hi).1
      have hlu : ∀ t ∈ u.rd, look st'.fr t = look st.fr t := fun t ht => hC.fr t (fun e => c2 t e ht) fun y hy i hi hT => c7 i hT (leff_ids h2 h3 ht hy i hi)
      have htu : touchL st' u = touchL st u := touchL_eq hlu
      have hne : ∀ i ∈ touchL st u, st'.hp[i]? = st.hp[i]? := fun i hi => by
        obtain ⟨h5, ob, h6, h7⟩ := h3.1 i hi
        rw [h6]; exact hC.hp i ob h6 (hdis i hi) fun j hj hT => c7 j hT (h7 j hj)
      refine ⟨fun r hr hur => by rw [htu]; exact h1 r hr hur, E, F, leff_footL (fun k hk y hy => by rw [hlu k hk]; exact hy) (fun i hi ob ho => by rw [hne i hi]; exact ho) (fun s hs => by rw [hsl] at hs; cases hs) h2, ⟨fun i hi => ?_, h3.2⟩, ?_⟩
      · rw [htu] at hi
        exact ⟨(h3.1 i hi).1, by rw [hne i hi]; exact (h3.1 i hi).2⟩
      · refine srun_eqs _ _ _ _ ⟨?_, fun t => ?_⟩ hk
        · rw [hp_app, hsl]; exact hO1.1
        · rw [look_app, hO1.2]
end
end Go.Av
namespace Go.Av
open Go Go.RowKit
def tailOk (n : Nat) (anc : List (List Nat)) (k : Nat) : Bool := (List.range n).all fun j => decide (j < k) || (List.range j).all fun i => (anc.getD j []).contains i
def ordOk (anc : List (List Nat)) : List (Nat × Bool) → Bool
  | [] => true
  | u :: l => l.all (fun o => !(anc.getD u.1 []).contains o.1 && ((anc.getD o.1 []).contains u.1 || u.2)) && ordOk anc l
theorem nodup_bound : ∀ (k : Nat) (L : List Nat), L.Nodup → (∀ x ∈ L, x < k) → L.length ≤ k
  | 0, L, _, h => by
    cases L with
    | nil => exact Nat.le_refl _
    | cons x L => exact absurd (h x (by simp)) (Nat.not_lt_zero _)
  | k + 1, L, hn, h => by
    by_cases hk : k ∈ L
    · have := nodup_bound k (L.erase k) (hn.erase k) fun x hx => by
        have h1 := (hn.mem_erase_iff).1 hx
        have := h x h1.2
        have := h1.1
        omega
      rw [List.length_erase_of_mem hk] at this
      omega
    · have := nodup_bound k L hn fun x hx => by
        have h1 := h x hx
        have : x ≠ k := fun e => hk (e ▸ hx)
        omega
      omega
section
variable {P : Program} {c : Ctx} {w : World} {a : Act}
theorem ordOk_get {anc : List (List Nat)} : ∀ {l1 l2 : List (Nat × Bool)} {o : Nat × Bool}, ordOk anc (l1 ++ o :: l2) = true → ∀ u ∈ l1, ((anc.getD o.1 []).contains u.1 = true ∨ u.2 = true)
  | [], _, _, _, u, hu => by cases hu
  | v :: l1, l2, o, h, u, hu => by
    simp only [List.cons_append, ordOk, Bool.and_eq_true, List.all_eq_true, Bool.or_eq_true] at h
    rcases List.mem_cons.1 hu with rfl | hu
    · exact (h.1 o (by simp)).2
    · exact ordOk_get h.2 u hu
theorem ordOk_drop {anc : List (List Nat)} : ∀ {l1 l2 : List (Nat × Bool)} {o : Nat × Bool}, ordOk anc (l1 ++ o :: l2) = true → ordOk anc (l1 ++ l2) = true
  | [], l2, o, h => by
    simp only [List.nil_append, ordOk, Bool.and_eq_true] at h ⊢
    exact h.2
  | v :: l1, l2, o, h => by
    simp only [List.cons_append, ordOk, Bool.and_eq_true, List.all_eq_true] at h ⊢
    exact ⟨fun x hx => h.1 x (by simp only [List.mem_append, List.mem_cons] at hx ⊢; rcases hx with h | h; exact .inl h; exact .inr (.inr h)), ordOk_drop h.2⟩
theorem draw2_sound {id n k ml : Nat} {ops : Array Oper} {ss : List SOper} {after : List (List Nat)} {l : List (Nat × Bool × SOper)} (hm : P.follows .mixedOrders = true) (hn : c.n = n) (hmm : c.th.length ≤ ml) (hc : compOps P n ops ops.toList ss) (haf : after = afterOf ops) (hlow : lowB after = true)
    (hok : tailOk ss.length (ancs [] after) k = true) (hkl : k ≤ ss.length) (hord : ordOk (ancs [] after) (l.map fun u => (u.1, u.2.1)) = true) (hmem : ∀ u ∈ l, u.1 < k ∧ ss[u.1]? = some u.2.2) (hnd : (l.map (·.1)).Nodup) (hlen : l.length = k)
    {st : St} {K KP : St → Prop} {KC : Prop} {Q : Exit → Act → World → Prop} (h : srun P (fun i j => !((ancs [] after).getD j []).contains i) (fun st => sops P ml (ss.drop k) st K KP) KC [] l st) (hr : Rel c st a w) (hQ : ∀ a w, (∃ st', K st' ∧ Rel c st' a w) → Q .normal a w) (hP : ∀ ch a w, (Raised ch ∧ ∃ st', KP st' ∧ Rel c st' a w) → Q (.panic ch) a w) (hPC : KC → ∀ ch a w, (Raised ch ∧ ∃ st', Rel c st' a w) → Q (.panic ch) a w) : (Code.region id ops true).wp P Q a w := by
  obtain ⟨hlen', hget⟩ := compOps_get hc
  have hsz : ops.size = ss.length := by simpa using hlen'
  have hal : after.length = ss.length := by rw [haf]; simp [afterOf, hsz]
  have hafo : ∀ (i : Nat) (o : Oper), ops[i]? = some o → after[i]? = some ((o.after.toList.filter (Region.binds .any)).map (·.on)) := fun i o ho => by
    rw [haf]; simp [afterOf, ho]
  have ready_iff : ∀ (listed : Array Bool) (i : Nat), listed.size = ss.length → (i ∈ Region.ready .any ops listed ↔ i < ss.length ∧ listed.getD i true = false ∧ ∀ l : List Nat, after[i]? = some l → ∀ e ∈ l, listed.getD e false = true) := by
    intro listed i hls
    unfold Region.ready
    simp only [List.mem_filter, List.mem_range, Bool.and_eq_true, Bool.not_eq_true', hsz]
    constructor
    · rintro ⟨h1, h2, h3⟩
      refine ⟨h1, h2, fun l hl e he => ?_⟩
      have ho : ops[i]? = some ops[i] := Array.getElem?_eq_getElem (by omega)
      rw [hafo i _ ho] at hl
      cases hl
      rw [ho] at h3
      simp only [Option.map_some, Option.getD_some, Array.all_eq_true'] at h3
      simp only [List.mem_map, List.mem_filter] at he
      obtain ⟨ed, ⟨h4, h5⟩, rfl⟩ := he
      have := h3 ed (by simpa using h4)
      simpa [h5] using this
    · rintro ⟨h1, h2, h3⟩
      refine ⟨h1, h2, ?_⟩
      have ho : ops[i]? = some ops[i] := Array.getElem?_eq_getElem (by omega)
      rw [ho]
      simp only [Option.map_some, Option.getD_some, Array.all_eq_true']
      intro ed hed
      by_cases hb : Region.binds .any ed = true
      · have := h3 _ (hafo i _ ho) ed.on (List.mem_map.2 ⟨ed, List.mem_filter.2 ⟨by simpa using hed, hb⟩, rfl⟩)
        simp only [hb, Bool.not_true, Bool.false_or]
        exact this
      · simp [hb]
  have okij : ∀ i j, i < j → j < ss.length → k ≤ j → ((ancs [] after).getD j []).contains i = true := by
    intro i j hij hj hkj
    simp only [tailOk, List.all_eq_true, List.mem_range, Bool.or_eq_true, decide_eq_true_eq] at hok
    rcases hok j hj with h | h
    · omega
    · exact h i hij
  have phase2 : ∀ (m j : Nat) (listed : Array Bool) (st' : St) (a : Act) (w : World), j ≤ ss.length → ss.length ≤ j + m → k ≤ j → listed.size = ss.length → (∀ i, i < ss.length → listed.getD i false = decide (i < j)) → sops P ml (ss.drop j) st' K KP → Rel c st' a w →
      wpAny P .any ops Q m listed a w := by
    have fin : ∀ (listed : Array Bool) (st' : St) (a : Act) (w : World), listed.size = ss.length → (∀ i, i < ss.length → listed.getD i false = decide (i < ss.length)) → sops P ml (ss.drop ss.length) st' K KP → Rel c st' a w → Region.ready .any ops listed = [] ∧ Q .normal a w := by
      intro listed st' a w hls hli hs hr
      rw [List.drop_length] at hs
      simp only [sops] at hs
      obtain ⟨st1, hw1, hs⟩ := hs
      refine ⟨?_, hQ a w ⟨st1, hs, hw1 _ _ _ hmm hr⟩⟩
      apply List.eq_nil_iff_forall_not_mem.2
      intro i hi
      obtain ⟨h1, h2, _⟩ := (ready_iff listed i hls).1 hi
      have h3 := hli i h1
      have h4 : i < listed.size := by omega
      simp [h4, h1] at h2 h3
      rw [h3] at h2; cases h2
    intro m
    induction m with
    | zero =>
      intro j listed st' a w hj hm _ hls hli hs hr
      have hj' : j = ss.length := by omega
      subst hj'
      exact fin listed st' a w hls hli hs hr
    | succ m ih =>
      intro j listed st' a w hj hm hkj hls hli hs hr
      rcases Nat.lt_or_ge j ss.length with hjl | hjl
      case inr =>
        have hj' : j = ss.length := by omega
        subst hj'
        obtain ⟨f1, f2⟩ := fin listed st' a w hls hli hs hr
        exact ⟨fun _ => f2, fun i hi => by rw [f1] at hi; cases hi⟩
      have hgd : ∀ i, i < ss.length → listed.getD i true = decide (i < j) := fun i hi => by
        have h4 : i < listed.size := by omega
        have := hli i hi
        simp [h4] at this ⊢
        exact this
      have hrd : ∀ i, i ∈ Region.ready .any ops listed ↔ i = j := by
        intro i
        rw [ready_iff listed i hls]
        constructor
        · rintro ⟨h1, h2, h3⟩
          rw [hgd i h1] at h2
          simp only [decide_eq_false_iff_not, Nat.not_lt] at h2
          rcases Nat.lt_or_ge j i with h4 | h4
          · rcases (Or.inl (okij j i h4 h1 (by omega)) : _ ∨ False) with h5 | h5
            · have hcl := closed_anc hlow (S := fun x => x < j ∨ x = i) (fun x l hl hx e he => by
                have hlow' := hlow
                simp only [lowB, List.all_eq_true, List.mem_range, decide_eq_true_eq] at hlow'
                have hxl := (List.getElem?_eq_some_iff.1 hl).1
                have hex := hlow' x hxl e (by simpa [List.getD, hl] using he)
                rcases hx with hx | rfl
                · exact .inl (by omega)
                · have := h3 l hl e he
                  rw [hli e (by omega)] at this
                  exact .inl (by simpa using this)) i i j (Nat.le_refl _) (.inr rfl) h5 (by omega)
              omega
            · exact h5.elim
          · omega
        · rintro rfl
          refine ⟨hjl, by rw [hgd _ hjl]; simp, fun l hl e he => ?_⟩
          have hlow' := hlow
          simp only [lowB, List.all_eq_true, List.mem_range, decide_eq_true_eq] at hlow'
          have hxl := (List.getElem?_eq_some_iff.1 hl).1
          have hex := hlow' i hxl e (by simpa [List.getD, hl] using he)
          rw [hli e (by omega)]
          simpa using hex
      refine ⟨fun h0 => ?_, fun i hi => ?_⟩
      · have := (hrd j).2 rfl
        rw [h0] at this; cases this
      · have := (hrd i).1 hi
        subst this
        have ho : ops[i]? = some ops[i] := Array.getElem?_eq_getElem (by omega)
        have hsi := List.getElem?_eq_getElem hjl
        have hco := hget i _ _ (by rw [Array.getElem?_toList]; exact ho) hsi
        rw [List.drop_eq_getElem_cons hjl] at hs
        simp only [sops] at hs
        obtain ⟨st1, hw1, hs⟩ := hs
        obtain ⟨θ, D, hI⟩ := hw1 _ _ _ hmm hr
        have := step_sound hI hn hco hs (fun a' w' => wpAny P .any ops Q m (listed.setIfInBounds i true) a' w') Q (fun a' w' ⟨st'', h1, h2⟩ =>
          ih (i + 1) _ st'' a' w' (by omega) (by omega) (by omega) (by simpa using hls) (fun x hx => by
            rw [getD_listed hls (by omega), hli x hx]
            by_cases hxi : x = i
            · subst hxi; simp
            · rw [if_neg hxi]; apply decide_eq_decide.2; omega) h1 h2) (fun ch w' hp => hP ch a w' hp)
        unfold wpOp
        rw [ho]
        simp only
        split
        · rename_i hw
          rw [if_pos hw] at this
          exact .inl this
        · rename_i hw
          rw [if_neg hw] at this
          exact this
  have hall : ∀ i, i < k → i ∈ l.map (·.1) := by
    intro i hi
    refine Classical.byContradiction fun hn => ?_
    have := nodup_bound k (i :: l.map (·.1)) (List.nodup_cons.2 ⟨hn, hnd⟩) fun x hx => by
      rcases List.mem_cons.1 hx with rfl | hx
      · exact hi
      · obtain ⟨u, hu, rfl⟩ := List.mem_map.1 hx
        exact (hmem u hu).1
    simp only [List.length_cons, List.length_map, hlen] at this
    omega
  have hlow' := hlow
  simp only [lowB, List.all_eq_true, List.mem_range, decide_eq_true_eq] at hlow'
  have phaseA : ∀ (m : Nat) (l' : List (Nat × Bool × SOper)) (listed : Array Bool) (st' : St) (a : Act) (w : World), listed.size = ss.length → (∀ i, i < ss.length → (listed.getD i false = true ↔ i < k ∧ i ∉ l'.map (·.1))) → l'.Sublist l →
      ordOk (ancs [] after) (l'.map fun u => (u.1, u.2.1)) = true → (∀ (i : Nat) (l : List Nat), after[i]? = some l → listed.getD i false = true → ∀ e ∈ l, listed.getD e false = true) →
      ss.length + l'.length ≤ k + m → srun P (fun i j => !((ancs [] after).getD j []).contains i) (fun st => sops P ml (ss.drop k) st K KP) KC [] l' st' → Rel c st' a w → wpAny P .any ops Q m listed a w := by
    intro m
    induction m with
    | zero =>
      intro l' listed st' a w hls hli hsub hord hcl hcnt hs hr
      cases l' with
      | cons u l' => simp only [List.length_cons] at hcnt; omega
      | nil =>
        obtain ⟨st2, he, hk⟩ := hs
        refine phase2 0 k listed st2 a w hkl (by simpa using hcnt) (Nat.le_refl _) hls (fun i hi => ?_) hk (Rel.congr he.1 he.2 hr)
        have := hli i hi
        simp only [List.map_nil, List.not_mem_nil, not_false_eq_true, and_true] at this
        cases hb : listed.getD i false with
        | true => simp [this.1 hb]
        | false =>
          have : ¬ i < k := fun h => by have := this.2 h; rw [hb] at this; cases this
          simp [this]
    | succ m ih =>
      intro l' listed st' a w hls hli hsub hord hcl hcnt hs hr
      cases hl' : l' with
      | nil =>
        subst hl'
        obtain ⟨st2, he, hk⟩ := hs
        refine phase2 (m + 1) k listed st2 a w hkl (by simpa using hcnt) (Nat.le_refl _) hls (fun i hi => ?_) hk (Rel.congr he.1 he.2 hr)
        have := hli i hi
        simp only [List.map_nil, List.not_mem_nil, not_false_eq_true, and_true] at this
        cases hb : listed.getD i false with
        | true => simp [this.1 hb]
        | false =>
          have : ¬ i < k := fun h => by have := this.2 h; rw [hb] at this; cases this
          simp [this]
      | cons q l0 =>
        have htf : ∀ i, i < ss.length → listed.getD i true = listed.getD i false := fun i hi => by
          have h4 : i < listed.size := by omega
          simp [h4]
        have hmem' : ∀ u ∈ l', u.1 < k ∧ ss[u.1]? = some u.2.2 := fun u hu => hmem u (hsub.subset hu)
        have hun : ∀ u ∈ l', listed.getD u.1 false = false := fun u hu => by
          cases hb : listed.getD u.1 false with
          | false => rfl
          | true => exact absurd (List.mem_map.2 ⟨u, hu, rfl⟩) ((hli u.1 (by have := (hmem' u hu).1; omega)).1 hb).2
        have hq : q ∈ l' := by rw [hl']; simp
        have hanc : ∀ i, i < ss.length → (∀ l : List Nat, after[i]? = some l → ∀ e ∈ l, listed.getD e false = true) → ∀ j, ((ancs [] after).getD i []).contains j = true → j = i ∨ listed.getD j false = true := fun i hi h3 j hj =>
          closed_anc hlow (S := fun x => x = i ∨ listed.getD x false = true) (fun x l hl hx e he => by
            rcases hx with rfl | hx
            · exact .inr (h3 l hl e he)
            · exact .inr (hcl x l hl hx e he)) i i j (Nat.le_refl _) (.inl rfl) hj (by omega)
        refine ⟨fun h0 => ?_, fun i hi => ?_⟩
        · have hqk := (hmem' q hq).1
          have : q.1 ∈ Region.ready .any ops listed := (ready_iff listed q.1 hls).2 ⟨by omega, by rw [htf _ (by omega)]; exact hun q hq, fun lq hlq e he => by
            have hel := hlow' q.1 (by omega) e (by simpa [List.getD, hlq] using he)
            cases hb : listed.getD e false with
            | true => rfl
            | false =>
              exfalso
              have hem : e ∈ l'.map (·.1) := Classical.byContradiction fun hn => by
                have := (hli e (by omega)).2 ⟨by omega, hn⟩
                rw [hb] at this; cases this
              rw [hl', List.map_cons] at hem
              rcases List.mem_cons.1 hem with h1 | h1
              · omega
              · obtain ⟨u, hu, rfl⟩ := List.mem_map.1 h1
                rw [hl', List.map_cons, ordOk, Bool.and_eq_true, List.all_eq_true] at hord
                have := hord.1 (u.1, u.2.1) (List.mem_map.2 ⟨u, hu, rfl⟩)
                simp only [Bool.and_eq_true, Bool.not_eq_true'] at this
                have hg := ancs_get after [] q.1 lq hlq
                simp only [List.length_nil, Nat.zero_add] at hg
                have h2 : ((ancs [] after).getD q.1 []).contains u.1 = true := by
                  rw [hg]
                  simp only [List.contains_iff_mem, List.mem_flatMap]
                  exact ⟨u.1, he, by simp⟩
                rw [h2] at this
                exact absurd this.1 (by simp)⟩
          rw [h0] at this; cases this
        · obtain ⟨r1, r2, r3⟩ := (ready_iff listed i hls).1 hi
          rw [htf i r1] at r2
          have hik : i < k := by
            apply Classical.byContradiction
            intro hnk
            have hqk := (hmem' q hq).1
            rcases hanc i r1 r3 q.1 (okij q.1 i (by omega) r1 (by omega)) with h1 | h1
            · omega
            · rw [hun q hq] at h1; cases h1
          have him : i ∈ l'.map (·.1) := Classical.byContradiction fun hn => by
            have := (hli i r1).2 ⟨hik, hn⟩
            rw [r2] at this; cases this
          obtain ⟨u, hu, hui⟩ := List.mem_map.1 him
          obtain ⟨l1, l2, hl12⟩ := List.append_of_mem hu
          obtain ⟨i', b, o⟩ := u
          simp only at hui
          subst hui
          have hnd' : (l'.map (·.1)).Nodup := (hsub.map _).nodup hnd
          have hpre : ∀ v ∈ l1, v.2.1 = true ∧ (!((ancs [] after).getD i' []).contains v.1) = true := fun v hv => by
            have hvl : v ∈ l' := by rw [hl12]; exact List.mem_append.2 (.inl hv)
            have hnc : ((ancs [] after).getD i' []).contains v.1 = false := by
              cases hb : ((ancs [] after).getD i' []).contains v.1 with
              | false => rfl
              | true =>
                rcases hanc i' r1 r3 v.1 hb with h1 | h1
                · rw [hl12, List.map_append, List.map_cons] at hnd'
                  have := (List.nodup_append.1 hnd').2.2 v.1 (List.mem_map.2 ⟨v, hv, rfl⟩) i' (by simp)
                  exact absurd h1 this
                · rw [hun v hvl] at h1; cases h1
            refine ⟨?_, by rw [hnc]; rfl⟩
            rw [hl12, List.map_append, List.map_cons] at hord
            rcases ordOk_get hord (v.1, v.2.1) (List.mem_map.2 ⟨v, hv, rfl⟩) with h1 | h1
            · simp only at h1; rw [hnc] at h1; cases h1
            · exact h1
          rw [hl12] at hs
          have hh := (hoist l1 [] st' hs hpre).2
          have hst : sstep P o st' (fun st' => srun P (fun i j => !((ancs [] after).getD j []).contains i) (fun st => sops P ml (ss.drop k) st K KP) KC [] (l1 ++ l2) st') fun _ => KC := by
            cases b with
            | true =>
              obtain ⟨G, g1, g2⟩ := hh
              exact sstep_of_leff g1 g2
            | false => exact hh
          have hso := (hmem' _ hu).2
          simp only at hso
          have ho : ops[i']? = some ops[i'] := Array.getElem?_eq_getElem (by omega)
          have hco := hget i' _ _ (by rw [Array.getElem?_toList]; exact ho) hso
          obtain ⟨θ, D, hI⟩ := hr
          have := step_sound (hp := fun ch w' ⟨hch, st'', hk, hrel⟩ => hPC hk ch _ _ ⟨hch, st'', hrel⟩) hI hn hco hst (fun a' w' => wpAny P .any ops Q m (listed.setIfInBounds i' true) a' w') Q (fun a' w' ⟨st'', h1, h2⟩ => by
            have hsub' : (l1 ++ l2).Sublist l' := by rw [hl12]; exact List.Sublist.append_left (List.sublist_cons_self _ _) _
            refine ih (l1 ++ l2) _ st'' a' w' (by simpa using hls) (fun j hj => ?_) (hsub'.trans hsub) ?_ (fun j lj hlj hjl e he => ?_) ?_ h1 h2
            · rw [getD_listed hls r1]
              have hlj := hli j hj
              by_cases hji : j = i'
              · subst hji
                simp only [if_true, true_iff]
                refine ⟨hik, fun hm => ?_⟩
                rw [hl12, List.map_append, List.map_cons] at hnd'
                obtain ⟨n1, n2, n3⟩ := List.nodup_append.1 hnd'
                rw [List.map_append] at hm
                rcases List.mem_append.1 hm with h5 | h5
                · exact n3 _ h5 j (by simp) rfl
                · exact (List.nodup_cons.1 n2).1 h5
              · rw [if_neg hji, hlj, hl12]
                simp only [List.map_append, List.map_cons, List.mem_append, List.mem_cons, hji, false_or]
            · rw [hl12, List.map_append, List.map_cons] at hord
              rw [List.map_append]
              exact ordOk_drop hord
            · rw [getD_listed hls r1] at hjl ⊢
              split at hjl
              · rename_i hji
                subst hji
                split
                · rfl
                · exact r3 lj hlj e he
              · split
                · rfl
                · exact hcl j lj hlj hjl e he
            · rw [hl12] at hcnt
              simp only [List.length_append, List.length_cons] at hcnt ⊢
              omega)
          unfold wpOp
          rw [ho]
          simp only
          split
          · rename_i hw
            rw [if_pos hw] at this
            exact .inl this
          · rename_i hw
            rw [if_neg hw] at this
            exact this
  refine wp_region_any hm ?_
  obtain ⟨θ, D, hI⟩ := hr
  refine phaseA ops.size l (Array.replicate ops.size false) st a { w with drawn := w.drawn + 1 } (by simp [hsz]) (fun i hi => ?_) (List.Sublist.refl _) hord (fun i l hl h2 => by
    have hi : i < ops.size := by have := (List.getElem?_eq_some_iff.1 hl).1; omega
    simp [hi] at h2) (by omega) h ⟨θ, D, hI.drew⟩
  have : (Array.replicate ops.size false).getD i false = false := by simp [hsz, hi]
  rw [this]
  constructor
  · intro h; cases h
  · rintro ⟨h1, h2⟩; exact absurd (hall i h1) h2
end
end Go.Av
namespace Go.Av
open Go Go.RowKit
inductive AC where
  | skip
  | region (ops : List SOper)
  | draw (k : Nat) (ops : List SOper) (after : List (List Nat))
  | draw2 (ord : List (Nat × Bool)) (ops : List SOper) (after : List (List Nat))
  | seq (a b : AC)
  | cond (c : SX) (thn els : AC)
  | block (id : Nat) (body : AC)
  | loop (body : AC)
  | exit (id : Nat)
  | ret
  deriving Inhabited
def dstOk (n : Nat) (d : Option Nat) : Bool := match d with
  | some k => decide (k < n)
  | none => true
def compOperF (P : Program) (n : Nat) (ops : Array Oper) (o : Oper) : Option SOper :=
  (compOp P o).bind fun s =>
    if (dstOk n o.dst && sOk P o) = true then
      match o.guard with
      | none => some ⟨o.dst, s, none⟩
      | some (j, want) => ((ops[j]?).bind (·.dst)).map fun t => ⟨o.dst, s, some (t, want)⟩
    else none
def compCode (P : Program) (n : Nat) : Code → Option AC
  | .skip => some .skip
  | .region _ ops dr => (ops.toList.mapM (compOperF P n ops)).map fun ss => if dr then .draw 0 ss (afterOf ops) else .region ss
  | .seq a b => (compCode P n a).bind fun x => (compCode P n b).map fun y => .seq x y
  | .cond c a b => (compCode P n a).bind fun x => (compCode P n b).map fun y => .cond (.of c) x y
  | .block id a => (compCode P n a).map (.block id)
  | .loop a => (compCode P n a).map .loop
  | .exit id => some (.exit id)
  | .ret => some .ret
  | _ => none
def SOper.canon (o : SOper) : SOper := { o with op := o.op.canon }
def AC.canon : AC → AC
  | .region ops => .region (ops.map SOper.canon)
  | .draw _ ops af => .draw 0 (ops.map SOper.canon) af
  | .draw2 _ ops af => .draw 0 (ops.map SOper.canon) af
  | .seq a b => .seq a.canon b.canon
  | .cond c a b => .cond c a.canon b.canon
  | .block id a => .block id a.canon
  | .loop a => .loop a.canon
  | x => x
def AC.okB : AC → Bool
  | .draw k ops af => lowB af && drawOk ops (ancs [] af) k && decide (k ≤ ops.length)
  | .draw2 ord ops af => lowB af && tailOk ops.length (ancs [] af) ord.length && decide (ord.length ≤ ops.length) && ordOk (ancs [] af) ord && ord.all (fun u => decide (u.1 < ord.length)) && decide (ord.map (·.1)).Nodup
  | .seq a b => a.okB && b.okB
  | .cond _ a b => a.okB && b.okB
  | .block _ a => a.okB
  | .loop a => a.okB
  | _ => true
inductive AE where
  | normal
  | exit (id : Nat)
  | ret
  | pan
def AE.then (m : Nat) (f : St → Prop) (Q : AE → St → Prop) : AE → St → Prop
  | .normal, s => W m f s
  | e, s => Q e s
def AE.inBlock (id : Nat) (Q : AE → St → Prop) : AE → St → Prop
  | .exit i, s => if i = id then Q .normal s else Q (.exit i) s
  | e, s => Q e s
def aloop (m : Nat) (body : (AE → St → Prop) → St → Prop) (Q : AE → St → Prop) : Nat → St → Prop
  | 0, _ => False
  | n + 1, st => body (AE.then m (aloop m body Q n) Q) st
def awp (P : Program) (m : Nat) : AC → (AE → St → Prop) → St → Prop
  | .skip, Q, st => W m (Q .normal) st
  | .region ss, Q, st => sops P m ss st (Q .normal) (Q .pan)
  | .draw k ss _, Q, st => W m (fun st => sdraw P m k ss st (Q .normal) (Q .pan)) st
  | .draw2 ord ss af, Q, st => W m (fun st => srun P (fun i j => !((ancs [] af).getD j []).contains i) (fun st => sops P m (ss.drop ord.length) st (Q .normal) (Q .pan)) (∀ s, Q .pan s) [] (ord.map fun u => (u.1, u.2, ss.getD u.1 default)) st) st
  | .seq a b, Q, st => awp P m a (AE.then m (awp P m b Q) Q) st
  | .cond c a b, Q, st => W m (fun st => bindA (st.get c) fun v => isV v fun v => isBool v fun t => (t = true → awp P m a Q st) ∧ (t = false → awp P m b Q st)) st
  | .block id a, Q, st => awp P m a (AE.inBlock id Q) st
  | .loop a, Q, st => W m (fun s => ∃ n, aloop m (awp P m a) Q n s) st
  | .exit id, Q, st => W m (Q (.exit id)) st
  | .ret, Q, st => W m (Q .ret) st
def AE.is : AE → Exit → Prop
  | .normal, e => e = .normal
  | .exit i, e => e = .exit i
  | .ret, e => e = .ret
  | .pan, e => ∃ ch, Raised ch ∧ e = .panic ch
theorem ac_skip {x : AC} (h : AC.skip = x.canon) : x = .skip := by cases x <;> simp_all [AC.canon]
theorem ac_region {x : AC} {s : List SOper} (h : AC.region s = x.canon) : ∃ ss, x = .region ss ∧ s = ss.map SOper.canon := by cases x <;> simp_all [AC.canon]
theorem ac_draw {x : AC} {s : List SOper} {af : List (List Nat)} (h : AC.draw 0 s af = x.canon) : (∃ k ss, x = .draw k ss af ∧ s = ss.map SOper.canon) ∨ ∃ ord ss, x = .draw2 ord ss af ∧ s = ss.map SOper.canon := by
  cases x <;> simp_all [AC.canon]
  · exact ⟨_, _, ⟨rfl, rfl⟩, rfl⟩
  · exact ⟨_, _, ⟨rfl, rfl⟩, rfl⟩
theorem ac_seq {x p q : AC} (h : AC.seq p q = x.canon) : ∃ a b, x = .seq a b ∧ p = a.canon ∧ q = b.canon := by
  cases x <;> simp_all [AC.canon]
  exact ⟨_, _, ⟨rfl, rfl⟩, rfl, rfl⟩
theorem ac_cond {x p q : AC} {s : SX} (h : AC.cond s p q = x.canon) : ∃ a b, x = .cond s a b ∧ p = a.canon ∧ q = b.canon := by
  cases x <;> simp_all [AC.canon]
  exact ⟨_, _, ⟨rfl, rfl⟩, rfl, rfl⟩
theorem ac_block {x p : AC} {i : Nat} (h : AC.block i p = x.canon) : ∃ a, x = .block i a ∧ p = a.canon := by cases x <;> simp_all [AC.canon]
theorem ac_loop {x p : AC} (h : AC.loop p = x.canon) : ∃ a, x = .loop a ∧ p = a.canon := by cases x <;> simp_all [AC.canon]
theorem ac_exit {x : AC} {i : Nat} (h : AC.exit i = x.canon) : x = .exit i := by cases x <;> simp_all [AC.canon]
theorem ac_ret {x : AC} (h : AC.ret = x.canon) : x = .ret := by cases x <;> simp_all [AC.canon]
section
variable {P : Program} {c : Ctx}
def conc (c : Ctx) (Q : AE → St → Prop) : Exit → Act → World → Prop := fun e a w => ∃ e' st, AE.is e' e ∧ Q e' st ∧ Rel c st a w
theorem conc_then {m : Nat} (hm : c.th.length ≤ m) {f : St → Prop} {Q : AE → St → Prop} {e : Exit} {a : Act} {w : World} (h : conc c (AE.then m f Q) e a w) : Exit.then (fun a w => ∃ st, f st ∧ Rel c st a w) (conc c Q) e a w := by
  obtain ⟨e', st, he, hq, hr⟩ := h
  cases e' with
  | normal => cases he; obtain ⟨s', h1, h2⟩ := hq; exact ⟨s', h2, h1 _ _ _ hm hr⟩
  | exit i => cases he; exact ⟨.exit i, st, rfl, hq, hr⟩
  | ret => cases he; exact ⟨.ret, st, rfl, hq, hr⟩
  | pan => obtain ⟨ch, hch, rfl⟩ := he; exact ⟨.pan, st, ⟨ch, hch, rfl⟩, hq, hr⟩
theorem conc_block {id : Nat} {Q : AE → St → Prop} {e : Exit} {a : Act} {w : World} (h : conc c (AE.inBlock id Q) e a w) : Exit.inBlock id (conc c Q) e a w := by
  obtain ⟨e', st, he, hq, hr⟩ := h
  cases e' with
  | normal => cases he; exact ⟨.normal, st, rfl, hq, hr⟩
  | exit i =>
    cases he
    simp only [Exit.inBlock]
    simp only [AE.inBlock] at hq
    split
    · rename_i h; rw [if_pos h] at hq; exact ⟨.normal, st, rfl, hq, hr⟩
    · rename_i h; rw [if_neg h] at hq; exact ⟨.exit i, st, rfl, hq, hr⟩
  | ret => cases he; exact ⟨.ret, st, rfl, hq, hr⟩
  | pan => obtain ⟨ch, hch, rfl⟩ := he; exact ⟨.pan, st, ⟨ch, hch, rfl⟩, hq, hr⟩
theorem compOperF_ok {n : Nat} {ops : Array Oper} {o : Oper} {s : SOper} (h : compOperF P n ops o = some s.canon) : compOper P n ops o s := by
  unfold compOperF at h
  simp only [Option.bind_eq_some_iff] at h
  obtain ⟨sop, h1, h2⟩ := h
  split at h2
  · rename_i hd
    rw [Bool.and_eq_true] at hd
    obtain ⟨hd, hso⟩ := hd
    have hdst : ∀ k, o.dst = some k → k < n := fun k hk => by rw [hk] at hd; simpa [dstOk] using hd
    unfold compOper
    cases hg : o.guard with
    | none =>
      rw [hg] at h2
      simp only [Option.some.injEq, SOper.canon] at h2
      cases s
      simp only [SOper.mk.injEq] at h2
      obtain ⟨e1, e2, e3⟩ := h2
      exact ⟨⟨by rw [h1, e2], hso⟩, e1.symm, hdst, e3.symm⟩
    | some jw =>
      obtain ⟨j, want⟩ := jw
      rw [hg] at h2
      simp only [Option.map_eq_some_iff] at h2
      obtain ⟨t, ht, h2⟩ := h2
      cases s
      simp only [SOper.canon, SOper.mk.injEq] at h2
      obtain ⟨e1, e2, e3⟩ := h2
      exact ⟨⟨by rw [h1, e2], hso⟩, e1.symm, hdst, t, ht, e3.symm⟩
  · cases h2
theorem compOpsF_ok {n : Nat} {ops : Array Oper} : ∀ {l : List Oper} {ss : List SOper}, l.mapM (compOperF P n ops) = some (ss.map SOper.canon) → compOps P n ops l ss
  | [], ss, h => by
    simp at h
    cases ss with
    | nil => trivial
    | cons s ss => simp at h
  | o :: l, ss, h => by
    simp only [List.mapM_cons, Option.bind_eq_bind, Option.pure_def, Option.bind_eq_some_iff, Option.some.injEq] at h
    obtain ⟨s', h1, m, h2, h3⟩ := h
    cases ss with
    | nil => simp at h3
    | cons s ss =>
      simp only [List.map_cons, List.cons.injEq] at h3
      obtain ⟨rfl, rfl⟩ := h3
      exact ⟨compOperF_ok h1, compOpsF_ok h2⟩
theorem awp_sound (hm : P.follows .mixedOrders = true) {n m : Nat} (hn : c.n = n) (hmm : c.th.length ≤ m) : ∀ (code : Code) (x : AC) (Q : AE → St → Prop) (st : St) (a : Act) (w : World), compCode P n code = some x.canon → x.okB = true → awp P m x Q st → Rel c st a w → code.wp P (conc c Q) a w := by
  intro code
  induction code with
  | skip =>
    intro x Q st a w hc hok h hr
    simp only [compCode, Option.some.injEq] at hc
    cases ac_skip hc
    obtain ⟨s', h1, h2⟩ := h
    exact wp_skip ⟨.normal, s', rfl, h2, h1 _ _ _ hmm hr⟩
  | region id ops dr =>
    intro x Q st a w hc hok h hr
    simp only [compCode, Option.map_eq_some_iff] at hc
    obtain ⟨ss', hss, hc⟩ := hc
    cases dr
    · simp only [Bool.false_eq_true, if_false] at hc
      obtain ⟨ss, rfl, rfl⟩ := ac_region hc
      exact region_sound hn hmm (compOpsF_ok hss) h hr (fun a w ⟨st', h1, h2⟩ => ⟨.normal, st', rfl, h1, h2⟩) (fun ch a w ⟨hch, st', h1, h2⟩ => ⟨.pan, st', ⟨ch, hch, rfl⟩, h1, h2⟩)
    · simp only [if_true] at hc
      rcases ac_draw hc with ⟨k, ss, rfl, rfl⟩ | ⟨ord, ss, rfl, rfl⟩
      rotate_left
      · simp only [AC.okB, Bool.and_eq_true, decide_eq_true_eq, List.all_eq_true] at hok
        obtain ⟨⟨⟨⟨⟨o1, o2⟩, o3⟩, o4⟩, o5⟩, o6⟩ := hok
        obtain ⟨s1, hw1, h⟩ := h
        refine draw2_sound (l := ord.map fun u => (u.1, u.2, ss.getD u.1 default)) hm hn hmm (compOpsF_ok hss) rfl o1 o2 o3 ?_ (fun u hu => ?_) ?_ (by simp) h (hw1 _ _ _ hmm hr) (fun a w ⟨st', h1, h2⟩ => ⟨.normal, st', rfl, h1, h2⟩) (fun ch a w ⟨hch, st', h1, h2⟩ => ⟨.pan, st', ⟨ch, hch, rfl⟩, h1, h2⟩) fun hk ch a w ⟨hch, st', h2⟩ => ⟨.pan, st', ⟨ch, hch, rfl⟩, hk st', h2⟩
        · rw [List.map_map]
          have : ((fun u : Nat × Bool × SOper => (u.1, u.2.1)) ∘ fun u : Nat × Bool => (u.1, u.2, ss.getD u.1 default)) = fun u => u := rfl
          rw [this, List.map_id']; exact o4
        · obtain ⟨v, hv, rfl⟩ := List.mem_map.1 hu
          have := o5 v hv
          refine ⟨this, ?_⟩
          simp only [List.getD]
          rw [List.getElem?_eq_getElem (show v.1 < ss.length by omega)]; rfl
        · rw [List.map_map]
          have : ((·.1) ∘ fun u : Nat × Bool => (u.1, u.2, ss.getD u.1 default)) = (·.1) := rfl
          rw [this]; exact o6
      simp only [AC.okB, Bool.and_eq_true, decide_eq_true_eq] at hok
      obtain ⟨s1, hw1, h⟩ := h
      exact draw_sound hm hn hmm (compOpsF_ok hss) rfl hok.1.1 hok.1.2 hok.2 h (hw1 _ _ _ hmm hr) (fun a w ⟨st', h1, h2⟩ => ⟨.normal, st', rfl, h1, h2⟩) (fun ch a w ⟨hch, st', h1, h2⟩ => ⟨.pan, st', ⟨ch, hch, rfl⟩, h1, h2⟩)
  | seq p q ihp ihq =>
    intro x Q st a w hc hok h hr
    simp only [compCode, Option.bind_eq_some_iff, Option.map_eq_some_iff] at hc
    obtain ⟨x1, h1, x2, h2, hc⟩ := hc
    obtain ⟨y1, y2, rfl, rfl, rfl⟩ := ac_seq hc
    simp only [AC.okB, Bool.and_eq_true] at hok
    refine wp_seq (wp_mono (ihp _ _ st a w h1 hok.1 h hr) fun e a w he => ?_)
    have := conc_then hmm he
    cases e <;> first | (obtain ⟨st', h3, h4⟩ := this; exact ihq _ _ st' a w h2 hok.2 h3 h4) | exact this
  | cond cc p q ihp ihq =>
    intro x Q st a w hc hok h hr
    simp only [compCode, Option.bind_eq_some_iff, Option.map_eq_some_iff] at hc
    obtain ⟨x1, h1, x2, h2, hc⟩ := hc
    obtain ⟨y1, y2, rfl, rfl, rfl⟩ := ac_cond hc
    simp only [AC.okB, Bool.and_eq_true] at hok
    obtain ⟨s1, hw1, av, hav, hv⟩ := h
    have hr0 := hw1 _ _ _ hmm hr
    obtain ⟨θ, D, hI⟩ := hr0
    obtain ⟨t, ht, h3, h4⟩ := relA_isV (hI.get hav) hv
    exact wp_cond_split ht (fun e => ihp _ _ s1 a w h1 hok.1 (h3 e) ⟨θ, D, hI⟩) (fun e => ihq _ _ s1 a w h2 hok.2 (h4 e) ⟨θ, D, hI⟩)
  | block id p ihp =>
    intro x Q st a w hc hok h hr
    simp only [compCode, Option.map_eq_some_iff] at hc
    obtain ⟨x1, h1, hc⟩ := hc
    obtain ⟨y1, rfl, rfl⟩ := ac_block hc
    exact wp_block (wp_mono (ihp _ _ st a w h1 hok h hr) fun e a w he => conc_block he)
  | loop p ihp =>
    intro x Q st a w hc hok h hr
    simp only [compCode, Option.map_eq_some_iff] at hc
    obtain ⟨x1, h1, hc⟩ := hc
    obtain ⟨y, rfl, rfl⟩ := ac_loop hc
    obtain ⟨s0, hw, m0, h⟩ := h
    have key : ∀ (m1 : Nat) (s : St) (a : Act) (w : World), aloop m (awp P m y) Q m1 s → Rel c s a w → Code.rounds P p (conc c Q) m1 a w := by
      intro m1
      induction m1 with
      | zero => intro s a w h _; exact h.elim
      | succ m1 ih =>
        intro s a w h hr
        rw [rounds_succ]
        refine wp_mono (ihp _ _ s a w h1 hok h hr) fun e a w he => ?_
        have := conc_then hmm he
        cases e <;> first | (obtain ⟨st', h3, h4⟩ := this; exact ih st' a w h3 h4) | exact this
    exact wp_loop_rounds m0 (key m0 s0 a w h (hw _ _ _ hmm hr))
  | exit id =>
    intro x Q st a w hc hok h hr
    simp only [compCode, Option.some.injEq] at hc
    cases ac_exit hc
    obtain ⟨s', h1, h2⟩ := h
    exact wp_exit ⟨.exit id, s', rfl, h2, h1 _ _ _ hmm hr⟩
  | ret =>
    intro x Q st a w hc hok h hr
    simp only [compCode, Option.some.injEq] at hc
    cases ac_ret hc
    obtain ⟨s', h1, h2⟩ := h
    exact wp_ret ⟨.ret, s', rfl, h2, h1 _ _ _ hmm hr⟩
  | rangeFunc => intro x Q st a w hc; cases hc
  | scope => intro x Q st a w hc; cases hc
  | label => intro x Q st a w hc; cases hc
  | goto => intro x Q st a w hc; cases hc
  | refuse => intro x Q st a w hc; cases hc
end
inductive RV where
  | tm (k : Nat)
  | cell (k sz : Nat) (ag : Bool)
def compRes (P : Program) : ResultVar → Option RV
  | .tmp t => some (.tm t)
  | .cell a t => (sizeT P t).bind fun s => if (P.underlying t).isSome then some (.cell a s (aggT P t)) else none
def retV (st : St) : RV → Option AV
  | .tm k => look st.fr k
  | .cell k sz ag => (look st.fr k).bind fun
    | .b (.ptr id off) => match st.hp[id]? with
      | some (.box _ cs) => if off + sz ≤ cs.length ∧ (ag = false → sz = 1) then some (ofCells ag ((cs.drop off).take sz)) else none
      | _ => none
    | _ => none
def isRet : List AV → AV → Prop
  | [x], r => r = x
  | xs, r => ∃ bs : List BV, r = .tup bs ∧ bs.length = xs.length ∧ ∀ (i : Nat) (x : AV) (b : BV), xs[i]? = some x → bs[i]? = some b → x = .b b ∨ ∃ p, x.toPV = some p ∧ b = .pv p
def argFr : Nat → List AV → List (Nat × AV)
  | _, [] => []
  | k, p :: ps => (k, p) :: argFr (k + 1) ps
theorem look_argFr : ∀ (ps : List AV) (k t : Nat) (x : AV), look (argFr k ps) t = some x → ∃ i, t = k + i ∧ ps[i]? = some x
  | [], k, t, x, h => by cases h
  | p :: ps, k, t, x, h => by
    simp only [argFr, look] at h
    split at h
    · rename_i h1
      cases h
      exact ⟨0, by omega, rfl⟩
    · obtain ⟨i, h1, h2⟩ := look_argFr ps (k + 1) t x h
      exact ⟨i + 1, by omega, by simpa using h2⟩
def fpost (m : Nat) (rs : List RV) (K : Outc → Prop) : AE → St → Prop
  | .exit _, _ => False
  | .pan, _ => K none
  | _, st => W m (fun st => ∃ xs r, rs.mapM (retV st) = some xs ∧ isRet xs r ∧ ∃ r' os', (∀ T, Weak m ⟨[(T, r)], st.hp⟩ ⟨[(T, r')], os'⟩) ∧ K (some (r', os')) ∧ m ≤ os'.length) st
def resM (tmps : Array Value) (r : ResultVar) : Sem Value := match r with
  | .tmp t => pure (tmps.getD t undef)
  | .cell b t => do loadVar t (← asAddr (tmps.getD b undef))
theorem results_eq (fn : Func) (tmps : Array Value) : results fn tmps = (do let vs ← fn.results.mapM (resM tmps); pure (if h : vs.size = 1 then vs[0] else .tuple vs)) := rfl
theorem run_retV {P : Program} {c : Ctx} {θ : List Loc} {D : Nat → Prop} {st : St} {a : Act} {w : World} (hI : Inv c θ D st a w) {r : ResultVar} {rv : RV} {x : AV} (hc : compRes P r = some rv) (hr : retV st rv = some x) :
    ∃ u, (resM a.tmps r).run P w = .ok u w ∧ RelA θ D w u x := by
  cases r with
  | tmp t =>
    simp only [compRes, Option.some.injEq] at hc
    subst hc
    exact ⟨_, rfl, hI.fr t x hr⟩
  | cell b t =>
    simp only [compRes, Option.bind_eq_some_iff] at hc
    obtain ⟨s, hs, hc⟩ := hc
    split at hc
    · rename_i hd
      obtain ⟨d, hd⟩ := Option.isSome_iff_exists.1 hd
      cases hc
      simp only [retV, Option.bind_eq_some_iff] at hr
      obtain ⟨y, hy, hr⟩ := hr
      split at hr
      · rename_i id off
        split at hr
        · rename_i t' cs ho
          split at hr
          · rename_i hcond
            cases hr
            obtain ⟨hle, hag⟩ := hcond
            obtain ⟨g, hg, he⟩ := hI.fr b _ hy
            obtain ⟨cv, h1, h2, h3⟩ := hI.ok.objs id _ _ hg ho
            have hle' : off + s ≤ cv.size := by omega
            have hr' := run_loadVar (P := P) (w := w) (b := g) (o := off) hd hs (cv.extract off (off + s)).toList (by simp; omega) hag (fun j v hj => by
              rw [cell_of_row w g _ cv t' (0, 0) h1]
              simp only [Array.getElem?_toList, Array.getElem?_extract] at hj
              split at hj
              · exact hj
              · cases hj)
            rw [partV_whole _ _ _ _ hag hle'] at hr'
            refine ⟨_, ?_, relA_ofCells h2 h3 hle hag⟩
            simp only [resM, he, asAddr, Sem.run_bind, Sem.run_pure, Result.andThen_ok, hr']
          · cases hr
        · cases hr
      · cases hr
    · cases hc
theorem relA_ret {θ : List Loc} {D : Nat → Prop} {w : World} {ul : List Value} {xs : List AV} {r : AV} (hl : ul.length = xs.length) (h : ∀ (i : Nat) (u : Value) (x : AV), ul[i]? = some u → xs[i]? = some x → RelA θ D w u x) (hr : isRet xs r) :
    RelA θ D w (if h : ul.toArray.size = 1 then ul.toArray[0] else .tuple ul.toArray) r := by
  have many : xs.length ≠ 1 → (∃ bs : List BV, r = .tup bs ∧ bs.length = xs.length ∧ ∀ (i : Nat) (x : AV) (b : BV), xs[i]? = some x → bs[i]? = some b → x = .b b ∨ ∃ p, x.toPV = some p ∧ b = .pv p) → RelA θ D w (if h : ul.toArray.size = 1 then ul.toArray[0] else .tuple ul.toArray) r := by
    rintro h1 ⟨bs, rfl, hbl, hbs⟩
    rw [dif_neg (by simp; omega)]
    refine ⟨_, rfl, by simp; omega, fun i u b hu hb => ?_⟩
    obtain ⟨x, hx⟩ := getElem?_of_len (l := xs) hbl.symm hb
    have hux := h i u x (by simpa using hu) hx
    rcases hbs i x b hx hb with rfl | ⟨p, hp, rfl⟩
    · exact hux
    · exact relA_toPV hux hp
  match xs, hl, h, hr with
  | [x], hl, h, hr =>
    simp only [isRet] at hr
    subst hr
    match ul, hl, h with
    | [u], _, h => exact h 0 u r rfl rfl
  | [], _, _, hr => exact many (by simp) hr
  | x :: y :: l, _, _, hr => exact many (by simp) hr
theorem acalls_of {P : Program} {f : FuncId} {fn : Func} {code : Code} {x : AC} {rs : List RV} {xs : List AV} {os : List AObj} {K : Outc → Prop} (hm : P.follows .mixedOrders = true) (hf : P.funcs[f]? = some fn) (hb : fn.body = some code) (hc : compCode P fn.ntmps code = some x.canon) (hok : x.okB = true)
    (hres : fn.results.toList.mapM (compRes P) = some rs) (hlen : xs.length ≤ fn.ntmps) (h : awp P os.length x (fpost os.length rs K) ⟨argFr 0 xs, os⟩) : ACalls P f xs os K := by
  intro w θ D vs hG hokθ hvl hvs
  have hθl : θ.length = os.length := hokθ.len
  have hO : ∀ b, D b → ¬ owns θ b := fun b hb ⟨i, l, hi, hl⟩ => (hokθ.olt i l b hi hl).2 hb
  refine calls_of_wp hf hb (wp_mono (awp_sound hm (m := os.length) (c := ⟨fn.ntmps, w, D, owns θ, [], θ, fun w' hk => ?_⟩) rfl (by simp [hθl]) code x _ ⟨argFr 0 xs, os⟩ { tmps := vs.toArray ++ Array.replicate (fn.ntmps - vs.toArray.size) undef, defers := [] } w hc hok h ?_) fun e a w' he => ?_)
  · exact hG.mono hk hO fun _ h => h
  · refine ⟨θ, D, by simp; omega, rfl, hokθ, Keep.refl _ _, fun _ h => h, fun _ h => .inl h, fun i l g hi hg => .inl ⟨i, l, hi, hg⟩, fun k y hk => ?_, fun _ _ h _ => h⟩
    obtain ⟨i, rfl, hp⟩ := look_argFr xs 0 k y hk
    have hi : i < vs.length := by rw [hvl]; exact (List.getElem?_eq_some_iff.1 hp).1
    have hv := List.getElem?_eq_getElem hi
    have : (vs.toArray ++ Array.replicate (fn.ntmps - vs.toArray.size) undef).getD (0 + i) undef = vs[i] := by
      simp [Array.getElem?_append, hi]
    rw [this]
    exact hvs i _ y hv hp
  · obtain ⟨e', st, he, hq, hr⟩ := he
    have fin : (∀ st, fpost os.length rs K .normal st → True) → W os.length (fun st => ∃ xs r, rs.mapM (retV st) = some xs ∧ isRet xs r ∧ ∃ r' os', (∀ T, Weak os.length ⟨[(T, r)], st.hp⟩ ⟨[(T, r')], os'⟩) ∧ K (some (r', os')) ∧ os.length ≤ os'.length) st →
        a.defers = [] ∧ ∃ v, (results fn a.tmps).run P w' = .ok v w' ∧ Back θ D w K (.returned v) w' := by
      rintro _ ⟨st', hw, ys, r, hys, hret, r', os', hwk, hK, hle⟩
      obtain ⟨θ', D', hI⟩ := hw _ _ _ (by simp [hθl]) hr
      refine ⟨hI.defers, ?_⟩
      have each : ∀ (l : List ResultVar) (rl : List RV) (pl : List AV), l.mapM (compRes P) = some rl → rl.mapM (retV st') = some pl → ∃ ul : List Value, (l.mapM (resM a.tmps)).run P w' = .ok ul w' ∧ ul.length = pl.length ∧ ∀ (i : Nat) (u : Value) (q : AV), ul[i]? = some u → pl[i]? = some q → RelA θ' D' w' u q := by
        intro l
        induction l with
        | nil =>
          intro rl pl h1 h2
          simp at h1; subst h1
          simp at h2; subst h2
          exact ⟨[], rfl, rfl, fun i u q hu => by simp at hu⟩
        | cons r l ih =>
          intro rl pl h1 h2
          simp only [List.mapM_cons, Option.bind_eq_bind, Option.pure_def, Option.bind_eq_some_iff, Option.some.injEq] at h1
          obtain ⟨rv, hrv, rl', hrl, rfl⟩ := h1
          simp only [List.mapM_cons, Option.bind_eq_bind, Option.pure_def, Option.bind_eq_some_iff, Option.some.injEq] at h2
          obtain ⟨q0, hq0, pl', hpl, rfl⟩ := h2
          obtain ⟨u0, e1, e2⟩ := run_retV hI hrv hq0
          obtain ⟨ul, e3, e4, e5⟩ := ih rl' pl' hrl hpl
          refine ⟨u0 :: ul, ?_, by simp [e4], fun i u q hu hq => ?_⟩
          · rw [List.mapM_cons, Sem.run_bind, e1]
            simp only [Result.andThen_ok, Sem.run_bind, e3, Sem.run_pure]
          · cases i with
            | zero => simp at hu hq; subst hu; subst hq; exact e2
            | succ i => exact e5 i u q (by simpa using hu) (by simpa using hq)
      obtain ⟨ul, e1, e2, e3⟩ := each _ _ _ hres hys
      have hrun : (results fn a.tmps).run P w' = .ok (if h : ul.toArray.size = 1 then ul.toArray[0] else .tuple ul.toArray) w' := by
        rw [results_eq, Array.mapM_eq_mapM_toList]
        simp only [Sem.run_bind, Sem.run_map]
        rw [e1]
        rfl
      have hrr := relA_ret e2 e3 hret
      generalize hv : (if h : ul.toArray.size = 1 then ul.toArray[0] else .tuple ul.toArray) = v at hrun hrr
      have hsz : a.tmps.size = fn.ntmps := hI.size
      obtain ⟨θ2, D2, hJ⟩ := hwk fn.ntmps ⟨fn.ntmps + 1, w, D, owns θ, [], θ, fun w' hk => hG.mono hk hO fun _ h => h⟩ { tmps := a.tmps.push v, defers := [] } w' (by simp [hθl])
        ⟨θ', D', by simp [hsz], rfl, hI.ok, hI.keep, hI.dsub, hI.dnew, hI.onew, (fun k y hk => by
          simp only [look] at hk
          split at hk
          · rename_i hkT
            cases hk
            subst hkT
            have : (a.tmps.push v).getD fn.ntmps undef = v := by rw [← hsz]; simp [Array.getD]
            rw [this]; exact hrr
          · cases hk), hI.fix⟩
      have hr' : RelA θ2 D2 w' v r' := by
        have := hJ.fr fn.ntmps r' (by simp [look])
        have e : (a.tmps.push v).getD fn.ntmps undef = v := by rw [← hsz]; simp [Array.getD]
        rw [e] at this
        exact this
      exact ⟨_, hrun, .inl ⟨_, r', os', θ2, D2, rfl, hK, hr', hJ.ok, hJ.keep, hJ.dsub, hJ.dnew, hJ.onew, hJ.fix, by rw [hJ.ok.len, hθl]; exact hle⟩⟩
    cases e' with
    | normal => cases he; exact fin (fun _ _ => trivial) hq
    | ret => cases he; exact fin (fun _ _ => trivial) hq
    | exit i => exact hq.elim
    | pan =>
      obtain ⟨ch, hch, rfl⟩ := he
      obtain ⟨θ', D', hI⟩ := hr
      exact ⟨hI.defers, .inr ⟨ch, hch, rfl, hq, hI.keep⟩⟩
end Go.Av
namespace Go.Av
open Go Go.RowKit
def Loc.like (l l' : Loc) : Prop := l' = l ∨ ∃ g n cap sz O O', l = .hdr g n cap sz O ∧ l' = .hdr g n cap sz O'
section
variable {θ θ' : List Loc} {D : Nat → Prop} {w : World}
theorem RelB.like (hθ : ∀ (k : Nat) (l : Loc), θ[k]? = some l → ∃ l', θ'[k]? = some l' ∧ l.like l') {v : Value} {x : BV} (h : RelB θ D w v x) : RelB θ' D w v x := by
  have same : ∀ (k : Nat) (l : Loc), θ[k]? = some l → l.fixed = true → θ'[k]? = some l := fun k l hl hf => by
    obtain ⟨l', h1, h2 | ⟨g, n, cap, sz, O, O', rfl, rfl⟩⟩ := hθ k l hl
    · rw [h1, h2]
    · cases hf
  cases x with
  | pv p => exact h
  | nils => exact h
  | sl k =>
    obtain ⟨l, h1, h2⟩ := h
    obtain ⟨l', h3, rfl | ⟨g, n, cap, sz, O, O', rfl, rfl⟩⟩ := hθ k l h1
    · exact ⟨l', h3, h2⟩
    · exact ⟨_, h3, h2⟩
  | ptr k off => obtain ⟨g, h1, h2⟩ := h; exact ⟨g, same _ _ h1 rfl, h2⟩
  | elt k i off =>
    obtain ⟨g, n, cap, sz, O, h1, h2⟩ := h
    obtain ⟨l', h3, rfl | ⟨g', n', cap', sz', O1, O2, e1, rfl⟩⟩ := hθ k _ h1
    · exact ⟨g, n, cap, sz, O, h3, h2⟩
    · cases e1; exact ⟨g, n, cap, sz, O2, h3, h2⟩
  | clo f ids => obtain ⟨gs, h1, h2, h3⟩ := h; exact ⟨gs, h1, fun k id g e1 e2 => same _ _ (h2 k id g e1 e2) rfl, h3⟩
  | mp k => obtain ⟨g, h1, h2⟩ := h; exact ⟨g, same _ _ h1 rfl, h2⟩
  | full p => exact h
  | ifc => exact h
theorem RelA.like (hθ : ∀ (k : Nat) (l : Loc), θ[k]? = some l → ∃ l', θ'[k]? = some l' ∧ l.like l') {v : Value} {x : AV} (h : RelA θ D w v x) : RelA θ' D w v x := by
  cases x with
  | b x => exact RelB.like hθ h
  | agg xs => obtain ⟨vs, hv, h1, h2⟩ := h; exact ⟨vs, hv, h1, fun i u x hu hx => (h2 i u x hu hx).like hθ⟩
  | tup xs => obtain ⟨vs, hv, h1, h2⟩ := h; exact ⟨vs, hv, h1, fun i u x hu hx => (h2 i u x hu hx).like hθ⟩
theorem RelO.like (hθ : ∀ (k : Nat) (l : Loc), θ[k]? = some l → ∃ l', θ'[k]? = some l' ∧ l.like l') {l : Loc} {o : AObj} (h : RelO θ D w l o) : RelO θ' D w l o := by
  cases l <;> cases o <;> simp only [RelO] at h ⊢ <;> try exact h
  case blk.box => obtain ⟨c, h1, h2, h3⟩ := h; exact ⟨c, h1, h2, fun i u x hu hx => (h3 i u x hu hx).like hθ⟩
  case hdr.tree hole =>
    obtain ⟨h1, h2, h3, h4, h5, c, Os, h6, h7, h8, h9, h11, h10⟩ := h
    refine ⟨h1, h2, h3, h4, h5, c, Os, h6, h7, h8, h9, h11, fun i j x y hx hy => ?_⟩
    obtain ⟨u, e1, e2⟩ := h10 i j x y hx hy
    refine ⟨u, e1, ?_⟩
    cases hq : holeAt hole i j with
    | none => rw [hq] at e2; exact e2
    | some b => rw [hq] at e2; exact e2.like hθ
end
theorem allF_at : ∀ {k : K}, k.allF = true → ∀ j, k.at j = none
  | .e, _, _ => rfl
  | .f _, _, 0 => rfl
  | .f r, h, j + 1 => allF_at (k := r) h j
  | .s _ _ _ _, h, _ => by cases h
def innerO (q : TypeId × Nat × K) (L : List PV) : AObj := if q.2.2.allF then .vec q.1 q.2.1 L else .tree q.1 q.2.1 q.2.2 L none
theorem RelT.inner {D : Nat → Prop} {w : World} {q : TypeId × Nat × K} {O : Nat → Prop} {v : Value} {p : PV} {L : List PV} (h : RelT D w (some q) O v p) (hp : p = lst q.2.1 L) :
    ∃ l : Loc, l.head v ∧ (∀ b, l.has b → O b) ∧ l.fixed = false ∧ ∀ θ, RelO θ D w l (innerO q L) := by
  cases h with
  | nil q O a =>
    have : L = [] := by cases L with | nil => rfl | cons x L => simp [lst] at hp
    subst this
    refine ⟨.nil a, rfl, fun _ h => h.elim, rfl, fun θ => ?_⟩
    unfold innerO
    split
    · rfl
    · exact ⟨rfl, rfl⟩
  | hdr e sz k O g cap xs p cs val Os hp' hcap hmax hsz hg hcs hOg hOs hdj hc hr =>
    have : xs = L := lst_inj (hp'.symm.trans hp)
    subst this
    refine ⟨.hdr g xs.length cap sz (fun b => O b ∧ b ≠ g), rfl, fun b hb => hb.elim (fun e => e ▸ hOg) fun h => h.1, rfl, fun θ => ?_⟩
    unfold innerO
    split
    · rename_i hk
      refine ⟨rfl, rfl, hcap, hmax, hsz, cs, hg, hcs, fun i j x y hx hy => ⟨val i j, hc i j x y hx hy, ?_⟩⟩
      have := hr i j x y hx hy
      rw [allF_at hk j] at this
      cases this with | flat _ _ _ h => exact h
    · exact ⟨rfl, rfl, hcap, hmax, hsz, cs, Os, hg, hcs, fun i j b hb => ⟨hOs i j b hb, (hOs i j b hb).2⟩, hdj, fun _ _ _ h => (nomatch h), fun i j x y hx hy => ⟨val i j, hc i j x y hx hy, hr i j x y hx hy⟩⟩
theorem choose2 {α β : Type} [Inhabited α] {p : Nat → Nat → α → Prop} {q : Nat → Nat → β → Prop} (h : ∀ i j y, q i j y → ∃ u, p i j u) : ∃ f : Nat → Nat → α, ∀ i j y, q i j y → p i j (f i j) := by
  refine ⟨fun i j => Classical.epsilon (p i j), fun i j y hy => ?_⟩
  exact Classical.epsilon_spec (h i j y hy)
theorem RelT.outer {θ : List Loc} {D : Nat → Prop} {w : World} {q : TypeId × Nat × K} {L : List PV} {l : Loc} {v : Value} (hl : l.head v) (h : RelO θ D w l (innerO q L)) : RelT D w (some q) l.has v (lst q.2.1 L) := by
  unfold innerO at h
  split at h
  · rename_i hk
    cases l <;> simp only [RelO, Loc.head] at h hl
    · subst h; subst hl; exact .nil _ _ _
    · rename_i g n cap s O
      obtain ⟨rfl, rfl, h3, h4, h5, cs, h6, h7, h8⟩ := h
      subst hl
      obtain ⟨val, hval⟩ := choose2 (α := Value) (β := PV × PV) (p := fun i j u => ∀ x y, L[i]? = some x → x.cells[j]? = some y → cs[i * q.2.1 + j]? = some u ∧ RelP D w u y) (q := fun i j z => L[i]? = some z.1 ∧ z.1.cells[j]? = some z.2) (fun i j z hz => by
        obtain ⟨u, e1, e2⟩ := h8 i j _ _ hz.1 hz.2
        exact ⟨u, fun x y hx hy => by rw [hz.1] at hx; cases hx; rw [hz.2] at hy; cases hy; exact ⟨e1, e2⟩⟩)
      exact .hdr q.1 q.2.1 q.2.2 _ g cap L _ cs val (fun _ _ _ => False) rfl h3 h4 h5 h6 h7 (.inl rfl) (fun _ _ _ h => h.elim) (fun _ _ _ _ _ h _ => h.elim)
        (fun i j x y hx hy => (hval i j (x, y) ⟨hx, hy⟩ x y hx hy).1) fun i j x y hx hy => by rw [allF_at hk j]; exact .flat _ _ _ (hval i j (x, y) ⟨hx, hy⟩ x y hx hy).2
  · cases l <;> simp only [RelO, Loc.head] at h hl
    · obtain ⟨rfl, -⟩ := h; subst hl; exact .nil _ _ _
    · rename_i g n cap s O
      obtain ⟨rfl, rfl, h3, h4, h5, cs, Os, h6, h7, h9, h10, -, h8⟩ := h
      subst hl
      obtain ⟨val, hval⟩ := choose2 (α := Value) (β := PV × PV) (p := fun i j u => ∀ x y, L[i]? = some x → x.cells[j]? = some y → cs[i * q.2.1 + j]? = some u ∧ RelT D w (q.2.2.at j) (Os i j) u y) (q := fun i j z => L[i]? = some z.1 ∧ z.1.cells[j]? = some z.2) (fun i j z hz => by
        obtain ⟨u, e1, e2⟩ := h8 i j _ _ hz.1 hz.2
        exact ⟨u, fun x y hx hy => by rw [hz.1] at hx; cases hx; rw [hz.2] at hy; cases hy; exact ⟨e1, e2⟩⟩)
      exact .hdr q.1 q.2.1 q.2.2 _ g cap L _ cs val Os rfl h3 h4 h5 h6 h7 (.inl rfl) (fun i j b h => ⟨.inr (h9 i j b h).1, (h9 i j b h).2⟩) h10
        (fun i j x y hx hy => (hval i j (x, y) ⟨hx, hy⟩ x y hx hy).1) fun i j x y hx hy => (hval i j (x, y) ⟨hx, hy⟩ x y hx hy).2
theorem weak_focus {m : Nat} {st : St} {id i j e sz : Nat} {k : K} {xs : List PV} {x y : PV} {q : TypeId × Nat × K} {L : List PV} (ho : st.hp[id]? = some (.tree e sz k xs none)) (hx : xs[i]? = some x) (hy : x.cells[j]? = some y) (hk : k.at j = some q) (hL : y = lst q.2.1 L) :
    Weak m st ⟨st.fr, st.hp.set id (.tree e sz k xs (some (i, j, .sl st.hp.length))) ++ [innerO q L]⟩ := by
  rintro c a w _ ⟨θ, D, hI⟩
  have hlt' : id < st.hp.length := (List.getElem?_eq_some_iff.1 ho).1
  have hlt : id < θ.length := by rw [hI.ok.len]; exact hlt'
  obtain ⟨l, hl⟩ : ∃ l, θ[id]? = some l := ⟨θ[id], List.getElem?_eq_getElem hlt⟩
  have hro := hI.ok.objs id l _ hl ho
  cases l <;> simp only [RelO] at hro
  · rw [hro.1] at hx; simp at hx
  rename_i g n cap s O
  obtain ⟨rfl, rfl, h3, h4, h5, cv, Os, h6, h7, h8, h9, -, h10⟩ := hro
  obtain ⟨u, hu1, hu2⟩ := h10 i j x y hx hy
  simp only [holeAt] at hu2
  rw [hk] at hu2
  obtain ⟨li, hli1, hli2, hli3, hli4⟩ := hu2.inner hL
  let O1 : Nat → Prop := fun b => O b ∧ ¬ Os i j b
  let l1 : Loc := .hdr g xs.length cap s O1
  let θ' := θ.set id l1 ++ [li]
  have hlen : (θ.set id l1).length = st.hp.length := by simp [hI.ok.len]
  have hlike : ∀ (k : Nat) (l : Loc), θ[k]? = some l → ∃ l', θ'[k]? = some l' ∧ l.like l' := fun k l hkl => by
    have hkk : k < (θ.set id l1).length := by simp; exact (List.getElem?_eq_some_iff.1 hkl).1
    by_cases hki : k = id
    · subst hki
      rw [hl] at hkl; cases hkl
      exact ⟨l1, by show (θ.set k l1 ++ [li])[k]? = _; rw [List.getElem?_append_left hkk, List.getElem?_set_self hlt], .inr ⟨g, xs.length, cap, s, O, O1, rfl, rfl⟩⟩
    · exact ⟨l, by show (θ.set id l1 ++ [li])[k]? = _; rw [List.getElem?_append_left hkk, List.getElem?_set_ne (Ne.symm hki)]; exact hkl, .inl rfl⟩
  have hcase : ∀ (p : Nat) (lp : Loc), θ'[p]? = some lp → (p ≠ id ∧ θ[p]? = some lp) ∨ (p = id ∧ lp = l1) ∨ (p = st.hp.length ∧ lp = li) := fun p lp hp => by
    rcases Nat.lt_or_ge p (θ.set id l1).length with h1 | h1
    · have hp' : (θ.set id l1)[p]? = some lp := by rw [← hp]; exact (List.getElem?_append_left h1).symm
      by_cases hpi : p = id
      · subst hpi; rw [List.getElem?_set_self hlt] at hp'; cases hp'; exact .inr (.inl ⟨rfl, rfl⟩)
      · rw [List.getElem?_set_ne (Ne.symm hpi)] at hp'; exact .inl ⟨hpi, hp'⟩
    · have hp' : ([li] : List Loc)[p - (θ.set id l1).length]? = some lp := by rw [← hp]; exact (List.getElem?_append_right h1).symm
      have h0 : p - (θ.set id l1).length = 0 := by
        rcases Nat.eq_zero_or_pos (p - (θ.set id l1).length) with h2 | h2
        · exact h2
        · rw [List.getElem?_eq_none (show [li].length ≤ _ from h2)] at hp'; cases hp'
      rw [h0] at hp'; cases hp'
      exact .inr (.inr ⟨by omega, rfl⟩)
  have hown : ∀ (p : Nat) (lp : Loc) (b : Nat), θ'[p]? = some lp → lp.has b → ∃ p0 l0, θ[p0]? = some l0 ∧ l0.has b ∧ ((p ≠ id ∧ p < st.hp.length ∧ p0 = p) ∨ (p0 = id ∧ ((p = id ∧ ¬ Os i j b) ∨ (p = st.hp.length ∧ Os i j b)))) := fun p lp b hp hb => by
    rcases hcase p lp hp with ⟨h1, h2⟩ | ⟨rfl, rfl⟩ | ⟨rfl, rfl⟩
    · exact ⟨p, lp, h2, hb, .inl ⟨h1, by rw [← hI.ok.len]; exact (List.getElem?_eq_some_iff.1 h2).1, rfl⟩⟩
    · refine ⟨_, _, hl, hb.imp (fun h => h) fun h => h.1, .inr ⟨rfl, .inl ⟨rfl, fun h => ?_⟩⟩⟩
      rcases hb with rfl | hb
      · exact (h8 i j _ h).2 rfl
      · exact hb.2 h
    · exact ⟨_, _, hl, .inr (h8 i j b (hli2 b hb)).1, .inr ⟨rfl, .inr ⟨rfl, hli2 b hb⟩⟩⟩
  refine ⟨θ', D, hI.size, hI.defers, ⟨?_, hI.ok.dlt, fun p r lp lr b hp hr hbp hbr => ?_, fun p lp b hp hb => ?_, fun p lp o hp hop => ?_⟩, hI.keep, hI.dsub, hI.dnew, fun p lp b hp hb => ?_, fun t z hz => (hI.fr t z hz).like hlike, fun t lt ht hf => ?_⟩
  · simp [θ', hI.ok.len]
  · obtain ⟨p0, l0, e1, e2, e3⟩ := hown p lp b hp hbp
    obtain ⟨r0, m0, f1, f2, f3⟩ := hown r lr b hr hbr
    have := hI.ok.inj p0 r0 l0 m0 b e1 f1 e2 f2
    subst this
    rcases e3 with ⟨a1, a2, rfl⟩ | ⟨a0, ⟨a1, a2⟩ | ⟨a1, a2⟩⟩ <;> rcases f3 with ⟨b1, b2, b3⟩ | ⟨b0, ⟨b1, b2⟩ | ⟨b1, b2⟩⟩
    · exact b3
    · exact absurd b0 a1
    · exact absurd b0 a1
    · subst b3; exact absurd a0 b1
    · rw [a1, b1]
    · exact absurd b2 a2
    · subst b3; exact absurd a0 b1
    · exact absurd a2 b2
    · rw [a1, b1]
  · obtain ⟨p0, l0, e1, e2, _⟩ := hown p lp b hp hb
    exact hI.ok.olt p0 l0 b e1 e2
  · have hhl : (st.hp.set id (.tree e s k xs (some (i, j, .sl st.hp.length)))).length = st.hp.length := by simp
    rcases hcase p lp hp with ⟨h1, h2⟩ | ⟨rfl, rfl⟩ | ⟨rfl, rfl⟩
    · have hpl : p < st.hp.length := by rw [← hI.ok.len]; exact (List.getElem?_eq_some_iff.1 h2).1
      have hop' : (st.hp.set id (.tree e s k xs (some (i, j, .sl st.hp.length))))[p]? = some o := by rw [← hop]; exact (List.getElem?_append_left (by rw [hhl]; exact hpl)).symm
      rw [List.getElem?_set_ne (Ne.symm h1)] at hop'
      exact (hI.ok.objs p lp o h2 hop').like hlike
    · have hop' : (st.hp.set p (.tree e s k xs (some (i, j, .sl st.hp.length))))[p]? = some o := by rw [← hop]; exact (List.getElem?_append_left (by rw [hhl]; exact hlt')).symm
      rw [List.getElem?_set_self hlt'] at hop'
      cases hop'
      refine ⟨rfl, rfl, h3, h4, h5, cv, fun i' j' b => Os i' j' b ∧ ¬ (i' = i ∧ j' = j), h6, h7, fun i' j' b hb => ⟨⟨(h8 i' j' b hb.1).1, fun h => hb.2 (h9 i' j' i j b hb.1 h)⟩, (h8 i' j' b hb.1).2⟩, fun i1 j1 i2 j2 b hb1 hb2 => h9 i1 j1 i2 j2 b hb1.1 hb2.1, fun i' j' b hb => by
        cases hb; exact ⟨(List.getElem?_eq_some_iff.1 hx).1, by rw [hk]; rfl⟩, fun i' j' x' y' hx' hy' => ?_⟩
      obtain ⟨u', e1, e2⟩ := h10 i' j' x' y' hx' hy'
      refine ⟨u', e1, ?_⟩
      by_cases hij : i = i' ∧ j = j'
      · obtain ⟨rfl, rfl⟩ := hij
        simp only [holeAt, and_self, if_true]
        rw [hu1] at e1; cases e1
        exact ⟨li, by show (θ.set p l1 ++ [li])[st.hp.length]? = _; rw [List.getElem?_append_right (by rw [hlen]; omega), hlen]; simp, hli1⟩
      · simp only [holeAt, if_neg hij]
        simp only [holeAt] at e2
        refine e2.mono (fun _ h => h) (fun _ _ => rfl) (fun _ _ => rfl) |>.wide fun b hb => ⟨hb, fun h => hij ⟨h.1.symm, h.2.symm⟩⟩
    · have hop' : ([innerO q L] : List AObj)[st.hp.length - (st.hp.set id (.tree e s k xs (some (i, j, .sl st.hp.length)))).length]? = some o := by rw [← hop]; exact (List.getElem?_append_right (by rw [hhl]; omega)).symm
      rw [hhl, Nat.sub_self] at hop'
      cases hop'
      exact hli4 _
  · obtain ⟨p0, l0, e1, e2, _⟩ := hown p lp b hp hb
    exact hI.onew p0 l0 b e1 e2
  · have h1 := hI.fix t lt ht hf
    by_cases hti : t = id
    · subst hti; rw [hl] at h1; cases h1; cases hf
    · show (θ.set id l1 ++ [li])[t]? = _
      rw [List.getElem?_append_left (by simp; exact (List.getElem?_eq_some_iff.1 h1).1), List.getElem?_set_ne (Ne.symm hti)]; exact h1
def PV.setc (x : PV) (j : Nat) (y : PV) : PV := match x with
  | .agg cs => .agg (cs.set j y)
  | _ => y
theorem setc_cells {x y : PV} {j : Nat} (hj : j < x.cells.length) (hy : y.cells = [y]) : (x.setc j y).cells = x.cells.set j y := by
  cases x with
  | agg cs => rfl
  | _ =>
    simp only [PV.cells, List.length_cons, List.length_nil] at hj
    obtain rfl : j = 0 := by omega
    exact hy
theorem lst_cells (sz : Nat) (L : List PV) : (lst sz L).cells = [lst sz L] := by cases L <;> rfl
theorem weak_close {m : Nat} {st : St} {id kid i j e sz : Nat} {k : K} {xs : List PV} {x : PV} {q : TypeId × Nat × K} {L : List PV} (ho : st.hp[id]? = some (.tree e sz k xs (some (i, j, .sl kid)))) (hx : xs[i]? = some x) (hj : j < x.cells.length) (hk : k.at j = some q) (hkid : st.hp[kid]? = some (innerO q L)) (hne : kid ≠ id) :
    Weak m st ⟨st.fr.map fun x => (x.1, x.2.kill kid), ((st.hp.map (AObj.kill kid)).set kid .gone).set id (.tree e sz k (xs.set i (x.setc j (lst q.2.1 L))) none)⟩ := by
  rintro c a w _ ⟨θ, D, hI⟩
  have hlt' : id < st.hp.length := (List.getElem?_eq_some_iff.1 ho).1
  have hklt' : kid < st.hp.length := (List.getElem?_eq_some_iff.1 hkid).1
  have hlt : id < θ.length := by rw [hI.ok.len]; exact hlt'
  have hklt : kid < θ.length := by rw [hI.ok.len]; exact hklt'
  obtain ⟨l, hl⟩ : ∃ l, θ[id]? = some l := ⟨θ[id], List.getElem?_eq_getElem hlt⟩
  obtain ⟨l2, hl2⟩ : ∃ l, θ[kid]? = some l := ⟨θ[kid], List.getElem?_eq_getElem hklt⟩
  have hro := hI.ok.objs id l _ hl ho
  have hro2 := hI.ok.objs kid l2 _ hl2 hkid
  cases l <;> simp only [RelO] at hro
  · cases hro.2
  rename_i g n cap s O
  obtain ⟨rfl, rfl, h3, h4, h5, cv, Os, h6, h7, h8, h9, h11, h10⟩ := hro
  have hi : i < xs.length := (List.getElem?_eq_some_iff.1 hx).1
  obtain ⟨u, hu1, hu2⟩ := h10 i j x _ hx (List.getElem?_eq_getElem hj)
  simp only [holeAt, and_self, if_true] at hu2
  obtain ⟨l2', hl2', hhead⟩ := hu2
  rw [hl2] at hl2'; cases hl2'
  have hout := RelT.outer hhead hro2
  have hfx2 : l2.fixed = false := by
    unfold innerO at hro2
    split at hro2 <;> cases l2 <;> simp only [RelO] at hro2 <;> rfl
  have hnb : ∀ g, l2 ≠ .blk g := fun g e => by subst e; cases hfx2
  have hnm : ∀ g, l2 ≠ .mp g := fun g e => by subst e; cases hfx2
  let O1 : Nat → Prop := fun b => O b ∨ l2.has b
  let l1 : Loc := .hdr g xs.length cap s O1
  let θ1 := θ.set kid .no
  let θ' := θ1.set id l1
  have hl1 : θ1[id]? = some (.hdr g xs.length cap s O) := by show (θ.set kid .no)[id]? = _; rw [List.getElem?_set_ne hne]; exact hl
  have hlt1 : id < θ1.length := (List.getElem?_eq_some_iff.1 hl1).1
  have hlike : ∀ (k : Nat) (l : Loc), θ1[k]? = some l → ∃ l', θ'[k]? = some l' ∧ l.like l' := fun k l hkl => by
    by_cases hki : k = id
    · subst hki
      rw [hl1] at hkl; cases hkl
      exact ⟨l1, List.getElem?_set_self hlt1, .inr ⟨g, xs.length, cap, s, O, O1, rfl, rfl⟩⟩
    · exact ⟨l, by show (θ1.set id l1)[k]? = _; rw [List.getElem?_set_ne (Ne.symm hki)]; exact hkl, .inl rfl⟩
  have hcase : ∀ (p : Nat) (lp : Loc), θ'[p]? = some lp → (p ≠ id ∧ p ≠ kid ∧ θ[p]? = some lp) ∨ (p = id ∧ lp = l1) ∨ (p = kid ∧ lp = .no) := fun p lp hp => by
    by_cases hpi : p = id
    · subst hpi; rw [List.getElem?_set_self hlt1] at hp; cases hp; exact .inr (.inl ⟨rfl, rfl⟩)
    · have hp1 : θ1[p]? = some lp := by rw [← hp]; exact (List.getElem?_set_ne (Ne.symm hpi)).symm
      by_cases hpk : p = kid
      · subst hpk
        have : θ1[p]? = some .no := List.getElem?_set_self hklt
        rw [this] at hp1; cases hp1; exact .inr (.inr ⟨rfl, rfl⟩)
      · refine .inl ⟨hpi, hpk, ?_⟩
        rw [← hp1]; exact (List.getElem?_set_ne (Ne.symm hpk)).symm
  have hown : ∀ (p : Nat) (lp : Loc) (b : Nat), θ'[p]? = some lp → lp.has b → ∃ p0 l0, θ[p0]? = some l0 ∧ l0.has b ∧ ((p ≠ id ∧ p ≠ kid ∧ p0 = p) ∨ (p = id ∧ (p0 = id ∨ p0 = kid))) := fun p lp b hp hb => by
    rcases hcase p lp hp with ⟨h1, h1', h2⟩ | ⟨rfl, rfl⟩ | ⟨rfl, rfl⟩
    · exact ⟨p, lp, h2, hb, .inl ⟨h1, h1', rfl⟩⟩
    · rcases hb with hb | hb | hb
      · exact ⟨_, _, hl, .inl hb, .inr ⟨rfl, .inl rfl⟩⟩
      · exact ⟨_, _, hl, .inr hb, .inr ⟨rfl, .inl rfl⟩⟩
      · exact ⟨_, _, hl2, hb, .inr ⟨rfl, .inr rfl⟩⟩
    · exact hb.elim
  refine ⟨θ', D, hI.size, hI.defers, ⟨?_, hI.ok.dlt, fun p r lp lr b hp hr hbp hbr => ?_, fun p lp b hp hb => ?_, fun p lp o hp hop => ?_⟩, hI.keep, hI.dsub, hI.dnew, fun p lp b hp hb => ?_, fun t z hz => ?_, fun t lt ht hf => ?_⟩
  · simp [θ', θ1, hI.ok.len]
  · obtain ⟨p0, l0, e1, e2, e3⟩ := hown p lp b hp hbp
    obtain ⟨r0, m0, f1, f2, f3⟩ := hown r lr b hr hbr
    have := hI.ok.inj p0 r0 l0 m0 b e1 f1 e2 f2
    subst this
    rcases e3 with ⟨a1, a2, rfl⟩ | ⟨a0, a1⟩ <;> rcases f3 with ⟨b1, b2, b3⟩ | ⟨b0, b1⟩
    · exact b3
    · rcases b1 with b1 | b1
      · exact absurd b1 a1
      · exact absurd b1 a2
    · subst b3
      rcases a1 with a1 | a1
      · exact absurd a1 b1
      · exact absurd a1 b2
    · rw [a0, b0]
  · obtain ⟨p0, l0, e1, e2, _⟩ := hown p lp b hp hb
    exact hI.ok.olt p0 l0 b e1 e2
  · have hop' : (((st.hp.map (AObj.kill kid)).set kid .gone).set id (.tree e s k (xs.set i (x.setc j (lst q.2.1 L))) none))[p]? = some o := hop
    rcases hcase p lp hp with ⟨h1, h1', h2⟩ | ⟨rfl, rfl⟩ | ⟨rfl, rfl⟩
    · rw [List.getElem?_set_ne (Ne.symm h1), List.getElem?_set_ne (Ne.symm h1'), List.getElem?_map] at hop'
      obtain ⟨o0, h12, rfl⟩ := Option.map_eq_some_iff.1 hop'
      exact ((hI.ok.objs p lp o0 h2 h12).kill hl2 hnb hnm).like hlike
    · rw [List.getElem?_set_self (by simp; exact hlt')] at hop'
      cases hop'
      have hdis : ∀ b, l2.has b → ¬ (b = g ∨ O b) := fun b hb hb2 => hne (hI.ok.inj kid p l2 _ b hl2 hl hb hb2)
      refine ⟨rfl, by simp, h3, h4, fun y hy => ?_, cv, fun i' j' b => (i' = i ∧ j' = j ∧ l2.has b) ∨ (¬ (i' = i ∧ j' = j) ∧ Os i' j' b), h6, h7, fun i' j' b hb => ?_, fun i1 j1 i2 j2 b hb1 hb2 => ?_, fun _ _ _ h => (nomatch h), fun i' j' x' y' hx' hy' => ?_⟩
      · rcases List.mem_or_eq_of_mem_set hy with h | h
        · exact h5 y h
        · subst h; rw [setc_cells hj (lst_cells _ _), List.length_set]; exact h5 x (List.mem_of_getElem? hx)
      · rcases hb with ⟨_, _, hb⟩ | ⟨_, hb⟩
        · exact ⟨.inr hb, fun e => hdis b hb (.inl e)⟩
        · exact ⟨.inl (h8 i' j' b hb).1, (h8 i' j' b hb).2⟩
      · rcases hb1 with ⟨a1, a2, a3⟩ | ⟨a1, a2⟩ <;> rcases hb2 with ⟨b1, b2, b3⟩ | ⟨b1, b2⟩
        · exact ⟨a1.trans b1.symm, a2.trans b2.symm⟩
        · exact (hdis b a3 (.inr (h8 _ _ b b2).1)).elim
        · exact (hdis b b3 (.inr (h8 _ _ b a2).1)).elim
        · exact h9 _ _ _ _ b a2 b2
      · simp only [holeAt]
        by_cases hii : i' = i
        · subst hii
          rw [List.getElem?_set_self hi] at hx'
          cases hx'
          rw [setc_cells hj (lst_cells _ _)] at hy'
          by_cases hjj : j' = j
          · subst hjj
            rw [List.getElem?_set_self hj] at hy'
            cases hy'
            exact ⟨u, hu1, by rw [hk]; exact hout.wide fun b hb => .inl ⟨rfl, rfl, hb⟩⟩
          · rw [List.getElem?_set_ne (Ne.symm hjj)] at hy'
            obtain ⟨u', e1, e2⟩ := h10 i' j' x y' hx hy'
            simp only [holeAt, true_and, if_neg (show ¬ (j = j') from fun h => hjj h.symm)] at e2
            exact ⟨u', e1, e2.wide fun b hb => .inr ⟨fun h => hjj h.2, hb⟩⟩
        · rw [List.getElem?_set_ne (Ne.symm hii)] at hx'
          obtain ⟨u', e1, e2⟩ := h10 i' j' x' y' hx' hy'
          simp only [holeAt, if_neg (show ¬ (i = i' ∧ j = j') from fun h => hii h.1.symm)] at e2
          exact ⟨u', e1, e2.wide fun b hb => .inr ⟨fun h => hii h.1, hb⟩⟩
    · rw [List.getElem?_set_ne (Ne.symm hne), List.getElem?_set_self (by simp; exact hklt')] at hop'
      cases hop'; trivial
  · obtain ⟨p0, l0, e1, e2, _⟩ := hown p lp b hp hb
    exact hI.onew p0 l0 b e1 e2
  · have hz' : look (st.fr.map fun x => (x.1, x.2.kill kid)) t = some z := hz
    rw [look_map] at hz'
    obtain ⟨z0, h12, rfl⟩ := Option.map_eq_some_iff.1 hz'
    exact ((hI.fr t z0 h12).kill hl2 hnb hnm).like hlike
  · have h1 := hI.fix t lt ht hf
    by_cases hti : t = id
    · subst hti; rw [hl] at h1; cases h1; cases hf
    · by_cases htk : t = kid
      · subst htk; rw [hl2] at h1; cases h1; rw [hfx2] at hf; cases hf
      · show ((θ.set kid .no).set id l1)[t]? = _
        rw [List.getElem?_set_ne (Ne.symm hti), List.getElem?_set_ne (Ne.symm htk)]; exact h1
end Go.Av
namespace Go.Av
open Go Go.RowKit
section
variable {P : Program}
theorem ret_back {fn : Func} {rs : List RV} {K : Outc → Prop} {w w' : World} {D : Nat → Prop} {c : Ctx} {st : St} {a : Act} (hn : c.n = fn.ntmps) (hw : c.w0 = w) (hD : c.D0 = D) (hO : c.O0 = owns [])
    (hres : fn.results.toList.mapM (compRes P) = some rs) (hr : Rel c st a w') {ys : List AV} {r r' : AV} {os' : List AObj} (hys : rs.mapM (retV st) = some ys) (hret : isRet ys r) (hwk : ∀ T, Weak 0 ⟨[(T, r)], st.hp⟩ ⟨[(T, r')], os'⟩) (hK : K (some (r', os'))) :
    ∃ v, (results fn a.tmps).run P w' = .ok v w' ∧ Back [] D w K (.returned v) w' := by
  obtain ⟨θ', D', hI⟩ := hr
  have each : ∀ (l : List ResultVar) (rl : List RV) (pl : List AV), l.mapM (compRes P) = some rl → rl.mapM (retV st) = some pl → ∃ ul : List Value, (l.mapM (resM a.tmps)).run P w' = .ok ul w' ∧ ul.length = pl.length ∧ ∀ (i : Nat) (u : Value) (q : AV), ul[i]? = some u → pl[i]? = some q → RelA θ' D' w' u q := by
    intro l
    induction l with
    | nil =>
      intro rl pl h1 h2
      simp at h1; subst h1
      simp at h2; subst h2
      exact ⟨[], rfl, rfl, fun i u q hu => by simp at hu⟩
    | cons r l ih =>
      intro rl pl h1 h2
      simp only [List.mapM_cons, Option.bind_eq_bind, Option.pure_def, Option.bind_eq_some_iff, Option.some.injEq] at h1
      obtain ⟨rv, hrv, rl', hrl, rfl⟩ := h1
      simp only [List.mapM_cons, Option.bind_eq_bind, Option.pure_def, Option.bind_eq_some_iff, Option.some.injEq] at h2
      obtain ⟨q0, hq0, pl', hpl, rfl⟩ := h2
      obtain ⟨u0, e1, e2⟩ := run_retV hI hrv hq0
      obtain ⟨ul, e3, e4, e5⟩ := ih rl' pl' hrl hpl
      refine ⟨u0 :: ul, ?_, by simp [e4], fun i u q hu hq => ?_⟩
      · rw [List.mapM_cons, Sem.run_bind, e1]
        simp only [Result.andThen_ok, Sem.run_bind, e3, Sem.run_pure]
      · cases i with
        | zero => simp at hu hq; subst hu; subst hq; exact e2
        | succ i => exact e5 i u q (by simpa using hu) (by simpa using hq)
  obtain ⟨ul, e1, e2, e3⟩ := each _ _ _ hres hys
  have hrun : (results fn a.tmps).run P w' = .ok (if h : ul.toArray.size = 1 then ul.toArray[0] else .tuple ul.toArray) w' := by
    rw [results_eq, Array.mapM_eq_mapM_toList]
    simp only [Sem.run_bind, Sem.run_map]
    rw [e1]
    rfl
  have hrr := relA_ret e2 e3 hret
  generalize hv : (if h : ul.toArray.size = 1 then ul.toArray[0] else .tuple ul.toArray) = v at hrun hrr
  have hsz : a.tmps.size = fn.ntmps := by rw [← hn]; exact hI.size
  have hgk := c.gk
  have hkeep := hI.keep
  have hds := hI.dsub
  have hdn := hI.dnew
  have hon := hI.onew
  rw [hw, hO] at hgk hkeep
  rw [hD] at hds hdn hgk
  rw [hw, hO] at hdn hon
  obtain ⟨θ2, D2, hJ⟩ := hwk fn.ntmps ⟨fn.ntmps + 1, w, D, owns [], [], [], hgk⟩ { tmps := a.tmps.push v, defers := [] } w' (by simp)
    ⟨θ', D', by simp [hsz], rfl, hI.ok, hkeep, hds, hdn, hon, (fun k y hk => by
      simp only [look] at hk
      split at hk
      · rename_i hkT
        cases hk
        subst hkT
        have : (a.tmps.push v).getD fn.ntmps undef = v := by rw [← hsz]; simp [Array.getD]
        rw [this]; exact hrr
      · cases hk), fun k l hk => by simp at hk⟩
  have hr' : RelA θ2 D2 w' v r' := by
    have := hJ.fr fn.ntmps r' (by simp [look])
    have e : (a.tmps.push v).getD fn.ntmps undef = v := by rw [← hsz]; simp [Array.getD]
    rw [e] at this
    exact this
  exact ⟨_, hrun, .inl ⟨_, r', os', θ2, D2, rfl, hK, hr', hJ.ok, hJ.keep, hJ.dsub, hJ.dnew, hJ.onew, fun k l hk => by simp at hk, Nat.zero_le _⟩⟩
structure Catch (P : Program) (h : FuncId) (CH : Code) : Prop where
  ex : ∃ hn j t1 t2 p1 p2 a1 a2, P.funcs[h]? = some hn ∧ hn.ntmps = 5 ∧ hn.results = #[] ∧
    hn.body = some (.seq (.region j #[⟨some 2, .call { callee := .builtin .recover, args := #[], argTypes := #[] }, t1, p1, a1, none⟩, ⟨some 3, .binOp .neq t1 (.tmp 2) (.const .nilIface) t1, t2, p2, a2, none⟩] false) (.cond (.tmp 3) CH .skip)) ∧
    (∃ ms, P.underlying t1 = some (.interface ms)) ∧ (hn.name == "runtime.NumGoroutine") = false
theorem Catch.idle {h : FuncId} {CH : Code} (hc : Catch P h CH) (pa pb : Value) (w : World) : CallsD P h #[pa, pb] .returning w fun e u' w' => e = .returned (.tuple #[]) ∧ u' = .returning ∧ w' = w := by
  obtain ⟨hn, j, t1, t2, p1, p2, a1, a2, hf, hnt, hres, hb, ⟨ms, hu1⟩, _⟩ := hc.ex
  refine callsD_of_wpS hf hb fun c₀ cs hu => ?_
  apply wpS_seq
  apply wpS_region
  simp [wpOpsS, go_sem, recoverD, hu, hnt, Exit.thenS, hu1]
  refine wpS_cond (t := false) (by simp [Act.eval, Array.replicate]) ?_
  simp only [Bool.false_eq_true, if_false]
  refine wpS_of_wp (wp_skip ?_)
  cases c₀
  simp_all [bodyPostS, results]
theorem Catch.panicking {h : FuncId} {CH : Code} (hc : Catch P h CH) (pa pb : Value) (w : World) (t : TypeId) (v : Value) {Post : World → Prop}
    (hcode : ∀ x y, CH.wp P (fun e a' w' => (e = .normal ∨ e = .ret) ∧ a'.defers = [] ∧ Post w') { tmps := #[pa, pb, x, y, undef], defers := [] } w) :
    CallsD P h #[pa, pb] (.panicking [{ v := .iface t v, recovered := false }]) w fun e u' w' => e = .returned (.tuple #[]) ∧ u' = .panicking [{ v := .iface t v, recovered := true }] ∧ Post w' := by
  obtain ⟨hn, j, t1, t2, p1, p2, a1, a2, hf, hnt, hres, hb, ⟨ms, hu1⟩, _⟩ := hc.ex
  refine callsD_of_wpS hf hb fun c₀ cs hu => ?_
  apply wpS_seq
  apply wpS_region
  simp [wpOpsS, go_sem, recoverD, hu, hnt, Exit.thenS, hu1]
  refine wpS_cond (t := true) (by simp [Act.eval, Array.replicate]) ?_
  simp only [if_true]
  refine wpS_of_wp (wp_mono (hcode _ _) fun e a' w' he => ?_)
  obtain ⟨hee, hdf, hpost⟩ := he
  rcases hee with rfl | rfl <;> simp_all [bodyPostS, results]
theorem Inv.loose {c : Ctx} {θ : List Loc} {D : Nat → Prop} {st : St} {a : Act} {w : World} {ds : List Deferred} {th : List Loc} (h : Inv c θ D st a w) (hth : ∀ (k : Nat) (l : Loc), th[k]? = some l → l.fixed = true → θ[k]? = some l) : Inv ⟨c.n, c.w0, c.D0, c.O0, ds, th, c.gk⟩ θ D st { tmps := a.tmps, defers := ds } w :=
  ⟨h.size, rfl, h.ok, h.keep, h.dsub, h.dnew, h.onew, h.fr, hth⟩
def dpost (P : Program) (xh : AC) (rs : List RV) (ta tb : Nat) (K : Outc → Prop) : AE → St → Prop
  | .normal, st | .ret, st => fpost 0 rs K .normal st
  | .exit _, _ => False
  | .pan, st => W 2 (fun st => look st.fr ta = some (.b (.ptr 0 0)) ∧ look st.fr tb = some (.b (.ptr 1 0)) ∧
      awp P 2 xh (fun e s => (e = .normal ∨ e = .ret) ∧ fpost 0 rs K .normal ⟨[(ta, .b (.ptr 0 0)), (tb, .b (.ptr 1 0))], s.hp⟩) ⟨[(0, .b (.ptr 0 0)), (1, .b (.ptr 1 0))], st.hp⟩) st
theorem acalls_dfr {f h : FuncId} {fn : Func} {CA CB CH : Code} {xa xb xh : AC} {rs : List RV} {xs : List AV} {K : Outc → Prop} {ta tb t8 j : Nat} {y3 y4 : TypeId} {p3 p4 : String} {a3 a4 : Array Edge} (hm : P.follows .mixedOrders = true) (hf : P.funcs[f]? = some fn)
    (hb : fn.body = some (.seq CA (.seq (.region j #[⟨some t8, .makeFunc (.func h) #[] #[.tmp ta, .tmp tb], y3, p3, a3, none⟩, ⟨none, .defer { callee := .value (.tmp t8), args := #[], argTypes := #[] }, y4, p4, a4, none⟩] false) CB)))
    (hcA : compCode P fn.ntmps CA = some xa.canon) (hokA : xa.okB = true) (hcB : compCode P fn.ntmps CB = some xb.canon) (hokB : xb.okB = true) (hcH : compCode P 5 CH = some xh.canon) (hokH : xh.okB = true) (hcatch : Catch P h CH)
    (hres : fn.results.toList.mapM (compRes P) = some rs) (hlen : xs.length ≤ fn.ntmps) (ht8 : t8 < fn.ntmps)
    (h0 : awp P 0 xa (fun e st => e = .normal ∧ (look st.fr t8 = none ∧ look st.fr ta = some (.b (.ptr 0 0)) ∧ look st.fr tb = some (.b (.ptr 1 0)) ∧ st.hp.length = 2) ∧ awp P 2 xb (dpost P xh rs ta tb K) st) ⟨argFr 0 xs, []⟩) : ACalls P f xs [] K := by
  intro w θ D vs hG hokθ hvl hvs
  have hθl : θ.length = 0 := hokθ.len
  obtain rfl : θ = [] := List.eq_nil_of_length_eq_zero hθl
  have hO : ∀ b, D b → ¬ owns [] b := fun b hb ⟨i, l, hi, hl⟩ => by simp at hi
  refine calls_of_wp_defers hf hb ?_
  apply wp_seq
  have hgk : ∀ w', Keep (owns []) w w' → GW D w' := fun w' hk => hG.mono hk hO fun _ h => h
  refine wp_mono (awp_sound hm (m := 0) (c := ⟨fn.ntmps, w, D, owns [], [], [], hgk⟩) rfl (by simp) CA xa _ ⟨argFr 0 xs, []⟩ { tmps := vs.toArray ++ Array.replicate (fn.ntmps - vs.toArray.size) undef, defers := [] } w hcA hokA h0 ?_) fun e a1 w1 he => ?_
  · refine ⟨[], D, by simp; omega, rfl, hokθ, Keep.refl _ _, fun _ h => h, fun _ h => .inl h, fun i l g hi hg => by simp at hi, fun k y hk => ?_, fun _ _ h _ => h⟩
    obtain ⟨i, rfl, hp⟩ := look_argFr xs 0 k y hk
    have hi : i < vs.length := by rw [hvl]; exact (List.getElem?_eq_some_iff.1 hp).1
    have hv := List.getElem?_eq_getElem hi
    have : (vs.toArray ++ Array.replicate (fn.ntmps - vs.toArray.size) undef).getD (0 + i) undef = vs[i] := by
      simp [Array.getElem?_append, hi]
    rw [this]
    exact hvs i _ y hv hp
  obtain ⟨e', st, hee, ⟨rfl, ⟨h8, hla, hlb, hhp⟩, h1⟩, θ1, D1, hI⟩ := he
  cases hee
  obtain ⟨ga, hga, hva⟩ : ∃ g, θ1[0]? = some (Av.Loc.blk g) ∧ a1.tmps.getD ta undef = .pointer (some ⟨g, 0, none⟩) := hI.fr ta _ hla
  obtain ⟨gb, hgb, hvb⟩ : ∃ g, θ1[1]? = some (Av.Loc.blk g) ∧ a1.tmps.getD tb undef = .pointer (some ⟨g, 0, none⟩) := hI.fr tb _ hlb
  have hθ1 : θ1 = [Av.Loc.blk ga, Av.Loc.blk gb] := by
    have hl := hI.ok.len
    rw [hhp] at hl
    match θ1, hl, hga, hgb with
    | [x, y], _, hga, hgb => simp at hga hgb; rw [hga, hgb]
  show Code.wp P _ _ a1 w1
  apply wp_seq
  apply wp_region
  have hga' : a1.tmps[ta]?.getD undef = .pointer (some ⟨ga, 0, none⟩) := by simpa using hva
  have hgb' : a1.tmps[tb]?.getD undef = .pointer (some ⟨gb, 0, none⟩) := by simpa using hvb
  have hsz : a1.tmps.size = fn.ntmps := hI.size
  simp [wpOps, go_sem, Instr.makeFunc, hga', hgb', hsz, ht8]
  refine .inl (.inl ?_)
  have hdf : a1.defers = [] := hI.defers
  rw [hdf]
  generalize hv8 : (Value.func (Fn.func h) #[] #[Value.pointer (some { block := ga, off := 0 }), Value.pointer (some { block := gb, off := 0 })]) = v8
  generalize hd8 : ({ target := Target.fn (Fn.func h) #[Value.pointer (some { block := ga, off := 0 }), Value.pointer (some { block := gb, off := 0 })], args := #[] } : Deferred) = d8
  have hI2 : Inv ⟨fn.ntmps, w, D, owns [], [d8], θ1, hgk⟩ θ1 D1 st { tmps := a1.tmps.setIfInBounds t8 v8, defers := [d8] } w1 := by
    refine ⟨by simp [hsz], rfl, hI.ok, hI.keep, hI.dsub, hI.dnew, hI.onew, fun k x hk => ?_, fun _ _ h _ => h⟩
    have hne : k ≠ t8 := fun e => by rw [e, h8] at hk; cases hk
    have := hI.fr k x hk
    simpa [Array.getD_eq_getD_getElem?, Array.getElem?_setIfInBounds, Ne.symm hne] using this
  have inv8 : ∀ w, (invoke d8.target d8.args).run P w = .ok (.enter h #[Value.pointer (some { block := ga, off := 0 }), Value.pointer (some { block := gb, off := 0 })]) w := by
    intro w
    subst hd8
    obtain ⟨hn, _, _, _, _, _, _, _, hfh, _, _, hbh, _, hnm⟩ := hcatch.ex
    have hnm' : ¬ hn.name = "runtime.NumGoroutine" := by simpa using hnm
    simp [invoke, callFunc, hfh, hbh, hnm', go_sem]
  refine wp_mono (awp_sound hm (m := 2) (c := ⟨fn.ntmps, w, D, owns [], [d8], θ1, hgk⟩) rfl (by simp [hθ1]) CB xb _ st _ w1 hcB hokB h1 ⟨θ1, D1, hI2⟩) fun e a w' he => ?_
  obtain ⟨e', st2, hee, hq, θ2, D2, hJ⟩ := he
  have hdf2 : a.defers = [d8] := hJ.defers
  have fin : fpost 0 rs K .normal st2 → Go.Leaves P fn a.tmps (Back [] D w K) a.defers .returning w' := by
    rintro ⟨st3, hw, ys, r, hys, hret, r', os', hwk, hK, _⟩
    have hr := hw _ _ _ (by simp) ⟨θ2, D2, hJ.loose (ds := []) (th := []) fun _ _ h _ => by simp at h⟩
    obtain ⟨v, e1, e2⟩ := ret_back rfl rfl rfl rfl hres hr hys hret hwk hK
    rw [hdf2, ← hd8]
    refine leaves_cons (by simp) (by subst hd8; exact inv8 w') ((hcatch.idle _ _ w').mono ?_)
    rintro e u' w'' ⟨rfl, rfl, rfl⟩
    exact ⟨v, e1, e2⟩
  cases e' with
  | normal => cases hee; exact fin hq
  | ret => cases hee; exact fin hq
  | exit i => exact hq.elim
  | pan =>
    obtain ⟨ch, ⟨t, v, rfl⟩, rfl⟩ := hee
    obtain ⟨st4, hw4, ha, hb2, hq⟩ := hq
    obtain ⟨θ2, D2, hJ⟩ := hw4 _ _ _ (by simp [hθ1]) ⟨θ2, D2, hJ⟩
    have f1 : θ2[0]? = some (Av.Loc.blk ga) := hJ.fix 0 _ (by simp [hθ1]) rfl
    have f2 : θ2[1]? = some (Av.Loc.blk gb) := hJ.fix 1 _ (by simp [hθ1]) rfl
    obtain ⟨g, hg, va⟩ : ∃ g, θ2[0]? = some (Av.Loc.blk g) ∧ a.tmps.getD ta undef = .pointer (some ⟨g, 0, none⟩) := hJ.fr ta _ ha
    obtain rfl : ga = g := by rw [f1] at hg; cases hg; rfl
    obtain ⟨g, hg, vb⟩ : ∃ g, θ2[1]? = some (Av.Loc.blk g) ∧ a.tmps.getD tb undef = .pointer (some ⟨g, 0, none⟩) := hJ.fr tb _ hb2
    obtain rfl : gb = g := by rw [f2] at hg; cases hg; rfl
    show Go.Leaves P fn a.tmps (Back [] D w K) a.defers (.panicking _) w'
    rw [hdf2, ← hd8]
    refine leaves_cons (by simp) (by subst hd8; exact inv8 w') ((hcatch.panicking (Post := fun w3 => ∃ v, (results fn a.tmps).run P w3 = .ok v w3 ∧ Back [] D w K (.returned v) w3) _ _ w' t v fun x y => ?_).mono ?_)
    · refine wp_mono (awp_sound hm (m := 2) (c := ⟨5, w, D, owns [], [], θ1, hgk⟩) rfl (by simp [hθ1]) CH xh _ _ _ w' hcH hokH hq ⟨θ2, D2, by simp, rfl, hJ.ok, hJ.keep, hJ.dsub, hJ.dnew, hJ.onew, fun k z hk => ?_, hJ.fix⟩) fun e3 a3 w3 he3 => ?_
      · simp only [look] at hk
        split at hk
        · rename_i hk0; cases hk; subst hk0; exact ⟨ga, f1, rfl⟩
        · split at hk
          · rename_i hk1; cases hk; subst hk1; exact ⟨gb, f2, rfl⟩
          · cases hk
      · obtain ⟨e4, st4, he4, ⟨hq1, hq2⟩, θ4, D4, hL⟩ := he3
        refine ⟨by rcases hq1 with rfl | rfl <;> cases he4 <;> simp, hL.defers, ?_⟩
        obtain ⟨st5, hw, ys, r, hys, hret, r', os', hwk, hK, _⟩ := hq2
        have f3 : θ4[0]? = some (Av.Loc.blk ga) := hL.fix 0 _ (by simp [hθ1]) rfl
        have f4 : θ4[1]? = some (Av.Loc.blk gb) := hL.fix 1 _ (by simp [hθ1]) rfl
        have hr := hw ⟨fn.ntmps, w, D, owns [], [], [], hgk⟩ { tmps := a.tmps, defers := [] } w3 (by simp) ⟨θ4, D4, hJ.size, rfl, hL.ok, hL.keep, hL.dsub, hL.dnew, hL.onew, fun k z hk => (by
          simp only [look] at hk
          split at hk
          · rename_i hk0; cases hk; subst hk0; exact ⟨ga, f3, va⟩
          · split at hk
            · rename_i hk1; cases hk; subst hk1; exact ⟨gb, f4, vb⟩
            · cases hk), fun _ _ h _ => by simp at h⟩
        exact ret_back (a := { tmps := a.tmps, defers := [] }) rfl rfl rfl rfl hres hr hys hret hwk hK
    · rintro e u' w'' ⟨rfl, rfl, v, e1, e2⟩
      exact ⟨v, e1, e2⟩
end
end Go.Av

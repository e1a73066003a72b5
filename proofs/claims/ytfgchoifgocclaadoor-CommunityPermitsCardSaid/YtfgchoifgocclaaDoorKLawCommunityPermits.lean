import Derived.Test.YtfgchoifgocclaaDoorKGlueB
import Derived.Test.YtfgchoifgocclaaDoorKL8
set_option linter.all false
/-
  'CommunityPermits': THE PLAIN LAW.
-/
namespace Go.Proofs.YtfgchoifgocclaaDoor
open Go Go.Av Go.Ev

abbrev Rule : Type := Bool × (Int × (Int × Unit))
/-- Does a rule apply to a community? -/
def fits (r : Rule) (c : Int) : Bool :=
  ((r.2.1 == (-1 : Int)) || (r.2.1 == IntKind.wrap .i64 (Int.fdiv c (2 ^ (min (Int.toNat (16 : Int)) (IntKind.bits .u32)))))) &&
  ((r.2.2.1 == (-1 : Int)) || (r.2.2.1 == IntKind.wrap .i64 (bitsI .u32 .and c (65535 : Int))))
def matchS (r : Rule) (l : List Int) : Bool := (l.find? (fits r)).isSome
def permitsS (rules : List Rule) (l : List Int) : Bool := match rules.find? (fun r => matchS r l) with
  | some r => r.1
  | none => false

theorem wp_or {a b : Bool} {m : Nat → Option Bool} {Q : Bool → Prop} (h : a = false → Wp m fun r => r = b) (hQ : Q (a || b)) : Wp (fun n => bif a then some true else m n) Q := by
  cases a
  · exact Wp.imp (h rfl) fun r hr => by subst hr; exact hQ
  · exact wp_some hQ
theorem wp_and {a b : Bool} {m : Nat → Option Bool} {Q : Bool → Prop} (h : a = true → Wp m fun r => r = b) (hQ : Q (a && b)) : Wp (fun n => bif a then m n else some false) Q := by
  cases a
  · exact wp_some hQ
  · exact Wp.imp (h rfl) fun r hr => by subst hr; exact hQ

theorem match_body (r : Rule) (c : Int) {β : Type} {k : Nat → Bool → Option β} {Q : β → Prop} (hk : Wp (fun n => k n (fits r c)) Q) : Wp (fun n => Option.bind (bif (r.2.1 == (-1 : Int)) then some (true) else
    guardB (decide (0 ≤ (16 : Int))) (
    let v2 := IntKind.wrap .i64 (Int.fdiv c (2 ^ (min (Int.toNat (16 : Int)) (IntKind.bits .u32))))
    some ((r.2.1 == v2)))) fun v3 =>
    Option.bind (bif v3 then
    Option.bind (bif (r.2.2.1 == (-1 : Int)) then some (true) else
    some ((r.2.2.1 == IntKind.wrap .i64 (bitsI .u32 .and c (65535 : Int))))) fun v4 =>
    some (v4)
    else some (false)) fun v5 => k n v5) Q := by
  refine wp_bind (wp_or (fun _ => wp_guard rfl (wp_some rfl)) ?_)
  refine wp_bind (wp_and (fun _ => wp_bind (wp_or (fun _ => wp_some rfl) (wp_some rfl))) ?_)
  exact hk

theorem C_community_Match (r : Rule) (l : List Int) (hl : l.length ≤ 9223372036854775807) : Calls' tbl N_community_Match [.d (pr [tB, tI, tI]) r, .d (.list tW) l] [] q_community_Match (matchS r l, ()) := by
  refine calls_of rfl (conv_of t_community_Match rfl (fun O n => x_community_Match O n r l) ?_)
  unfold G_community_Match
  refine wp_bind (wp_find (xs := l) (p := fits r) (g := fun _ => ((true, ()) : Bool × Unit)) (e := ()) (fun i x hx => ?_) ?_ ?_)
  · unfold L_community_Match_0
    have hi := (List.getElem?_eq_some_iff.1 hx).1
    refine wp_bif (fun _ => ?_) (fun h => absurd h (by simp; omega))
    refine wp_idx (by simp) (by simpa using hx) ?_
    refine match_body r x ?_
    cases fits r x
    · exact wp_some (by simp only [Bool.false_eq_true, if_false]; rw [wrap_succ hi hl])
    · exact wp_some rfl
  · unfold L_community_Match_0
    exact wp_bif (fun h => absurd h (by simp)) fun _ => wp_some rfl
  · unfold matchS
    cases l.find? (fits r)
    · exact wp_some rfl
    · exact wp_some rfl

theorem C_community_Permits (rules : List Rule) (l : List Int) (hr : rules.length ≤ 9223372036854775807) (hl : l.length ≤ 9223372036854775807) : Calls' tbl N_community_Permits [.d (.list (pr [tB, tI, tI])) rules, .d (.list tW) l] [] q_community_Permits (permitsS rules l, ()) := by
  refine calls_of rfl (conv_of t_community_Permits rfl (fun O n => x_community_Permits O n rules l) ?_)
  unfold G_community_Permits
  refine wp_bind (wp_find (xs := rules) (p := fun r => matchS r l) (g := fun r => ((r.1, ()) : Bool × Unit)) (e := ()) (fun i x hx => ?_) ?_ ?_)
  · unfold L_community_Permits_0
    have hi := (List.getElem?_eq_some_iff.1 hx).1
    refine wp_bif (fun _ => ?_) (fun h => absurd h (by simp; omega))
    refine wp_idx (by simp) (by simpa using hx) ?_
    refine wp_call (C_community_Match x l hl) ?_
    cases h : matchS x l
    · exact wp_some (by simp only [Bool.false_eq_true, if_false]; rw [wrap_succ hi hr])
    · exact wp_some rfl
  · unfold L_community_Permits_0
    exact wp_bif (fun h => absurd h (by simp)) fun _ => wp_some rfl
  · unfold permitsS
    cases rules.find? (fun r => matchS r l)
    · exact wp_some rfl
    · exact wp_some rfl

theorem C_ref18_Match (r : Rule) (l : List Int) (hl : l.length ≤ 9223372036854775807) : Calls' tbl N_ref18_Match [.d (pr [tB, tI, tI]) r, .d (.list tW) l] [] q_ref18_Match (matchS r l, ()) := by
  refine calls_of rfl (conv_of t_ref18_Match rfl (fun O n => x_ref18_Match O n r l) ?_)
  unfold G_ref18_Match
  refine wp_bind (wp_find (xs := l) (p := fits r) (g := fun _ => ((true, ()) : Bool × Unit)) (e := ()) (fun i x hx => ?_) ?_ ?_)
  · unfold L_ref18_Match_0
    have hi := (List.getElem?_eq_some_iff.1 hx).1
    refine wp_bif (fun _ => ?_) (fun h => absurd h (by simp; omega))
    refine wp_idx (by simp) (by simpa using hx) ?_
    refine match_body r x ?_
    cases fits r x
    · exact wp_some (by simp only [Bool.false_eq_true, if_false]; rw [wrap_succ hi hl])
    · exact wp_some rfl
  · unfold L_ref18_Match_0
    exact wp_bif (fun h => absurd h (by simp)) fun _ => wp_some rfl
  · unfold matchS
    cases l.find? (fits r)
    · exact wp_some rfl
    · exact wp_some rfl

theorem C_ref18_Permits (rules : List Rule) (l : List Int) (hr : rules.length ≤ 9223372036854775807) (hl : l.length ≤ 9223372036854775807) : Calls' tbl N_ref18_Permits [.d (.list (pr [tB, tI, tI])) rules, .d (.list tW) l] [] q_ref18_Permits (permitsS rules l, ()) := by
  refine calls_of rfl (conv_of t_ref18_Permits rfl (fun O n => x_ref18_Permits O n rules l) ?_)
  unfold G_ref18_Permits
  refine wp_bind (wp_find (xs := rules) (p := fun r => matchS r l) (g := fun r => ((r.1, ()) : Bool × Unit)) (e := ()) (fun i x hx => ?_) ?_ ?_)
  · unfold L_ref18_Permits_0
    have hi := (List.getElem?_eq_some_iff.1 hx).1
    refine wp_bif (fun _ => ?_) (fun h => absurd h (by simp; omega))
    refine wp_idx (by simp) (by simpa using hx) ?_
    refine wp_call (C_ref18_Match x l hl) ?_
    cases h : matchS x l
    · exact wp_some (by simp only [Bool.false_eq_true, if_false]; rw [wrap_succ hi hr])
    · exact wp_some rfl
  · unfold L_ref18_Permits_0
    exact wp_bif (fun h => absurd h (by simp)) fun _ => wp_some rfl
  · unfold permitsS
    cases rules.find? (fun r => matchS r l)
    · exact wp_some rfl
    · exact wp_some rfl

theorem C_awake : Calls' tbl N_law18_awake [] [] q_law18_awake (true, ()) := ⟨60, fun n hn => by
  obtain ⟨k, rfl⟩ : ∃ k, n = k + 60 := ⟨n - 60, by omega⟩
  kernel_rfl⟩

theorem law_CommunityPermits : LawOk N_law18_CommunityPermits [.list (pr [tB, tI, tI]), .list tW] := by
  rintro ⟨rules, l, _⟩ ⟨hr, hl, _⟩
  have hr1 : rules.length ≤ 9223372036854775807 := hr.1
  have hl1 : l.length ≤ 9223372036854775807 := hl.1
  refine ⟨outQ q_law18_CommunityPermits (true, ()), ?_, rfl⟩
  refine conv_of t_law18_CommunityPermits rfl (fun O n => x_law18_CommunityPermits O n rules l) ?_
  unfold G_law18_CommunityPermits
  refine wp_bind (wp_or (b := decide ((l.length : Int) > (600 : Int))) (fun _ => wp_some rfl) ?_)
  refine wp_bif (fun _ => ?_) fun _ => ?_
  · exact wp_call C_awake (wp_some rfl)
  · refine wp_bind (wp_find (xs := rules) (p := fun _ => false) (g := fun _ => ((false, ()) : Bool × Unit)) (e := ()) (fun i x hx => ?_) ?_ ?_)
    · unfold L_law18_CommunityPermits_0
      have hi := (List.getElem?_eq_some_iff.1 hx).1
      refine wp_bif (fun _ => ?_) (fun h => absurd h (by simp; omega))
      refine wp_idx (by simp) (by simpa using hx) ?_
      refine wp_call (C_community_Match x l hl1) (wp_call (C_ref18_Match x l hl1) ?_)
      refine wp_bif (fun h => absurd h (by simp)) fun _ => wp_some ?_
      simp only [Bool.false_eq_true, if_false]
      rw [wrap_succ hi hr1]
    · unfold L_law18_CommunityPermits_0
      exact wp_bif (fun h => absurd h (by simp)) fun _ => wp_some rfl
    · have hf : rules.find? (fun _ => false) = none := by simp
      rw [hf]
      refine wp_call (C_community_Permits rules l hr1 hl1) (wp_call (C_ref18_Permits rules l hr1 hl1) ?_)
      refine wp_bind (wp_and (b := true) (fun _ => wp_call C_awake (wp_some rfl)) ?_)
      refine wp_some ?_
      simp
end Go.Proofs.YtfgchoifgocclaaDoor

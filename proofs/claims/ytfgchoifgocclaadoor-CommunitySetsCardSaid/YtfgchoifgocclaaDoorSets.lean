/-
  'CommunitySets': THE ROW, PROVED.
-/
import Derived.Test.YtfgchoifgocclaaDoorGlue1
import Derived.Test.YtfgchoifgocclaaDoorCm11
namespace Go.Proofs.YtfgchoifgocclaaDoor
open Go Go.Av Go.Cm Go.ChangeShapes Go.WideShapes Go.ChangeAt Go.RowKit

theorem bytes27 : Tryd.prog.bytesOf 27 = 4 := by kernel_rfl

set_option maxRecDepth 100000 in
theorem sets_lifted (os : Os) (started : os.Started) (H : Type) (enc : TypeId × Value → H) :
    ReturnsInHanded {} Tryd.checked os 8 .any (fun w args => (Rows.communitySetsSpec.pre enc Tryd.prog Tryd.f8 [] false w args ∧ laidMet Tryd.prog laidL w) ∧ sizedMet enc Tryd.prog Tryd.f8 (OpenSpec.ofChange Rows.communitySetsSpec) false w args)
      (Rows.communitySetsSpec.post enc Tryd.prog Tryd.f8 false true false false) := by
  refine returnsInHanded_of_change_and (C := Tryd.checked) (X := fun w _ => laidMet Tryd.prog laidL w) (fun _ _ _ hh h => h.of_heap hh) own started (by kernel_rfl) Tryd.func8
    (ChangeSpec.witness_at (enc := enc) (C := Tryd.checked) (os := os) (X := fun w _ => laidMet Tryd.prog laidL w) false (laidWorld os) #[.slice none 0 0, .slice none 0 0, .agg #[.int .u32 0, .int .u32 0]] 8 rfl (by kernel_rfl) (by kernel_rfl) (by kernel_rfl) (by kernel_rfl) (by kernel_rfl) (laidWorld_met os _)) ?_
  intro W base args ds gs before hval0 hW _ hsz0 hL _
  have hsz : (DataW.weightsEach Tryd.prog (Tryd.f8.params.toList ++ Rows.communitySetsSpec.plain.varTypes Tryd.prog) (ds ++ gs)).all (· ≤ reachBytes) = true := hsz0
  clear hsz0
  have hval : ∀ (j : Nat) t v, Tryd.f8.params[j]? = some t → args[j]? = some v → Value.okWide Tryd.prog W .any base t v := hval0
  have hW' := hW
  obtain ⟨p, q, hA0, hV, rfl, hfz, hnd⟩ := hW
  have hA : DataW.TrodAll enc Tryd.prog W 0 (fun _ => true) true Tryd.f8.params.toList args.toList ds p := hA0
  rw [Tryd.params8] at hA hval hsz
  obtain ⟨v0, v1, v2, d0, d1, d2, p0, p1, p2, rfl, rfl, rfl, h0, h1, h2⟩ := trodAll_three hA
  obtain ⟨rfl, rfl⟩ := trodVars_none hV
  obtain ⟨a0, len, cap, rfl⟩ := okWide_slice Tryd.underlying22 (hval 0 22 v0 rfl rfl)
  obtain ⟨a1, len1, cap1, rfl⟩ := okWide_slice Tryd.underlying22 (hval 1 22 v1 rfl rfl)
  obtain ⟨c, e, hrel2⟩ := arr_rel (D := fun b => b < W.heap.size) (hval 2 43 v2 rfl rfl) h2
  clear hA0 hval0
  simp only [List.append_nil] at hW'
  have hlt : ∀ x ∈ p0 ++ p1 ++ p2, x.block < W.heap.size := fun x hx => by simpa using hW'.lt x hx
  have hargs : ∀ (W' : World), Below W.heap.size W W' → DataW.Trod enc Tryd.prog W' 0 (fun b => decide (b < W.heap.size)) true 22 (.slice a0 len cap) d0 p0 ∧ DataW.Trod enc Tryd.prog W' 0 (fun b => decide (b < W.heap.size)) true 22 (.slice a1 len1 cap1) d1 p1 ∧ DataW.Trod enc Tryd.prog W' 0 (fun b => decide (b < W.heap.size)) true 43 v2 d2 p2 :=
    fun W' hn => ⟨Below.trod laidOut (by kernel_rfl) (of_decide_eq_true (by kernel_rfl)) h0 hn fun x hx => hlt x (by simp [hx]), Below.trod laidOut (by kernel_rfl) (of_decide_eq_true (by kernel_rfl)) h1 hn fun x hx => hlt x (by simp [hx]), Below.trod laidOut (by kernel_rfl) (of_decide_eq_true (by kernel_rfl)) h2 hn fun x hx => hlt x (by simp [hx])⟩
  obtain ⟨l, hrel, _, hl⟩ := slice_rel ⟨a0, len, cap, rfl⟩ h0 fun x hx => hlt x (by simp [hx])
  obtain ⟨m, hrel1, _, hm⟩ := slice_rel ⟨a1, len1, cap1, rfl⟩ h1 fun x hx => hlt x (by simp [hx])
  have hlen : l.length ≤ 70368744177664 := by
    rcases hl with rfl | ⟨x, y, rfl, hxy⟩
    · simp
    · have := sized_slice hsz (j := 0) (t := 22) (e := 27) rfl rfl Tryd.underlying22
      rw [bytes27] at this
      simp only [reachBytes] at this
      omega
  have hlen1 : m.length ≤ 70368744177664 := by
    rcases hm with rfl | ⟨x, y, rfl, hxy⟩
    · simp
    · have := sized_slice hsz (j := 1) (t := 22) (e := 27) rfl rfl Tryd.underlying22
      rw [bytes27] at this
      simp only [reachBytes] at this
      omega
  refine (law8 l m c e hlen hlen1 W (fun b => b < W.heap.size) [.slice a0 len cap, .slice a1 len1 cap1, v2] (gw_of_laid hL) (fun _ h => h) rfl (fun i v p hv hp => ?_)).mono fun e W' ⟨v, p, he, hp, hnx, hr⟩ => ?_
  · match i, hv, hp with
    | 0, hv, hp => cases hv; cases hp; exact hrel
    | 1, hv, hp => cases hv; cases hp; exact hrel1
    | 2, hv, hp => cases hv; cases hp; exact hrel2
  · subst he; subst hp
    cases hr
    refine ⟨_, rfl, _, _, _, [], _, [], hW', ?_, trodAll_mk3 (hargs _ hnx).1 (hargs _ hnx).2.1 (hargs _ hnx).2.2, rfl, hnx.frame _, fun h => by cases h⟩
    exact trodAll_mk1 (shut_bool Tryd.underlying4 true)

theorem sets_holds : Rows.CommunitySetsSaid :=
  OpenClaim.holds_of_wide 8 Tryd.f8 rfl rfl rfl rfl rfl rfl rfl ⟨rfl, rfl, rfl, rfl, rfl⟩ rfl rfl rfl rfl rfl (by kernel_rfl) Tryd.func8 (by kernel_rfl)
    (of_decide_eq_true (by kernel_rfl)) (by unfold Func.isWrapper; rw [if_neg (of_decide_eq_false (by kernel_rfl))]; exact ⟨rfl, rfl⟩)
    (fun os started H enc _ => sets_lifted os started H enc)
end Go.Proofs.YtfgchoifgocclaaDoor

/-
  'CommunityChange': THE ROW, PROVED.
-/
import Derived.Test.YtfgchoifgocclaaDoorGlue1
import Derived.Test.YtfgchoifgocclaaDoorCm10
namespace Go.Proofs.YtfgchoifgocclaaDoor
open Go Go.Av Go.Cm Go.ChangeShapes Go.WideShapes Go.ChangeAt Go.RowKit

set_option maxRecDepth 100000 in
theorem change_lifted (os : Os) (started : os.Started) (H : Type) (enc : TypeId × Value → H) :
    ReturnsInHanded {} Tryd.checked os 6 .any (fun w args => (Rows.communityChangeSpec.pre enc Tryd.prog Tryd.f6 [] false w args ∧ laidMet Tryd.prog laidL w) ∧ sizedMet enc Tryd.prog Tryd.f6 (OpenSpec.ofChange Rows.communityChangeSpec) false w args)
      (Rows.communityChangeSpec.post enc Tryd.prog Tryd.f6 false true false false) := by
  refine returnsInHanded_of_change_and (C := Tryd.checked) (X := fun w _ => laidMet Tryd.prog laidL w) (fun _ _ _ hh h => h.of_heap hh) own started (by kernel_rfl) Tryd.func6
    (ChangeSpec.witness_at (enc := enc) (C := Tryd.checked) (os := os) (X := fun w _ => laidMet Tryd.prog laidL w) false (laidWorld os) #[.slice none 0 0, .slice none 0 0, .int .u32 0] 8 rfl (by kernel_rfl) (by kernel_rfl) (by kernel_rfl) (by kernel_rfl) (by kernel_rfl) (laidWorld_met os _)) ?_
  intro W base args ds gs before hval0 hW _ _ hL _
  have hval : ∀ (j : Nat) t v, Tryd.f6.params[j]? = some t → args[j]? = some v → Value.okWide Tryd.prog W .any base t v := hval0
  have hW' := hW
  obtain ⟨p, q, hA0, hV, rfl, hfz, hnd⟩ := hW
  have hA : DataW.TrodAll enc Tryd.prog W 0 (fun _ => true) true Tryd.f6.params.toList args.toList ds p := hA0
  rw [Tryd.params6] at hA hval
  obtain ⟨v0, v1, v2, d0, d1, d2, p0, p1, p2, rfl, rfl, rfl, h0, h1, h2⟩ := trodAll_three hA
  obtain ⟨rfl, rfl⟩ := trodVars_none hV
  obtain ⟨a0, len, cap, rfl⟩ := okWide_slice Tryd.underlying22 (hval 0 22 v0 rfl rfl)
  obtain ⟨a1, len1, cap1, rfl⟩ := okWide_slice Tryd.underlying22 (hval 1 22 v1 rfl rfl)
  obtain ⟨n, rfl, rfl, rfl, hwn⟩ := open_int Tryd.underlying27 (hval 2 27 v2 rfl rfl) h2
  clear hA0 hval0
  simp only [List.append_nil] at hW'
  have hlt : ∀ x ∈ p0 ++ p1, x.block < W.heap.size := fun x hx => by simpa using hW'.lt x hx
  have hargs : ∀ (W' : World), Below W.heap.size W W' → DataW.Trod enc Tryd.prog W' 0 (fun b => decide (b < W.heap.size)) true 22 (.slice a0 len cap) d0 p0 ∧ DataW.Trod enc Tryd.prog W' 0 (fun b => decide (b < W.heap.size)) true 22 (.slice a1 len1 cap1) d1 p1 :=
    fun W' hn => ⟨Below.trod laidOut (by kernel_rfl) (of_decide_eq_true (by kernel_rfl)) h0 hn fun x hx => hlt x (List.mem_append_left _ hx), Below.trod laidOut (by kernel_rfl) (of_decide_eq_true (by kernel_rfl)) h1 hn fun x hx => hlt x (List.mem_append_right _ hx)⟩
  obtain ⟨l, hrel, hlen⟩ := slice_rel ⟨a0, len, cap, rfl⟩ h0 fun x hx => hlt x (List.mem_append_left _ hx)
  obtain ⟨m, hrel1, hlen1⟩ := slice_rel ⟨a1, len1, cap1, rfl⟩ h1 fun x hx => hlt x (List.mem_append_right _ hx)
  refine (law6 l m n hlen hlen1 W (fun b => b < W.heap.size) [.slice a0 len cap, .slice a1 len1 cap1, .int .u32 n] (gw_of_laid hL) (fun _ h => h) rfl (fun i v p hv hp => ?_)).mono fun e W' ⟨v, p, he, hp, hnx, hr⟩ => ?_
  · match i, hv, hp with
    | 0, hv, hp => cases hv; cases hp; exact hrel
    | 1, hv, hp => cases hv; cases hp; exact hrel1
    | 2, hv, hp => cases hv; cases hp; exact .sc _
  · subst he; subst hp
    cases hr
    refine ⟨_, rfl, _, _, _, [], _, [], hW', ?_, trodAll_mk3 (hargs _ hnx).1 (hargs _ hnx).2 (shut_int Tryd.underlying27 hwn), rfl, hnx.frame _, fun h => by cases h⟩
    exact trodAll_mk1 (shut_bool Tryd.underlying4 true)

theorem change_holds : Rows.CommunityChangeSaid :=
  OpenClaim.holds_of_wide 6 Tryd.f6 rfl rfl rfl rfl rfl rfl rfl ⟨rfl, rfl, rfl, rfl, rfl⟩ rfl rfl rfl rfl rfl (by kernel_rfl) Tryd.func6 (by kernel_rfl)
    (of_decide_eq_true (by kernel_rfl)) (by unfold Func.isWrapper; rw [if_neg (of_decide_eq_false (by kernel_rfl))]; exact ⟨rfl, rfl⟩)
    (fun os started H enc _ => change_lifted os started H enc)
end Go.Proofs.YtfgchoifgocclaaDoor

import Derived.Test.YtmfolppncelceaaGreatDoorPGlueB
import Derived.Test.YtmfolppncelceaaGreatDoorPLawPfx
set_option linter.unusedVariables false
set_option linter.unusedSimpArgs false
namespace Go.Proofs.YtmfolppncelceaaGreatDoor
open Go Go.Av Go.Ev Go.RowKit Go.ChangeShapes Go.WideShapes Go.ChangeAt
set_option maxRecDepth 100000 in
theorem redistPlain_lifted(os:Os)(started:os.Started)(H:Type)(enc:TypeId×Value->H):
 ReturnsInHanded {} Tryz.checked os 6 .any (λw args=>(Rows.redistPlainSpec.pre enc Tryz.prog Tryz.f6 [] false w args/\laidMet Tryz.prog laidL w)/\sizedMet enc Tryz.prog Tryz.f6 (OpenSpec.ofChange Rows.redistPlainSpec) false w args)
  (Rows.redistPlainSpec.post enc Tryz.prog Tryz.f6 false true false false):=by
 refine returnsInHanded_of_change_and (C:=Tryz.checked) (X:=λw _=>laidMet Tryz.prog laidL w) (λ_ _ _ hh h=>h.of_heap hh) own started (by kernel_rfl) Tryz.func6
  (ChangeSpec.witness_at (enc:=enc) (C:=Tryz.checked) (os:=os) (X:=λw _=>laidMet Tryz.prog laidL w) false (laidWorld os) #[.slice none 0 0,.slice none 0 0,.int .u32 0] 8 rfl (by kernel_rfl) (by kernel_rfl) (by kernel_rfl) (by kernel_rfl) (by kernel_rfl) (laidWorld_met os _)) ?_
 intro W base args ds gs before hval0 hW _ _ hL _
 have hG:GT W:=gw_of_laid hL
 have hval:∀(j:Nat) t v,Tryz.f6.params[j]? =some t->args[j]? =some v->Value.okWide Tryz.prog W .any base t v:=hval0
 have hW':=hW
 obtain⟨p,q,hA0,hV,rfl,hfz,hnd⟩:=hW
 have hA:DataW.TrodAll enc Tryz.prog W 0 (λ_=>true) true Tryz.f6.params.toList args.toList ds p:=hA0
 rw[Tryz.params6]at hA hval
 have hA2:DataW.TrodAll enc Tryz.prog W 0 (λ_=>true) true [47,28,29] args.toList ds p:=hA
 obtain⟨rfl,rfl⟩:=trodVars_none hV
 clear hA0 hval0
 simp only[List.append_nil]at hW'
 have hlt:∀x∈p,x.block<W.heap.size:=λx hx=>by simpa using hW'.lt x hx
 obtain⟨xs,⟨ok,hbulk⟩,hlen,hrel⟩:=BQ (P:=Tryz.prog) [47,28,29] [(.list (pr [(pr [tW,tI]),tI,tI,tI,tI,(.list (pr [tW,tI,tW,tI,(pr [tW,tI])]))])),(.list (pr [tI,tI,tS,tI,tB])),tW] args.toList ds p (by kernel_rfl) hA2 (λj t v ht hv=>⟨_,_,hval j t v (by simpa using ht) (by simpa using hv)⟩) hlt
 obtain⟨s,hC,hs⟩:=tH xs ok
 have hcall:=FU (P:=Tryz.prog) mixed LV hG hlen hrel hC hs
 rw[show args.toList.toArray=args by simp]at hcall
 have hcall2:Calls Tryz.prog 6 args W λe W'=>e= .returned (.bool true)/\Below W.heap.size W W':=hcall
 refine hcall2.mono λe W' ⟨he,hnx⟩=>?_
 subst he
 have hst:=pQ (P:=Tryz.prog) laidOut hnx [47,28,29] args.toList ds p (by kernel_rfl) hA2 hlt
 have hdl:=tp [47,28,29] args.toList ds p hA2
 clear hA2 hA hlen hrel
 match ds,hdl,hst,hW' with
 |[d0,d1,d2],_,hst,hW'=>
  refine⟨_,rfl,_,_,_,[],p,[],hW',?_,?_,rfl,hnx.frame _,λh=>by cases h⟩
  ·exact trodAll_mk1 (shut_bool Tryz.underlying4 true)
  ·exact hst
theorem redistPlain_holds:Rows.RedistPlainSaid:=
 OpenClaim.holds_of_wide 6 Tryz.f6 rfl rfl rfl rfl rfl rfl rfl ⟨rfl,rfl,rfl,rfl,rfl⟩ rfl rfl rfl rfl rfl (by kernel_rfl) Tryz.func6 (by kernel_rfl)
  (of_decide_eq_true (by kernel_rfl)) (by unfold Func.isWrapper;rw[if_neg (of_decide_eq_false (by kernel_rfl))];exact⟨rfl,rfl⟩)
  (λos started H enc _=>redistPlain_lifted os started H enc)
end Go.Proofs.YtmfolppncelceaaGreatDoor

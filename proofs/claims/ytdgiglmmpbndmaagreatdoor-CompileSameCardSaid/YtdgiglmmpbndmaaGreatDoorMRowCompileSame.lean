import Derived.Test.YtdgiglmmpbndmaaGreatDoorMGlueJ
import Derived.Test.YtdgiglmmpbndmaaGreatDoorMLawCompileSame
set_option linter.unusedVariables false
set_option linter.unusedSimpArgs false
open Prod renaming mk->a_
namespace Go.Proofs.YtdgiglmmpbndmaaGreatDoor
open Go Go.Av Go.Ev Go.RowKit Go.ChangeShapes Go.WideShapes Go.ChangeAt
set_option maxRecDepth 100000 in
theorem compileSame_lifted(os:Os)(started:os.Started)(H:Type)(enc:TypeId×Value->H):
 ReturnsInHanded {} Tryz.checked os 10 .any (λw args=>(Rows.compileSameSpec.pre enc Tryz.prog Tryz.f10 [] false w args/\laidMet Tryz.prog laidL w)/\sizedMet enc Tryz.prog Tryz.f10 (OpenSpec.ofChange Rows.compileSameSpec) false w args)
  (Rows.compileSameSpec.post enc Tryz.prog Tryz.f10 false true false false):=by
 refine returnsInHanded_of_change_and (C:=Tryz.checked) (X:=λw _=>laidMet Tryz.prog laidL w) (λ_ _ _ hh h=>h.of_heap hh) own started (by kernel_rfl) Tryz.func10
  (ChangeSpec.witness_at (enc:=enc) (C:=Tryz.checked) (os:=os) (X:=λw _=>laidMet Tryz.prog laidL w) false (laidWorld os) #[.agg #[.slice none 0 0,.slice none 0 0,.slice none 0 0,.int .i64 0],.agg #[.slice none 0 0,.slice none 0 0,.slice none 0 0,.int .i64 0]] 8 rfl (by kernel_rfl) (by kernel_rfl) (by kernel_rfl) (by kernel_rfl) (by kernel_rfl) (laidWorld_met os _)) ?_
 intro W base args ds gs before hval0 hW _ _ hL _
 have hG:GT W:=gw_of_laid hL
 have hval:∀(j:Nat) t v,Tryz.f10.params[j]? =some t->args[j]? =some v->Value.okWide Tryz.prog W .any base t v:=hval0
 have hW':=hW
 obtain⟨p,q,hA0,hV,rfl,hfz,hnd⟩:=hW
 have hA:DataW.TrodAll enc Tryz.prog W 0 (λ_=>true) true Tryz.f10.params.toList args.toList ds p:=hA0
 rw[Tryz.params10]at hA hval
 have hA2:DataW.TrodAll enc Tryz.prog W 0 (λ_=>true) true [34,34] args.toList ds p:=hA
 obtain⟨rfl,rfl⟩:=trodVars_none hV
 clear hA0 hval0
 simp only[List.append_nil]at hW'
 have hlt:∀x∈p,x.block<W.heap.size:=λx hx=>by simpa using hW'.lt x hx
 obtain⟨xs,⟨ok,hbulk⟩,hlen,hrel⟩:=yW (P:=Tryz.prog) [34,34] [(pr [(.list (pr [tI,tI,(pr [tW,tI]),(.list (pr [tB,(pr [tW,tI]),tI,tI])),(pr [(.list tI),(.list (.list tI)),(.list tB),tI]),(.list (pr [tB,tI,tI]))])),(.list (pr [tI,tI,tI])),(.list (pr [tB,(.list (pr [tI,tI,tI,tW,tW]))])),tI]),(pr [(.list (pr [tI,tI,(pr [tW,tI]),(.list (pr [tB,(pr [tW,tI]),tI,tI])),(pr [(.list tI),(.list (.list tI)),(.list tB),tI]),(.list (pr [tB,tI,tI]))])),(.list (pr [tI,tI,tI])),(.list (pr [tB,(.list (pr [tI,tI,tI,tW,tW]))])),tI])] args.toList ds p (by kernel_rfl) hA2 (λj t v ht hv=>⟨_,_,hval j t v (by simpa using ht) (by simpa using hv)⟩) hlt
 obtain⟨s,hC,hs⟩:=Pj xs ok
 have hcall:=xK (P:=Tryz.prog) mixed WR hG hlen hrel hC hs
 rw[show args.toList.toArray=args by simp]at hcall
 have hcall2:Calls Tryz.prog 10 args W λe W'=>e= .returned (.bool true)/\Below W.heap.size W W':=hcall
 refine hcall2.mono λe W' ⟨he,hnx⟩=>?_
 subst he
 have hst:=ka (P:=Tryz.prog) laidOut hnx [34,34] args.toList ds p (by kernel_rfl) hA2 hlt
 have hdl:=oh [34,34] args.toList ds p hA2
 clear hA2 hA hlen hrel
 match ds,hdl,hst,hW' with
 |[d0,d1],_,hst,hW'=>
  refine⟨_,rfl,_,_,_,[],p,[],hW',?_,?_,rfl,hnx.frame _,λh=>by cases h⟩
  ·exact trodAll_mk1 (shut_bool Tryz.underlying4 true)
  ·exact hst
theorem compileSame_cl:(Tryz.prog.inPlace 10,Tryz.prog.unfollowed 10,Tryz.prog.recurses 10,Tryz.prog.varsNamed 10)=(Rows.compileSameRow.inPlace,Rows.compileSameRow.unfollowed,Rows.compileSameRow.recurses,Rows.compileSameRow.named):=by kernel_rfl
theorem compileSame_jf:joinedFacts Tryz.prog 10 Tryz.f10 Rows.compileSameSpec Rows.compileSameRow=true:=by
 have h:=compileSame_cl
 rw[a_.injEq,a_.injEq,a_.injEq]at h
 unfold joinedFacts
 rw[laidOut,jM,jS,jE,jL,jK,h.1,h.2.1,h.2.2.1,h.2.2.2]
 show(_:Bool)=true
 kernel_rfl
theorem compileSame_holds:Rows.CompileSameSaid:=
 OpenClaim.holds_of_wide 10 Tryz.f10 rfl rfl rfl rfl rfl rfl rfl ⟨rfl,rfl,rfl,rfl,rfl⟩ rfl rfl rfl rfl rfl (by kernel_rfl) Tryz.func10 compileSame_jf
  (of_decide_eq_true (by kernel_rfl)) (by unfold Func.isWrapper;rw[if_neg (of_decide_eq_false (by kernel_rfl))];exact⟨rfl,rfl⟩)
  (λos started H enc _=>compileSame_lifted os started H enc)
end Go.Proofs.YtdgiglmmpbndmaaGreatDoor

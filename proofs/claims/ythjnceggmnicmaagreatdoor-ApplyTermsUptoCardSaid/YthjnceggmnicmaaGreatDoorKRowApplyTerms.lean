import Derived.Test.YthjnceggmnicmaaGreatDoorKGlueB
import Derived.Test.YthjnceggmnicmaaGreatDoorKLawApplyTerms
set_option linter.unusedVariables false
set_option linter.unusedSimpArgs false
namespace Go.Proofs.YthjnceggmnicmaaGreatDoor
open Go Go.Av Go.Ev Go.RowKit Go.ChangeShapes Go.WideShapes Go.ChangeAt
set_option maxRecDepth 100000 in
theorem applyTerms_lifted(os:Os)(started:os.Started)(H:Type)(enc:TypeId×Value->H)(F_:Stop.Interp):
 ReturnsInHanded {} Tryz.checked os 7 .any ((Rows.OpenSpec.upto Rows.applyTermsSpec).preRow enc Tryz.prog Tryz.f7 Rows.applyTermsUptoRow.domain false Rows.applyTermsUptoRow.laid)
  (((Rows.OpenSpec.upto Rows.applyTermsSpec).at F_).post enc Tryz.prog Tryz.f7 false true false false):=by
 obtain⟨places,hx⟩:∃places,DataW.whole enc Tryz.prog ((laidWorld os).forCall (λ_ _=>0) ⟨#[], #[.agg #[.slice none 0 0,.slice none 0 0,.slice none 0 0,.slice none 0 0],.string ⟨#[]⟩,.agg #[.int .u32 0,.int .i64 0,.int .i64 0,.int .u32 0,.slice none 0 0,.slice none 0 0,.int .i64 0,.int .i64 0,.int .i64 0,.int .i64 0]],[]⟩).memory Tryz.f7.params.toList Rows.applyTermsSpec.vars false (#[.agg #[.slice none 0 0,.slice none 0 0,.slice none 0 0,.slice none 0 0],.string ⟨#[]⟩,.agg #[.int .u32 0,.int .i64 0,.int .i64 0,.int .u32 0,.slice none 0 0,.slice none 0 0,.int .i64 0,.int .i64 0,.int .i64 0,.int .i64 0]]:Array Value).toList 8=some ([.agg [.nil,.nil,.nil,.nil],.lit (.string []),.agg [.agg [.lit (.int .u32 0),.lit (.int .i64 0)],.lit (.int .i64 0),.lit (.int .u32 0),.nil,.nil,.lit (.int .i64 0),.lit (.int .i64 0),.lit (.int .i64 0),.lit (.int .i64 0)]],[],places):=⟨[],by kernel_rfl⟩
 refine returnsInHanded_of_row (C:=Tryz.checked) (s:=Rows.OpenSpec.upto Rows.applyTermsSpec) own started (by kernel_rfl) Tryz.func7
  (witness_row_at (enc:=enc) (C:=Tryz.checked) false (laidWorld os) #[.agg #[.slice none 0 0,.slice none 0 0,.slice none 0 0,.slice none 0 0],.string ⟨#[]⟩,.agg #[.int .u32 0,.int .i64 0,.int .i64 0,.int .u32 0,.slice none 0 0,.slice none 0 0,.int .i64 0,.int .i64 0,.int .i64 0,.int .i64 0]] rfl (by kernel_rfl) (by kernel_rfl) (by kernel_rfl)
   (OpenSpec.preRow_of_cond 8 hx (by kernel_rfl) (λk hk'=>by cases hk';kernel_rfl) (by kernel_rfl) (laidWorld_met os _))) ?_
 intro W base args ds gs before hval0 hW _ hcond _ hL0 _ _
 have hL:laidMet Tryz.prog laidL W:=hL0
 have hG:GT W:=gw_of_laid hL
 have hval:∀(j:Nat) t v,Tryz.f7.params[j]? =some t->args[j]? =some v->Value.okWide Tryz.prog W .any base t v:=hval0
 have hW':=hW
 obtain⟨p,q,hA0,hV,rfl,hfz,hnd⟩:=hW
 have hA:DataW.TrodAll enc Tryz.prog W 0 (λ_=>true) true Tryz.f7.params.toList args.toList ds p:=hA0
 rw[Tryz.params7]at hA hval
 have hA2:DataW.TrodAll enc Tryz.prog W 0 (λ_=>true) true [39,9,29] args.toList ds p:=hA
 obtain⟨rfl,rfl⟩:=trodVars_none hV
 clear hA0 hval0
 simp only[List.append_nil]at hW'
 have hlt:∀x∈p,x.block<W.heap.size:=λx hx=>by simpa using hW'.lt x hx
 obtain⟨xs,⟨ok,hbulk⟩,hlen,hrel⟩:=It (P:=Tryz.prog) [39,9,29] [(pr [(.list (pr [tS,(.list (pr [tB,(pr [tW,tI]),tI,tI]))])),(.list (pr [tS,(.list (pr [tB,tS]))])),(.list (pr [tS,(.list (pr [tB,tI,tI]))])),(.list (pr [tS,(.list (pr [tS,(.list (pr [tI,tS,tI,(pr [tW,tI]),tB])),(.list (pr [tI,tI,tI,tW,tW])),tI])),tI]))]),tS,(pr [(pr [tW,tI]),tI,tW,(.list tI),(.list tW),tI,tI,tI,tI])] args.toList ds p (by kernel_rfl) hA2 (λj t v ht hv=>⟨_,_,hval j t v (by simpa using ht) (by simpa using hv)⟩) hlt
 obtain⟨s,hC,hs⟩:=MP xs ok (Nat.le_trans hbulk (bulk_small (hcond _ rfl)))
 have hcall:=Jw (P:=Tryz.prog) mixed zeo hG hlen hrel hC hs
 rw[show args.toList.toArray=args by simp]at hcall
 have hcall2:Calls Tryz.prog 7 args W λe W'=>e= .returned (.bool true)/\Below W.heap.size W W':=hcall
 refine hcall2.mono λe W' ⟨he,hnx⟩=>?_
 subst he
 have hst:=tt (P:=Tryz.prog) laidOut hnx [39,9,29] args.toList ds p (by kernel_rfl) hA2 hlt
 have hdl:=yd [39,9,29] args.toList ds p hA2
 clear hA2 hA hlen hrel
 match ds,hdl,hst,hW' with
 |[d0,d1,d2],_,hst,hW'=>
  refine⟨_,rfl,_,_,_,[],p,[],hW',?_,?_,rfl,hnx.frame _,λh=>by cases h⟩
  ·exact trodAll_mk1 (shut_bool Tryz.underlying4 true)
  ·exact hst
theorem applyTermsUpto_holds:Rows.ApplyTermsUptoSaid:=
 OpenClaim.holds_of_cond 7 Tryz.f7 rfl rfl rfl rfl rfl rfl rfl ⟨rfl,rfl,rfl,rfl,rfl⟩ rfl rfl rfl rfl rfl (by kernel_rfl) Tryz.func7 (by kernel_rfl)
  (of_decide_eq_true (by kernel_rfl)) (by unfold Func.isWrapper;rw[if_neg (of_decide_eq_false (by kernel_rfl))];exact⟨rfl,rfl⟩)
  (λos started H enc _ F_=>by rw[OpenClaim.pre_eq_preRow];exact applyTerms_lifted os started H enc F_)
end Go.Proofs.YthjnceggmnicmaaGreatDoor

/- DfaSame: the automaton of a pattern accepts the same paths and is minimal. Conditions: none. -/
import Derived.Test.YtbpdbooalkkenaaKGlueB
import Derived.Test.YtbpdbooalkkenaaKLawDfaBuild2
set_option linter.unusedVariables false
set_option linter.unusedSimpArgs false
namespace Go.Proofs.Ytbpdbooalkkenaa
open Go Go.Av Go.Ev Go.RowKit Go.ChangeShapes Go.WideShapes Go.ChangeAt
set_option maxRecDepth 100000 in
theorem dfaSame_lifted(os:Os)(started:os.Started)(H:Type)(enc:TypeId×Value->H):
 ReturnsInHanded {} Try.checked os 11 .any (Rows.dfaSameSpec.pre6 enc Try.prog Try.f11 [] false)
  (Rows.dfaSameSpec.post enc Try.prog Try.f11 false true false false):=by
 refine returnsInHanded_of_change (C:=Try.checked) own started (by kernel_rfl) Try.func11
  (ChangeSpec.witness6 (enc:=enc) (C:=Try.checked) (os:=os) false ⟨#[], #[.agg #[.int .i64 0,.int .i64 0,.int .i64 0,.slice none 0 0],.slice none 0 0],[]⟩ 8 (by kernel_rfl) (by kernel_rfl) (by kernel_rfl) (by kernel_rfl) (by kernel_rfl)) ?_
 intro W base args ds gs before hval0 hW _ _
 have hG:GT W:=trivial
 have hval:∀(j:Nat) t v,Try.f11.params[j]? =some t->args[j]? =some v->Value.okWide Try.prog W .any base t v:=hval0
 have hW':=hW
 obtain⟨p,q,hA0,hV,rfl,hfz,hnd⟩:=hW
 have hA:DataW.TrodAll enc Try.prog W 0 (λ_=>true) true Try.f11.params.toList args.toList ds p:=hA0
 rw[Try.params11]at hA hval
 have hA2:DataW.TrodAll enc Try.prog W 0 (λ_=>true) true [33,22] args.toList ds p:=hA
 obtain⟨rfl,rfl⟩:=trodVars_none hV
 clear hA0 hval0
 simp only[List.append_nil]at hW'
 have hlt:∀x∈p,x.block<W.heap.size:=λx hx=>by simpa using hW'.lt x hx
 obtain⟨xs,ok,hlen,hrel⟩:=yl (P:=Try.prog) [33,22] [.rx,(.list tI)] args.toList ds p (by kernel_rfl) hA2 (λj t v ht hv=>⟨_,_,hval j t v (by simpa using ht) (by simpa using hv)⟩) hlt
 obtain⟨s,hC,hs⟩:=Ee xs ok
 have hcall:=Bb (P:=Try.prog) mixed MV hG hlen hrel hC hs
 rw[show args.toList.toArray=args by simp]at hcall
 have hcall2:Calls Try.prog 11 args W λe W'=>e= .returned (.bool true)/\Below W.heap.size W W':=hcall
 refine hcall2.mono λe W' ⟨he,hnx⟩=>?_
 subst he
 have hst:=oY (P:=Try.prog) laidOut hnx [33,22] args.toList ds p (by kernel_rfl) hA2 hlt
 have hdl:=rA [33,22] args.toList ds p hA2
 clear hA2 hA hlen hrel
 match ds,hdl,hst,hW' with
 |[d0,d1],_,hst,hW'=>
  refine⟨_,rfl,_,_,_,[],p,[],hW',?_,?_,rfl,hnx.frame _,λh=>by cases h⟩
  ·exact trodAll_mk1 (shut_bool Try.underlying4 true)
  ·exact hst
theorem dfaSame_holds:Rows.DfaSameSaid:=
 OpenClaim.holds_of_wide 11 Try.f11 rfl rfl rfl rfl rfl rfl rfl ⟨rfl,rfl,rfl,rfl,rfl⟩ rfl rfl rfl rfl rfl (by kernel_rfl) Try.func11 (by kernel_rfl)
  (of_decide_eq_true (by kernel_rfl)) (by unfold Func.isWrapper;rw[if_neg (of_decide_eq_false (by kernel_rfl))];exact⟨rfl,rfl⟩)
  (λos started H enc _=>dfaSame_lifted os started H enc)
#print axioms dfaSame_holds
end Go.Proofs.Ytbpdbooalkkenaa

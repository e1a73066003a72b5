import Derived.Test.YtdgiglmmpbndmaaGreatDoorMLawDfaUse
import Derived.Test.YtdgiglmmpbndmaaGreatDoorMAw
set_option linter.unusedVariables false
set_option linter.unusedSimpArgs false
open Bool renaming eq_false_iff->c_,and_eq_true->d_
open Classical renaming byContradiction->a_
open Go.IntKind renaming wrap->j_,max->k_,min->l_
open List renaming getElem?_eq_getElem->b_,getElem_mem->e_,map->g_,map_cons->h_,sum_cons->i_
open Nat renaming zero_le->f_
namespace Go.Proofs.YtdgiglmmpbndmaaGreatDoor
open Go Go.Av Go.Ev Go.Pl
structure AutOk(a:eM):Prop where
 l1:a.1.length<=2000
 l2:a.2.1.length<=4096
 l3:a.2.2.1.length<=4096
 ts:∀t∈a.1,xF t=0
 rt:bT a a.2.2.2.1=true
 br:∀b∈a.2.1,K3 a b=0
 lf:∀l∈a.2.2.1,UN l=0
theorem PZ{a:eM}(h:kT a=0):AutOk a:=by
 unfold kT at h;split at h;·cases h
 rename_i e;split at h;·rename_i b;exact absurd h b
 rename_i b;split at h;·cases h
 rename_i d;split at h;·rename_i c;exact absurd h c
 rename_i c;exact⟨by omega,by omega,by omega,errL_zero.1 (a_ b),by simpa using d,errL_zero.1 (a_ c),errL_zero.1 h⟩
theorem zjm{a:eM}(h:AutOk a):kT a=0:=by have b:=h.l1;have c:=h.l2;have d:=h.l3;unfold kT;rw[if_neg (by omega),if_neg (not_not_intro (errL_zero.2 h.ts)),if_neg (by rw[h.rt];decide),if_neg (not_not_intro (errL_zero.2 h.br)),errL_zero.2 h.lf]
theorem P0{a:eM}{b:te}(h:K3 a b=0):(0<=b.1/\b.1<(a.1.length:Int))/\(bT a b.2.1=true/\bT a b.2.2.1=true)/\HW a b.2.1 b.1=true/\HW a b.2.2.1 b.1=true:=by
 unfold K3 at h;split at h;·cases h
 rename_i c;split at h;·cases h
 rename_i d;rw[not_or,not_or,not_or]at c;rw[not_or]at d;exact⟨⟨by omega,by omega⟩,⟨by simpa using c.2.2.1,by simpa using c.2.2.2⟩,by simpa using d.1,by simpa using d.2⟩
inductive Fol(a:eM)(res:Int->Bool):Int->Int->Nat->Prop
 |leaf {n:Int}:n<0->Fol a res n n 0
 |step {n m:Int} {k:Nat}:0<=n->Fol a res (if res (bp a n).1=true then(bp a n).2.1 else(bp a n).2.2.1) m k->Fol a res n m (k+1)
def mu(a:eM)(n:Int):Nat:=if n<0 then 0 else a.1.length - (bp a n).1.toNat
theorem tz{a:eM}(h:AutOk a){n:Int}(hn:bT a n=true)(p:0<=n):∀n',(n'=(bp a n).2.1\/n'=(bp a n).2.2.1)->bT a n'=true/\mu a n'<mu a n:=by
 obtain⟨k,rfl,b⟩:=mw hn p;obtain⟨⟨u,v⟩,⟨d,f⟩,j,l⟩:=P0 (h.br _ (e_ b));have e:mu a k=a.1.length - (a.2.1[k].1).toNat:=by unfold mu;rw[if_neg (by omega),iA b]
 have g:∀n',bT a n'=true->HW a n' a.2.1[k].1=true->bT a n'=true/\mu a n'<mu a k:=λn' r c=>by
  refine⟨r,?_⟩;rw[e];unfold mu;split;·omega
  ·rename_i s;unfold HW at c;simp only[Bool.or_eq_true,decide_eq_true_eq]at c;omega
 rw[iA b];rintro n' (rfl|rfl);·exact g _ d j
 ·exact g _ f l
theorem zkU{a:eM}(h:AutOk a)(res:Int->Bool):∀(N:Nat) (n:Int),bT a n=true->mu a n<=N->∃m k,Fol a res n m k/\m<0/\bT a m=true/\k<=N:=by
 intro N;induction N with
 |zero=>
  intro n hn f;by_cases b:n<0;·exact⟨n,0,.leaf b,b,hn,f_ _⟩
  ·have:=(tz h hn (by omega) _ (.inl rfl)).2;omega
 |succ N g=>
  intro n hn f;by_cases b:n<0;·exact⟨n,0,.leaf b,b,hn,f_ _⟩
  ·have hs:=tz h hn (by omega) (if res (bp a n).1=true then(bp a n).2.1 else(bp a n).2.2.1) (by split;exact .inl rfl;exact .inr rfl);obtain⟨m,k,c,d,e,j⟩:=g _ hs.1 (by omega);exact⟨m,k+1,.step (by omega) c,d,e,by omega⟩
structure FolOk(a:eM)(res:Int->Bool)(m:Int)(K:Nat):Prop where
 ok:AutOk a
 fol:Fol a res a.2.2.2.1 m K
 neg:m<0
 nd:bT a m=true
 le:K<=2000
theorem Qa(a:eM)(res:Int->Bool):∃m K,kT a=0->FolOk a res m K:=by
 by_cases h:kT a=0
 ·have b:=PZ h;obtain⟨m,k,c,d,e,f⟩:=zkU b res (mu a a.2.2.2.1) _ b.rt (Nat.le_refl _);have:mu a a.2.2.2.1<=a.1.length:=by unfold mu;split<;>omega
  have:=b.l1;exact⟨m,k,λ_=>⟨b,c,d,e,by omega⟩⟩
 ·exact⟨0,0,λh'=>absurd h' h⟩
theorem YN{σ l:Type}{body:Nat->σ->Option (σ⊕l)}{enc:Int->Nat->σ}(c:σ->Int){Q:l->Prop}{a:eM}{res:Int->Bool}{m:Int}{K:Nat}(h:FolOk a res m K)(u:∀n j,c (enc n j)=n) (hs:∀(n:Nat) (hn:n<a.2.1.length) (j:Nat) (i:Nat) (d:i<a.1.length),a.2.1[n].1=(i:Int)->j<K->Wp (λf=>body f (enc n j)) λr=>r= .inl (enc (if res i=true then a.2.1[n].2.1 else a.2.1[n].2.2.1) (j+1))) (hl:Wp (λf=>body f (enc m K)) λr=>match r with| .inl _=>False| .inr t=>Q t):Wp (λf=>aR f (body f) (enc a.2.2.2.1 0)) Q:=by
 refine Go.Ev.wp_loop (λs=>∃n j k,s=enc n j/\Fol a res n m k/\j+k=K/\bT a n=true) (λs=>mu a (c s)) ⟨_,0,K,rfl,h.fol,by omega,h.ok.rt⟩ ?_;rintro s ⟨n,j,k,rfl,v,w,hn⟩;cases v with
 |leaf e=>
  obtain rfl:j=K:=by omega
  refine Go.Ev.wp_mono hl λr hr=>?_;cases r with|inl s=>exact hr.elim|inr t=>exact hr
 |step e b=>have g:=tz h.ok hn e (if res (bp a n).1=true then(bp a n).2.1 else(bp a n).2.2.1) (by split;exact .inl rfl;exact .inr rfl);obtain⟨i,rfl,d⟩:=mw hn e;obtain⟨⟨p,y⟩,_⟩:=P0 (h.ok.br _ (e_ d));obtain⟨x,ex⟩:=Int.eq_ofNat_of_zero_le p;refine Go.Ev.wp_mono (hs i d j x (by omega) ex (by omega)) λr hr=>?_;subst hr;simp only[u];rw[iA d,ex]at b g;exact⟨⟨_,j+1,_,rfl,b,by omega,g.1⟩,g.2⟩
def dv(a:eM)(m:Int):CP:=(a.2.2.1[(-1 - m).toNat]?).getD (false,[],())
theorem eD{a:eM}{m:Int}(b:m<0)(h:bT a m=true):a.2.2.1[(-1 - m).toNat]? =some (dv a m):=by unfold bT at h;simp only[d_,decide_eq_true_eq]at h;unfold dv;rw[b_ (by omega)];rfl
theorem Ql{a:eM}{res:Int->Bool}{m:Int}{K:Nat}(h:FolOk a res m K){β:Type}{f:Nat->CP->Option β}{Q:β->Prop}(d:Wp (λn=>f n (dv a m)) Q):Wp (λn=>Option.bind (aT a.2.2.1 (j_ .i64 ((-1:Int) - m))) (f n)) Q:=by have b:=h.nd;have e:=h.ok.l3;have c:=h.neg;unfold bT at b;simp only[d_,decide_eq_true_eq]at b;rw[wrap_i64 (by omega) (by omega)];exact mU (by omega) (eD c h.nd) d
def Yn(l:List Bool)(i:Int):Bool:=(l[i.toNat]?).getD false
noncomputable def DN(a:eM)(l:List Bool)(m:Int):CP×Int×Unit:=if kT a≠0 then((false,[],()),kT a,())else if l.length≠a.1.length then((false,[],()),14,())else(dv a m,0,())
section
variable {a:eM} {l:List Bool} {m:Int} {K:Nat}
theorem zbZ{i:Nat}(a:i<l.length):Yn l i=l[i]:=by unfold Yn;rw[Int.toNat_natCast,b_ a];rfl
theorem CS{i:Nat}(a:i<l.length):aE tbl d5 [.d tI (i:Int),.dp (.list tB) l] [] et (Yn l i,()):=by refine ap rfl (aB DZ rfl (λO n=>Eb O n i l) ?_);unfold rL;rw[zbZ a];exact aG a (aa rfl)
theorem CU(h:FolOk a (Yn l) m K)(hl:l.length=a.1.length):aE tbl gS [.d wu a,.fnD ke [⟨(.list tB),l⟩]] [] eu (dv a m,(K:Int),()):=by
 refine ap rfl (aB D3 rfl (λO n=>Ec O n a l) ?_);unfold rM;refine ae (YN (enc:=λn j=>(n,((j:Nat):Int),false,())) (·.1) h (λ_ _=>rfl) (λn hn j i d e c=>?_) ?_)
 ·unfold jX;refine aL (decide_eq_true (by omega)) (aG hn ?_);simp only[e];refine ae (ak (CS (by omega)) (ar (λb=>aa (aa ?_)) λb=>aa (aa ?_)));·rw[if_pos b,aD c (by have:=h.le;omega)]
  ·rw[if_neg (c_.1 b),aD c (by have:=h.le;omega)]
 ·unfold jX;exact aA (decide_eq_false (by have:=h.neg;omega)) (aa (Ql h (aa rfl)))
theorem rH(e:okD wu a)(h:kT a=0->FolOk a (Yn l) m K)(d:kT a=0->(dv a m).2.1.length<=1048576):aE tbl dt [.d wu a,.d (.list tB) l] [] cf (DN a l m):=by
 refine ap rfl (aB Mf rfl (λO n=>Mu O n a l) ?_);unfold zO;refine ak (qn a e) (ar (λb=>aa ?_) λb=>ar (λc=>aa ?_) λc=>?_);·rw[show DN a l m=((false,[],()),kT a,())from if_pos (by simpa using b)]
 ·have b:kT a=0:=by simpa using b
  rw[show DN a l m=((false,[],()),14,())from by unfold DN;rw[if_neg (not_not_intro b),if_pos (by simp at c;omega)]]
 ·have b:kT a=0:=by simpa using b
  have c:l.length=a.1.length:=by simp at c;omega
  rw[show DN a l m=(dv a m,0,())from by unfold DN;rw[if_neg (not_not_intro b),if_neg (not_not_intro c)]];refine ak (CU (h b) c) (aI (decide_eq_true ?_) (aa ?_));·have:=d b;simp only[List.length_nil];omega
  ·rw[List.nil_append]
theorem OE(f:okD wu a)(h:kT a=0->FolOk a (Yn l) m K):aE tbl qy [.d wu a,.d (.list tB) l] [] gm (DN a l m):=by
 refine ap rfl (aB Pz rfl (λO n=>PU O n a l) ?_);unfold EA;refine ak (uj a f) (ar (λb=>aa ?_) λb=>ar (λc=>aa ?_) λc=>?_);·rw[show DN a l m=((false,[],()),kT a,())from if_pos (by simpa using b)]
 ·have b:kT a=0:=by simpa using b
  rw[show DN a l m=((false,[],()),14,())from by unfold DN;rw[if_neg (not_not_intro b),if_pos (by simp at c;omega)]]
 ·have b:kT a=0:=by simpa using b
  have c:l.length=a.1.length:=by simp at c;omega
  have h:=h b;rw[show DN a l m=(dv a m,0,())from by unfold DN;rw[if_neg (not_not_intro b),if_neg (not_not_intro c)]];refine ae (YN (enc:=λn _=>(n,false,())) (·.1) h (λ_ _=>rfl) (λn hn j i g e k=>?_) ?_)
  ·unfold r6;refine aL (decide_eq_true (by omega)) (aG hn ?_);simp only[e];refine aG (show i<l.length by omega) ?_;rw[<-zbZ (show i<l.length by omega)];refine ar (λd=>aa ?_) λd=>aa ?_;·rw[if_pos d]
   ·rw[if_neg (c_.1 d)]
  ·unfold r6;exact aA (decide_eq_false (by have:=h.neg;omega)) (aa (Ql h (aa rfl)))
end
theorem xL{a:eM}{res:Int->Bool}{m:Int}{K:Nat}(h:FolOk a res m K):dv a m∈a.2.2.1:=List.mem_of_getElem? (eD h.neg h.nd)
theorem zhN{t:Ty}{l:List t.den}{x:t.den}(a:x∈l):iB t x<=(l.map (iB t)).sum:=by
 induction l with
 |nil=>cases a|cons y l b=>
  rw[h_,i_];rcases List.mem_cons.1 a with rfl|h;·omega
  ·have:=b h;omega
theorem zhB{t:Ty}{l:List t.den}(h:∀x∈l,1<=iB t x):l.length<=(l.map (iB t)).sum:=by induction l with|nil=>exact f_ _|cons y l b=>rw[h_,i_,List.length_cons];have:=b λx a=>h x (List.mem_cons_of_mem _ a);have:=h y (List.mem_cons_self ..);omega
theorem Wi{a:eM}(b:iB wu a<=1048576){l:CP}(hl:l∈a.2.2.1):l.2.1.length<=1048576:=by
 have b:(g_ (iB MH) a.1).sum+1+((g_ (iB MG) a.2.1).sum+1+((g_ (iB Kx) a.2.2.1).sum+1+(1+0)))<=1048576:=b;have c:=zhN (t:=Kx) hl;have d:iB Kx l=1+((g_ (iB yA) l.2.1).sum+1+0):=rfl;have e:=zhB (t:=yA) (l:=l.2.1) λx _=>by show 1<=1+_;omega
 omega
theorem zh0{l:CP}(h:okD Kx l):okD wu ([],[],[l],0,()):=⟨qb,qb,R3 h,(by show l_ .i64<=(0:Int)/\(0:Int)<=k_ .i64;decide),trivial⟩
theorem J9:LawOkU lW [wu,.list tB]:=by
 rintro⟨a,l,_⟩ ⟨c,hl,_⟩ d;have d:iB wu a+_<=1048576:=d;refine⟨ej hM (true,()),?_,rfl⟩;refine aB D5 rfl (λO n=>Ed O n a l) ?_;unfold rN;obtain⟨m,K,b⟩:=Qa a (Yn l);refine ak (mD a) (ar (λ_=>ak oo (aa rfl)) λh=>?_);refine ak (rH c b λh=>Wi (by omega) (xL (b h))) (ak (OE c b) ?_);have e:okD Kx (DN a l m).1:=by
  have z:okD Kx (false,[],()):=⟨trivial,qb,trivial⟩;unfold DN;split;·exact z
  split;·exact z
  ·rename_i h _;exact c.2.2.1.2 _ (xL (b (a_ h)))
 refine ae (aL (by simp) (ak (oq _ _ (zh0 e)) (aa ?_)));rw[decide_eq_true rfl];exact ae (aL rfl (ak oo (aa (aa rfl))))
end Go.Proofs.YtdgiglmmpbndmaaGreatDoor

/- The merge and the sort; the program's slots. No condition. -/
import Derived.Test.YtjkfnhhekobfgaaGreatDoorW5
set_option maxRecDepth 10000
set_option maxHeartbeats 8000000
set_option linter.all false
noncomputable section W32s
namespace Go.Ab
open Go.Ab
theorem acr {k:Nat} (ih:∀ {A X Y B:List cS} {N a m b:Nat},X.length+Y.length≤k->0<X.length->0<Y.length->lR X->lR Y->(∀s∈X,rL s)->(∀s∈Y,rL s)->a=A.length->m=a+X.length->b=m+Y.length->N=A.length+(X.length+(Y.length+B.length))->N≤64->
  ai Pg I.au [.rs KB [] 0 N N 34 .tip,.int .i64 ((a:Nat):Int),.int .i64 ((m:Nat):Int),.int .i64 ((b:Nat):Int),.fn (.func I.bh) [] []] [.arr 34 ((A++(X++(Y++B))).map aM)] (λr fp=>r= .tup []∧fp=[.arr 34 ((A++(qe X Y++B)).map aM)]))
  {A X Y B:List cS} {N a m b:Nat} (hk:X.length+Y.length≤k+1) (hX0:1<X.length) (hY0:1<Y.length) (Y0:lR X) (Y3:lR Y) (hux:∀s∈X,rL s) (huy:∀s∈Y,rL s) (ha:a=A.length) (hm:m=a+X.length) (hb:b=m+Y.length) (IZ:N=A.length+(X.length+(Y.length+B.length))) (hN:N≤64)
  (i e mid:Nat) (Wr:mid=(a+b)/2) (he:e=mid+m-i) (h1:a≤i) (h2:i≤m) (h3:m≤e) (h4:e≤b)
  (q1:a<i->e<b->∀(x y:cS),X[i-1-a]? =some x->Y[e-m]? =some y->x.index≤y.index)
  (q2:i<m->m<e->∀(x y:cS),X[i-a]? =some x->Y[e-1-m]? =some y->y.index<x.index):
  ∃
   D1 D2,((i<m∧m<e∧ai Pg I.bt [.rs KB [] 0 N N 34 .tip,.int .i64 ((i:Nat):Int),.int .i64 ((m:Nat):Int),.int .i64 ((e:Nat):Int),.fn (.func I.bh) [] []] [.arr 34 ((A++(X++(Y++B))).map aM)] (λr fp=>r= .tup []∧fp=[.arr 34 (D1.map aM)]))∨(¬(i<m∧m<e)∧D1=A++(X++(Y++B))))∧
   ((a<i∧i<mid∧ai Pg I.au [.rs KB [] 0 N N 34 .tip,.int .i64 ((a:Nat):Int),.int .i64 ((i:Nat):Int),.int .i64 ((mid:Nat):Int),.fn (.func I.bh) [] []] [.arr 34 (D1.map aM)] (λr fp=>r= .tup []∧fp=[.arr 34 (D2.map aM)]))∨(¬(a<i∧i<mid)∧D2=D1))∧
   ((mid<e∧e<b∧ai Pg I.au [.rs KB [] 0 N N 34 .tip,.int .i64 ((mid:Nat):Int),.int .i64 ((e:Nat):Int),.int .i64 ((b:Nat):Int),.fn (.func I.bh) [] []] [.arr 34 (D2.map aM)] (λr fp=>r= .tup []∧fp=[.arr 34 ((A++(qe X Y++B)).map aM)]))∨(¬(mid<e∧e<b)∧A++(qe X Y++B)=D2)):=by
 obtain⟨X1,hX1⟩:∃X1,X1=X.take (i-a):=⟨_,rfl⟩
 obtain⟨X2,hX2⟩:∃X2,X2=X.drop (i-a):=⟨_,rfl⟩
 obtain⟨Y1,hY1⟩:∃Y1,Y1=Y.take (e-m):=⟨_,rfl⟩
 obtain⟨Y2,hY2⟩:∃Y2,Y2=Y.drop (e-m):=⟨_,rfl⟩
 have eX:X=X1++X2:=by rw[hX1,hX2,List.take_append_drop]
 have eY:Y=Y1++Y2:=by rw[hY1,hY2,List.take_append_drop]
 have l1:X1.length=i-a:=by rw[hX1,lJ];omega
 have l2:X2.length=m-i:=by rw[hX2,List.length_drop];omega
 have l3:Y1.length=e-m:=by rw[hY1,lJ];omega
 have l4:Y2.length=b-e:=by rw[hY2,List.length_drop];omega
 have sx:=Y0
 have sy:=Y3
 rw[eX]at sx
 rw[eY]at sy
 unfold lR at sx sy
 rw[List.pairwise_append]at sx sy
 have Hg:∀x∈X1,∀z,X[i-1-a]? =some z->x.index≤z.index:=λx hx z hz=>by
  obtain⟨u,hu,rfl⟩:=List.mem_iff_getElem.1 hx
  have hxi:X1[u]=X[u]'(by omega):=by simp[hX1]
  obtain⟨dG,rfl⟩:=List.getElem?_eq_some_iff.1 hz
  rw[hxi]
  by_cases e0:u=i-1-a
  ·subst e0;exact Int.le_refl _
  ·exact List.pairwise_iff_getElem.1 Y0 u (i-1-a) (by omega) (by omega) (by omega)
 have y7:∀y∈Y2,∀z,Y[e-m]? =some z->z.index≤y.index:=λy hy z hz=>by
  obtain⟨u,hu,rfl⟩:=List.mem_iff_getElem.1 hy
  have hyi:Y2[u]=Y[e-m+u]'(by omega):=by simp[hY2]
  obtain⟨dG,rfl⟩:=List.getElem?_eq_some_iff.1 hz
  rw[hyi]
  by_cases e0:u=0
  ·subst e0;exact Int.le_refl _
  ·exact List.pairwise_iff_getElem.1 Y3 (e-m) (e-m+u) (by omega) (by omega) (by omega)
 have Ws:∀y∈Y1,∀z,Y[e-1-m]? =some z->y.index≤z.index:=λy hy z hz=>by
  obtain⟨u,hu,rfl⟩:=List.mem_iff_getElem.1 hy
  have hyi:Y1[u]=Y[u]'(by omega):=by simp[hY1]
  obtain⟨dG,rfl⟩:=List.getElem?_eq_some_iff.1 hz
  rw[hyi]
  by_cases e0:u=e-1-m
  ·subst e0;exact Int.le_refl _
  ·exact List.pairwise_iff_getElem.1 Y3 u (e-1-m) (by omega) (by omega) (by omega)
 have P7:∀x∈X2,∀z,X[i-a]? =some z->z.index≤x.index:=λx hx z hz=>by
  obtain⟨u,hu,rfl⟩:=List.mem_iff_getElem.1 hx
  have hxi:X2[u]=X[i-a+u]'(by omega):=by simp[hX2]
  obtain⟨dG,rfl⟩:=List.getElem?_eq_some_iff.1 hz
  rw[hxi]
  by_cases e0:u=0
  ·subst e0;exact Int.le_refl _
  ·exact List.pairwise_iff_getElem.1 Y0 (i-a) (i-a+u) (by omega) (by omega) (by omega)
 have vB:qe X Y=qe X1 Y1++qe X2 Y2:=by
  rw[eX,eY]
  refine rD (λx hx y hy=> ?_) (λy hy x hx=> ?_)
  ·have p1:=List.length_pos_of_mem hx
   have p2:=List.length_pos_of_mem hy
   have g1:X[i-1-a]? =some (X[i-1-a]'(by omega)):=gJ (by omega)
   have g2:Y[e-m]? =some (Y[e-m]'(by omega)):=gJ (by omega)
   have:=q1 (by omega) (by omega) _ _ g1 g2
   have:=Hg x hx _ g1
   have:=y7 y hy _ g2
   omega
  ·have p1:=List.length_pos_of_mem hy
   have p2:=List.length_pos_of_mem hx
   have g1:X[i-a]? =some (X[i-a]'(by omega)):=gJ (by omega)
   have g2:Y[e-1-m]? =some (Y[e-1-m]'(by omega)):=gJ (by omega)
   have:=q2 (by omega) (by omega) _ _ g1 g2
   have:=Ws y hy _ g2
   have:=P7 x hx _ g1
   omega
 have PQ:∀s∈X1,rL s:=λs h=>hux s (by rw[eX];simp[h])
 have FE:∀s∈X2,rL s:=λs h=>hux s (by rw[eX];simp[h])
 have hu3:∀s∈Y1,rL s:=λs h=>huy s (by rw[eY];simp[h])
 have hu4:∀s∈Y2,rL s:=λs h=>huy s (by rw[eY];simp[h])
 have ml:(qe X1 Y1).length=X1.length+Y1.length:=by rw[(qS _ _).length_eq,List.length_append]
 rw[vB,eX,eY]
 refine⟨A++(X1++(Y1++(X2++(Y2++B)))),A++(qe X1 Y1++(X2++(Y2++B))),?_,?_,?_⟩
 ·by_cases c:i<m∧m<e
  ·refine .inl ⟨c.1,c.2,?_⟩
   have h:=ahY (A:=A++X1) (X:=X2) (Y:=Y1) (B:=Y2++B) (N:=N) (a:=i) (m:=m) (b:=e) (by simp;omega) (by omega) (by omega) (by simp;omega) (by omega) (by simp;omega) hN
   simpa only[List.append_assoc]using h
  ·refine .inr ⟨c,?_⟩
   have:X2=[]∨Y1=[]:=by
    by_cases c1:i<m
    ·exact .inr (List.length_eq_zero_iff.1 (by omega))
    ·exact .inl (List.length_eq_zero_iff.1 (by omega))
   rcases this with e|e<;>simp[e]
 ·by_cases c:a<i∧i<mid
  ·refine .inl ⟨c.1,c.2,?_⟩
   exact ih (A:=A) (X:=X1) (Y:=Y1) (B:=X2++(Y2++B)) (by omega) (by omega) (by omega) sx.1 sy.1 PQ hu3 ha (by omega) (by omega) (by simp;omega) hN
  ·refine .inr ⟨c,?_⟩
   have:X1=[]∨Y1=[]:=by
    by_cases c1:a<i
    ·exact .inr (List.length_eq_zero_iff.1 (by omega))
    ·exact .inl (List.length_eq_zero_iff.1 (by omega))
   rcases this with e|e<;>simp[e,qe,rC]
 ·by_cases c:mid<e∧e<b
  ·refine .inl ⟨c.1,c.2,?_⟩
   have h:=ih (A:=A++qe X1 Y1) (X:=X2) (Y:=Y2) (B:=B) (N:=N) (a:=mid) (m:=e) (b:=b) (by omega) (by omega) (by omega) sx.2.1 sy.2.1 FE hu4 (by simp[ml];omega) (by omega) (by omega) (by simp[ml];omega) hN
   simpa only[List.append_assoc]using h
  ·refine .inr ⟨c,?_⟩
   have:X2=[]∨Y2=[]:=by
    by_cases c1:mid<e
    ·exact .inr (List.length_eq_zero_iff.1 (by omega))
    ·exact .inl (List.length_eq_zero_iff.1 (by omega))
   rcases this with e|e<;>simp[e,qe,rC]
end Go.Ab
end W32s
noncomputable section W33s
namespace Go.Ab
open Go.Ab
theorem acs {k:Nat} (ih:∀ {A X Y B:List cS} {N a m b:Nat},X.length+Y.length≤k->0<X.length->0<Y.length->lR X->lR Y->(∀s∈X,rL s)->(∀s∈Y,rL s)->a=A.length->m=a+X.length->b=m+Y.length->N=A.length+(X.length+(Y.length+B.length))->N≤64->
  ai Pg I.au [.rs KB [] 0 N N 34 .tip,.int .i64 ((a:Nat):Int),.int .i64 ((m:Nat):Int),.int .i64 ((b:Nat):Int),.fn (.func I.bh) [] []] [.arr 34 ((A++(X++(Y++B))).map aM)] (λr fp=>r= .tup []∧fp=[.arr 34 ((A++(qe X Y++B)).map aM)]))
  {A X Y B:List cS} {N a m b:Nat} (hk:X.length+Y.length≤k+1) (hX0:1<X.length) (hY0:1<Y.length) (Y0:lR X) (Y3:lR Y) (hux:∀s∈X,rL s) (huy:∀s∈Y,rL s) (ha:a=A.length) (hm:m=a+X.length) (hb:b=m+Y.length) (IZ:N=A.length+(X.length+(Y.length+B.length))) (hN:N≤64):
  ai Pg I.au [.rs KB [] 0 N N 34 .tip,.int .i64 ((a:Nat):Int),.int .i64 ((m:Nat):Int),.int .i64 ((b:Nat):Int),.fn (.func I.bh) [] []] [.arr 34 ((A++(X++(Y++B))).map aM)] (λr fp=>r= .tup []∧fp=[.arr 34 ((A++(qe X Y++B)).map aM)]):=by
 refine ai.intro T.au (by simp[F.au]) ?_
 obtain⟨mid,Wr⟩:∃mid,mid=(a+b)/2:=⟨_,rfl⟩
 obtain⟨nn,Sr⟩:∃nn,nn=mid+m:=⟨_,rfl⟩
 obtain⟨D,hD⟩:∃D,D=A++(X++(Y++B)):=⟨_,rfl⟩
 obtain⟨T,hT⟩:∃T,T=A++(qe X Y++B):=⟨_,rfl⟩
 have I0:∀t (h:t<X.length),D[a+t]? =some X[t]:=λt h=>by
  rw[hD,List.getElem?_append_right (by omega),show a+t-A.length=t by omega,List.getElem?_append_left h,gJ h]
 have I1:∀t (h:t<Y.length),D[m+t]? =some Y[t]:=λt h=>by
  rw[hD,List.getElem?_append_right (by omega),show m+t-A.length=X.length+t by omega,List.getElem?_append_right (by omega),show X.length+t-X.length=t by omega,List.getElem?_append_left h,gJ h]
 have Mu:=λi e (he:e=nn-i) h1 h2 h3 h4 (q1:a<i∧e<b->ky D (i-1)≤ky D e) (q2:i<m∧m<e->ky D (e-1)<ky D i)=>acr ih hk hX0 hY0 Y0 Y3 hux huy ha hm hb IZ hN i e mid Wr (by omega) h1 h2 h3 h4 (λc1 c2 x y gx gy=>by
  obtain⟨R7,rfl⟩:=List.getElem?_eq_some_iff.1 gx
  obtain⟨hly,rfl⟩:=List.getElem?_eq_some_iff.1 gy
  have g1:=od (I0 _ R7)
  have g2:=od (I1 _ hly)
  rw[show a+(i-1-a)=i-1 by omega]at g1
  rw[show m+(e-m)=e by omega]at g2
  have:=q1 ⟨c1,c2⟩
  omega) (λc1 c2 x y gx gy=>by
  obtain⟨R7,rfl⟩:=List.getElem?_eq_some_iff.1 gx
  obtain⟨hly,rfl⟩:=List.getElem?_eq_some_iff.1 gy
  have g1:=od (I0 _ R7)
  have g2:=od (I1 _ hly)
  rw[show a+(i-a)=i by omega]at g1
  rw[show m+(e-1-m)=e-1 by omega]at g2
  have:=q2 ⟨c1,c2⟩
  omega)
 rw[←hD,←hT]
 simp only[←hD,←hT]at Mu
 have da:∀t,a≤t->t<b->∃s,D[t]? =some s∧rL s:=λt h1 h2=>by
  by_cases c:t<m
  ·have:=I0 (t-a) (by omega)
   rw[show a+(t-a)=t by omega]at this
   exact⟨_,this,hux _ (List.getElem_mem _)⟩
  ·have:=I1 (t-m) (by omega)
   rw[show m+(t-m)=t by omega]at this
   exact⟨_,this,huy _ (List.getElem_mem _)⟩
 have kx:∀s t,a≤s->s≤t->t<m->ky D s≤ky D t:=λs t h1 h2 h3=>by
  have g1:=od (I0 (s-a) (by omega))
  have g2:=od (I0 (t-a) (by omega))
  rw[show a+(s-a)=s by omega]at g1
  rw[show a+(t-a)=t by omega]at g2
  by_cases e:s=t
  ·subst e;exact Int.le_refl _
  ·have:=List.pairwise_iff_getElem.1 Y0 (s-a) (t-a) (by omega) (by omega) (by omega)
   omega
 have kz:∀s t,m≤s->s≤t->t<b->ky D s≤ky D t:=λs t h1 h2 h3=>by
  have g1:=od (I1 (s-m) (by omega))
  have g2:=od (I1 (t-m) (by omega))
  rw[show m+(s-m)=s by omega]at g1
  rw[show m+(t-m)=t by omega]at g2
  by_cases e:s=t
  ·subst e;exact Int.le_refl _
  ·have:=List.pairwise_iff_getElem.1 Y3 (s-m) (t-m) (by omega) (by omega) (by omega)
   omega
 obtain⟨p,hp⟩:∃p:Nat->Bool,p=λc=>decide (ky D c≤ky D (nn-1-c)):=⟨_,rfl⟩
 have Ck:∀c,p c=decide (ky D c≤ky D (nn-1-c)):=λc=>by rw[hp]
 have A0:∀s t,(a≤s∧nn-1-s<b)->s≤t->(t<m∧m≤nn-1-t)->p t=true->p s=true:=λs t h1 h2 h3 h4=>by
  rw[Ck]at h4⊢
  have h5:=of_decide_eq_true h4
  have h6:=kx s t h1.1 h2 h3.1
  have h7:=kz (nn-1-t) (nn-1-s) h3.2 (by omega) h1.2
  exact decide_eq_true (by omega)
 have xg:D.length=N:=by rw[hD];simp;omega
 have w1:IntKind.i64.wrap ((m:Int)-a)=(X.length:Int):=by rw[wrap_i64 (by omega)];omega
 have w2:IntKind.i64.wrap ((b:Int)-m)=(Y.length:Int):=by rw[wrap_i64 (by omega)];omega
 have P6:¬(X.length:Int)=1:=by omega
 have Hi:¬X.length=1:=by omega
 have adR:¬(Y.length:Int)=1:=by omega
 have Sw:¬Y.length=1:=by omega
 have hwm:=half (i:=a) (j:=b) (by omega)
 rw[←Wr]at hwm
 have wn:IntKind.i64.wrap ((mid:Int)+m)=(nn:Int):=by rw[wrap_i64 (by omega)];omega
 have wn1:IntKind.i64.wrap ((nn:Int)-1)=(nn:Int)-1:=wrap_i64 (by omega)
 clear hD hT ih I0 I1 hp
 by_cases PC:mid<m
 ·obtain⟨lo,L0⟩:∃lo,lo=nn-b:=⟨_,rfl⟩
  have wlo:IntKind.i64.wrap ((nn:Int)-b)=(lo:Int):=by rw[wrap_i64 (by omega)];omega
  simp[F.au,aj,aF,w1,P6,Hi]
  simp[↓ah,w2,adR,Sw]
  have Wt:¬m≤mid:=by omega
  simp[↓ah,hwm,wn,PC,Wt,wlo,wn1]
  obtain⟨n,hB⟩:=Bs.start (p:=p) (lo:=lo) (hi:=mid) (by omega)
  refine fb.C9 n (lo,mid) (λi y=>B6 p lo mid (n-i) y) [0,1,2,3,4,18,19,20,21,22] (λi y=>[(20,.int .i64 (y.1:Nat)),(21,.int .i64 (y.2:Nat))]) (λi y=>[]) [.keep [0,1,2,3,4,18,19,20,21,22]] ?_
  simp
  refine⟨hB,λk i j hk hy K hK=> ?_,λi j hy K=> ?_⟩
  ·obtain⟨h1,h2⟩:=hy.step (λs t e1 e2 e3 e4=>A0 s t (by omega) e2 (by omega) e4) hk
   have DZ:=hy.a
   have oA:=hy.b
   simp only at h1 h2 DZ oA
   have uu:(i:Int)<j:=by omega
   have wh:=half (i:=i) (j:=j) (by omega)
   have YZ:i≤(i+j)/2∧(i+j)/2<j:=by omega
   generalize (i+j)/2=h at*
   have IG:h<N:=by omega
   obtain⟨g,hg⟩:∃g,g=nn-1-h:=⟨_,rfl⟩
   have P5:g<N:=by omega
   have wg:IntKind.i64.wrap ((nn:Int)-1-h)=(g:Int):=by rw[wrap_i64 (by omega)];omega
   have D3:=Ck h
   rw[←hg]at D3
   obtain⟨x,Ms,hxU⟩:=da h (by omega) (by omega)
   obtain⟨y,hDg,hyU⟩:=da g (by omega) (by omega)
   rw[od Ms,od hDg]at D3
   have Mq:=AN hyU hxU
   have Wu:(h:Int)<N:=by omega
   have Wv:(g:Int)<N:=by omega
   have wh1:IntKind.i64.wrap ((h:Int)+1)=((h+1:Nat):Int):=by rw[wrap_i64 (by omega)];omega
   simp[↓ah,uu,wh,wg,Ms,hDg,xg,IG,P5,Wu,Wv,-getElem?_pos]
   refine aU.ret Mq (by simp) (by simp) (by simp) ?_
   rcases h2 with⟨e,hI⟩|⟨e,hI⟩
   ·rw[D3]at e
    have na:¬y.index-x.index<0:=by have:=of_decide_eq_true e;omega
    simp[na,wh1]
    refine⟨[.keep [0,1,2,3,4,18,19,20,21,22]],?_⟩
    simp
    exact hK _ _ _ (by simp) hI
   ·rw[D3]at e
    have na:y.index-x.index<0:=by have:=of_decide_eq_false e;omega
    simp[na]
    refine⟨[.keep [0,1,2,3,4,18,19,20,21,22]],?_⟩
    simp
    exact hK _ _ _ (by simp) hI
  ·have he:=hy.s.zero (by omega)
   simp only at he
   subst he
   have DZ:=hy.a
   have oA:=hy.b
   have hyt:=hy.t
   have hyf:=hy.f
   simp only at DZ oA hyt hyf
   obtain⟨e,he⟩:∃e,e=nn-i:=⟨_,rfl⟩
   have we:IntKind.i64.wrap ((nn:Int)-i)=(e:Int):=by rw[wrap_i64 (by omega)];omega
   obtain⟨D1,D2,d1,d2,d3⟩:=Mu i e he (by omega) (by omega) (by omega) (by omega) (λdG=>by
    have h5:p (i-1)=true:=hyt (i-1) (by omega) (by omega)
    rw[Ck]at h5
    have h6:=of_decide_eq_true h5
    rw[show nn-1-(i-1)=e by omega]at h6
    exact h6) (λdG=>by
    have h5:p i=false:=hyf i (by omega) (by omega)
    rw[Ck]at h5
    have h6:=of_decide_eq_false h5
    rw[show nn-1-i=e-1 by omega]at h6
    omega)
   simp[↓ah,we]
   rcases d1 with⟨c1,c2,hc⟩|⟨c,e2⟩
   ·simp[↓ah,c1,c2,Nat.not_le.2 c1,Nat.not_le.2 c2]
    refine an.gen [KB] [] [.arr 34 (D.map aM)] hc (by simp[getAll]) (by simp) (by simp) (by simp[ab,ae,bM,idx]) (by simp[af,(az D).refs]) (by simp[aD,aB,bp,idx]) (by simp[aE,(az D).aB]) (by simp[af,ae,ab,(az D1).refs]) ?_
    simp[bb,aE,aB,aD,dv,(az D1).aB]
    rcases d2 with⟨c1,c2,hc⟩|⟨c,e2⟩
    ·simp[↓ah,c1,c2,Nat.not_le.2 c1,Nat.not_le.2 c2]
     refine an.gen [KB] [] [.arr 34 (D1.map aM)] hc (by simp[getAll]) (by simp) (by simp) (by simp[ab,ae,bM,idx]) (by simp[af,(az D1).refs]) (by simp[aD,aB,bp,idx]) (by simp[aE,(az D1).aB]) (by simp[af,ae,ab,(az D2).refs]) ?_
     simp[bb,aE,aB,aD,dv,(az D2).aB]
     rcases d3 with⟨c1,c2,hc⟩|⟨c,e2⟩
     ·simp[↓ah,c1,c2,Nat.not_le.2 c1,Nat.not_le.2 c2]
      refine an.gen [KB] [] [.arr 34 (D2.map aM)] hc (by simp[getAll]) (by simp) (by simp) (by simp[ab,ae,bM,idx]) (by simp[af,(az D2).refs]) (by simp[aD,aB,bp,idx]) (by simp[aE,(az D2).aB]) (by simp[af,ae,ab,(az T).refs]) ?_
      simp[bb,aE,aB,aD,dv,(az T).aB]
      refine al.with [] [KB] ?_
      simp[af,aE,ae,aB,aD,ab,cT]
     ·subst e2
      by_cases c1:mid<e
      ·have c2:¬(e<b):=λh=>c ⟨c1,h⟩
       simp[↓ah,c1,c2,Nat.not_le.2 c1,Nat.le_of_not_lt c2]
       refine al.with [] [KB] ?_
       simp[af,aE,ae,aB,aD,ab,cT]
      ·simp[↓ah,c1,Nat.le_of_not_lt c1]
       refine al.with [] [KB] ?_
       simp[af,aE,ae,aB,aD,ab,cT]
    ·subst e2
     by_cases c1:a<i
     ·have c2:¬(i<mid):=λh=>c ⟨c1,h⟩
      simp[↓ah,c1,c2,Nat.not_le.2 c1,Nat.le_of_not_lt c2]
      rcases d3 with⟨c1,c2,hc⟩|⟨c,e2⟩
      ·simp[↓ah,c1,c2,Nat.not_le.2 c1,Nat.not_le.2 c2]
       refine an.gen [KB] [] [.arr 34 (D2.map aM)] hc (by simp[getAll]) (by simp) (by simp) (by simp[ab,ae,bM,idx]) (by simp[af,(az D2).refs]) (by simp[aD,aB,bp,idx]) (by simp[aE,(az D2).aB]) (by simp[af,ae,ab,(az T).refs]) ?_
       simp[bb,aE,aB,aD,dv,(az T).aB]
       refine al.with [] [KB] ?_
       simp[af,aE,ae,aB,aD,ab,cT]
      ·subst e2
       by_cases c1:mid<e
       ·have c2:¬(e<b):=λh=>c ⟨c1,h⟩
        simp[↓ah,c1,c2,Nat.not_le.2 c1,Nat.le_of_not_lt c2]
        refine al.with [] [KB] ?_
        simp[af,aE,ae,aB,aD,ab,cT]
       ·simp[↓ah,c1,Nat.le_of_not_lt c1]
        refine al.with [] [KB] ?_
        simp[af,aE,ae,aB,aD,ab,cT]
     ·simp[↓ah,c1,Nat.le_of_not_lt c1]
      rcases d3 with⟨c1,c2,hc⟩|⟨c,e2⟩
      ·simp[↓ah,c1,c2,Nat.not_le.2 c1,Nat.not_le.2 c2]
       refine an.gen [KB] [] [.arr 34 (D2.map aM)] hc (by simp[getAll]) (by simp) (by simp) (by simp[ab,ae,bM,idx]) (by simp[af,(az D2).refs]) (by simp[aD,aB,bp,idx]) (by simp[aE,(az D2).aB]) (by simp[af,ae,ab,(az T).refs]) ?_
       simp[bb,aE,aB,aD,dv,(az T).aB]
       refine al.with [] [KB] ?_
       simp[af,aE,ae,aB,aD,ab,cT]
      ·subst e2
       by_cases c1:mid<e
       ·have c2:¬(e<b):=λh=>c ⟨c1,h⟩
        simp[↓ah,c1,c2,Nat.not_le.2 c1,Nat.le_of_not_lt c2]
        refine al.with [] [KB] ?_
        simp[af,aE,ae,aB,aD,ab,cT]
       ·simp[↓ah,c1,Nat.le_of_not_lt c1]
        refine al.with [] [KB] ?_
        simp[af,aE,ae,aB,aD,ab,cT]
   ·subst e2
    by_cases c1:i<m
    ·have c2:¬(m<e):=λh=>c ⟨c1,h⟩
     simp[↓ah,c1,c2,Nat.not_le.2 c1,Nat.le_of_not_lt c2]
     rcases d2 with⟨c1,c2,hc⟩|⟨c,e2⟩
     ·simp[↓ah,c1,c2,Nat.not_le.2 c1,Nat.not_le.2 c2]
      refine an.gen [KB] [] [.arr 34 (D1.map aM)] hc (by simp[getAll]) (by simp) (by simp) (by simp[ab,ae,bM,idx]) (by simp[af,(az D1).refs]) (by simp[aD,aB,bp,idx]) (by simp[aE,(az D1).aB]) (by simp[af,ae,ab,(az D2).refs]) ?_
      simp[bb,aE,aB,aD,dv,(az D2).aB]
      rcases d3 with⟨c1,c2,hc⟩|⟨c,e2⟩
      ·simp[↓ah,c1,c2,Nat.not_le.2 c1,Nat.not_le.2 c2]
       refine an.gen [KB] [] [.arr 34 (D2.map aM)] hc (by simp[getAll]) (by simp) (by simp) (by simp[ab,ae,bM,idx]) (by simp[af,(az D2).refs]) (by simp[aD,aB,bp,idx]) (by simp[aE,(az D2).aB]) (by simp[af,ae,ab,(az T).refs]) ?_
       simp[bb,aE,aB,aD,dv,(az T).aB]
       refine al.with [] [KB] ?_
       simp[af,aE,ae,aB,aD,ab,cT]
      ·subst e2
       by_cases c1:mid<e
       ·have c2:¬(e<b):=λh=>c ⟨c1,h⟩
        simp[↓ah,c1,c2,Nat.not_le.2 c1,Nat.le_of_not_lt c2]
        refine al.with [] [KB] ?_
        simp[af,aE,ae,aB,aD,ab,cT]
       ·simp[↓ah,c1,Nat.le_of_not_lt c1]
        refine al.with [] [KB] ?_
        simp[af,aE,ae,aB,aD,ab,cT]
     ·subst e2
      by_cases c1:a<i
      ·have c2:¬(i<mid):=λh=>c ⟨c1,h⟩
       simp[↓ah,c1,c2,Nat.not_le.2 c1,Nat.le_of_not_lt c2]
       rcases d3 with⟨c1,c2,hc⟩|⟨c,e2⟩
       ·simp[↓ah,c1,c2,Nat.not_le.2 c1,Nat.not_le.2 c2]
        refine an.gen [KB] [] [.arr 34 (D2.map aM)] hc (by simp[getAll]) (by simp) (by simp) (by simp[ab,ae,bM,idx]) (by simp[af,(az D2).refs]) (by simp[aD,aB,bp,idx]) (by simp[aE,(az D2).aB]) (by simp[af,ae,ab,(az T).refs]) ?_
        simp[bb,aE,aB,aD,dv,(az T).aB]
        refine al.with [] [KB] ?_
        simp[af,aE,ae,aB,aD,ab,cT]
       ·subst e2
        by_cases c1:mid<e
        ·have c2:¬(e<b):=λh=>c ⟨c1,h⟩
         simp[↓ah,c1,c2,Nat.not_le.2 c1,Nat.le_of_not_lt c2]
         refine al.with [] [KB] ?_
         simp[af,aE,ae,aB,aD,ab,cT]
        ·simp[↓ah,c1,Nat.le_of_not_lt c1]
         refine al.with [] [KB] ?_
         simp[af,aE,ae,aB,aD,ab,cT]
      ·simp[↓ah,c1,Nat.le_of_not_lt c1]
       rcases d3 with⟨c1,c2,hc⟩|⟨c,e2⟩
       ·simp[↓ah,c1,c2,Nat.not_le.2 c1,Nat.not_le.2 c2]
        refine an.gen [KB] [] [.arr 34 (D2.map aM)] hc (by simp[getAll]) (by simp) (by simp) (by simp[ab,ae,bM,idx]) (by simp[af,(az D2).refs]) (by simp[aD,aB,bp,idx]) (by simp[aE,(az D2).aB]) (by simp[af,ae,ab,(az T).refs]) ?_
        simp[bb,aE,aB,aD,dv,(az T).aB]
        refine al.with [] [KB] ?_
        simp[af,aE,ae,aB,aD,ab,cT]
       ·subst e2
        by_cases c1:mid<e
        ·have c2:¬(e<b):=λh=>c ⟨c1,h⟩
         simp[↓ah,c1,c2,Nat.not_le.2 c1,Nat.le_of_not_lt c2]
         refine al.with [] [KB] ?_
         simp[af,aE,ae,aB,aD,ab,cT]
        ·simp[↓ah,c1,Nat.le_of_not_lt c1]
         refine al.with [] [KB] ?_
         simp[af,aE,ae,aB,aD,ab,cT]
    ·simp[↓ah,c1,Nat.le_of_not_lt c1]
     rcases d2 with⟨c1,c2,hc⟩|⟨c,e2⟩
     ·simp[↓ah,c1,c2,Nat.not_le.2 c1,Nat.not_le.2 c2]
      refine an.gen [KB] [] [.arr 34 (D1.map aM)] hc (by simp[getAll]) (by simp) (by simp) (by simp[ab,ae,bM,idx]) (by simp[af,(az D1).refs]) (by simp[aD,aB,bp,idx]) (by simp[aE,(az D1).aB]) (by simp[af,ae,ab,(az D2).refs]) ?_
      simp[bb,aE,aB,aD,dv,(az D2).aB]
      rcases d3 with⟨c1,c2,hc⟩|⟨c,e2⟩
      ·simp[↓ah,c1,c2,Nat.not_le.2 c1,Nat.not_le.2 c2]
       refine an.gen [KB] [] [.arr 34 (D2.map aM)] hc (by simp[getAll]) (by simp) (by simp) (by simp[ab,ae,bM,idx]) (by simp[af,(az D2).refs]) (by simp[aD,aB,bp,idx]) (by simp[aE,(az D2).aB]) (by simp[af,ae,ab,(az T).refs]) ?_
       simp[bb,aE,aB,aD,dv,(az T).aB]
       refine al.with [] [KB] ?_
       simp[af,aE,ae,aB,aD,ab,cT]
      ·subst e2
       by_cases c1:mid<e
       ·have c2:¬(e<b):=λh=>c ⟨c1,h⟩
        simp[↓ah,c1,c2,Nat.not_le.2 c1,Nat.le_of_not_lt c2]
        refine al.with [] [KB] ?_
        simp[af,aE,ae,aB,aD,ab,cT]
       ·simp[↓ah,c1,Nat.le_of_not_lt c1]
        refine al.with [] [KB] ?_
        simp[af,aE,ae,aB,aD,ab,cT]
     ·subst e2
      by_cases c1:a<i
      ·have c2:¬(i<mid):=λh=>c ⟨c1,h⟩
       simp[↓ah,c1,c2,Nat.not_le.2 c1,Nat.le_of_not_lt c2]
       rcases d3 with⟨c1,c2,hc⟩|⟨c,e2⟩
       ·simp[↓ah,c1,c2,Nat.not_le.2 c1,Nat.not_le.2 c2]
        refine an.gen [KB] [] [.arr 34 (D2.map aM)] hc (by simp[getAll]) (by simp) (by simp) (by simp[ab,ae,bM,idx]) (by simp[af,(az D2).refs]) (by simp[aD,aB,bp,idx]) (by simp[aE,(az D2).aB]) (by simp[af,ae,ab,(az T).refs]) ?_
        simp[bb,aE,aB,aD,dv,(az T).aB]
        refine al.with [] [KB] ?_
        simp[af,aE,ae,aB,aD,ab,cT]
       ·subst e2
        by_cases c1:mid<e
        ·have c2:¬(e<b):=λh=>c ⟨c1,h⟩
         simp[↓ah,c1,c2,Nat.not_le.2 c1,Nat.le_of_not_lt c2]
         refine al.with [] [KB] ?_
         simp[af,aE,ae,aB,aD,ab,cT]
        ·simp[↓ah,c1,Nat.le_of_not_lt c1]
         refine al.with [] [KB] ?_
         simp[af,aE,ae,aB,aD,ab,cT]
      ·simp[↓ah,c1,Nat.le_of_not_lt c1]
       rcases d3 with⟨c1,c2,hc⟩|⟨c,e2⟩
       ·simp[↓ah,c1,c2,Nat.not_le.2 c1,Nat.not_le.2 c2]
        refine an.gen [KB] [] [.arr 34 (D2.map aM)] hc (by simp[getAll]) (by simp) (by simp) (by simp[ab,ae,bM,idx]) (by simp[af,(az D2).refs]) (by simp[aD,aB,bp,idx]) (by simp[aE,(az D2).aB]) (by simp[af,ae,ab,(az T).refs]) ?_
        simp[bb,aE,aB,aD,dv,(az T).aB]
        refine al.with [] [KB] ?_
        simp[af,aE,ae,aB,aD,ab,cT]
       ·subst e2
        by_cases c1:mid<e
        ·have c2:¬(e<b):=λh=>c ⟨c1,h⟩
         simp[↓ah,c1,c2,Nat.not_le.2 c1,Nat.le_of_not_lt c2]
         refine al.with [] [KB] ?_
         simp[af,aE,ae,aB,aD,ab,cT]
        ·simp[↓ah,c1,Nat.le_of_not_lt c1]
         refine al.with [] [KB] ?_
         simp[af,aE,ae,aB,aD,ab,cT]
 ·simp[F.au,aj,aF,w1,P6,Hi]
  simp[↓ah,w2,adR,Sw]
  have Wt:m≤mid:=by omega
  simp[↓ah,hwm,wn,PC,Wt,wn1]
  obtain⟨n,hB⟩:=Bs.start (p:=p) (lo:=a) (hi:=m) (by omega)
  refine fb.C9 n (a,m) (λi y=>B6 p a m (n-i) y) [0,1,2,3,4,18,19,20,21,22] (λi y=>[(20,.int .i64 (y.1:Nat)),(21,.int .i64 (y.2:Nat))]) (λi y=>[]) [.keep [0,1,2,3,4,18,19,20,21,22]] ?_
  simp
  refine⟨hB,λk i j hk hy K hK=> ?_,λi j hy K=> ?_⟩
  ·obtain⟨h1,h2⟩:=hy.step (λs t e1 e2 e3 e4=>A0 s t (by omega) e2 (by omega) e4) hk
   have DZ:=hy.a
   have oA:=hy.b
   simp only at h1 h2 DZ oA
   have uu:(i:Int)<j:=by omega
   have wh:=half (i:=i) (j:=j) (by omega)
   have YZ:i≤(i+j)/2∧(i+j)/2<j:=by omega
   generalize (i+j)/2=h at*
   have IG:h<N:=by omega
   obtain⟨g,hg⟩:∃g,g=nn-1-h:=⟨_,rfl⟩
   have P5:g<N:=by omega
   have wg:IntKind.i64.wrap ((nn:Int)-1-h)=(g:Int):=by rw[wrap_i64 (by omega)];omega
   have D3:=Ck h
   rw[←hg]at D3
   obtain⟨x,Ms,hxU⟩:=da h (by omega) (by omega)
   obtain⟨y,hDg,hyU⟩:=da g (by omega) (by omega)
   rw[od Ms,od hDg]at D3
   have Mq:=AN hyU hxU
   have Wu:(h:Int)<N:=by omega
   have Wv:(g:Int)<N:=by omega
   have wh1:IntKind.i64.wrap ((h:Int)+1)=((h+1:Nat):Int):=by rw[wrap_i64 (by omega)];omega
   simp[↓ah,uu,wh,wg,Ms,hDg,xg,IG,P5,Wu,Wv,-getElem?_pos]
   refine aU.ret Mq (by simp) (by simp) (by simp) ?_
   rcases h2 with⟨e,hI⟩|⟨e,hI⟩
   ·rw[D3]at e
    have na:¬y.index-x.index<0:=by have:=of_decide_eq_true e;omega
    simp[na,wh1]
    refine⟨[.keep [0,1,2,3,4,18,19,20,21,22]],?_⟩
    simp
    exact hK _ _ _ (by simp) hI
   ·rw[D3]at e
    have na:y.index-x.index<0:=by have:=of_decide_eq_false e;omega
    simp[na]
    refine⟨[.keep [0,1,2,3,4,18,19,20,21,22]],?_⟩
    simp
    exact hK _ _ _ (by simp) hI
  ·have he:=hy.s.zero (by omega)
   simp only at he
   subst he
   have DZ:=hy.a
   have oA:=hy.b
   have hyt:=hy.t
   have hyf:=hy.f
   simp only at DZ oA hyt hyf
   obtain⟨e,he⟩:∃e,e=nn-i:=⟨_,rfl⟩
   have we:IntKind.i64.wrap ((nn:Int)-i)=(e:Int):=by rw[wrap_i64 (by omega)];omega
   obtain⟨D1,D2,d1,d2,d3⟩:=Mu i e he (by omega) (by omega) (by omega) (by omega) (λdG=>by
    have h5:p (i-1)=true:=hyt (i-1) (by omega) (by omega)
    rw[Ck]at h5
    have h6:=of_decide_eq_true h5
    rw[show nn-1-(i-1)=e by omega]at h6
    exact h6) (λdG=>by
    have h5:p i=false:=hyf i (by omega) (by omega)
    rw[Ck]at h5
    have h6:=of_decide_eq_false h5
    rw[show nn-1-i=e-1 by omega]at h6
    omega)
   simp[↓ah,we]
   rcases d1 with⟨c1,c2,hc⟩|⟨c,e2⟩
   ·simp[↓ah,c1,c2,Nat.not_le.2 c1,Nat.not_le.2 c2]
    refine an.gen [KB] [] [.arr 34 (D.map aM)] hc (by simp[getAll]) (by simp) (by simp) (by simp[ab,ae,bM,idx]) (by simp[af,(az D).refs]) (by simp[aD,aB,bp,idx]) (by simp[aE,(az D).aB]) (by simp[af,ae,ab,(az D1).refs]) ?_
    simp[bb,aE,aB,aD,dv,(az D1).aB]
    rcases d2 with⟨c1,c2,hc⟩|⟨c,e2⟩
    ·simp[↓ah,c1,c2,Nat.not_le.2 c1,Nat.not_le.2 c2]
     refine an.gen [KB] [] [.arr 34 (D1.map aM)] hc (by simp[getAll]) (by simp) (by simp) (by simp[ab,ae,bM,idx]) (by simp[af,(az D1).refs]) (by simp[aD,aB,bp,idx]) (by simp[aE,(az D1).aB]) (by simp[af,ae,ab,(az D2).refs]) ?_
     simp[bb,aE,aB,aD,dv,(az D2).aB]
     rcases d3 with⟨c1,c2,hc⟩|⟨c,e2⟩
     ·simp[↓ah,c1,c2,Nat.not_le.2 c1,Nat.not_le.2 c2]
      refine an.gen [KB] [] [.arr 34 (D2.map aM)] hc (by simp[getAll]) (by simp) (by simp) (by simp[ab,ae,bM,idx]) (by simp[af,(az D2).refs]) (by simp[aD,aB,bp,idx]) (by simp[aE,(az D2).aB]) (by simp[af,ae,ab,(az T).refs]) ?_
      simp[bb,aE,aB,aD,dv,(az T).aB]
      refine al.with [] [KB] ?_
      simp[af,aE,ae,aB,aD,ab,cT]
     ·subst e2
      by_cases c1:mid<e
      ·have c2:¬(e<b):=λh=>c ⟨c1,h⟩
       simp[↓ah,c1,c2,Nat.not_le.2 c1,Nat.le_of_not_lt c2]
       refine al.with [] [KB] ?_
       simp[af,aE,ae,aB,aD,ab,cT]
      ·simp[↓ah,c1,Nat.le_of_not_lt c1]
       refine al.with [] [KB] ?_
       simp[af,aE,ae,aB,aD,ab,cT]
    ·subst e2
     by_cases c1:a<i
     ·have c2:¬(i<mid):=λh=>c ⟨c1,h⟩
      simp[↓ah,c1,c2,Nat.not_le.2 c1,Nat.le_of_not_lt c2]
      rcases d3 with⟨c1,c2,hc⟩|⟨c,e2⟩
      ·simp[↓ah,c1,c2,Nat.not_le.2 c1,Nat.not_le.2 c2]
       refine an.gen [KB] [] [.arr 34 (D2.map aM)] hc (by simp[getAll]) (by simp) (by simp) (by simp[ab,ae,bM,idx]) (by simp[af,(az D2).refs]) (by simp[aD,aB,bp,idx]) (by simp[aE,(az D2).aB]) (by simp[af,ae,ab,(az T).refs]) ?_
       simp[bb,aE,aB,aD,dv,(az T).aB]
       refine al.with [] [KB] ?_
       simp[af,aE,ae,aB,aD,ab,cT]
      ·subst e2
       by_cases c1:mid<e
       ·have c2:¬(e<b):=λh=>c ⟨c1,h⟩
        simp[↓ah,c1,c2,Nat.not_le.2 c1,Nat.le_of_not_lt c2]
        refine al.with [] [KB] ?_
        simp[af,aE,ae,aB,aD,ab,cT]
       ·simp[↓ah,c1,Nat.le_of_not_lt c1]
        refine al.with [] [KB] ?_
        simp[af,aE,ae,aB,aD,ab,cT]
     ·simp[↓ah,c1,Nat.le_of_not_lt c1]
      rcases d3 with⟨c1,c2,hc⟩|⟨c,e2⟩
      ·simp[↓ah,c1,c2,Nat.not_le.2 c1,Nat.not_le.2 c2]
       refine an.gen [KB] [] [.arr 34 (D2.map aM)] hc (by simp[getAll]) (by simp) (by simp) (by simp[ab,ae,bM,idx]) (by simp[af,(az D2).refs]) (by simp[aD,aB,bp,idx]) (by simp[aE,(az D2).aB]) (by simp[af,ae,ab,(az T).refs]) ?_
       simp[bb,aE,aB,aD,dv,(az T).aB]
       refine al.with [] [KB] ?_
       simp[af,aE,ae,aB,aD,ab,cT]
      ·subst e2
       by_cases c1:mid<e
       ·have c2:¬(e<b):=λh=>c ⟨c1,h⟩
        simp[↓ah,c1,c2,Nat.not_le.2 c1,Nat.le_of_not_lt c2]
        refine al.with [] [KB] ?_
        simp[af,aE,ae,aB,aD,ab,cT]
       ·simp[↓ah,c1,Nat.le_of_not_lt c1]
        refine al.with [] [KB] ?_
        simp[af,aE,ae,aB,aD,ab,cT]
   ·subst e2
    by_cases c1:i<m
    ·have c2:¬(m<e):=λh=>c ⟨c1,h⟩
     simp[↓ah,c1,c2,Nat.not_le.2 c1,Nat.le_of_not_lt c2]
     rcases d2 with⟨c1,c2,hc⟩|⟨c,e2⟩
     ·simp[↓ah,c1,c2,Nat.not_le.2 c1,Nat.not_le.2 c2]
      refine an.gen [KB] [] [.arr 34 (D1.map aM)] hc (by simp[getAll]) (by simp) (by simp) (by simp[ab,ae,bM,idx]) (by simp[af,(az D1).refs]) (by simp[aD,aB,bp,idx]) (by simp[aE,(az D1).aB]) (by simp[af,ae,ab,(az D2).refs]) ?_
      simp[bb,aE,aB,aD,dv,(az D2).aB]
      rcases d3 with⟨c1,c2,hc⟩|⟨c,e2⟩
      ·simp[↓ah,c1,c2,Nat.not_le.2 c1,Nat.not_le.2 c2]
       refine an.gen [KB] [] [.arr 34 (D2.map aM)] hc (by simp[getAll]) (by simp) (by simp) (by simp[ab,ae,bM,idx]) (by simp[af,(az D2).refs]) (by simp[aD,aB,bp,idx]) (by simp[aE,(az D2).aB]) (by simp[af,ae,ab,(az T).refs]) ?_
       simp[bb,aE,aB,aD,dv,(az T).aB]
       refine al.with [] [KB] ?_
       simp[af,aE,ae,aB,aD,ab,cT]
      ·subst e2
       by_cases c1:mid<e
       ·have c2:¬(e<b):=λh=>c ⟨c1,h⟩
        simp[↓ah,c1,c2,Nat.not_le.2 c1,Nat.le_of_not_lt c2]
        refine al.with [] [KB] ?_
        simp[af,aE,ae,aB,aD,ab,cT]
       ·simp[↓ah,c1,Nat.le_of_not_lt c1]
        refine al.with [] [KB] ?_
        simp[af,aE,ae,aB,aD,ab,cT]
     ·subst e2
      by_cases c1:a<i
      ·have c2:¬(i<mid):=λh=>c ⟨c1,h⟩
       simp[↓ah,c1,c2,Nat.not_le.2 c1,Nat.le_of_not_lt c2]
       rcases d3 with⟨c1,c2,hc⟩|⟨c,e2⟩
       ·simp[↓ah,c1,c2,Nat.not_le.2 c1,Nat.not_le.2 c2]
        refine an.gen [KB] [] [.arr 34 (D2.map aM)] hc (by simp[getAll]) (by simp) (by simp) (by simp[ab,ae,bM,idx]) (by simp[af,(az D2).refs]) (by simp[aD,aB,bp,idx]) (by simp[aE,(az D2).aB]) (by simp[af,ae,ab,(az T).refs]) ?_
        simp[bb,aE,aB,aD,dv,(az T).aB]
        refine al.with [] [KB] ?_
        simp[af,aE,ae,aB,aD,ab,cT]
       ·subst e2
        by_cases c1:mid<e
        ·have c2:¬(e<b):=λh=>c ⟨c1,h⟩
         simp[↓ah,c1,c2,Nat.not_le.2 c1,Nat.le_of_not_lt c2]
         refine al.with [] [KB] ?_
         simp[af,aE,ae,aB,aD,ab,cT]
        ·simp[↓ah,c1,Nat.le_of_not_lt c1]
         refine al.with [] [KB] ?_
         simp[af,aE,ae,aB,aD,ab,cT]
      ·simp[↓ah,c1,Nat.le_of_not_lt c1]
       rcases d3 with⟨c1,c2,hc⟩|⟨c,e2⟩
       ·simp[↓ah,c1,c2,Nat.not_le.2 c1,Nat.not_le.2 c2]
        refine an.gen [KB] [] [.arr 34 (D2.map aM)] hc (by simp[getAll]) (by simp) (by simp) (by simp[ab,ae,bM,idx]) (by simp[af,(az D2).refs]) (by simp[aD,aB,bp,idx]) (by simp[aE,(az D2).aB]) (by simp[af,ae,ab,(az T).refs]) ?_
        simp[bb,aE,aB,aD,dv,(az T).aB]
        refine al.with [] [KB] ?_
        simp[af,aE,ae,aB,aD,ab,cT]
       ·subst e2
        by_cases c1:mid<e
        ·have c2:¬(e<b):=λh=>c ⟨c1,h⟩
         simp[↓ah,c1,c2,Nat.not_le.2 c1,Nat.le_of_not_lt c2]
         refine al.with [] [KB] ?_
         simp[af,aE,ae,aB,aD,ab,cT]
        ·simp[↓ah,c1,Nat.le_of_not_lt c1]
         refine al.with [] [KB] ?_
         simp[af,aE,ae,aB,aD,ab,cT]
    ·simp[↓ah,c1,Nat.le_of_not_lt c1]
     rcases d2 with⟨c1,c2,hc⟩|⟨c,e2⟩
     ·simp[↓ah,c1,c2,Nat.not_le.2 c1,Nat.not_le.2 c2]
      refine an.gen [KB] [] [.arr 34 (D1.map aM)] hc (by simp[getAll]) (by simp) (by simp) (by simp[ab,ae,bM,idx]) (by simp[af,(az D1).refs]) (by simp[aD,aB,bp,idx]) (by simp[aE,(az D1).aB]) (by simp[af,ae,ab,(az D2).refs]) ?_
      simp[bb,aE,aB,aD,dv,(az D2).aB]
      rcases d3 with⟨c1,c2,hc⟩|⟨c,e2⟩
      ·simp[↓ah,c1,c2,Nat.not_le.2 c1,Nat.not_le.2 c2]
       refine an.gen [KB] [] [.arr 34 (D2.map aM)] hc (by simp[getAll]) (by simp) (by simp) (by simp[ab,ae,bM,idx]) (by simp[af,(az D2).refs]) (by simp[aD,aB,bp,idx]) (by simp[aE,(az D2).aB]) (by simp[af,ae,ab,(az T).refs]) ?_
       simp[bb,aE,aB,aD,dv,(az T).aB]
       refine al.with [] [KB] ?_
       simp[af,aE,ae,aB,aD,ab,cT]
      ·subst e2
       by_cases c1:mid<e
       ·have c2:¬(e<b):=λh=>c ⟨c1,h⟩
        simp[↓ah,c1,c2,Nat.not_le.2 c1,Nat.le_of_not_lt c2]
        refine al.with [] [KB] ?_
        simp[af,aE,ae,aB,aD,ab,cT]
       ·simp[↓ah,c1,Nat.le_of_not_lt c1]
        refine al.with [] [KB] ?_
        simp[af,aE,ae,aB,aD,ab,cT]
     ·subst e2
      by_cases c1:a<i
      ·have c2:¬(i<mid):=λh=>c ⟨c1,h⟩
       simp[↓ah,c1,c2,Nat.not_le.2 c1,Nat.le_of_not_lt c2]
       rcases d3 with⟨c1,c2,hc⟩|⟨c,e2⟩
       ·simp[↓ah,c1,c2,Nat.not_le.2 c1,Nat.not_le.2 c2]
        refine an.gen [KB] [] [.arr 34 (D2.map aM)] hc (by simp[getAll]) (by simp) (by simp) (by simp[ab,ae,bM,idx]) (by simp[af,(az D2).refs]) (by simp[aD,aB,bp,idx]) (by simp[aE,(az D2).aB]) (by simp[af,ae,ab,(az T).refs]) ?_
        simp[bb,aE,aB,aD,dv,(az T).aB]
        refine al.with [] [KB] ?_
        simp[af,aE,ae,aB,aD,ab,cT]
       ·subst e2
        by_cases c1:mid<e
        ·have c2:¬(e<b):=λh=>c ⟨c1,h⟩
         simp[↓ah,c1,c2,Nat.not_le.2 c1,Nat.le_of_not_lt c2]
         refine al.with [] [KB] ?_
         simp[af,aE,ae,aB,aD,ab,cT]
        ·simp[↓ah,c1,Nat.le_of_not_lt c1]
         refine al.with [] [KB] ?_
         simp[af,aE,ae,aB,aD,ab,cT]
      ·simp[↓ah,c1,Nat.le_of_not_lt c1]
       rcases d3 with⟨c1,c2,hc⟩|⟨c,e2⟩
       ·simp[↓ah,c1,c2,Nat.not_le.2 c1,Nat.not_le.2 c2]
        refine an.gen [KB] [] [.arr 34 (D2.map aM)] hc (by simp[getAll]) (by simp) (by simp) (by simp[ab,ae,bM,idx]) (by simp[af,(az D2).refs]) (by simp[aD,aB,bp,idx]) (by simp[aE,(az D2).aB]) (by simp[af,ae,ab,(az T).refs]) ?_
        simp[bb,aE,aB,aD,dv,(az T).aB]
        refine al.with [] [KB] ?_
        simp[af,aE,ae,aB,aD,ab,cT]
       ·subst e2
        by_cases c1:mid<e
        ·have c2:¬(e<b):=λh=>c ⟨c1,h⟩
         simp[↓ah,c1,c2,Nat.not_le.2 c1,Nat.le_of_not_lt c2]
         refine al.with [] [KB] ?_
         simp[af,aE,ae,aB,aD,ab,cT]
        ·simp[↓ah,c1,Nat.le_of_not_lt c1]
         refine al.with [] [KB] ?_
         simp[af,aE,ae,aB,aD,ab,cT]
end Go.Ab
end W33s
noncomputable section W34s
namespace Go.Ab
open Go.Ab
theorem ahZ:∀(k:Nat) {A X Y B:List cS} {N a m b:Nat},X.length+Y.length≤k->0<X.length->0<Y.length->lR X->lR Y->(∀s∈X,rL s)->(∀s∈Y,rL s)->a=A.length->m=a+X.length->b=m+Y.length->N=A.length+(X.length+(Y.length+B.length))->N≤64->
  ai Pg I.au [.rs KB [] 0 N N 34 .tip,.int .i64 ((a:Nat):Int),.int .i64 ((m:Nat):Int),.int .i64 ((b:Nat):Int),.fn (.func I.bh) [] []] [.arr 34 ((A++(X++(Y++B))).map aM)] (λr fp=>r= .tup []∧fp=[.arr 34 ((A++(qe X Y++B)).map aM)]):=by
 intro k
 induction k with
 |zero=>intros;omega
 |
  succ k ih=>
  intro A X Y B N a m b hk hX hY sx sy ux uy ha hm hb IZ hN
  by_cases h1:X.length=1
  ·obtain⟨x,rfl⟩:=List.length_eq_one_iff.1 h1
   simp only[List.length_cons,List.length_nil]at hm IZ
   have h:=acn (A:=A) (Y:=Y) (B:=B) (x:=x) (N:=N) (a:=a) (m:=m) (b:=b) hY sy (ux x (by simp)) uy ha (by omega) hb (by omega) hN
   simpa only[List.cons_append,List.nil_append]using h
  ·by_cases h2:Y.length=1
   ·obtain⟨y,rfl⟩:=List.length_eq_one_iff.1 h2
    simp only[List.length_cons,List.length_nil]at hb IZ
    have h:=acq (A:=A) (X:=X) (B:=B) (y:=y) (N:=N) (a:=a) (m:=m) (b:=b) (by omega) sx (uy y (by simp)) ux ha hm (by omega) (by omega) hN
    simpa only[List.cons_append,List.nil_append]using h
   ·exact acs ih hk (by omega) (by omega) sx sy ux uy ha hm hb IZ hN
def my (L:List cS):List cS:=if L.length<20 then rK L else if L.length=20 then rK L else qe (rK (L.take 20)) (rK (L.drop 20))
theorem vw (L:List cS):(my L).Perm L:=by
 unfold my
 split
 ·exact mw L
 split
 ·exact mw L
 ·refine(qS _ _).trans (((mw _).append (mw _)).trans ?_)
  rw[List.take_append_drop]
theorem LK (L:List cS):lR (my L):=by
 unfold my
 split
 ·exact pU L
 split
 ·exact pU L
 ·exact G0 (pU _) (pU _)
end Go.Ab
end W34s
noncomputable section W35s
namespace Go.Ab
open Go.Ab
theorem acu {L:List cS} {N:Nat} (hNl:N=L.length) (hN:N<20) (hu:∀s∈L,rL s):
  ai Pg I.aY [.rs KB [] 0 N N 34 .tip,.int .i64 (N:Nat),.fn (.func I.bh) [] []] [.arr 34 (L.map aM)] (λr fp=>r= .tup []∧fp=[.arr 34 ((my L).map aM)]):=by
 refine ai.intro T.aY (by simp[F.aY]) ?_
 have hi:ai Pg I.aL [.rs KB [] 0 N N 34 .tip,.int .i64 0,.int .i64 (N:Nat),.fn (.func I.bh) [] []] [.arr 34 (L.map aM)] (λr fp=>r= .tup []∧fp=[.arr 34 ((my L).map aM)]):=by
  have h:=LF (A:=[]) (L:=L) (B:=[]) (N:=N) (c:=0) (e:=N) rfl (by omega) (by simp;omega) (by omega) hu
  simp only[List.nil_append,List.append_nil]at h
  have e:my L=rK L:=by unfold my;rw[if_pos (by omega)]
  rw[e];exact h
 generalize my L=E at*
 have IY:¬(20:Int)≤N:=by omega
 have wN:¬(20:Int)<N:=by omega
 have ajA:¬20≤N:=by omega
 have adW:¬20<N:=by omega
 simp[F.aY,aj,aF]
 refine fb.fG 0 (λ_=>True) [0,1,2,6,7,8] (λi=>[]) (λi=>[]) [.keep [0,1,2,6,7,8]] ?_
 simp
 intro K
 simp[↓ah,IY,ajA]
 refine an.gen [KB] [] [.arr 34 (L.map aM)] hi (by simp[getAll]) (by simp) (by simp) (by simp[ab,ae,bM,idx]) (by simp[af,(az L).refs]) (by simp[aD,aB,bp,idx]) (by simp[aE,(az L).aB]) (by simp[af,ae,ab,(az E).refs]) ?_
 simp[bb,aE,aB,aD,dv,(az E).aB]
 refine fb.fG 0 (λ_=>True) [0,1,2,6,7,8] (λi=>[]) (λi=>[]) [.keep [0,1,2,6,7,8]] ?_
 simp
 intro K
 simp[↓ah,wN,adW]
 refine al.with [] [KB] ?_
 simp[af,aE,ae,aB,aD,ab,cT]
theorem acv {L:List cS} {N:Nat} (hNl:N=L.length) (IY:20≤N) (hN:N<40) (hu:∀s∈L,rL s):
  ai Pg I.aY [.rs KB [] 0 N N 34 .tip,.int .i64 (N:Nat),.fn (.func I.bh) [] []] [.arr 34 (L.map aM)] (λr fp=>r= .tup []∧fp=[.arr 34 ((my L).map aM)]):=by
 refine ai.intro T.aY (by simp[F.aY]) ?_
 obtain⟨P,hP⟩:∃P,P=L.take 20:=⟨_,rfl⟩
 obtain⟨Q,hQ⟩:∃Q,Q=L.drop 20:=⟨_,rfl⟩
 have hPQ:L=P++Q:=by rw[hP,hQ,List.take_append_drop]
 have lP:P.length=20:=by rw[hP,lJ];omega
 have lQ:Q.length=N-20:=by rw[hQ,List.length_drop];omega
 have uP:∀s∈P,rL s:=λs h=>hu s (by rw[hPQ];simp[h])
 have uQ:∀s∈Q,rL s:=λs h=>hu s (by rw[hPQ];simp[h])
 obtain⟨D1,Sl⟩:∃D1,D1=rK P++Q:=⟨_,rfl⟩
 obtain⟨D2,VZ⟩:∃D2,D2=rK P++rK Q:=⟨_,rfl⟩
 have i1:ai Pg I.aL [.rs KB [] 0 N N 34 .tip,.int .i64 0,.int .i64 20,.fn (.func I.bh) [] []] [.arr 34 (L.map aM)] (λr fp=>r= .tup []∧fp=[.arr 34 (D1.map aM)]):=by
  have h:=LF (A:=[]) (L:=P) (B:=Q) (N:=N) (c:=0) (e:=20) rfl (by omega) (by simp;omega) (by omega) uP
  simp only[List.nil_append]at h
  rw[←hPQ,←Sl]at h
  exact h
 have i2:ai Pg I.aL [.rs KB [] 0 N N 34 .tip,.int .i64 20,.int .i64 (N:Nat),.fn (.func I.bh) [] []] [.arr 34 (D1.map aM)] (λr fp=>r= .tup []∧fp=[.arr 34 (D2.map aM)]):=by
  have h:=LF (A:=rK P) (L:=Q) (B:=[]) (N:=N) (c:=20) (e:=N) (by rw[lW];omega) (by omega) (by rw[lW];simp;omega) (by omega) uQ
  simp only[List.append_nil]at h
  rw[←Sl,←VZ]at h
  exact h
 have i3:20<N->ai Pg I.au [.rs KB [] 0 N N 34 .tip,.int .i64 0,.int .i64 20,.int .i64 (N:Nat),.fn (.func I.bh) [] []] [.arr 34 (D2.map aM)] (λr fp=>r= .tup []∧fp=[.arr 34 ((my L).map aM)]):=λdG=>by
  have h:=ahZ _ (A:=[]) (X:=rK P) (Y:=rK Q) (B:=[]) (N:=N) (a:=0) (m:=20) (b:=N) (Nat.le_refl _) (by rw[lW];omega) (by rw[lW];omega) (pU _) (pU _) (λs h=>uP s ((mw _).mem_iff.1 h)) (λs h=>uQ s ((mw _).mem_iff.1 h)) rfl (by rw[lW];omega) (by rw[lW];omega) (by rw[lW,lW];simp;omega) (by omega)
  simp only[List.nil_append,List.append_nil]at h
  have e:my L=qe (rK P) (rK Q):=by unfold my;rw[if_neg (by omega),if_neg (by omega),hP,hQ]
  rw[e,VZ];exact h
 have i4:N=20->D2=my L:=λe0=>by
  have eQ:Q=[]:=List.length_eq_zero_iff.1 (by omega)
  have eP:L=P:=by rw[hPQ,eQ,List.append_nil]
  unfold my
  rw[if_neg (by omega),if_pos (by omega),VZ,eQ,eP]
  simp[rK]
 generalize my L=E at*
 clear Sl VZ hP hQ hPQ
 have c1:(20:Int)≤N:=by omega
 have c2:¬(40:Int)≤N:=by omega
 have c1n:20≤N:=IY
 have c2n:¬40≤N:=by omega
 have c3:¬(40:Int)<N:=by omega
 have c3n:¬40<N:=by omega
 have w40:IntKind.i64.wrap 40=40:=wrap_i64 (by omega)
 simp[F.aY,aj,aF]
 refine fb.fG 1 (λ_=>True) [0,1,2,6,7,8] (λi=>[(7,.int .i64 (20*(i:Int))),(8,.int .i64 (20+20*(i:Int)))]) (λi=>[(KB,.arr 34 ((if i=0 then L else D1).map aM))]) [.keep [0,1,2,6,7,8]] ?_
 simp
 refine⟨λK hK=> ?_,λK=> ?_⟩
 ·simp[↓ah,c1,c1n]
  refine an.gen [KB] [] [.arr 34 (L.map aM)] i1 (by simp[getAll]) (by simp) (by simp) (by simp[ab,ae,bM,idx]) (by simp[af,(az L).refs]) (by simp[aD,aB,bp,idx]) (by simp[aE,(az L).aB]) (by simp[af,ae,ab,(az D1).refs]) ?_
  simp[bb,aE,aB,aD,dv,(az D1).aB]
  refine⟨[.keep [0,1,2,6,7,8]],?_⟩
  simp
  exact hK _ (by simp[w40])
 ·simp[↓ah,c2,c2n]
  refine an.gen [KB] [] [.arr 34 (D1.map aM)] i2 (by simp[getAll]) (by simp) (by simp) (by simp[ab,ae,bM,idx]) (by simp[af,(az D1).refs]) (by simp[aD,aB,bp,idx]) (by simp[aE,(az D1).aB]) (by simp[af,ae,ab,(az D2).refs]) ?_
  simp[bb,aE,aB,aD,dv,(az D2).aB]
  by_cases dG:20<N
  ·have DY:(20:Int)<N:=by omega
   have i3:=i3 dG
   refine fb.fG 1 (λ_=>True) [0,1,2,6] (λi=>[(6,.int .i64 (20+20*(i:Int)))]) (λi=>[(KB,.arr 34 ((if i=0 then D2 else E).map aM))]) [.keep [0,1,2,6]] ?_
   simp
   refine⟨λK hK=> ?_,λK=> ?_⟩
   ·simp[↓ah,dG,DY]
    refine fb.fG 0 (λ_=>True) [0,1,2,6,7,8] (λi=>[]) (λi=>[]) [.keep [0,1,2,6,7,8]] ?_
    simp
    intro K2
    simp[↓ah,c2,c2n,dG,DY,w40]
    refine an.gen [KB] [] [.arr 34 (D2.map aM)] i3 (by simp[getAll]) (by simp) (by simp) (by simp[ab,ae,bM,idx]) (by simp[af,(az D2).refs]) (by simp[aD,aB,bp,idx]) (by simp[aE,(az D2).aB]) (by simp[af,ae,ab,(az E).refs]) ?_
    simp[bb,aE,aB,aD,dv,(az E).aB]
    refine⟨[.keep [0,1,2,6]],?_⟩
    simp
    exact hK _ (by simp[w40])
   ·simp[↓ah,c3,c3n]
    refine al.with [] [KB] ?_
    simp[af,aE,ae,aB,aD,ab,cT]
  ·have DY:¬(20:Int)<N:=by omega
   have i4:=i4 (by omega)
   subst i4
   refine fb.fG 0 (λ_=>True) [0,1,2,6,7,8] (λi=>[]) (λi=>[]) [.keep [0,1,2,6,7,8]] ?_
   simp
   intro K
   simp[↓ah,dG,DY]
   refine al.with [] [KB] ?_
   simp[af,aE,ae,aB,aD,ab,cT]
theorem Fw {L:List cS} {N:Nat} (hNl:N=L.length) (hN:N<40) (hu:∀s∈L,rL s):
  ai Pg I.aT [.rs KB [] 0 N N 34 .tip,.fn (.func I.bh) [] []] [.arr 34 (L.map aM)] (λr fp=>r= .tup []∧fp=[.arr 34 ((my L).map aM)]):=by
 refine ai.intro T.aT (by simp[F.aT]) ?_
 have hs:ai Pg I.aY [.rs KB [] 0 N N 34 .tip,.int .i64 (N:Nat),.fn (.func I.bh) [] []] [.arr 34 (L.map aM)] (λr fp=>r= .tup []∧fp=[.arr 34 ((my L).map aM)]):=by
  by_cases h:N<20
  ·exact acu hNl h hu
  ·exact acv hNl (by omega) hN hu
 generalize my L=E at*
 subst hNl
 simp[F.aT,aj,aF]
 refine an.gen [KB] [] [.arr 34 (L.map aM)] hs (by simp[getAll]) (by simp) (by simp) (by simp[ab,ae,bM,idx]) (by simp[af,(az L).refs]) (by simp[aD,aB,bp,idx]) (by simp[aE,(az L).aB]) (by simp[af,ae,ab,(az E).refs]) ?_
 simp[bb,aE,aB,aD,dv,(az E).aB]
 refine al.with [] [KB] ?_
 simp[af,aE,ae,aB,aD,ab,cT]
end Go.Ab
end W35s
noncomputable section W36s
namespace Go.Ab
open Go.Ab
def LL (p:fg):List cS:=if p.hand.has=true then [⟨p.hand.loc,p.fF,false⟩]else []
def AP (p:fg):List cS:=LL p++(qR p).map λx=>⟨x,p.fF,true⟩
def gl (l:List fg) (i:Nat):List cS:=(l.take i).flatMap AP
theorem B7 {l:List fg} {i:Nat} (h:i<l.length):gl l (i+1)=gl l i++AP l[i]:=by
 unfold gl
 rw[List.take_succ_eq_append_getElem h,List.flatMap_append]
 simp
theorem Vh (p:fg):(AP p).length≤4:=by
 have:=uj p
 unfold AP LL
 split<;>simp<;>omega
theorem LM:∀(l:List fg) (i:Nat),i≤l.length->(gl l i).length≤4*i
 |l,0,_=>by simp[gl]
 |
  l,i+1,h=>by
  have h1:=LM l i (by omega)
  have h2:=Vh l[i]
  rw[B7 (by omega),List.length_append];omega
def ml (p:fg) (X:List Int) (j:Nat):List cS:=(X.take j).map (λx=>⟨x,p.fF,true⟩)
theorem G1 (p:fg) {X:List Int} {j:Nat} (h:j<X.length):ml p X (j+1)=ml p X j++[⟨X[j],p.fF,true⟩]:=by
 unfold ml;rw[List.take_succ_eq_append_getElem h,List.map_append];rfl
theorem B8 (p:fg) {X:List Int} {j:Nat} (h:j≤X.length):(ml p X j).length=j:=by
 unfold ml;simp;omega
theorem LN (p:fg) (X:List Int):ml p X X.length=X.map (λx=>(⟨x,p.fF,true⟩:cS)):=by
 unfold ml;rw[List.take_length]
theorem Vi {d:cK} (hl:d.aa.length≤8) (hu:∀s∈gl d.aa d.aa.length,rL s):bg Pg I.jl [bE d] (b6 (my (gl d.aa d.aa.length))):=by
 refine ai.intro T.jl (by simp[F.jl]) ?_
 simp[F.jl,aj,aF]
 refine fb.fG d.aa.length (λ_=>True) [1,2,3,9,10,11] (λi=>[(3,.rs 3 [] 0 (gl d.aa i).length (gl d.aa i).length 34 .tip),(11,.int .i64 i)]) (λi=>[(3,.arr 34 ((gl d.aa i).map aM))]) [.keep [1,2,3,9,10,11],.vt 3 3 34] ?_
 simp[show gl d.aa 0=[] from rfl]
 refine⟨λi hi K hK=> ?_,λK=> ?_⟩
 ·have hx:d.aa[i]? =some d.aa[i]:=gJ hi
  have hA:=LM d.aa i (by omega)
  rw[B7 hi]at hK
  have Me:=uj d.aa[i]
  generalize d.aa[i]=p at*
  generalize gl d.aa i=A at*
  have hXe:rU [p.ring.p,p.ring.c,p.ring.n]=qR p:=rfl
  cases h6:p.hand.has
  ·have qf:AP p=(qR p).map (λx=>⟨x,p.fF,true⟩):=by simp[AP,LL,h6]
   rw[qf]at hK
   generalize qR p=X at*
   simp[↓ah,hx,hi,h6,-getElem?_pos]
   refine an.ret (fD p.ring) (by simp) (by simp) (by simp) ?_
   simp
   rw[hXe]
   refine fb.fG X.length (λ_=>True) [1,2,3,5,9,10,11,29,30,31] (λj=>[(3,.rs 3 [] 0 (A.length+j) (A.length+j) 34 .tip),(31,.int .i64 j)]) (λj=>[(3,.arr 34 ((A++ml p X j).map aM))]) [.keep [1,2,3,5,9,10,11,29,30,31]] ?_
   simp[show ml p X 0=[] from rfl]
   refine⟨λj hj K2 lX=> ?_,λK2=> ?_⟩
   ·have hy:X[j]? =some X[j]:=gJ hj
    have hlen:=B8 p (X:=X) (j:=j) (by omega)
    rw[G1 p hj]at lX
    generalize X[j]=x at*
    generalize ml p X j=M at*
    simp[↓ah,hy,hj,cu hj (by omega),jE,hlen,-getElem?_pos]
    have hs:PV.st 34 [.int .u32 x,dU p.fF,.bl true]=aM ⟨x,p.fF,true⟩:=rfl
    rw[hs]
    refine⟨by omega,[.keep [1,2,3,5,9,10,11,29,30,31]],?_⟩
    simp
    exact lX _ (by simp[jE];try omega)
   ·have hlen:=B8 p (X:=X) (j:=X.length) (by omega)
    simp[↓ah,cu hi (by omega)]
    refine⟨[.keep [1,2,3,9,10,11],.dr 5],?_⟩
    simp[eI,fE,ae,af]
    exact hK _ (by simp[LN])
  ·have qf:AP p=[⟨p.hand.loc,p.fF,false⟩]++(qR p).map (λx=>⟨x,p.fF,true⟩):=by simp[AP,LL,h6]
   rw[qf,←List.append_assoc]at hK
   generalize qR p=X at*
   have AY:PV.st 34 [.int .u32 p.hand.loc,dU p.fF,.bl false]=aM ⟨p.hand.loc,p.fF,false⟩:=rfl
   have hAl:(A++[(⟨p.hand.loc,p.fF,false⟩:cS)]).length=A.length+1:=by simp
   have hAm:A.map aM++[aM ⟨p.hand.loc,p.fF,false⟩]=(A++[(⟨p.hand.loc,p.fF,false⟩:cS)]).map aM:=by simp
   simp[↓ah,hx,hi,h6,-getElem?_pos]
   rw[AY,hAm,←hAl]
   generalize A++[(⟨p.hand.loc,p.fF,false⟩:cS)]=A at*
   refine⟨by omega,?_⟩
   refine an.ret (fD p.ring) (by simp) (by simp) (by simp) ?_
   simp
   rw[hXe]
   refine fb.fG X.length (λ_=>True) [1,2,3,5,9,10,11,29,30,31] (λj=>[(3,.rs 3 [] 0 (A.length+j) (A.length+j) 34 .tip),(31,.int .i64 j)]) (λj=>[(3,.arr 34 ((A++ml p X j).map aM))]) [.keep [1,2,3,5,9,10,11,29,30,31]] ?_
   simp[show ml p X 0=[] from rfl]
   refine⟨λj hj K2 lX=> ?_,λK2=> ?_⟩
   ·have hy:X[j]? =some X[j]:=gJ hj
    have hlen:=B8 p (X:=X) (j:=j) (by omega)
    rw[G1 p hj]at lX
    generalize X[j]=x at*
    generalize ml p X j=M at*
    simp[↓ah,hy,hj,cu hj (by omega),jE,hlen,-getElem?_pos]
    have hs:PV.st 34 [.int .u32 x,dU p.fF,.bl true]=aM ⟨x,p.fF,true⟩:=rfl
    rw[hs]
    refine⟨by omega,[.keep [1,2,3,5,9,10,11,29,30,31]],?_⟩
    simp
    exact lX _ (by simp[jE];try omega)
   ·have hlen:=B8 p (X:=X) (j:=X.length) (by omega)
    simp[↓ah,cu hi (by omega)]
    refine⟨[.keep [1,2,3,9,10,11],.dr 5],?_⟩
    simp[eI,fE,ae,af]
    exact hK _ (by simp[LN])
 ·have hlen:=LM d.aa d.aa.length (Nat.le_refl _)
  have PL:=Fw (L:=gl d.aa d.aa.length) rfl (by omega) hu
  have sZ:=(vw (gl d.aa d.aa.length)).length_eq
  generalize gl d.aa d.aa.length=L at*
  generalize my L=E at*
  simp[↓ah]
  refine an.gen [3] [] [.arr 34 (L.map aM)] PL (by simp[getAll]) (by simp) (by simp) (by simp[ab,ae,bM,idx]) (by simp[af,(az L).refs]) (by simp[aD,aB,bp,idx]) (by simp[aE,(az L).aB]) (by simp[af,ae,ab,(az E).refs]) ?_
  simp[bb,aE,aB,aD,dv,(az E).aB]
  refine al.plain [.keep [2],.fz 3,.wk 2] ?_
  simp[←sZ,b6]
end Go.Ab
end W36s
noncomputable section W37s
namespace Go.Ab
open Go.Ab
def r7 (d:cK):Bool:=Iw d.bq&&decide (d.bq=my (gl d.aa d.aa.length))
theorem Vj {d:cK} (hl:d.aa.length≤8) (qf:d.bq.length≤1048576) (hu:∀s∈gl d.aa d.aa.length,rL s):bg Pg I.gT [bE d] (.bl (r7 d)):=by
 refine ai.intro T.gT (by simp[F.gT]) ?_
 have hv:=Pj qf
 have hS:=Vi hl hu
 have hE:=Va (l:=d.bq) (m:=my (gl d.aa d.aa.length)) qf
 have hr:r7 d=(Iw d.bq&&decide (d.bq=my (gl d.aa d.aa.length))):=rfl
 generalize my (gl d.aa d.aa.length)=E at*
 simp[F.gT,aj,aF]
 refine aU.ret hv (by simp) (by simp) (by simp) ?_
 cases g:Iw d.bq
 ·simp
  refine al.plain [] ?_
  simp[hr,g]
 simp
 refine aU.ret hS (by simp) (by simp) (by simp) ?_
 simp
 refine aU.ret hE (by simp) (by simp) (by simp) ?_
 simp
 refine al.plain [] ?_
 simp[hr,g]
end Go.Ab
end W37s

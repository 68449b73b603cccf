/- Insertion into slices; new machines; masked prefixes. No condition. -/
import Derived.Test.YtkbdeacknefoaaaGreatDoorK1
import Derived.Lib.Overlaps
import Derived.Test.YtkbdeacknefoaaaGreatDoorSF1
import Derived.Test.YtkbdeacknefoaaaGreatDoorSF2
import Derived.Test.YtkbdeacknefoaaaGreatDoorSF3
import Derived.Test.YtkbdeacknefoaaaGreatDoorSF4
import Derived.Test.YtkbdeacknefoaaaGreatDoorSF5
import Derived.Test.YtkbdeacknefoaaaGreatDoorB5
set_option maxRecDepth 10000
set_option maxHeartbeats 4000000
set_option linter.all false
noncomputable section S5s
namespace Go.Ab
open Go.Ab
def rQ {α:Type} (q:α->Bool) (L:List α):Int:=match L.findIdx? q with|some i=>(i:Int)|none=> -1
theorem xj {α:Type} {q:α->Bool} {L:List α} (h:∀x∈L,q x=false):rQ q L= -1:=by
 have:L.findIdx? q=none:=List.findIdx?_eq_none_iff.2 h
 rw[rQ,this]
theorem xk {α:Type} {q:α->Bool} {L:List α} {i:Nat} (hi:i<L.length) (h:∀x∈L.take i,q x=false) (hq:q L[i]=true):rQ q L=i:=by
 have:L.findIdx? q=some i:=by
  rw[List.findIdx?_eq_some_iff_getElem]
  refine⟨hi,hq,λj hj=> ?_⟩
  have:=h L[j] (by rw[List.mem_take_iff_getElem];exact⟨j,by omega,rfl⟩)
  simpa using this
 rw[rQ,this]
theorem rE {α:Type} (q:α->Bool) (L:List α):(rQ q L= -1∧∀x∈L,q x=false)∨∃i,∃h:i<L.length,rQ q L=i∧(∀x∈L.take i,q x=false)∧q L[i]=true:=by
 cases h:L.findIdx? q with
 |none=>exact .inl ⟨by rw[rQ,h],List.findIdx?_eq_none_iff.1 h⟩
 |
  some i=>
  obtain⟨hi,hq,hn⟩:=List.findIdx?_eq_some_iff_getElem.1 h
  refine .inr ⟨i,hi,by rw[rQ,h],λx hx=> ?_,hq⟩
  rw[List.mem_take_iff_getElem]at hx
  obtain⟨j,hj,rfl⟩:=hx
  simpa using hn j (by omega)
theorem adV {L:List gZ} {J:List PV} {c:iC} (hl:L.length≤1048576) (hJ:aB J) {g:FuncId} {q:gZ->Bool} {v:PV} {w:PV} (hv:Pure v) (hw:Pure w) (hq:∀x∈L,(af Pg g [bT x,.pt KB [] 0,.pt (KB+1) [] 0] [br.box v,br.box w] (λr fp=>r= .bl (q x)∧fp=[br.box v,br.box w]))):
  af Pg I.cV [.rs KB [] 0 L.length (L.length+J.length) 34 c,.fn (.func g) [] [.pt (KB+1) [] 0,.pt (KB+2) [] 0]] [.arr 34 (L.map bT++J),.box v,.box w] (λr fp=>r= .int .i64 (rQ q L)∧fp=[.arr 34 (L.map bT++J),.box v,.box w]):=by
 refine af.intro T.bn (by simp[F.bn]) ?_
 have lS:aB (L.map bT++J):=(aS ba L).append hJ
 have Kq:L.length=(L.map bT).length:=by simp
 have hx:∀i,(h:i<L.length)->(L.map bT++J)[i]? =some (bT L[i]):=λi h=>by rw[List.getElem?_append_left (by simpa using h)];simp[h]
 have hlen:(L.map bT++J).length=L.length+J.length:=by simp
 generalize L.map bT++J=B at*
 simp[F.bn,ai,aG,hlen]
 refine gR.iw L.length (λi=>∀x∈L.take i,q x=false) [0,1,4,6,7,8] (λi=>[(8,.int .i64 i)]) (λ_=>[]) [.keep [0,1,4,6,7,8]] ?_
 simp only[List.take_zero]
 simp
 refine⟨λi hi hI K hK=> ?_,λhI K=> ?_⟩
 ·have hc:=hq L[i] (List.getElem_mem hi)
  have hx:=hx i hi
  have wi:IntKind.i64.wrap ((i:Int)+1)=(i:Int)+1:=wrap_i64 (by omega)
  have hle:i<L.length+J.length:=by omega
  generalize Oz:L[i]=x at*
  simp[↓an,hx,hi,hlen,hle,-getElem?_pos]
  refine al.gen [KB+1,KB+2] [] [br.box v,br.box w] hc (by simp[getAll]) (by simp) (by simp) (by simp[ae,ab,bS,idx,(ba x).refs]) (by simp[ah,ab,hv.refs,hw.refs]) (by simp[aO,az,bE,idx,(ba x).az]) (by simp[aM,az,hv.az,hw.az]) (by simp[ah,ab,hv.refs,hw.refs]) ?_
  simp[bB,aM,az,fu,hv.az,hw.az]
  by_cases hb:q x=true
  ·simp[hb]
   refine aC.with [] [KB,KB+1,KB+2] ?_
   simp[ah,ab,ae,aM,az,aO,eI,lS.refs,lS.az,hv.refs,hw.refs,hv.az,hw.az]
   exact(xk hi hI (by rw[Oz];exact hb)).symm
  ·have hb:q x=false:=by simpa using hb
   simp[hb,wi]
   refine⟨[.keep [0,1,4,6,7,8]],?_⟩
   simp
   refine hK _ (by simp) ?_
   rw[List.take_succ_eq_append_getElem hi,Oz]
   intro y hy
   rcases List.mem_append.1 hy with h|h
   ·exact hI y h
   ·simp at h;subst h;exact hb
 ·simp[↓an]
  refine aC.with [] [KB,KB+1,KB+2] ?_
  simp[ah,ab,ae,aM,az,aO,eI,lS.refs,lS.az,hv.refs,hw.refs,hv.az,hw.az]
  exact(xj hI).symm
theorem adW {L:List gZ} {J:List PV} {c:iC} (hl:L.length≤1048576) (hJ:aB J) {g:FuncId} {q:gZ->Bool} {v:PV} (hv:Pure v) (hq:∀x∈L,(af Pg g [bT x,.pt KB [] 0] [br.box v] (λr fp=>r= .bl (q x)∧fp=[br.box v]))):
  af Pg I.cV [.rs KB [] 0 L.length (L.length+J.length) 34 c,.fn (.func g) [] [.pt (KB+1) [] 0]] [.arr 34 (L.map bT++J),.box v] (λr fp=>r= .int .i64 (rQ q L)∧fp=[.arr 34 (L.map bT++J),.box v]):=by
 refine af.intro T.bn (by simp[F.bn]) ?_
 have lS:aB (L.map bT++J):=(aS ba L).append hJ
 have Kq:L.length=(L.map bT).length:=by simp
 have hx:∀i,(h:i<L.length)->(L.map bT++J)[i]? =some (bT L[i]):=λi h=>by rw[List.getElem?_append_left (by simpa using h)];simp[h]
 have hlen:(L.map bT++J).length=L.length+J.length:=by simp
 generalize L.map bT++J=B at*
 simp[F.bn,ai,aG,hlen]
 refine gR.iw L.length (λi=>∀x∈L.take i,q x=false) [0,1,4,6,7,8] (λi=>[(8,.int .i64 i)]) (λ_=>[]) [.keep [0,1,4,6,7,8]] ?_
 simp only[List.take_zero]
 simp
 refine⟨λi hi hI K hK=> ?_,λhI K=> ?_⟩
 ·have hc:=hq L[i] (List.getElem_mem hi)
  have hx:=hx i hi
  have wi:IntKind.i64.wrap ((i:Int)+1)=(i:Int)+1:=wrap_i64 (by omega)
  have hle:i<L.length+J.length:=by omega
  generalize Oz:L[i]=x at*
  simp[↓an,hx,hi,hlen,hle,-getElem?_pos]
  refine al.gen [KB+1] [] [br.box v] hc (by simp[getAll]) (by simp) (by simp) (by simp[ae,ab,bS,idx,(ba x).refs]) (by simp[ah,ab,hv.refs]) (by simp[aO,az,bE,idx,(ba x).az]) (by simp[aM,az,hv.az]) (by simp[ah,ab,hv.refs]) ?_
  simp[bB,aM,az,fu,hv.az]
  by_cases hb:q x=true
  ·simp[hb]
   refine aC.with [] [KB,KB+1] ?_
   simp[ah,ab,ae,aM,az,aO,eI,lS.refs,lS.az,hv.refs,hv.az]
   exact(xk hi hI (by rw[Oz];exact hb)).symm
  ·have hb:q x=false:=by simpa using hb
   simp[hb,wi]
   refine⟨[.keep [0,1,4,6,7,8]],?_⟩
   simp
   refine hK _ (by simp) ?_
   rw[List.take_succ_eq_append_getElem hi,Oz]
   intro y hy
   rcases List.mem_append.1 hy with h|h
   ·exact hI y h
   ·simp at h;subst h;exact hb
 ·simp[↓an]
  refine aC.with [] [KB,KB+1] ?_
  simp[ah,ab,ae,aM,az,aO,eI,lS.refs,lS.az,hv.refs,hv.az]
  exact(xj hI).symm
end Go.Ab
end S5s
noncomputable section S6s
namespace Go.Ab
open Go.Ab
theorem nE (sz:Nat) (j:Nat):aB (List.replicate j (Gc sz)):=aB.mk' λp hp=>by
 rw[List.eq_of_mem_replicate hp]
 exact aB.st (aB.mk' λp hp=>by rw[List.eq_of_mem_replicate hp];simp) sz
def yR {α:Type} (p:α->Bool) (L:List α) (j:Nat):List α:=(L.take j).filter p++L.drop ((L.take j).filter p).length
theorem yT {α:Type} (p:α->Bool) (L:List α) (j:Nat):((L.take j).filter p).length≤j∧((L.take j).filter p).length≤L.length:=by
 have:=List.length_filter_le p (L.take j)
 rw[lJ]at this
 omega
theorem GW {α:Type} (p:α->Bool) (L:List α) (j:Nat):(yR p L j).length=L.length:=by
 have:=yT p L j
 simp only[yR,List.length_append,List.length_drop];omega
theorem Cg {α:Type} {p:α->Bool} {L:List α} {i:Nat} (hi:i<L.length) (h:∀x∈L.take i,p x=true) (hq:p L[i]=false):((L.take (i+1)).filter p).length=i∧yR p L (i+1)=L:=by
 have e:(L.take (i+1)).filter p=L.take i:=by
  rw[pY p hi,hq]
  simp only[fJ,if_false,List.append_nil]
  exact List.filter_eq_self.2 h
 have hl:(L.take i).length=i:=by rw[lJ];omega
 refine⟨by rw[e,hl],?_⟩
 rw[yR,e,hl,List.take_append_drop]
theorem Q0 {α:Type} (p:α->Bool) {L:List α} {j:Nat} (hj:j<L.length):(yR p L j)[j]? =some L[j]:=by
 have:=yT p L j
 rw[yR,List.getElem?_append_right this.1,List.getElem?_drop,show((L.take j).filter p).length+(j-((L.take j).filter p).length)=j by omega,gJ hj]
theorem MM {α:Type} {p:α->Bool} {L:List α} {j:Nat} (hj:j<L.length) (h:p L[j]=false):(L.take (j+1)).filter p=(L.take j).filter p∧yR p L (j+1)=yR p L j:=by
 have e:(L.take (j+1)).filter p=(L.take j).filter p:=by rw[pY p hj,h];simp
 exact⟨e,by rw[yR,yR,e]⟩
theorem Io {α:Type} {p:α->Bool} {L:List α} {j:Nat} (hj:j<L.length) (h:p L[j]=true):((L.take (j+1)).filter p).length=((L.take j).filter p).length+1∧(yR p L j).set ((L.take j).filter p).length L[j]=yR p L (j+1):=by
 have e:(L.take (j+1)).filter p=(L.take j).filter p++[L[j]]:=by rw[pY p hj,h];simp
 have hc:=yT p L j
 refine⟨by rw[e];simp,?_⟩
 rw[yR,yR,e,List.set_append_right _ _ (Nat.le_refl _),Nat.sub_self,List.drop_eq_getElem_cons (by omega),List.set_cons_zero]
 simp
theorem Q1 {α:Type} (p:α->Bool) (L:List α):(L.take L.length).filter p=L.filter p∧(yR p L L.length).take (L.filter p).length=L.filter p:=by
 rw[List.take_length]
 refine⟨rfl,?_⟩
 rw[yR,List.take_length,List.take_left]
theorem Wv {α:Type} (p:α->Bool) (e:α->PV) (he:∀x,Pure (e x)) {n:Nat} (hw:∀x,(e x).width=n) {L:List α} {i:Nat} (hi:i<L.length) (h:∀x∈L.take i,p x=true) (hq:p L[i]=false):
  ∃
   (D:Nat->List PV) (cn:Nat->Nat),(D (i+1)=L.map e∧cn (i+1)=i)∧(∀j (h:j<L.length),(D j)[j]? =some (e L[j]))∧(∀j (h:j<L.length),p L[j]=false->D (j+1)=D j∧cn (j+1)=cn j)∧
   (∀j (h:j<L.length),p L[j]=true->(D j).set (cn j) (e L[j])=D (j+1)∧cn (j+1)=cn j+1)∧(∀j,(D j).length=L.length)∧(∀j,cn j≤j∧cn j≤L.length)∧
   (cn L.length=(L.filter p).length∧(D L.length).take (L.filter p).length=(L.filter p).map e)∧(∀j,∀x∈D j,x.width=n)∧(∀j,aB (D j)):=by
 refine⟨λj=>(yR p L j).map e,λj=>((L.take j).filter p).length,⟨by show(yR p L (i+1)).map e=_;rw[(Cg hi h hq).2],(Cg hi h hq).1⟩,λj h=> ?_,λj h hp=> ?_,λj h hp=> ?_,λj=> ?_,λj=>yT p L j,?_,λj x hx=> ?_,λj=>aB.map he _⟩
 ·show((yR p L j).map e)[j]? =_
  rw[List.getElem?_map,Q0 p h];rfl
 ·exact⟨by show(yR p L (j+1)).map e=_;rw[(MM h hp).2],by show((L.take (j+1)).filter p).length=_;rw[(MM h hp).1]⟩
 ·refine⟨?_,(Io h hp).1⟩
  show((yR p L j).map e).set _ _=(yR p L (j+1)).map e
  rw[←(Io h hp).2,List.map_set]
 ·show((yR p L j).map e).length=_
  rw[List.length_map,GW]
 ·have:=Q1 p L
  refine⟨by show((L.take L.length).filter p).length=_;rw[this.1],?_⟩
  show((yR p L L.length).map e).take _=_
  rw[←List.map_take,this.2]
 ·obtain⟨y,_,rfl⟩:=List.mem_map.1 hx
  exact hw y
theorem akg {L:List gZ} (hl:L.length≤1048576) {g:FuncId} {q:gZ->Bool} {v:PV} {w:PV} (hv:Pure v) (hw:Pure w) (hq:∀x∈L,(af Pg g [bT x,.pt KB [] 0,.pt (KB+1) [] 0] [br.box v,br.box w] (λr fp=>r= .bl (q x)∧fp=[br.box v,br.box w]))):
  af Pg I.fK [.rs KB [] 0 L.length L.length 34 .tip,.fn (.func g) [] [.pt (KB+1) [] 0,.pt (KB+2) [] 0]] [.arr 34 (L.map bT),.box v,.box w] (λr fp=>∃(J:List PV) (c:Nat),(aB J∧(L.filter λx=> !q x).length≤c∧c≤(L.filter λx=> !q x).length+J.length)∧r= .rs KB [] 0 (L.filter λx=> !q x).length ((L.filter λx=> !q x).length+J.length) 34 (.full c)∧fp=[.arr 34 ((L.filter λx=> !q x).map bT++J),.box v,.box w]):=by
 obtain⟨p,XO⟩:∃p:gZ->Bool,∀x,p x= !q x:=⟨_,λ_=>rfl⟩
 rw[show(λx=> !q x)=p from funext λx=>(XO x).symm]
 refine af.intro T.cA (by simp[F.cA]) ?_
 have py:∀l:List gZ,aB (l.map bT):=λl=>aS ba l
 have hix:=adV (c:= .tip) (J:=[]) hl Jv hv hw hq
 simp only[List.append_nil,List.length_nil,Nat.add_zero]at hix
 simp[F.cA,ai,aG]
 refine al.gen [KB,KB+1,KB+2] [] [.arr 34 (L.map bT),.box v,.box w] hix (by simp[getAll]) (by simp) (by simp) (by simp[ae,ab,bS,idx]) (by simp[ah,ab,(py L).refs,hv.refs,hw.refs]) (by simp[aO,az,bE,idx]) (by simp[aM,az,(py L).az,hv.az,hw.az]) (by simp[ah,ab,(py L).refs,hv.refs,hw.refs]) ?_
 simp[bB,aM,az,fu,(py L).az,hv.az,hw.az]
 rcases rE q L with⟨he,eO⟩|⟨i,hi,he,Hm,hqi⟩
 ·have hK:L.filter p=L:=List.filter_eq_self.2 λx hx=>by rw[XO,eO x hx];rfl
  rw[hK]
  simp[he]
  refine aC.with [.keep [4],.mt 4] [KB,KB+1,KB+2] ?_
  simp[ah,ab,ae,aM,az,aO,eI,(py L).refs,(py L).az,hv.refs,hw.refs,hv.az,hw.az]
  intro c j hcj
  exact⟨(nE 34 j).refs _,List.replicate j (Gc 34),c,⟨nE 34 j,by rcases hcj with h|⟨_,_,h⟩<;>simp[h],by rw[List.length_replicate];omega⟩,by simp,((py L).append (nE 34 j)).az _⟩
 ·have al5:p L[i]=false:=by rw[XO,hqi];rfl
  obtain⟨D,cn,⟨d0,c0⟩,dg,dn,dy,dl,cl,⟨ce,de⟩,dw,dp⟩:=Wv p bT ba (n:=34) (λx=>by simp) hi (λx hx=>by rw[XO,Hm x hx];rfl) al5
  have wi:IntKind.i64.wrap ((i:Int)+1)=(i:Int)+1:=wrap_i64 (by omega)
  have dF:¬(i:Int)= -1:=by omega
  simp[he,wi,dF]
  rw[←d0]
  have RM:L.length-(i+1)+(i+1)=L.length:=by omega
  refine gR.iw (L.length-(i+1)) (λ_=>True) [0,1,4,5,6] (λr=>[(5,.int .i64 (cn (i+1+r))),(6,.int .i64 ((i:Int)+1+r))]) (λr=>[(KB,.arr 34 (D (i+1+r)))]) [.keep [0,1,4,5,6]] ?_
  simp[c0]
  refine⟨λr hr K hK=> ?_,λK=> ?_⟩
  ·obtain⟨j,hj⟩:∃j,j=i+1+r:=⟨_,rfl⟩
   have sL:j<L.length:=by omega
   have hjc:(i:Int)+1+r=j:=by omega
   have hx:=dg j sL
   have hc:=hq L[j] (List.getElem_mem sL)
   have dn:=dn j sL
   have dy:=dy j sL
   have cl:=cl j
   have dlj:=dl j
   have dpj:=dp j
   have dpj1:=dp (j+1)
   have wj:IntKind.i64.wrap ((j:Int)+1)=(j:Int)+1:=wrap_i64 (by omega)
   have wc:IntKind.i64.wrap ((cn j:Int)+1)=(cn j:Int)+1:=wrap_i64 (by omega)
   have XF:cn j<L.length:=by omega
   obtain⟨y,hy,hyw⟩:∃y,(D j)[cn j]? =some y∧y.width=34:=by
    have eu:cn j<(D j).length:=by rw[dlj];exact XF
    exact⟨_,gJ eu,dw j _ (List.getElem_mem eu)⟩
   have hK:∀s2,jD s2 [0,1,4,5,6] [] []=⟨[(0,.rs KB [] 0 L.length L.length 34 .tip),(1,.fn (.func g) [] [.pt (KB+1) [] 0,.pt (KB+2) [] 0]),(4,.sl 34 [] true),(5,.int .i64 (cn (j+1))),(6,.int .i64 ((j:Int)+1))],[(KB,.arr 34 (D (j+1))),(KB+1,.box v),(KB+2,.box w)]⟩->K s2:=by
    intro s2 xX
    refine hK s2 (xX.trans ?_)
    rw[show i+1+(r+1)=j+1 by omega,show(i:Int)+1+((r:Int)+1)=(j:Int)+1 by omega]
   rw[←hj,hjc]
   have Kg:p L[j]= !q L[j]:=XO _
   generalize L[j]=x at*
   generalize cn j=cj at*
   generalize D j=Dj at*
   generalize D (j+1)=Dj1 at*
   generalize cn (j+1)=cj1 at*
   simp[↓an,hx,sL,dlj,-getElem?_pos]
   refine al.gen [KB+1,KB+2] [] [br.box v,br.box w] hc (by simp[getAll]) (by simp) (by simp) (by simp[ae,ab,bS,idx,(ba x).refs]) (by simp[ah,ab,hv.refs,hw.refs]) (by simp[aO,az,bE,idx,(ba x).az]) (by simp[aM,az,hv.az,hw.az]) (by simp[ah,ab,hv.refs,hw.refs]) ?_
   simp[bB,aM,az,fu,hv.az,hw.az]
   by_cases hb:q x=true
   ·obtain⟨rfl,rfl⟩:=dn (by rw[Kg,hb];rfl)
    simp[hb,wj]
    refine⟨[.keep [0,1,4,5,6],.dr 7],?_⟩
    simp[jq,kG,ab,ae,ah,dpj.refs,hv.refs,hw.refs]
    exact hK _ (by simp)
   ·have hb:q x=false:=by simpa using hb
    obtain⟨rfl,rfl⟩:=dy (by rw[Kg,hb];rfl)
    simp[hb,wj,wc,dlj,XF,hy,hyw,-getElem?_pos]
    refine⟨[.keep [0,1,4,5,6],.dr 7],?_⟩
    simp[jq,kG,ab,ae,ah,dpj1.refs,hv.refs,hw.refs]
    exact hK _ (by simp)
  ·have sL:i+1+(L.length-(i+1))=L.length:=by omega
   have hjc:(i:Int)+1+((L.length-(i+1):Nat):Int)=L.length:=by omega
   simp only[sL,hjc]
   have cl:=cl L.length
   have dlj:=dl L.length
   have dpj:=dp L.length
   have dw:=dw L.length
   have oe:(L.filter p).length≤L.length:=by rw[←ce];exact cl.2
   rw[ce]
   generalize D L.length=DJ at*
   generalize hKk:L.filter p=Kp at*
   simp[↓an,dlj,oe,-getElem?_pos]
   rw[de]
   obtain⟨Z,hZ,hzp,hzl⟩:∃Z,(List.replicate (L.length-Kp.length) (.st 34 [(.int .i64 0),(.ar 1 32 (zr 32 (.int .u8 0))),(.int .i64 0)])++List.drop L.length DJ)=Z∧aB Z∧Z.length=L.length-Kp.length:=
    ⟨_,rfl,(aB.mk' λp hp=>by rw[List.eq_of_mem_replicate hp];simp).append (dpj.drop _),by simp[dlj]⟩
   rw[hZ]
   have gn:aB (Kp.map bT++Z):=(py Kp).append hzp
   have pH:(Kp.map bT++Z).length=L.length:=by simp;omega
   refine aC.with [.keep [4],.mt 4] [KB,KB+1,KB+2] ?_
   simp[pH,ah,ab,ae,aM,az,aO,eI,gn.refs,gn.az,hv.refs,hw.refs,hv.az,hw.az]
   intro c j hcj
   have hzu:=hzp.append (nE 34 j)
   refine⟨⟨hzp.refs _,(nE 34 j).refs _⟩,Z++List.replicate j (Gc 34),c,⟨hzu,?_,?_⟩,⟨by simp;omega,rfl⟩,((py Kp).append hzu).az _⟩
   ·rcases hcj with h|⟨_,_,h⟩
    ·omega
    ·simp[h]
   ·simp only[List.length_append,List.length_replicate];omega
end Go.Ab
end S6s
noncomputable section S7s
namespace Go.Ab
open Go.Ab
@[simp↓] theorem ahI {s:St} (d:Option Nat) (sz:Nat) (p:PV) (K:St->Prop) (k:Nat) (pth:List Step) (off len aK z:Nat) (c:iC):Vn s d sz p K (.rs k pth off len aK z c)=wQ s (λcR l=>(l=[]∨cR=sz)∧N5 s d sz l K p) (.rs k pth off len aK z c):=_root_.id rfl
theorem Q2 {l:List gZ} (h:l.length≤1048576) (k:Key) (n:Int):af Pg I.rF [gv l,aW k,.int .i64 n] [] (λr fp=>∃(J:List PV) (c:Nat),(aB J∧(dN l k n).length≤c∧c≤(dN l k n).length+J.length)∧r= .rs KB [] 0 (dN l k n).length ((dN l k n).length+J.length) 34 (.full c)∧fp=[.arr 34 ((dN l k n).map bT++J)]):=by
 refine af.intro T.kQ (by simp[F.kQ]) ?_
 have py:∀l:List gZ,aB (l.map bT):=λl=>aS ba l
 have qV:Bm Pg I.b6 [.sl 34 (l.map bT) false] 34 (l.map bT):=uj (bytes:=48) T.b6 (by omega) (py l) (by simpa using h) (by omega)
 have hd:=akg (L:=l) h (g:=I.mS) (q:=λt=> !qN k n t) (v:=aW k) (w:= .int .i64 n) (by simp) (by simp) (λx _=>adX x k n)
 have hf:(l.filter λx=> !!qN k n x)=dN l k n:=by simp only[Bool.not_not];rfl
 rw[hf]at hd
 simp[F.kQ,ai,aG,gv]
 refine al.own 8 qV (by simp) (by simp[py]) (py l) (by simp) ?_
 simp
 refine al.GI [8,4,5] [] [.arr 34 (l.map bT),.box (aW k),.box (.int .i64 n)] hd (by simp[getAll]) (by simp) (by simp) (by simp[ae,ab,bS,idx]) (by simp[ah,ab,(py l).refs,(eR k).refs]) (by simp[aO,az,bE,idx]) (by simp[aM,az,(py l).az,(eR k).az]) ?_
 rintro r fp ⟨J,c,⟨hJ,h1,h2⟩,rfl,rfl⟩
 have gn:aB ((dN l k n).map bT++J):=(py _).append hJ
 have pH:((dN l k n).map bT++J).length=(dN l k n).length+J.length:=by simp
 have hR:∃(J':List PV) (c':Nat),(aB J'∧(dN l k n).length≤c'∧c'≤(dN l k n).length+J'.length)∧(J.length=J'.length∧c=c')∧(dN l k n).map bT++J=(dN l k n).map bT++J':=⟨J,c,⟨hJ,h1,h2⟩,⟨rfl,rfl⟩,rfl⟩
 generalize hB:(dN l k n).map bT++J=B at gn pH hR⊢
 refine⟨by simp[ah,ab,eI,gn.refs,(eR k).refs],?_⟩
 simp[bB,aM,az,fu,gn.az,(eR k).az]
 refine aC.with [.keep [6]] [8] ?_
 simp[ah,ab,ae,aM,az,aO,eI,gn.refs,gn.az]
 exact hR
theorem adY {x:PV} {B:List PV} {off len:Nat} {c:iC} (ho:0<B.length) (hl:1≤len):af Pg I.jj [.rs KB [] 0 1 1 34 .tip,.rs (KB+1) [] off len B.length 34 c] [.arr 34 [x],.arr 34 B] (λr fp=>r= .bl false∧fp=[.arr 34 [x],.arr 34 B]):=by
 intro Γ w vs hw hm lj hA
 match vs,hA with
 |
  [v1,v2],hA=>
  obtain⟨h1,h2,_⟩:=hA
  have g1:get Γ.bx KB=some (.arr 34 [x]):=by rw[lj];rfl
  have g2:get Γ.bx (KB+1)=some (.arr 34 B):=by rw[lj];rfl
  obtain⟨a1,c1,e1,k1⟩:=h1.rs g1 (by simp[br.aK])
  obtain⟨a2,c2,e2,k2⟩:=h2.rs g2 (by simp[br.aK])
  obtain⟨_,_,r1⟩:=hm.blk _ _ g1
  obtain⟨r2w,_,r2⟩:=hm.blk _ _ g2
  unfold jo at k1 k2
  cases i1:Γ.ι KB with
  |none=>rw[i1]at k1;exact absurd k1.1 (by omega)
  |
   some b1=>
   cases i2:Γ.ι (KB+1)with
   |none=>rw[i2]at k2;exact absurd k2.1 (by omega)
   |
    some b2=>
    rw[i1]at k1 r1;rw[i2]at k2 r2
    obtain⟨p1,p2,_⟩:=k1
    obtain⟨q1,q2,_⟩:=k2
    rcases p2 with p2|rfl
    ·omega
    rcases q2 with q2|rfl
    ·omega
    obtain⟨cc1,ce1,cs1,afH,u1,u2,u3,_⟩:=r1
    obtain⟨cc2,ce2,cs2,NT,w1,w2,w3,_⟩:=r2
    have dF:b1≠b2:=λe=>by
     have:=hm.inj KB (KB+1) b1 (by rw[g1];rfl) (by rw[g2];rfl) i1 (by rw[i2,e])
     omega
    rw[←hw]at u1 w1
    have xX:cc2.size≠0:=by
     have e1:cs2.length=B.length*34:=by rw[w3.length,bF r2w]
     have e2:cc2.size=cs2.length+NT.length:=by rw[←Array.length_toList,w2];simp
     omega
    have ja:=Go.Lib.run_overlaps_apart (P:=Pg) w 38 4 127 (by kernel_rfl) 34 (λw=>run_sizeOf (by kernel_rfl)) ⟨b1,cG []+0*34,none⟩ ⟨b2,cG []+off*34,none⟩ 1 c1 len c2 dF ce1 ce2 cc1.size cc2.size (by simp[World.shape?,u1]) (by simp[World.shape?,w1]) xX (by simp[World.frozen?,u1]) (by simp[World.frozen?,u1])
    rw[e1,e2]
    refine .inr ⟨.bool false,w,?_,_,_,[.arr 34 [x],.arr 34 B],Γ,rfl,⟨rfl,rfl⟩,hw,hm,lj,jH,Le.refl Γ,WF.refl w⟩
    rw[run_callFunc_extern (fn:=(Pg.funcs[I.jj]?).getD default) (by kernel_rfl) (by kernel_rfl) (by kernel_rfl) (by kernel_rfl) (e:=Extern.SlicesOverlaps.overlaps #[38,38] #[4]) (by kernel_rfl)]
    rw[ja]
    rfl
theorem Fh {B:List PV} {n i N:Nat} (hB:B.length=N) (hi:i<n) (hn:n+1≤N) (x:PV):
  ∃
   B1,(List.take (i+1) B++(List.take (n-i) (List.take (n+1-i) (List.drop i B))++List.drop (i+1+(n-i)) B))=B1∧B1.length=N∧(List.take i B1++x::List.drop (i+1) B1).length=N∧
   (List.take i B1++x::List.drop (i+1) B1).take (n+1)=List.take i B++x::List.drop i (List.take n B):=by
 refine⟨_,rfl,?_,?_,?_⟩
 ·simp only[List.length_append,lJ,List.length_drop,hB];omega
 ·simp only[List.length_append,List.length_cons,lJ,List.length_drop,hB];omega
 ·have e1:List.take i (List.take (i+1) B++(List.take (n-i) (List.take (n+1-i) (List.drop i B))++List.drop (i+1+(n-i)) B))=List.take i B:=by
   rw[List.take_append_of_le_length (by rw[lJ];omega),List.take_take,Nat.min_eq_left (by omega)]
  have e2:List.drop (i+1) (List.take (i+1) B++(List.take (n-i) (List.take (n+1-i) (List.drop i B))++List.drop (i+1+(n-i)) B))=List.take (n-i) (List.drop i B)++List.drop (i+1+(n-i)) B:=by
   rw[List.drop_append_of_le_length (by rw[lJ];omega),List.drop_of_length_le (by rw[lJ];omega),List.nil_append,List.take_take,Nat.min_eq_left (by omega)]
  rw[e1,e2,List.drop_take]
  have h1:(List.take i B).length=i:=by rw[lJ];omega
  have h2:(List.take (n-i) (List.drop i B)).length=n-i:=by rw[lJ,List.length_drop];omega
  generalize List.take i B=P at*
  generalize List.take (n-i) (List.drop i B)=Q at*
  generalize List.drop (i+1+(n-i)) B=R at*
  rw[show P++x::(Q++R)=(P++x::Q)++R by simp]
  exact List.take_left' (by simp;omega)
theorem Ch {B Z:List PV} {n i:Nat} (hB:n≤B.length) (hi:i<n) (hZ:Z.length=n+1-i) (x:PV):
  (List.take (i+1) (List.take i (List.take i B++Z)++x::List.drop (i+1) (List.take i B++Z))++
   (List.take (n-i) (List.take (n-i) (List.drop i B))++List.drop (i+1+(n-i)) (List.take i (List.take i B++Z)++x::List.drop (i+1) (List.take i B++Z))))=List.take i B++x::List.drop i (List.take n B):=by
 have h1:(List.take i B).length=i:=by rw[lJ];omega
 rw[List.drop_take,List.take_take,Nat.min_self]
 have h2:(List.take (n-i) (List.drop i B)).length=n-i:=by rw[lJ,List.length_drop];omega
 generalize List.take i B=P at*
 generalize List.take (n-i) (List.drop i B)=Q at*
 have e1:List.take i (P++Z)=P:=List.take_left' h1
 have h3:(List.drop (i+1) (P++Z)).length=n-i:=by rw[List.length_drop,List.length_append];omega
 rw[e1]
 generalize List.drop (i+1) (P++Z)=R at*
 have e2:List.take (i+1) (P++x::R)=P++[x]:=by
  rw[show P++x::R=(P++[x])++R by simp]
  exact List.take_left' (by simp[h1])
 have e3:List.drop (i+1+(n-i)) (P++x::R)=[]:=List.drop_of_length_le (by simp;omega)
 rw[e2,e3]
 simp
def lO (L:List gZ) (i:Nat) (t:gZ):List gZ:=L.take i++t::L.drop i
theorem oD {L:List gZ} {i:Nat} (t:gZ) (_:Unit) (hi:i≤L.length):(lO L i t).length=L.length+1:=by
 simp only[lO,List.length_append,List.length_cons,lJ,List.length_drop];omega
theorem adZ {L:List gZ} {J:List PV} {c i:Nat} (hl:L.length≤1048576) (hJ:aB J) (hc:L.length+1≤c∧c≤L.length+J.length) (hi:i≤L.length) (t:gZ):
  af Pg I.eQ [.rs KB [] 0 L.length (L.length+J.length) 34 (.full c),.int .i64 i,.rs (KB+1) [] 0 1 1 34 .tip] [.arr 34 (L.map bT++J),.arr 34 [bT t]] (λr fp=>∃B,(aB B∧B.length=L.length+J.length∧B.take (L.length+1)=(lO L i t).map bT)∧r= .rs KB [] 0 (L.length+1) (L.length+J.length) 34 (.full c)∧fp=[.arr 34 B,.arr 34 [bT t]]):=by
 refine af.intro T.aZ (by simp[F.aZ]) ?_
 have py:∀l:List gZ,aB (l.map bT):=λl=>aS ba l
 have pH:(L.map bT++J).length=L.length+J.length:=by simp
 have pB:∀k,k≤L.length->(L.map bT++J).take k=(L.take k).map bT:=λk hk=>by rw[List.take_append_of_le_length (by simpa using hk),List.map_take]
 have gn:aB (L.map bT++J):=(py _).append hJ
 generalize L.map bT++J=B at*
 by_cases X7:i=L.length
 ·subst X7
  simp(disch:=omega) [F.aZ,ai,aG,pH]
  refine⟨⟨by omega,hc.2,by omega,by omega⟩,λuw=> ?_,λuw=>by omega⟩
  obtain⟨B2,X8,qo,qU,A2⟩:∃B2,List.take L.length B++bT t::List.drop (L.length+1) B=B2∧aB B2∧B2.length=L.length+J.length∧B2.take (L.length+1)=(lO L L.length t).map bT:=by
   have h0:(B.take L.length).length=L.length:=by rw[lJ,pH];omega
   refine⟨_,rfl,(gn.take _).append (aB.mk' λx hx=> ?_),?_,?_⟩
   ·rcases List.mem_cons.1 hx with rfl|hx
    ·simp
    ·exact(gn.drop _).forget x hx
   ·simp only[List.length_append,List.length_cons,List.length_drop,h0,pH];omega
   ·rw[List.take_append,tJ (by omega),h0,show L.length+1-L.length=1 by omega,pB _ (Nat.le_refl _)]
    simp[lO]
  rw[X8]
  refine aC.with [.keep [6]] [KB,KB+1] ?_
  simp[ah,ab,ae,aM,az,aO,eI,qo.refs,qo.az,(ba t).refs,(ba t).az]
  exact⟨qo,qU,A2⟩
 ·have eu:i<L.length:=by omega
  have Hn:¬(i:Int)=L.length:=by omega
  have h1:¬(c:Int)<(L.length:Int)+1:=by omega
  have h2:c≤L.length+J.length∧L.length≤c:=by omega
  have h3:L.length+1≤L.length+J.length:=by omega
  have RT:=adY (x:=bT t) (B:=B) (off:=i+1) (len:=L.length-i) (c:= .full (c-(i+1))) (by omega) (by omega)
  rw[pH]at RT
  simp(disch:=omega) [F.aZ,ai,aG,pH,Hn,hi,h1,h2,hc.1]
  refine⟨⟨by omega,by omega⟩,by omega,?_⟩
  refine al.gen [KB+1,KB] [] [.arr 34 [bT t],.arr 34 B] RT (by simp[getAll]) (by simp) (by simp) (by simp[ae,ab,bS,idx]) (by simp[ah,ab,ae,gn.refs,(ba t).refs]) (by simp[aO,az,bE,idx]) (by simp[aM,az,aO,gn.az,(ba t).az]) (by simp[ah,ab,ae,gn.refs,(ba t).refs]) ?_
  have hw:IntKind.i64.wrap ((i:Int)+1)=(i:Int)+1:=wrap_i64 (by omega)
  have m1:min (L.length+1-i) (L.length+J.length-i)=L.length+1-i:=by omega
  simp(disch:=omega) [bB,aM,az,aO,fu,gn.az,(ba t).az,pH,hw,m1,-List.length_append]
  obtain⟨B1,hB1,Hh,qU,A2⟩:=Fh pH eu (by omega) (bT t)
  rw[pB _ (Nat.le_refl _),pB _ hi]at A2
  have R4:aB B1:=by rw[←hB1];exact(gn.take _).append ((((gn.drop _).take _).take _).append (gn.drop _))
  have qo:aB (List.take i B1++bT t::List.drop (i+1) B1):=(R4.take _).append (aB.mk' λx hx=>by
   rcases List.mem_cons.1 hx with rfl|hx
   ·simp
   ·exact(R4.drop _).forget x hx)
  rw[hB1]
  generalize List.take i B1++bT t::List.drop (i+1) B1=B2 at*
  refine⟨⟨by omega,hi⟩,by omega,by omega,by omega,by rw[Hh],by omega,⟨by rw[Hh],by rw[Hh];omega⟩,?_⟩
  refine aC.with [.keep [6]] [KB,KB+1] ?_
  simp[ah,ab,ae,aM,az,aO,eI,qo.refs,qo.az,(ba t).refs,(ba t).az]
  exact⟨qo,qU,by rw[A2];simp[lO,List.map_drop,List.map_take]⟩
theorem ad0 {L:List gZ} {J:List PV} {i:Nat} (hl:L.length≤1048576) (hJ:aB J) (hi:i≤L.length) (t:gZ):
  af Pg I.eQ [.rs KB [] 0 L.length (L.length+J.length) 34 (.full L.length),.int .i64 i,.rs (KB+1) [] 0 1 1 34 .tip] [.arr 34 (L.map bT++J),.arr 34 [bT t]] (λr fp=>r= .rs (KB+2) [] 0 (L.length+1) (L.length+1) 34 .tip∧fp=[.arr 34 (L.map bT++J),.arr 34 [bT t],.arr 34 ((lO L i t).map bT)]):=by
 refine af.intro T.aZ (by simp[F.aZ]) ?_
 have py:∀l:List gZ,aB (l.map bT):=λl=>aS ba l
 have pH:(L.map bT++J).length=L.length+J.length:=by simp
 have pB:∀k,k≤L.length->(L.map bT++J).take k=(L.take k).map bT:=λk hk=>by rw[List.take_append_of_le_length (by simpa using hk),List.map_take]
 have gn:aB (L.map bT++J):=(py _).append hJ
 generalize L.map bT++J=B at*
 by_cases X7:i=L.length
 ·subst X7
  simp(disch:=omega) [F.aZ,ai,aG,pH]
  refine⟨⟨by omega,by omega⟩,λuw=>by omega,?_⟩
  have X8:List.take L.length B++[bT t]=(lO L L.length t).map bT:=by rw[pB _ (Nat.le_refl _)];simp[lO]
  rw[X8]
  refine aC.with [.keep [6]] [KB,KB+1,25] ?_
  have Hi:=py (lO L L.length t)
  generalize (lO L L.length t).map bT=B2 at*
  simp[ah,ab,ae,aM,az,aO,eI,Hi.refs,Hi.az,gn.refs,gn.az,(ba t).refs,(ba t).az]
 ·have eu:i<L.length:=by omega
  have Hn:¬(i:Int)=L.length:=by omega
  have h1:(L.length:Int)<(L.length:Int)+1:=by omega
  have h2:(i:Int)<(L.length:Int)+1:=by omega
  have h3:(i:Int)≤(L.length:Int)+1:=by omega
  have h4:(L.length+1)*48≤140737488355328:=by omega
  have h5:L.length≤9223372036854775806:=by omega
  simp(disch:=omega) [F.aZ,ai,aG,pH,Hn,hi,h1,h2,h3,h4,h5]
  refine⟨by omega,by omega,⟨by omega,by omega⟩,?_⟩
  rw[Ch (by rw[pH];omega) eu (by simp) (bT t),pB _ (Nat.le_refl _),pB _ hi]
  have hI:(List.take i L).map bT++bT t::List.drop i ((List.take L.length L).map bT)=(lO L i t).map bT:=by simp[lO,List.map_drop,List.map_take]
  rw[hI]
  have Hi:=py (lO L i t)
  generalize (lO L i t).map bT=B2 at*
  refine aC.with [.keep [6]] [KB,KB+1,40] ?_
  simp[ah,ab,ae,aM,az,aO,eI,Hi.refs,Hi.az,gn.refs,gn.az,(ba t).refs,(ba t).az]
theorem Ci {t:gZ}:∀ {l:List gZ},(∀x∈l,gT t x=false)->ji t l=l.length
 |[],_=>rfl
 |
  x::r,h=>by
  simp only[ji,h x (by simp),fJ,if_false,List.length_cons]
  rw[Ci λy hy=>h y (by simp[hy])]
theorem Cj {t:gZ}:∀ {l:List gZ} {i:Nat} (hi:i<l.length),(∀x∈l.take i,gT t x=false)->gT t l[i]=true->ji t l=i
 |x::r,0,hi,_,hq=>by simp only[List.getElem_cons_zero]at hq;simp only[ji,hq,if_true]
 |
  x::r,i+1,hi,h,hq=>by
  simp only[ji,h x (by simp),fJ,if_false]
  rw[Cj (i:=i) (by simpa using hi) (λy hy=>h y (by simp[hy])) (by simpa using hq)]
theorem akh {l:List gZ} (h:l.length≤1048575) (t:gZ):a8 Pg I.xl [gv l,bT t] (gv (ql l t)):=by
 refine af.intro T.nW (by simp[F.nW]) ?_
 simp[F.nW,ai,aG]
 refine al.GI [] [12] [] (Q2 (l:=l) (by omega) t.peer t.kind) (by simp[getAll]) (by simp) (by simp) (by simp[ae,ab,bS,idx]) (by simp) (by simp[aO,az,bE,idx]) (by simp) ?_
 rintro r fp ⟨J,c,⟨hJ,h1,h2⟩,rfl,rfl⟩
 have my:ql l t=lO (dN l t.peer t.kind) (ji t (dN l t.peer t.kind)) t:=by simp[ql,lO]
 have hRl:(dN l t.peer t.kind).length≤1048575:=Nat.le_trans (List.length_filter_le _ _) h
 rw[my]
 generalize dN l t.peer t.kind=R at*
 have py:∀l:List gZ,aB (l.map bT):=λl=>aS ba l
 have gn:aB (R.map bT++J):=(py _).append hJ
 have pH:(R.map bT++J).length=R.length+J.length:=by simp
 have hix:=adW (L:=R) (J:=J) (c:= .full c) (by omega) hJ (g:=I.pZ) (q:=gT t) (v:=bT t) (by simp) (λx _=>ad1 t x)
 have lS:=yQ t R
 have hA:=λhc:R.length+1≤c=>adZ (L:=R) (J:=J) (c:=c) (i:=ji t R) (by omega) hJ ⟨hc,h2⟩ lS t
 have hB:=ad0 (L:=R) (J:=J) (i:=ji t R) (by omega) hJ lS t
 generalize hBd:R.map bT++J=B at*
 refine⟨by simp[ah,ab,eI,gn.refs],?_⟩
 simp[bB,aM,az,fu,gn.az]
 refine al.gen [12,3] [] [.arr 34 B,.box (bT t)] hix (by simp[getAll]) (by simp) (by simp) (by simp[ae,ab,bS,idx]) (by simp[ah,ab,gn.refs,(ba t).refs]) (by simp[aO,az,bE,idx]) (by simp[aM,az,gn.az,(ba t).az]) (by simp[ah,ab,gn.refs,(ba t).refs]) ?_
 simp[bB,aM,az,fu,gn.az,(ba t).az]
 rcases rE (gT t) R with⟨he,eO⟩|⟨i,hi,he,Hm,hq⟩
 ·rw[Ci eO]at*
  refine⟨λ_=>⟨pH.symm,?_⟩,λh=>by omega⟩
  by_cases X9:R.length+1≤c
  ·refine al.GI [12,23] [] [.arr 34 B,.arr 34 [bT t]] (hA X9) (by simp[getAll]) (by simp) (by simp) (by simp[ae,ab,bS,idx]) (by simp[ah,ab,ae,gn.refs,(ba t).refs]) (by simp[aO,az,bE,idx]) (by simp[aM,az,aO,gn.az,(ba t).az]) ?_
   rintro r fp ⟨B2,⟨qo,qU,A2⟩,rfl,rfl⟩
   refine⟨by simp[ah,ab,ae,eI,qo.refs,(ba t).refs],?_⟩
   simp[bB,aM,az,aO,fu,qo.az,(ba t).az]
   refine aC.plain [.keep [4],.fz 12] ?_
   have hle:R.length+1≤B2.length:=by omega
   simp[qo.refs]
   rw[if_pos ⟨qU.symm,hle⟩,A2]
   simp[gv,py]
  ·obtain rfl:c=R.length:=by omega
   refine al.gen [12,23] [24] [.arr 34 B,.arr 34 [bT t]] hB (by simp[getAll]) (by simp) (by simp) (by simp[ae,ab,bS,idx]) (by simp[ah,ab,ae,gn.refs,(ba t).refs]) (by simp[aO,az,bE,idx]) (by simp[aM,az,aO,gn.az,(ba t).az]) (by simp[ah,ab,ae,gn.refs,(ba t).refs,eI,(py (lO R (R.length) t)).refs]) ?_
   simp[bB,aM,az,aO,fu,gn.az,(ba t).az,(py (lO R (R.length) t)).az]
   refine aC.plain [.keep [4],.fz 24] ?_
   simp
   rw[if_pos (by rw[oD _ () lS];omega),tJ (by rw[List.length_map,oD _ () lS];omega)]
   simp[gv,py]
 ·rw[Cj hi Hm hq]at*
  refine⟨λh=>by omega,λ_=> ?_⟩
  rw[he]
  by_cases X9:R.length+1≤c
  ·refine al.GI [12,23] [] [.arr 34 B,.arr 34 [bT t]] (hA X9) (by simp[getAll]) (by simp) (by simp) (by simp[ae,ab,bS,idx]) (by simp[ah,ab,ae,gn.refs,(ba t).refs]) (by simp[aO,az,bE,idx]) (by simp[aM,az,aO,gn.az,(ba t).az]) ?_
   rintro r fp ⟨B2,⟨qo,qU,A2⟩,rfl,rfl⟩
   refine⟨by simp[ah,ab,ae,eI,qo.refs,(ba t).refs],?_⟩
   simp[bB,aM,az,aO,fu,qo.az,(ba t).az]
   refine aC.plain [.keep [4],.fz 12] ?_
   have hle:R.length+1≤B2.length:=by omega
   simp[qo.refs]
   rw[if_pos ⟨qU.symm,hle⟩,A2]
   simp[gv,py]
  ·obtain rfl:c=R.length:=by omega
   refine al.gen [12,23] [24] [.arr 34 B,.arr 34 [bT t]] hB (by simp[getAll]) (by simp) (by simp) (by simp[ae,ab,bS,idx]) (by simp[ah,ab,ae,gn.refs,(ba t).refs]) (by simp[aO,az,bE,idx]) (by simp[aM,az,aO,gn.az,(ba t).az]) (by simp[ah,ab,ae,gn.refs,(ba t).refs,eI,(py (lO R (i) t)).refs]) ?_
   simp[bB,aM,az,aO,fu,gn.az,(ba t).az,(py (lO R (i) t)).az]
   refine aC.plain [.keep [4],.fz 24] ?_
   simp
   rw[if_pos (by rw[oD _ () lS];omega),tJ (by rw[List.length_map,oD _ () lS];omega)]
   simp[gv,py]
end Go.Ab
end S7s
namespace Go.Ab
open Go.Ab
theorem cE (p:jy) (h1:p.mR.length≤1048576):a8 Pg I.cE [bj p,bj p] (.bl true):=by
 refine af.intro T.cE (by simp[F.cE]) ?_
 simp(maxSteps:=1000000) [F.cE,ai,aG]
 refine gR.iw p.mR.length (λ_=>True) [2,3,4,113,114] (λi=>[(114,.int .i64 i)]) (λi=>[]) [.keep [2,3,4,113,114]] ?_
 simp
 refine⟨λi hi K hK=> ?_,λK=> ?_⟩
 ·have hx:p.mR[i]? =some p.mR[i]:=gJ hi
  simp[↓an,hx,hi,om hi h1]
  refine⟨[.keep [2,3,4,113,114]],?_⟩
  simp
  exact hK _ (by simp)
 ·simp[↓an,↓an]
  refine aC.plain [] ?_
  simp
theorem cu {d:gU} (h:Sml d):a8 Pg I.cu [kO d,kO d] (.bl true):=by
 refine af.intro T.cu (by simp[F.cu]) ?_
 simp(maxSteps:=1000000) [F.cu,ai,aG]
 refine gR.iw d.gL.length (λ_=>True) [2,3,4,55,56] (λi=>[(56,.int .i64 i)]) (λi=>[]) [.keep [2,3,4,55,56]] ?_
 simp
 refine⟨λi hi K hK=> ?_,λK=> ?_⟩
 ·have hx:d.gL[i]? =some d.gL[i]:=gJ hi
  simp[↓an,hx,hi,om hi h.gL]
  refine⟨[.keep [2,3,4,55,56]],?_⟩
  simp
  exact hK _ (by simp)
 ·simp[↓an,↓an]
  refine gR.iw d.kN.length (λ_=>True) [2,3,4,73,74] (λi=>[(74,.int .i64 i)]) (λi=>[]) [.keep [2,3,4,73,74]] ?_
  simp
  refine⟨λi hi K hK=> ?_,λK=> ?_⟩
  ·have hx:d.kN[i]? =some d.kN[i]:=gJ hi
   simp[↓an,hx,hi,om hi h.kN]
   refine⟨[.keep [2,3,4,73,74]],?_⟩
   simp
   exact hK _ (by simp)
  ·simp[↓an,↓an]
   refine gR.iw d.timers.length (λ_=>True) [2,3,4,91,92] (λi=>[(92,.int .i64 i)]) (λi=>[]) [.keep [2,3,4,91,92]] ?_
   simp
   refine⟨λi hi K hK=> ?_,λK=> ?_⟩
   ·have hx:d.timers[i]? =some d.timers[i]:=gJ hi
    simp[↓an,hx,hi,om hi h.timers]
    refine⟨[.keep [2,3,4,91,92]],?_⟩
    simp
    exact hK _ (by simp)
   ·simp[↓an,↓an]
    refine gR.iw d.lD.length (λ_=>True) [2,3,4,109,110] (λi=>[(110,.int .i64 i)]) (λi=>[]) [.keep [2,3,4,109,110]] ?_
    simp
    refine⟨λi hi K hK=> ?_,λK=> ?_⟩
    ·have hx:d.lD[i]? =some d.lD[i]:=gJ hi
     simp[↓an,hx,hi,om hi h.lD]
     refine⟨[.keep [2,3,4,109,110]],?_⟩
     simp
     exact hK _ (by simp)
    ·simp[↓an,↓an]
     refine gR.iw d.buckets.length (λ_=>True) [2,3,4,127,128] (λi=>[(128,.int .i64 i)]) (λi=>[]) [.keep [2,3,4,127,128]] ?_
     simp
     refine⟨λi hi K hK=> ?_,λK=> ?_⟩
     ·have hx:d.buckets[i]? =some d.buckets[i]:=gJ hi
      simp[↓an,hx,hi,om hi h.buckets]
      refine⟨[.keep [2,3,4,127,128]],?_⟩
      simp
      exact hK _ (by simp)
     ·simp[↓an,↓an]
      refine aC.plain [] ?_
      simp
theorem dm {d:gU} (h:Sml d):a8 Pg I.dm [kO d,kO d] (.bl true):=by
 refine af.intro T.dm (by simp[F.dm]) ?_
 simp(maxSteps:=1000000) [F.dm,ai,aG]
 refine gR.iw d.aj.length (λ_=>True) [2,3,4,78,79] (λi=>[(79,.int .i64 i)]) (λi=>[]) [.keep [2,3,4,78,79]] ?_
 simp
 refine⟨λi hi K hK=> ?_,λK=> ?_⟩
 ·have hx:d.aj[i]? =some d.aj[i]:=gJ hi
  simp[↓an,hx,hi]
  refine aU.ret (cE d.aj[i] (h.mR _ (List.getElem_mem hi)).1) (by simp) (by simp) (by simp) ?_
  simp[om hi h.aj]
  refine⟨[.keep [2,3,4,78,79]],?_⟩
  simp
  exact hK _ (by simp)
 ·simp[↓an,↓an]
  refine al.ret (cu h) (by simp) (by simp) (by simp) ?_
  simp
  refine aC.plain [] ?_
  simp
end Go.Ab
noncomputable section Z1s
namespace Go.Ab
open Go.Ab
def qp (d:gU) (p o:PV):PV:= .st 149 [bV d p,o]
@[simp↓] theorem aah (d:gU) (p o:PV) (r:List Step):aX (qp d p o) (.f 0 0::r)=aX (bV d p) r:=by simp[qp,av]
def GX (c o:PV):PV:= .st 149 [c,o]
@[simp↓] theorem aai (d:gU) (p o:PV) (r:List Step) (x:PV):gN (qp d p o) (.f 0 0::r) x=(gN (bV d p) r x).bind λc=>some (GX c o):=by simp[qp,GX,av]
@[simp↓] theorem ad3 (d:gU) (p o:PV):GX (bV d p) o=qp d p o:=_root_.id rfl
@[simp] theorem ad4 (f:Nat->Bool) (d:gU) (p o:PV):ab f (qp d p o)=(ab f p&&ab f o):=by simp[qp,ab,ae]
@[simp] theorem ahJ (ρ:Nat->Nat) (d:gU) (p o:PV):az ρ (qp d p o)=qp d (az ρ p) (az ρ o):=by simp[qp,az,aO]
def dRn (d:gU) (k:Key):gU:= {d with random:=k.fv}
def jZ:List UInt8:=[100,114,97,119]
theorem Ww {d:gU} {k:Key} (hk:d.random=k.fv) {m:Nat} {L:List PV} (hL:aB L) {o:PV} (ho:Pure o):
  af Pg I.ed [.pt KB [] 0] [.box (qp d (.rs (KB+1) [] 0 m m 464 .tip) o),.arr 464 L] (λx fp=>x=aW (GU k.l jZ)∧fp=[.box (qp (dRn d (xP k.l jZ)) (.rs (KB+1) [] 0 m m 464 .tip) o),.arr 464 L]):=by
 refine af.intro T.ed (by simp[F.ed]) ?_
 have hE:=iY k (input:=jZ) (by decide)
 have hr:d.random.p=aW k:=by rw[hk];rfl
 generalize xP k.l jZ=kA at*
 generalize GU k.l jZ=kB at*
 simp[F.ed,ai,aG]
 refine al.view [KB,KB+1] [11] [.box (qp d (.rs (KB+1) [] 0 m m 464 .tip) o),.arr 464 L] (gI:=[.rs KB [Step.f 0 0,Step.f 4 75] 0 32 0 1 .clip,eY jZ,.int .i64 2]) (iK:=[.box (qp d (.rs (KB+1) [] 0 m m 464 .tip) o),.arr 464 L]) hE (by simp[getAll]) (by simp) (by simp) (by simp[ae,ab,bS,idx]) (by simp[ah,ab,bS,idx,ho.refs,hL.refs]) (by simp[aO,az,bE,idx];rfl) (by simp[aM,az,bE,idx,ho.az,hL.az]) ?_ ?_ ?_
 ·refine⟨.inl (.inr ⟨KB,[Step.f 0 0,Step.f 4 75],0,32,0,1,.clip,mB k.l,rfl,?_,(aS (λ_=>by simp[u8]) _).refs _,by omega,rfl⟩),.inl (.inl ⟨rfl,(B8 _).refs _⟩),.inl (.inl ⟨rfl,by simp[ab]⟩),trivial⟩
  simp[content,aG,hr,aX,aW]
  exact tJ (by simp[k.h])
 ·rintro r new ⟨rfl,rfl⟩
  refine⟨⟨by simp[lN,oz],?_⟩,rfl⟩
  have nA:=jm kA
  have nB:=jm kB
  simp only[lN,aW]at nA nB
  simp[EA,iT,aW,nA,nB]
 ·rintro r new ⟨rfl,rfl⟩
  have rA:∀f,ab f (aW kA)=true:=λf=>(eR kA).refs f
  have rB:∀f,ab f (aW kB)=true:=λf=>(eR kB).refs f
  have uA:∀f,az f (aW kA)=aW kA:=λf=>(eR kA).az f
  have uB:∀f,az f (aW kB)=aW kB:=λf=>(eR kB).az f
  have e4:vz d (.rs (KB+1) [] 0 m m 464 .tip) (aW kA)=bV (dRn d kA) (.rs (KB+1) [] 0 m m 464 .tip):=rfl
  simp[aM,az,aO,bE,idx,fu,ah,ab,ae,eI,bB,ho.refs,ho.az,hL.refs,hL.az,rA,rB,uA,uB,e4]
  refine aC.with [] [KB,KB+1] ?_
  simp[ho.refs,ho.az,hL.refs,hL.az,ah,ab,eI,bS,idx,aM,az]
theorem Wx {d:gU} {k:Key} (hk:d.random=k.fv) {p o:PV} (hp:Pure p) (ho:Pure o) (Kd:p.width=1):
  af Pg I.cC [.pt KB [] 0] [.box (qp d p o)] (λx fp=>x=aW (GU k.l jZ)∧fp=[.box (qp (dRn d (xP k.l jZ)) p o)]):=by
 refine af.intro T.cC (by simp[F.cC]) ?_
 have hE:=Dc k (input:=jZ) (by decide)
 have hr:d.random.p=aW k:=by rw[hk];rfl
 generalize xP k.l jZ=kA at*
 generalize GU k.l jZ=kB at*
 simp[F.cC,ai,aG,Kd]
 have mr:∀f,ab f (qp d p o)=true:=λf=>by simp[hp.refs,ho.refs]
 have mn:∀ρ,az ρ (qp d p o)=qp d p o:=λρ=>by simp[hp.az,ho.az]
 refine al.view [KB] [11] [.box (qp d p o)] (gI:=[.rs KB [Step.f 0 0,Step.f 4 75] 0 32 0 1 .clip,eY jZ,.int .i64 2]) (iK:=[.box (qp d p o)]) hE (by simp[getAll]) (by simp) (by simp) (by simp[ae,ab,bS,idx]) (by simp[ah,mr]) (by simp[aO,az,bE,idx];rfl) (by simp[aM,mn]) ?_ ?_ ?_
 ·refine⟨.inl (.inr ⟨KB,[Step.f 0 0,Step.f 4 75],0,32,0,1,.clip,mB k.l,rfl,?_,(aS (λ_=>by simp[u8]) _).refs _,by omega,rfl⟩),.inl (.inl ⟨rfl,(B8 _).refs _⟩),.inl (.inl ⟨rfl,by simp[ab]⟩),trivial⟩
  simp[content,aG,hr,aX,aW]
  exact tJ (by simp[k.h])
 ·rintro r new ⟨rfl,rfl⟩
  refine⟨⟨by simp[lN,oz],?_⟩,rfl⟩
  have nA:=jm kA
  have nB:=jm kB
  simp only[lN,aW]at nA nB
  simp[EA,iT,aW,nA,nB]
 ·rintro r new ⟨rfl,rfl⟩
  have rA:∀f,ab f (aW kA)=true:=λf=>(eR kA).refs f
  have rB:∀f,ab f (aW kB)=true:=λf=>(eR kB).refs f
  have uA:∀f,az f (aW kA)=aW kA:=λf=>(eR kA).az f
  have uB:∀f,az f (aW kB)=aW kB:=λf=>(eR kB).az f
  have e4:vz d p (aW kA)=bV (dRn d kA) p:=rfl
  simp[aM,az,aO,bE,idx,fu,ah,ab,ae,eI,bB,hp.refs,ho.refs,hp.az,ho.az,rA,rB,uA,uB,Kd,e4]
  refine aC.with [] [KB] ?_
  simp[hp.refs,ho.refs,hp.az,ho.az,ah,aM]
end Go.Ab
end Z1s
noncomputable section Z2s
namespace Go.Ab
open Go.Ab
def jt (l:(List lr)):PV:= .sl 18 (l.map dX) false
@[simp] theorem GY (e:(List lr)):Pure (jt e):=by simp[jt]
@[simp] theorem ad5 (e:(List lr)):wk (jt e)=jt e:=by simp[jt]
@[simp↓] theorem aak (g:Bool) (e:(List lr)) (K:PV->Prop):iv g (jt e) K=K (jt e):=_root_.id rfl
@[simp] theorem TP (e:(List lr)):(jt e).width=1:=_root_.id rfl
@[simp] theorem aal (e:(List lr)):(jt e).isAgg=false:=_root_.id rfl
@[simp] theorem Wy (e:(List lr)):(jt e).bG=true:=_root_.id rfl
@[simp↓] theorem Wz (s:St) (K:PV->Prop) (l:List lr):vo s K (jt l)=K (.int .i64 l.length):=by simp[jt]
@[simp↓] theorem TQ (s:St) (sz:Nat) (j:Int) (K:PV->Prop) (l:List lr):oi s sz j K (jt l)=((18=sz∧0≤j∧j<l.length)∧K (.fp sz (l.map dX) [.i j.toNat sz])):=by simp[jt]
structure nd where
 eK:Key
 shared:Key
 nm:Bool
 ep:Bo
 kY:Int
 allowed:List lr
def dT (c:nd):PV:= .st 85 [aW c.eK,aW c.shared,.bl c.nm,jR c.ep,.int .i64 c.kY,jt c.allowed]
@[simp] theorem ma (e:nd):Pure (dT e):=by simp[dT]
@[simp] theorem MN (e:nd):wk (dT e)=dT e:=by simp[dT]
@[simp↓] theorem aam (g:Bool) (e:nd) (K:PV->Prop):iv g (dT e) K=K (dT e):=_root_.id rfl
@[simp] theorem TR (e:nd):(dT e).width=85:=_root_.id rfl
@[simp] theorem aan (e:nd):(dT e).isAgg=true:=_root_.id rfl
@[simp] theorem WA (e:nd):(dT e).bG=true:=_root_.id rfl
@[simp] theorem Fi (l:List nd):aB (l.map dT):=aS ma l
@[simp] theorem MO (l:List nd):jE (l.map dT)=l.map dT:=rv MN l
@[simp↓] theorem Q3 (e:nd) (r:List Step):aX (dT e) (.f 0 0::r)=aX (aW e.eK) r:=by simp[dT,av]
@[simp↓] theorem Q4 (e:nd) (r:List Step):aX (dT e) (.f 1 32::r)=aX (aW e.shared) r:=by simp[dT,av]
@[simp↓] theorem Q5 (e:nd) (r:List Step):aX (dT e) (.f 2 64::r)=aX (.bl e.nm) r:=by simp[dT,av]
@[simp↓] theorem Q6 (e:nd) (r:List Step):aX (dT e) (.f 3 65::r)=aX (jR e.ep) r:=by simp[dT,av]
@[simp↓] theorem Q7 (e:nd) (r:List Step):aX (dT e) (.f 4 83::r)=aX (.int .i64 e.kY) r:=by simp[dT,av]
@[simp↓] theorem Q8 (e:nd) (r:List Step):aX (dT e) (.f 5 84::r)=aX (jt e.allowed) r:=by simp[dT,av]
def vM (e:nd) (c:PV):PV:= .st 85 [aW e.eK,aW e.shared,.bl e.nm,jR e.ep,.int .i64 e.kY,c]
@[simp↓] theorem Q9 (e:nd) (r:List Step) (x:PV):gN (dT e) (.f 5 84::r) x=(gN (jt e.allowed) r x).bind λc=>some (vM e c):=by simp[dT,vM,av]
@[simp↓] theorem WB (e:nd) (v:List lr):vM e (jt v)=dT {e with allowed:=v}:=_root_.id rfl
def jA (l:(List nd)):PV:= .sl 85 (l.map dT) false
@[simp] theorem TS (e:(List nd)):Pure (jA e):=by simp[jA]
@[simp] theorem aao (e:(List nd)):wk (jA e)=jA e:=by simp[jA]
@[simp↓] theorem WC (g:Bool) (e:(List nd)) (K:PV->Prop):iv g (jA e) K=K (jA e):=_root_.id rfl
@[simp] theorem Ra (e:(List nd)):(jA e).width=1:=_root_.id rfl
@[simp] theorem WD (e:(List nd)):(jA e).isAgg=false:=_root_.id rfl
@[simp↓] theorem TT (s:St) (K:PV->Prop) (l:List nd):vo s K (jA l)=K (.int .i64 l.length):=by simp[jA]
@[simp↓] theorem Rb (s:St) (sz:Nat) (j:Int) (K:PV->Prop) (l:List nd):oi s sz j K (jA l)=((85=sz∧0≤j∧j<l.length)∧K (.fp sz (l.map dT) [.i j.toNat sz])):=by simp[jA]
structure qQ where
 pD:Key
 port:Int
 aj:List nd
def gC (c:qQ):PV:= .st 34 [aW c.pD,.int .i64 c.port,jA c.aj]
@[simp] theorem WE (e:qQ):Pure (gC e):=by simp[gC]
@[simp] theorem ad6 (e:qQ):wk (gC e)=gC e:=by simp[gC]
@[simp↓] theorem aap (g:Bool) (e:qQ) (K:PV->Prop):iv g (gC e) K=K (gC e):=_root_.id rfl
@[simp] theorem TU (e:qQ):(gC e).width=34:=_root_.id rfl
@[simp] theorem aaq (e:qQ):(gC e).isAgg=true:=_root_.id rfl
@[simp] theorem WG (e:qQ):(gC e).bG=true:=_root_.id rfl
@[simp] theorem WH (e:qQ):(gC e).flat=true:=_root_.id rfl
@[simp↓] theorem Rc (e:qQ) (r:List Step):aX (gC e) (.f 0 0::r)=aX (aW e.pD) r:=by simp[gC,av]
@[simp↓] theorem Rd (e:qQ) (r:List Step):aX (gC e) (.f 1 32::r)=aX (.int .i64 e.port) r:=by simp[gC,av]
@[simp↓] theorem Re (e:qQ) (r:List Step):aX (gC e) (.f 2 33::r)=aX (jA e.aj) r:=by simp[gC,av]
def AI (e:qQ) (c:PV):PV:= .st 34 [aW e.pD,.int .i64 e.port,c]
@[simp↓] theorem Rf (e:qQ) (r:List Step) (x:PV):gN (gC e) (.f 2 33::r) x=(gN (jA e.aj) r x).bind λc=>some (AI e c):=by simp[gC,AI,av]
end Go.Ab
end Z2s
noncomputable section Z3s
namespace Go.Ab
open Go.Ab
def GZ (x t:Nat):Nat:=if x/2^(7-t)%2=1 then x-2^(7-t)else x
theorem ad7:∀(t:Fin 8) (x:Fin 256),bits .andNot .u8 (x.val:Int) (Int.fdiv 128 (2^min t.val 8))=(GZ x.val t.val:Int):=by decide+kernel
theorem ad8:∀(t:Fin 8) (x:Fin 256) (k:Fin 8),GZ x.val t.val/2^(7-k.val)%2=if k=t then 0 else x.val/2^(7-k.val)%2:=by decide+kernel
theorem ad9:∀t:Fin 8,GZ 0 t.val=0:=by decide+kernel
theorem MP:∀(t:Fin 8) (x:Fin 256),GZ x.val t.val<256:=by decide+kernel
def stA (a:iO) (m:Nat) (v:UInt8):iO:=⟨a.na,a.ip.set m v,by rw[List.length_set,a.h]⟩
theorem MQ (a:iO) {m:Nat} (v:UInt8) (hm:m<16) (j:Nat):(stA a m v).jc j=if j=m then v else a.jc j:=by
 unfold iO.jc stA
 have:=a.h
 by_cases h:j=m
 ·subst h;simp[List.getD,List.getElem?_set,this,hm]
 ·simp[List.getD,List.getElem?_set,h,Ne.symm h]
def AJ (a:iO) (n:Nat):Nat->iO
 |0=>a
 |i+1=>stA (AJ a n i) ((n+i)/8) (UInt8.ofNat (GZ ((AJ a n i).jc ((n+i)/8)).toNat ((n+i)%8)))
def JW (a:iO) (n:Nat):iO:=AJ a n (128-n)
theorem TV (a:iO) {n:Nat} (hn:n≤128):∀i,i≤128-n->(AJ a n i).na=a.na∧(∀j,a.jc j=0->(AJ a n i).jc j=0)∧∀j,j<i->qn (AJ a n i) (n+j)=0
 |0,_=>⟨rfl,λ_ h=>h,λ_ h=>absurd h (by omega)⟩
 |
  i+1,hi=>by
  obtain⟨IM,BC,hb3⟩:=TV a hn i (by omega)
  obtain⟨m,hm⟩:∃m,m=(n+i)/8:=⟨_,rfl⟩
  obtain⟨t,ht⟩:∃t,t=(n+i)%8:=⟨_,rfl⟩
  have tI:m<16:=by omega
  have ht8:t<8:=by omega
  simp only[AJ,←hm,←ht]
  generalize AJ a n i=b at*
  have qS:GZ (b.jc m).toNat t<256:=MP ⟨t,ht8⟩ ⟨(b.jc m).toNat,(b.jc m).toNat_lt⟩
  have BD:∀k,k<8->GZ (b.jc m).toNat t/2^(7-k)%2=if k=t then 0 else(b.jc m).toNat/2^(7-k)%2:=λk hk=>by
   have:=ad8 ⟨t,ht8⟩ ⟨(b.jc m).toNat,(b.jc m).toNat_lt⟩ ⟨k,hk⟩
   simpa[Fin.ext_iff]using this
  have hv:(UInt8.ofNat (GZ (b.jc m).toNat t)).toNat=GZ (b.jc m).toNat t:=by rw[UInt8.toNat_ofNat'];omega
  refine⟨IM,λj hj=> ?_,λj hj=> ?_⟩
  ·rw[MQ _ _ tI]
   have:=BC j hj
   split
   ·rename_i e
    subst e
    have h0:=ad9 ⟨t,ht8⟩
    rw[this]
    simp only at h0
    simp[h0]
   ·exact this
  ·unfold qn
   rw[MQ _ _ tI]
   by_cases e:(n+j)/8=m
   ·rw[if_pos e,hv,BD _ (by omega)]
    split
    ·rfl
    ·rename_i dF
     have A9:j<i:=by
      rcases Nat.lt_or_ge j i with h|h
      ·exact h
      ·exact absurd (show(n+j)%8=t by rw[show j=i by omega,ht]) dF
     have h3:=hb3 j A9
     unfold qn at h3
     rwa [e]at h3
   ·rw[if_neg e]
    have A9:j<i:=by
     rcases Nat.lt_or_ge j i with h|h
     ·exact h
     ·exact absurd (show(n+j)/8=m by rw[show j=i by omega,hm]) e
    exact hb3 j A9
theorem Ip (a:iO) {n:Nat} (hn:n≤128):a8 Pg I.fc [ft a,.int .i64 n] (dX ⟨JW a n,n⟩):=by
 refine af.intro T.fc (by simp[F.fc]) ?_
 simp[F.fc,ai,aG]
 refine gR.iw (128-n) (λ_=>True) [1,2,4,5] (λi=>[(5,.int .i64 ((n+i:Nat):Int))]) (λi=>[(2,.box (ft (AJ a n i)))]) [.keep [1,2,4,5]] ?_
 simp
 refine⟨rfl,λi hi K hK=> ?_,λK=> ?_⟩
 ·obtain⟨m,hm⟩:∃m,m=(n+i)/8:=⟨_,rfl⟩
  obtain⟨t,ht⟩:∃t,t=(n+i)%8:=⟨_,rfl⟩
  simp only[AJ,←hm,←ht]at hK
  generalize AJ a n i=b at*
  have hx:=b.Dl (i:=m) (by omega)
  have hw:IntKind.i64.wrap ((n:Int)+(i:Int)+1)=(n:Int)+((i:Int)+1):=by rw[wrap_i64 (by omega)];omega
  have hd:IntKind.i64.wrap (((n:Int)+(i:Int)).tdiv 8)=(m:Int):=by
   rw[show((n:Int)+(i:Int))=((n+i:Nat):Int) by omega,show(8:Int)=((8:Nat):Int) from rfl,←Int.ofNat_tdiv,←hm];exact wrap_i64 (by omega)
  have ht':((n:Int)+(i:Int)).tmod 8=(t:Int):=by
   rw[show((n:Int)+(i:Int))=((n+i:Nat):Int) by omega,show(8:Int)=((8:Nat):Int) from rfl,←Int.ofNat_tmod,ht]
  have jf:(n:Int)+(i:Int)<128:=by omega
  have tI:m<16:=by omega
  have NU:(m:Int)<16:=by omega
  have BK:(b.ip.map u8)[m]? =some (.int .u8 (b.jc m).toNat):=by simp[hx,u8]
  have ht8:t<8:=by omega
  have hbe:bits .andNot .u8 ((b.jc m).toNat:Int) (Int.fdiv 128 (2^min t IntKind.u8.bits))=(GZ (b.jc m).toNat t:Int):=ad7 ⟨t,ht8⟩ ⟨(b.jc m).toNat,(b.jc m).toNat_lt⟩
  have qS:GZ (b.jc m).toNat t<256:=MP ⟨t,ht8⟩ ⟨(b.jc m).toNat,(b.jc m).toNat_lt⟩
  have e1:(b.ip.map u8).set m (.int .u8 (GZ (b.jc m).toNat t:Int))=(stA b m (UInt8.ofNat (GZ (b.jc m).toNat t))).ip.map u8:=by
   rw[stA,List.map_set];congr 1
   simp only[u8];congr 1
   rw[UInt8.toNat_ofNat'];omega
  have e2:vv b (PV.ar 1 16 ((b.ip.map u8).set m (.int .u8 (GZ (b.jc m).toNat t:Int))))=ft (stA b m (UInt8.ofNat (GZ (b.jc m).toNat t))):=by rw[e1];rfl
  simp[↓an,jf,BK,hw,hd,ht',tI,NU,hbe,e2,-getElem?_pos]
  refine⟨[.keep [1,2,4,5]],?_⟩
  simp
  exact hK _ (by simp)
 ·have II:¬(n:Int)+((128-n:Nat):Int)<128:=by omega
  simp[↓an,II]
  refine aC.plain [] ?_
  simp
  rfl
theorem TW {a:iO} (h:∀i,i<12->a.jc (4+i)=0):jB a=true:=by
 unfold jB
 have e:fst (λi=>a.jc (4+i) !=0) 12=12:=vL.2 λi hi=>by simp[h i hi]
 simp[e]
theorem TX {c:qk} (h:im c):af Pg I.cQ [.pt KB [] 0] [.box (hH c)] (λr fp=>∃w:iO×qk,(jB w.1=true∧im w.2)∧r=ft w.1∧fp=[.box (hH w.2)]):=by
 refine af.intro T.cQ (by simp[F.cQ]) ?_
 simp[F.cQ,ai,aG]
 refine al.vZ KB (cD h 3 (by omega)) (by simp) (by simp[ae,ab,bS,idx]) (by simp[aO,az,bE,idx]) (by simp) ?_
 have l0:=iZ c (n:=3) (by omega)
 have o0:=gX h 3
 generalize rP c 3=x0 at*
 simp
 by_cases h6:(x0.1:Int)=1
 ·simp[h6]
  refine oJ.run [KB] rfl ?_
  simp
  refine al.vK KB (xQ o0 16 (by omega)) (by simp) (by simp[ae,ab,bS,idx]) (by simp[aO,az,bE,idx]) (by simp) ?_
  rintro⟨l,c'⟩ ⟨hc,hl⟩
  simp at hc hl
  simp[hl,eY]
  have e:∃a:iO,a.na=true∧PV.st 17 [PV.bl true,PV.ar 1 16 ((List.take 16 (List.map u8 l)).set 0 (PV.int IntKind.u8 253)++List.drop 16 (zr 16 (PV.int IntKind.u8 0)))]=ft a:=by
   refine⟨⟨true,l.set 0 253,by simp[hl]⟩,rfl,?_⟩
   rw[tJ (by simp[hl]),List.drop_of_length_le (by simp[iq]),List.append_nil]
   simp only[ft,List.map_set]
   rfl
  obtain⟨a,ha,e⟩:=e
  rw[e]
  refine aC.with [] [KB] ?_
  simp[ah,(bO _).refs,aM,(bO _).az,(jQ _).refs]
  exact⟨a,c',⟨by simp[jB,ha],hc⟩,rfl,rfl⟩
 ·simp[h6]
  refine oJ.run [KB] rfl ?_
  simp
  refine al.vZ KB (cD o0 4 (by omega)) (by simp) (by simp[ae,ab,bS,idx]) (by simp[aO,az,bE,idx]) (by simp) ?_
  have l1:=iZ x0.2 (n:=4) (by omega)
  have o1:=gX o0 4
  generalize rP x0.2 4=x1 at*
  simp
  refine al.vZ KB (cD o1 4 (by omega)) (by simp) (by simp[ae,ab,bS,idx]) (by simp[aO,az,bE,idx]) (by simp) ?_
  have l2:=iZ x1.2 (n:=4) (by omega)
  have o2:=gX o1 4
  generalize rP x1.2 4=x2 at*
  simp
  refine al.vZ KB (cD o2 256 (by omega)) (by simp) (by simp[ae,ab,bS,idx]) (by simp[aO,az,bE,idx]) (by simp) ?_
  have l3:=iZ x2.2 (n:=256) (by omega)
  have o3:=gX o2 256
  generalize rP x2.2 256=x3 at*
  simp
  have w:∀n:Nat,n<256->PV.int .u8 (IntKind.u8.wrap (n:Int))=u8 (UInt8.ofNat n):=λn hn=>by
   simp only[u8,PV.int.injEq,true_and]
   rw[UInt8.toNat_ofNat',wrap_u8 (by omega)]
   omega
  have e:∃a:iO,jB a=true∧PV.st 17 [PV.bl false,PV.ar 1 16 (PV.int IntKind.u8 10::PV.int IntKind.u8 (IntKind.u8.wrap ↑x1.fst)::PV.int IntKind.u8 (IntKind.u8.wrap ↑x2.fst)::PV.int IntKind.u8 (IntKind.u8.wrap ↑x3.fst)::List.drop 4 (zr 16 (PV.int IntKind.u8 0)))]=ft a:=by
   refine⟨⟨false,[10,UInt8.ofNat x1.1,UInt8.ofNat x2.1,UInt8.ofNat x3.1]++List.replicate 12 0,rfl⟩,?_,?_⟩
   ·refine TW λi hi=> ?_
    unfold iO.jc
    rw[List.getD_eq_getElem?_getD,List.getElem?_append_right (by simp),List.getElem?_replicate]
    split<;>rfl
   ·rw[w _ (by omega),w _ (by omega),w _ (by omega),iq]
    rfl
  obtain⟨a,ha,e⟩:=e
  rw[e]
  refine aC.with [] [KB] ?_
  simp[ah,(bO _).refs,aM,(bO _).az,(jQ _).refs]
  exact⟨a,x3.2,⟨ha,o3⟩,rfl,rfl⟩
theorem WJ {a:iO} (h:jB a=true) (h6:a.na=false):∀i,i<12->a.jc (4+i)=0:=by
 unfold jB at h
 simp only[h6,Bool.false_or,decide_eq_true_eq]at h
 intro i hi
 have:=vL.1 h i hi
 simpa using this
theorem MR {a:iO} {n:Nat} (ha:jB a=true) (hn:n≤if a.na=true then 128 else 32):nh ⟨JW a n,n⟩=true:=by
 have R3:n≤128:=by split at hn<;>omega
 obtain⟨h6,hz,hb⟩:=TV a R3 (128-n) (by omega)
 change (JW a n).na=a.na at h6
 change∀j,a.jc j=0->(JW a n).jc j=0 at hz
 change∀i,i<128-n->qn (JW a n) (n+i)=0 at hb
 generalize JW a n=b at*
 have h1:jB b=true:=by
  cases h:a.na
  ·exact TW λi hi=>hz _ (WJ ha h i hi)
  ·simp[jB,h6,h]
 have h2:=(rG ⟨b,n⟩ (by simp) (by simp only[];omega)).1 (by simpa using hb)
 simp only[Int.toNat_natCast]at h2
 have h3:(n:Int)≤if b.na=true then 128 else 32:=by rw[h6];split at hn<;>rename_i h<;>simp[h]<;>omega
 unfold nh
 simp only[h1,Bool.true_and,Int.toNat_natCast,←h2,decide_true,Bool.and_true,aJ,decide_eq_true_eq]
 exact⟨by omega,h3⟩
theorem Rg {c:qk} (h:im c):af Pg I.cL [.pt KB [] 0] [.box (hH c)] (λr fp=>∃w:lr×qk,(nh w.1=true∧im w.2)∧r=dX w.1∧fp=[.box (hH w.2)]):=by
 refine af.intro T.cL (by simp[F.cL]) ?_
 simp[F.cL,ai,aG]
 refine al.vK KB (TX h) (by simp) (by simp[ae,ab,bS,idx]) (by simp[aO,az,bE,idx]) (by simp) ?_
 rintro⟨a,c'⟩ ⟨ha,hc⟩
 simp at ha hc
 simp
 refine⟨λh6=> ?_,λh6=> ?_⟩
 all_goals
  refine oJ.run [KB] rfl ?_
  simp
 ·refine al.vZ KB (cD hc 129 (by omega)) (by simp) (by simp[ae,ab,bS,idx]) (by simp[aO,az,bE,idx]) (by simp) ?_
  have l1:=iZ c' (n:=129) (by omega)
  have o1:=gX hc 129
  generalize rP c' 129=x1 at*
  simp
  refine aU.ret (Ip a (n:=x1.1) (by omega)) (by simp) (by simp) (by simp) ?_
  simp
  refine aC.with [] [KB] ?_
  simp[ah,(bO _).refs,aM,(bO _).az,(gW _).refs]
  exact⟨_,x1.2,⟨MR ha (by rw[if_pos h6];omega),o1⟩,rfl,rfl⟩
 ·refine al.vZ KB (cD hc 33 (by omega)) (by simp) (by simp[ae,ab,bS,idx]) (by simp[aO,az,bE,idx]) (by simp) ?_
  have l1:=iZ c' (n:=33) (by omega)
  have o1:=gX hc 33
  generalize rP c' 33=x1 at*
  simp
  refine aU.ret (Ip a (n:=x1.1) (by omega)) (by simp) (by simp) (by simp) ?_
  simp
  refine aC.with [] [KB] ?_
  simp[ah,(bO _).refs,aM,(bO _).az,(gW _).refs]
  exact⟨_,x1.2,⟨MR ha (by rw[if_neg (by simp[h6])];omega),o1⟩,rfl,rfl⟩
theorem JX {c:qk} (h:im c):af Pg I.bW [.pt KB [] 0] [.box (hH c)] (λr fp=>∃w:Bo×qk,(MS w.1=true∧im w.2)∧r=jR w.1∧fp=[.box (hH w.2)]):=by
 refine af.intro T.bW (by simp[F.bW]) ?_
 simp[F.bW,ai,aG]
 refine al.vK KB (TX h) (by simp) (by simp[ae,ab,bS,idx]) (by simp[aO,az,bE,idx]) (by simp) ?_
 rintro⟨a,c'⟩ ⟨ha,hc⟩
 simp at ha hc
 simp
 refine al.vK KB ((xd hc 65535 (by omega) (by omega)).mono (R':=λr fp=>∃w:Nat×qk,(im w.2∧w.1<65535)∧r= .int .i64 w.1∧fp=[.box (hH w.2)]) ?_) (by simp) (by simp[ae,ab,bS,idx]) (by simp[aO,az,bE,idx]) (by simp) ?_
 ·rintro r fp ⟨m,c',a,b,e,f⟩;exact⟨⟨m,c'⟩,⟨a,b⟩,e,f⟩
 rintro⟨po,c4⟩ ⟨o4,Uh⟩
 simp at o4 Uh
 have w:IntKind.i64.wrap (1+(po:Int))=1+(po:Int):=wrap_i64 (by omega)
 simp[w]
 refine aC.with [] [KB] ?_
 simp[ah,(bO _).refs,aM,(bO _).az,(jQ _).refs,ab,ae]
 refine⟨⟨a,1+(po:Int)⟩,c4,⟨?_,o4⟩,rfl,rfl⟩
 simp[MS,ha]
 omega
end Go.Ab
end Z3s
noncomputable section Z4s
namespace Go.Ab
open Go.Ab
def MT (p q:lr):Bool:=PV.beq (dX p) (dX q)
theorem Fj {p q:lr}:MT p q=true↔p=q:=by
 constructor
 ·intro h
  unfold MT dX at h
  simp only[PV.beq,PV.oN,aJ,G0,decide_eq_true_eq,beq_iff_eq]at h
  obtain⟨p,b⟩:=p
  obtain⟨q,c⟩:=q
  obtain⟨p6,pi,ph⟩:=p
  obtain⟨q6,qi,qh⟩:=q
  simp_all
 ·rintro rfl;exact Mc _
structure Bt (l:List lr):Prop where
 val:∀p∈l,nh p=true
 Om:l.Nodup
theorem Bt.snoc {l:List lr} {q:lr} (h:Bt l) (hq:nh q=true) (hn:q∉l):Bt (l++[q]):=
 ⟨λp hp=>by
  rcases List.mem_append.1 hp with hp|hp
  ·exact h.val p hp
  ·rw[List.mem_singleton.1 hp];exact hq,
  List.nodup_append.2 ⟨h.Om,by simp,λa ha b hb e=>hn (by rw[←List.mem_singleton.1 hb,←e];exact ha)⟩⟩
theorem JY {c:qk} (h:im c) {n:Nat} (hn:n≤100):af Pg I.bX [.pt KB [] 0,.int .i64 n] [.box (hH c)] (λr fp=>∃w:List lr×qk,(Bt w.1∧w.1.length≤n∧im w.2)∧r=jt w.1∧fp=[.box (hH w.2)]):=by
 refine af.intro T.bX (by simp[F.bX]) ?_
 have w0:IntKind.i64.wrap ((n:Int)+1)=((n+1:Nat):Int):=by rw[wrap_i64 (by omega)];omega
 simp[F.bX,ai,aG]
 simp only[w0]
 refine al.vZ KB (cD h (n+1) (by omega)) (by simp) (by simp[ae,ab,bS,idx]) (by simp[aO,az,bE,idx]) (by simp) ?_
 have l0:=iZ c (n:=n+1) (by omega)
 have o0:=gX h (n+1)
 generalize rP c (n+1)=x at*
 simp
 refine gR.acO x.1 (([],x.2):List lr×qk) (λi y=>Bt y.1∧y.1.length≤i∧im y.2) [0,4,5,6] (λi y=>[(5,.rs 90 [] 0 y.1.length y.1.length 18 .tip),(6,.int .i64 ((x.1-i:Nat):Int))]) (λi y=>[(90,.arr 18 (y.1.map dX)),(KB,.box (hH y.2))]) [.keep [0,4,5,6],.vt 5 90 18] ?_
 simp
 refine⟨⟨⟨by simp,by simp⟩,o0⟩,λi l cc hi hp hl hc K hK=> ?_,λl cc hp hl hc K=> ?_⟩
 ·have uG:0<x.1-i:=by omega
  have hw:IntKind.i64.wrap (((x.1-i:Nat):Int)-1)=((x.1-(i+1):Nat):Int):=by rw[wrap_i64 (by omega)];omega
  simp[↓an,uG]
  refine al.vK KB (Rg hc) (by simp) (by simp[ae,ab,bS,idx]) (by simp[aO,az,bE,idx]) (by simp) ?_
  rintro⟨q,c2⟩ ⟨hq,o2⟩
  simp at hq o2
  simp
  refine gR.iw l.length (λ_=>True) [0,4,5,6,7,8,21,22,23] (λk=>[(8,.bl ((l.take k).all λr=> !MT q r)),(23,.int .i64 k)]) (λk=>[]) [.keep [0,4,5,6,7,8,21,22,23]] ?_
  simp
  refine⟨λk hk K2 nn=> ?_,λK2=> ?_⟩
  ·have hx:l[k]? =some l[k]:=gJ hk
   have ht:l.take (k+1)=l.take k++[l[k]]:=List.take_succ_eq_append_getElem hk
   have OP:IntKind.i64.wrap ((k:Int)+1)=(k:Int)+1:=wrap_i64 (by omega)
   have IG:(k:Int)<l.length:=by omega
   rw[ht]at nn
   generalize l[k]=r at*
   have fq:=iL q
   have fr:=iL r
   simp only[List.all_append,List.all_cons,List.all_nil,Bool.and_true]at nn
   cases hb:(l.take k).all λr=> !MT q r
   ·simp only[hb,Bool.false_and]at nn
    simp[↓an,hx,hk,IG,OP,fq,fr,-getElem?_pos]
    refine⟨[.keep [0,4,5,6,7,8,21,22,23],.dr 10],?_⟩
    simp
    exact nn _ (by simp)
   ·simp only[hb,Bool.true_and]at nn
    simp[↓an,hx,hk,IG,OP,fq,fr,-getElem?_pos]
    refine⟨[.keep [0,4,5,6,7,8,21,22,23],.dr 10],?_⟩
    simp
    exact nn _ (by simp;rfl)
  ·have e:(l.take l.length)=l:=List.take_length
   have lS:aB (l.map dX):=vy l
   cases hb:l.all λr=> !MT q r
   ·simp[↓an,hb,hw]
    refine⟨[.keep [0,4,5,6],.dr 7],?_⟩
    simp
    exact hK l c2 _ (by simp) hp (by omega) o2
   ·simp[↓an,hb,hw]
    refine⟨⟨by omega,by omega⟩,[.keep [0,4,5,6],.dr 7],?_⟩
    simp
    have Ya:q∉l:=λhm=>by
     have:=List.all_eq_true.1 hb q hm
     rw[show MT q q=true from Fj.2 rfl]at this
     cases this
    exact hK (l++[q]) c2 _ (by simp) (hp.snoc hq Ya) (by simp;omega) o2
 ·simp[↓an]
  refine aC.with [.keep [4],.fz 90] [KB] ?_
  simp[ah,(bO _).refs,aM,(bO _).az,(GY _).refs]
  exact⟨l,cc,⟨hp,by omega,hc⟩,rfl,rfl⟩
end Go.Ab
end Z4s

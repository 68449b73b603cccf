/- Deleting and inserting in slices; setting a timer; copies of a daemon. No condition. -/
import Derived.Test.YtdfkcobijmbidaaGreatS1
import Derived.Test.YtdfkcobijmbidaaGreatA7
import Derived.Lib.Overlaps
import Derived.Test.YtdfkcobijmbidaaGreatA5
import Derived.Test.YtdfkcobijmbidaaGreatB2
set_option maxRecDepth 10000
set_option maxHeartbeats 1000000
set_option linter.all false
noncomputable section S5s
namespace Go.Ab
open Go.Ab
def AI {α:Type} (q:α->Bool) (L:List α):Int:=match L.findIdx? q with|some i=>(i:Int)|none=> -1
theorem wU {α:Type} {q:α->Bool} {L:List α} (h:∀x∈L,q x=false):AI q L= -1:=by
 have:L.findIdx? q=none:=List.findIdx?_eq_none_iff.2 h
 rw[AI,this]
theorem wV {α:Type} {q:α->Bool} {L:List α} {i:Nat} (hi:i<L.length) (h:∀x∈L.take i,q x=false) (hq:q L[i]=true):AI q L=i:=by
 have:L.findIdx? q=some i:=by
  rw[List.findIdx?_eq_some_iff_getElem]
  refine⟨hi,hq,λj hj=> ?_⟩
  have:=h L[j] (by rw[List.mem_take_iff_getElem];exact⟨j,by omega,rfl⟩)
  simpa using this
 rw[AI,this]
theorem tM {α:Type} (q:α->Bool) (L:List α):(AI q L= -1∧∀x∈L,q x=false)∨∃i,∃h:i<L.length,AI q L=i∧(∀x∈L.take i,q x=false)∧q L[i]=true:=by
 cases h:L.findIdx? q with
 |none=>exact .inl ⟨by rw[AI,h],List.findIdx?_eq_none_iff.1 h⟩
 |
  some i=>
  obtain⟨hi,hq,hn⟩:=List.findIdx?_eq_some_iff_getElem.1 h
  refine .inr ⟨i,hi,by rw[AI,h],λx hx=> ?_,hq⟩
  rw[List.mem_take_iff_getElem]at hx
  obtain⟨j,hj,rfl⟩:=hx
  simpa using hn j (by omega)
theorem akD {L:List fS} {J:List PV} {c:jb} (hl:L.length≤1048576) (hJ:aB J) {g:FuncId} {q:fS->Bool} {v:PV} {w:PV} (hv:Pure v) (hw:Pure w) (hq:∀x∈L,(ah Pg g [bY x,.pt KB [] 0,.pt (KB+1) [] 0] [a9.box v,a9.box w] (λr fp=>r= .bl (q x)∧fp=[a9.box v,a9.box w]))):
  ah Pg I.aH [.rs KB [] 0 L.length (L.length+J.length) 34 c,.fn (.func g) [] [.pt (KB+1) [] 0,.pt (KB+2) [] 0]] [.arr 34 (L.map bY++J),.box v,.box w] (λr fp=>r= .int .i64 (AI q L)∧fp=[.arr 34 (L.map bY++J),.box v,.box w]):=by
 refine ah.intro T.aH (by simp[F.aH]) ?_
 have qZ:aB (L.map bY++J):=(bZ jR L).append hJ
 have hwl:L.length=(L.map bY).length:=by simp
 have hx:∀i,(h:i<L.length)->(L.map bY++J)[i]? =some (bY L[i]):=λi h=>by rw[List.getElem?_append_left (by simpa using h)];simp[h]
 have hlen:(L.map bY++J).length=L.length+J.length:=by simp
 generalize L.map bY++J=B at*
 simp[F.aH,au,aG,hlen]
 refine jx.kl L.length (λi=>∀x∈L.take i,q x=false) [0,1,4,6,7,8] (λi=>[(8,.int .i64 i)]) (λ_=>[]) [.keep [0,1,4,6,7,8]] ?_
 simp only[List.take_zero]
 simp
 refine⟨λi hi hI K hK=> ?_,λhI K=> ?_⟩
 ·have hc:=hq L[i] (List.getElem_mem hi)
  have hx:=hx i hi
  have wi:IntKind.i64.wrap ((i:Int)+1)=(i:Int)+1:=wrap_i64 (by omega)
  have hle:i<L.length+J.length:=by omega
  generalize VO:L[i]=x at*
  simp[↓aA,hx,hi,hlen,-getElem?_pos]
  refine al.gen [KB+1,KB+2] [] [a9.box v,a9.box w] hc (by simp[getAll]) (by simp) (by simp) (by simp[ae,ab,bg,idx]) (by simp[af,hv.refs,hw.refs]) (by simp[aK,aF,aT,idx]) (by simp[a0,hv.aF,hw.aF]) (by simp[af,ab,hv.refs,hw.refs]) ?_
  simp[bC,a0,aF,hv.aF,hw.aF]
  by_cases hb:q x=true
  ·simp[hb]
   refine aL.with [] [KB,KB+1,KB+2] ?_
   simp[af,a0,qZ.refs,qZ.aF,hv.refs,hw.refs,hv.aF,hw.aF]
   exact(wV hi hI (by rw[VO];exact hb)).symm
  ·have hb:q x=false:=by simpa using hb
   simp[hb,wi]
   refine⟨[.keep [0,1,4,6,7,8]],?_⟩
   simp
   refine hK _ (by simp) ?_
   rw[List.take_succ_eq_append_getElem hi,VO]
   intro y hy
   rcases List.mem_append.1 hy with h|h
   ·exact hI y h
   ·simp at h;subst h;exact hb
 ·simp[↓aA]
  refine aL.with [] [KB,KB+1,KB+2] ?_
  simp[af,a0,qZ.refs,qZ.aF,hv.refs,hw.refs,hv.aF,hw.aF]
  exact(wU hI).symm
theorem akE {L:List fS} {J:List PV} {c:jb} (hl:L.length≤1048576) (hJ:aB J) {g:FuncId} {q:fS->Bool} {v:PV} (hv:Pure v) (hq:∀x∈L,(ah Pg g [bY x,.pt KB [] 0] [a9.box v] (λr fp=>r= .bl (q x)∧fp=[a9.box v]))):
  ah Pg I.aH [.rs KB [] 0 L.length (L.length+J.length) 34 c,.fn (.func g) [] [.pt (KB+1) [] 0]] [.arr 34 (L.map bY++J),.box v] (λr fp=>r= .int .i64 (AI q L)∧fp=[.arr 34 (L.map bY++J),.box v]):=by
 refine ah.intro T.aH (by simp[F.aH]) ?_
 have qZ:aB (L.map bY++J):=(bZ jR L).append hJ
 have hwl:L.length=(L.map bY).length:=by simp
 have hx:∀i,(h:i<L.length)->(L.map bY++J)[i]? =some (bY L[i]):=λi h=>by rw[List.getElem?_append_left (by simpa using h)];simp[h]
 have hlen:(L.map bY++J).length=L.length+J.length:=by simp
 generalize L.map bY++J=B at*
 simp[F.aH,au,aG,hlen]
 refine jx.kl L.length (λi=>∀x∈L.take i,q x=false) [0,1,4,6,7,8] (λi=>[(8,.int .i64 i)]) (λ_=>[]) [.keep [0,1,4,6,7,8]] ?_
 simp only[List.take_zero]
 simp
 refine⟨λi hi hI K hK=> ?_,λhI K=> ?_⟩
 ·have hc:=hq L[i] (List.getElem_mem hi)
  have hx:=hx i hi
  have wi:IntKind.i64.wrap ((i:Int)+1)=(i:Int)+1:=wrap_i64 (by omega)
  have hle:i<L.length+J.length:=by omega
  generalize VO:L[i]=x at*
  simp[↓aA,hx,hi,hlen,-getElem?_pos]
  refine al.gen [KB+1] [] [a9.box v] hc (by simp[getAll]) (by simp) (by simp) (by simp[ae,ab,bg,idx]) (by simp[af,hv.refs]) (by simp[aK,aF,aT,idx]) (by simp[a0,hv.aF]) (by simp[af,ab,hv.refs]) ?_
  simp[bC,a0,aF,hv.aF]
  by_cases hb:q x=true
  ·simp[hb]
   refine aL.with [] [KB,KB+1] ?_
   simp[af,a0,qZ.refs,qZ.aF,hv.refs,hv.aF]
   exact(wV hi hI (by rw[VO];exact hb)).symm
  ·have hb:q x=false:=by simpa using hb
   simp[hb,wi]
   refine⟨[.keep [0,1,4,6,7,8]],?_⟩
   simp
   refine hK _ (by simp) ?_
   rw[List.take_succ_eq_append_getElem hi,VO]
   intro y hy
   rcases List.mem_append.1 hy with h|h
   ·exact hI y h
   ·simp at h;subst h;exact hb
 ·simp[↓aA]
  refine aL.with [] [KB,KB+1] ?_
  simp[af,a0,qZ.refs,qZ.aF,hv.refs,hv.aF]
  exact(wU hI).symm
theorem akF {L:List ja} {J:List PV} {c:jb} (hl:L.length≤1048576) (hJ:aB J) {g:FuncId} {q:ja->Bool} (hq:∀x∈L,(ah Pg g [cI x] [] (λr fp=>r= .bl (q x)∧fp=[]))):
  ah Pg I.bq [.rs KB [] 0 L.length (L.length+J.length) 34 c,.fn (.func g) [] []] [.arr 34 (L.map cI++J)] (λr fp=>r= .int .i64 (AI q L)∧fp=[.arr 34 (L.map cI++J)]):=by
 refine ah.intro T.bq (by simp[F.bq]) ?_
 have qZ:aB (L.map cI++J):=(bZ iz L).append hJ
 have hwl:L.length=(L.map cI).length:=by simp
 have hx:∀i,(h:i<L.length)->(L.map cI++J)[i]? =some (cI L[i]):=λi h=>by rw[List.getElem?_append_left (by simpa using h)];simp[h]
 have hlen:(L.map cI++J).length=L.length+J.length:=by simp
 generalize L.map cI++J=B at*
 simp[F.bq,au,aG,hlen]
 refine jx.kl L.length (λi=>∀x∈L.take i,q x=false) [0,1,4,6,7,8] (λi=>[(8,.int .i64 i)]) (λ_=>[]) [.keep [0,1,4,6,7,8]] ?_
 simp only[List.take_zero]
 simp
 refine⟨λi hi hI K hK=> ?_,λhI K=> ?_⟩
 ·have hc:=hq L[i] (List.getElem_mem hi)
  have hx:=hx i hi
  have wi:IntKind.i64.wrap ((i:Int)+1)=(i:Int)+1:=wrap_i64 (by omega)
  have hle:i<L.length+J.length:=by omega
  generalize VO:L[i]=x at*
  simp[↓aA,hx,hi,hlen,-getElem?_pos]
  refine al.gen [] [] [] hc (by simp) (by simp) (by simp) (by simp[ae]) (by simp) (by simp[aK]) (by simp) (by simp[ab]) ?_
  simp[bC,aF]
  by_cases hb:q x=true
  ·simp[hb]
   refine aL.with [] [KB] ?_
   simp[af,a0,qZ.refs,qZ.aF]
   exact(wV hi hI (by rw[VO];exact hb)).symm
  ·have hb:q x=false:=by simpa using hb
   simp[hb,wi]
   refine⟨[.keep [0,1,4,6,7,8]],?_⟩
   simp
   refine hK _ (by simp) ?_
   rw[List.take_succ_eq_append_getElem hi,VO]
   intro y hy
   rcases List.mem_append.1 hy with h|h
   ·exact hI y h
   ·simp at h;subst h;exact hb
 ·simp[↓aA]
  refine aL.with [] [KB] ?_
  simp[af,a0,qZ.refs,qZ.aF]
  exact(wU hI).symm
end Go.Ab
end S5s
noncomputable section S6s
namespace Go.Ab
open Go.Ab
@[simp] theorem axR (f:Fn) (a b:List PV):wk (.fn f a b)= .fn f a b:=by simp only[wk]
theorem oA (sz:Nat) (j:Nat):aB (List.replicate j (H5 sz)):=aB.mk' λp hp=>by
 rw[List.eq_of_mem_replicate hp]
 exact aB.st (aB.mk' λp hp=>by rw[List.eq_of_mem_replicate hp];simp) sz
def yH {α:Type} (p:α->Bool) (L:List α) (j:Nat):List α:=(L.take j).filter p++L.drop ((L.take j).filter p).length
theorem yI {α:Type} (p:α->Bool) (L:List α) (j:Nat):((L.take j).filter p).length≤j∧((L.take j).filter p).length≤L.length:=by
 have:=List.length_filter_le p (L.take j)
 rw[lJ]at this
 omega
theorem HD {α:Type} (p:α->Bool) (L:List α) (j:Nat):(yH p L j).length=L.length:=by
 have:=yI p L j
 simp only[yH,List.length_append,List.length_drop];omega
theorem Cz {α:Type} {p:α->Bool} {L:List α} {i:Nat} (hi:i<L.length) (h:∀x∈L.take i,p x=true) (hq:p L[i]=false):((L.take (i+1)).filter p).length=i∧yH p L (i+1)=L:=by
 have e:(L.take (i+1)).filter p=L.take i:=by
  rw[kg p hi,hq]
  simp only[fJ,if_false,List.append_nil]
  exact List.filter_eq_self.2 h
 have hl:(L.take i).length=i:=by rw[lJ];omega
 refine⟨by rw[e,hl],?_⟩
 rw[yH,e,hl,List.take_append_drop]
theorem Se {α:Type} (p:α->Bool) {L:List α} {j:Nat} (hj:j<L.length):(yH p L j)[j]? =some L[j]:=by
 have:=yI p L j
 rw[yH,List.getElem?_append_right this.1,List.getElem?_drop,show((L.take j).filter p).length+(j-((L.take j).filter p).length)=j by omega,gJ hj]
theorem Ob {α:Type} {p:α->Bool} {L:List α} {j:Nat} (hj:j<L.length) (h:p L[j]=false):(L.take (j+1)).filter p=(L.take j).filter p∧yH p L (j+1)=yH p L j:=by
 have e:(L.take (j+1)).filter p=(L.take j).filter p:=by rw[kg p hj,h];simp
 exact⟨e,by rw[yH,yH,e]⟩
theorem I9 {α:Type} {p:α->Bool} {L:List α} {j:Nat} (hj:j<L.length) (h:p L[j]=true):((L.take (j+1)).filter p).length=((L.take j).filter p).length+1∧(yH p L j).set ((L.take j).filter p).length L[j]=yH p L (j+1):=by
 have e:(L.take (j+1)).filter p=(L.take j).filter p++[L[j]]:=by rw[kg p hj,h];simp
 have hc:=yI p L j
 refine⟨by rw[e];simp,?_⟩
 rw[yH,yH,e,List.set_append_right _ _ (Nat.le_refl _),Nat.sub_self,List.drop_eq_getElem_cons (by omega),List.set_cons_zero]
 simp
theorem Sf {α:Type} (p:α->Bool) (L:List α):(L.take L.length).filter p=L.filter p∧(yH p L L.length).take (L.filter p).length=L.filter p:=by
 rw[List.take_length]
 refine⟨rfl,?_⟩
 rw[yH,List.take_length,List.take_left]
theorem Oc {α:Type} (p:α->Bool) (e:α->PV) (he:∀x,Pure (e x)) {n:Nat} (hw:∀x,(e x).width=n) {L:List α} {i:Nat} (hi:i<L.length) (h:∀x∈L.take i,p x=true) (hq:p L[i]=false):
  ∃
   (D:Nat->List PV) (cn:Nat->Nat),(D (i+1)=L.map e∧cn (i+1)=i)∧(∀j (h:j<L.length),(D j)[j]? =some (e L[j]))∧(∀j (h:j<L.length),p L[j]=false->D (j+1)=D j∧cn (j+1)=cn j)∧
   (∀j (h:j<L.length),p L[j]=true->(D j).set (cn j) (e L[j])=D (j+1)∧cn (j+1)=cn j+1)∧(∀j,(D j).length=L.length)∧(∀j,cn j≤j∧cn j≤L.length)∧
   (cn L.length=(L.filter p).length∧(D L.length).take (L.filter p).length=(L.filter p).map e)∧(∀j,∀x∈D j,x.width=n)∧(∀j,aB (D j)):=by
 refine⟨λj=>(yH p L j).map e,λj=>((L.take j).filter p).length,⟨by show(yH p L (i+1)).map e=_;rw[(Cz hi h hq).2],(Cz hi h hq).1⟩,λj h=> ?_,λj h hp=> ?_,λj h hp=> ?_,λj=> ?_,λj=>yI p L j,?_,λj x hx=> ?_,λj=>aB.map he _⟩
 ·show((yH p L j).map e)[j]? =_
  rw[List.getElem?_map,Se p h];rfl
 ·exact⟨by show(yH p L (j+1)).map e=_;rw[(Ob h hp).2],by show((L.take (j+1)).filter p).length=_;rw[(Ob h hp).1]⟩
 ·refine⟨?_,(I9 h hp).1⟩
  show((yH p L j).map e).set _ _=(yH p L (j+1)).map e
  rw[←(I9 h hp).2,List.map_set]
 ·show((yH p L j).map e).length=_
  rw[List.length_map,HD]
 ·have:=Sf p L
  refine⟨by show((L.take L.length).filter p).length=_;rw[this.1],?_⟩
  show((yH p L L.length).map e).take _=_
  rw[←List.map_take,this.2]
 ·obtain⟨y,_,rfl⟩:=List.mem_map.1 hx
  exact hw y
def DQ:PV:= .st 34 [.int .u32 0,.ar 1 32 (zr 32 (.int .u8 0)),.bl false]
theorem atX {L:List fS} (hl:L.length≤1048576) {g:FuncId} {q:fS->Bool} {v:PV} {w:PV} (hv:Pure v) (hw:Pure w) (hq:∀x∈L,(ah Pg g [bY x,.pt KB [] 0,.pt (KB+1) [] 0] [a9.box v,a9.box w] (λr fp=>r= .bl (q x)∧fp=[a9.box v,a9.box w]))):
  ah Pg I.bh [.rs KB [] 0 L.length L.length 34 .tip,.fn (.func g) [] [.pt (KB+1) [] 0,.pt (KB+2) [] 0]] [.arr 34 (L.map bY),.box v,.box w] (λr fp=>∃(J:List PV) (c:Nat),(aB J∧(L.filter λx=> !q x).length≤c∧c≤(L.filter λx=> !q x).length+J.length)∧r= .rs KB [] 0 (L.filter λx=> !q x).length ((L.filter λx=> !q x).length+J.length) 34 (.full c)∧fp=[.arr 34 ((L.filter λx=> !q x).map bY++J),.box v,.box w]):=by
 obtain⟨p,KX⟩:∃p:fS->Bool,∀x,p x= !q x:=⟨_,λ_=>rfl⟩
 rw[show(λx=> !q x)=p from funext λx=>(KX x).symm]
 refine ah.intro T.bh (by simp[F.bh]) ?_
 have vz:∀l:List fS,aB (l.map bY):=λl=>bZ jR l
 have Zz:=akD (c:= .tip) (J:=[]) hl lA hv hw hq
 simp only[List.append_nil,List.length_nil,Nat.add_zero]at Zz
 simp[F.bh,au,aG]
 refine al.gen [KB,KB+1,KB+2] [] [.arr 34 (L.map bY),.box v,.box w] Zz (by simp[getAll]) (by simp) (by simp) (by simp[ae,ab,bg,idx]) (by simp[af,hv.refs,hw.refs]) (by simp[aK,aF,aT,idx]) (by simp[a0,hv.aF,hw.aF]) (by simp[af,ab,hv.refs,hw.refs]) ?_
 simp[bC,a0,aF,hv.aF,hw.aF]
 rcases tM q L with⟨he,ff⟩|⟨i,hi,he,OW,hqi⟩
 ·have hK:L.filter p=L:=List.filter_eq_self.2 λx hx=>by rw[KX,ff x hx];rfl
  rw[hK]
  simp[he]
  refine aL.with [.keep [4],.mt 4] [KB,KB+1,KB+2] ?_
  simp[af,a0,hv.refs,hw.refs,hv.aF,hw.aF]
  intro c j hcj
  exact⟨(oA 34 j).refs _,List.replicate j (H5 34),c,⟨oA 34 j,by rcases hcj with h|⟨_,_,h⟩<;>simp[h],by rw[List.length_replicate];omega⟩,by simp,((vz L).append (oA 34 j)).aF _⟩
 ·have ZA:p L[i]=false:=by rw[KX,hqi];rfl
  obtain⟨D,cn,⟨d0,c0⟩,dg,dn,dy,dl,cl,⟨ce,de⟩,dw,dp⟩:=Oc p bY jR (n:=34) (λx=>by simp) hi (λx hx=>by rw[KX,OW x hx];rfl) ZA
  have wi:IntKind.i64.wrap ((i:Int)+1)=(i:Int)+1:=wrap_i64 (by omega)
  have fc:¬(i:Int)= -1:=by omega
  simp[he,wi,fc]
  rw[←d0]
  have Ow:L.length-(i+1)+(i+1)=L.length:=by omega
  refine jx.kl (L.length-(i+1)) (λ_=>True) [0,1,4,5,6] (λr=>[(5,.int .i64 (cn (i+1+r))),(6,.int .i64 ((i:Int)+1+r))]) (λr=>[(KB,.arr 34 (D (i+1+r)))]) [.keep [0,1,4,5,6]] ?_
  simp[c0]
  refine⟨λr hr K hK=> ?_,λK=> ?_⟩
  ·obtain⟨j,hj⟩:∃j,j=i+1+r:=⟨_,rfl⟩
   have xX:j<L.length:=by omega
   have ZB:(i:Int)+1+r=j:=by omega
   have hx:=dg j xX
   have hc:=hq L[j] (List.getElem_mem xX)
   have dn:=dn j xX
   have dy:=dy j xX
   have cl:=cl j
   have dlj:=dl j
   have dpj:=dp j
   have dpj1:=dp (j+1)
   have wj:IntKind.i64.wrap ((j:Int)+1)=(j:Int)+1:=wrap_i64 (by omega)
   have wc:IntKind.i64.wrap ((cn j:Int)+1)=(cn j:Int)+1:=wrap_i64 (by omega)
   have KV:cn j<L.length:=by omega
   obtain⟨y,hy,hyw⟩:∃y,(D j)[cn j]? =some y∧y.width=34:=by
    have fZ:cn j<(D j).length:=by rw[dlj];exact KV
    exact⟨_,gJ fZ,dw j _ (List.getElem_mem fZ)⟩
   have hK:∀s2,jP s2 [0,1,4,5,6] [] []=⟨[(0,.rs KB [] 0 L.length L.length 34 .tip),(1,.fn (.func g) [] [.pt (KB+1) [] 0,.pt (KB+2) [] 0]),(4,.sl 34 [] true),(5,.int .i64 (cn (j+1))),(6,.int .i64 ((j:Int)+1))],[(KB,.arr 34 (D (j+1))),(KB+1,.box v),(KB+2,.box w)]⟩->K s2:=by
    intro s2 xW
    refine hK s2 (xW.trans ?_)
    rw[show i+1+(r+1)=j+1 by omega,show(i:Int)+1+((r:Int)+1)=(j:Int)+1 by omega]
   rw[←hj,ZB]
   have hpx:p L[j]= !q L[j]:=KX _
   generalize L[j]=x at*
   generalize cn j=cj at*
   generalize D j=Dj at*
   generalize D (j+1)=Dj1 at*
   generalize cn (j+1)=cj1 at*
   simp[↓aA,hx,xX,dlj,-getElem?_pos]
   refine al.gen [KB+1,KB+2] [] [a9.box v,a9.box w] hc (by simp[getAll]) (by simp) (by simp) (by simp[ae,ab,bg,idx]) (by simp[af,hv.refs,hw.refs]) (by simp[aK,aF,aT,idx]) (by simp[a0,hv.aF,hw.aF]) (by simp[af,ab,hv.refs,hw.refs]) ?_
   simp[bC,a0,aF,hv.aF,hw.aF]
   by_cases hb:q x=true
   ·obtain⟨rfl,rfl⟩:=dn (by rw[hpx,hb];rfl)
    simp[hb,wj]
    refine⟨[.keep [0,1,4,5,6],.dr 7],?_⟩
    simp[bL,cL,ab,ae,af,dpj.refs,hv.refs,hw.refs]
    exact hK _ (by simp)
   ·have hb:q x=false:=by simpa using hb
    obtain⟨rfl,rfl⟩:=dy (by rw[hpx,hb];rfl)
    simp[hb,wj,wc,dlj,KV,hy,hyw,-getElem?_pos]
    refine⟨[.keep [0,1,4,5,6],.dr 7],?_⟩
    simp[bL,cL,ab,ae,af,dpj1.refs,hv.refs,hw.refs]
    exact hK _ (by simp)
  ·have xX:i+1+(L.length-(i+1))=L.length:=by omega
   have ZB:(i:Int)+1+((L.length-(i+1):Nat):Int)=L.length:=by omega
   simp only[xX,ZB]
   have cl:=cl L.length
   have dlj:=dl L.length
   have dpj:=dp L.length
   have dw:=dw L.length
   have rT:(L.filter p).length≤L.length:=by rw[←ce];exact cl.2
   rw[ce]
   generalize D L.length=DJ at*
   generalize hKk:L.filter p=Kp at*
   simp[↓aA,dlj,rT,-getElem?_pos]
   rw[de]
   obtain⟨Z,hZ,hzp,hzl⟩:∃Z,(List.replicate (L.length-Kp.length) (.st 34 [(.int .i64 0),(.ar 1 32 (zr 32 (.int .u8 0))),(.int .i64 0)])++List.drop L.length DJ)=Z∧aB Z∧Z.length=L.length-Kp.length:=
    ⟨_,rfl,(aB.mk' λp hp=>by rw[List.eq_of_mem_replicate hp];simp).append (dpj.drop _),by simp[dlj]⟩
   rw[hZ]
   have iG:aB (Kp.map bY++Z):=(vz Kp).append hzp
   have vF:(Kp.map bY++Z).length=L.length:=by simp;omega
   refine aL.with [.keep [4],.mt 4] [KB,KB+1,KB+2] ?_
   simp[vF,af,a0,hv.refs,hw.refs,hv.aF,hw.aF]
   intro c j hcj
   have hzu:=hzp.append (oA 34 j)
   refine⟨⟨hzp.refs _,(oA 34 j).refs _⟩,Z++List.replicate j (H5 34),c,⟨hzu,?_,?_⟩,⟨by simp;omega,rfl⟩,((vz Kp).append hzu).aF _⟩
   ·rcases hcj with h|⟨_,_,h⟩
    ·omega
    ·simp[h]
   ·simp only[List.length_append,List.length_replicate];omega
theorem atY {L:List ja} (hl:L.length≤1048576) {g:FuncId} {q:ja->Bool} (hq:∀x∈L,(ah Pg g [cI x] [] (λr fp=>r= .bl (q x)∧fp=[]))):
  ah Pg I.bp [.rs KB [] 0 L.length L.length 34 .tip,.fn (.func g) [] []] [.arr 34 (L.map cI)] (λr fp=>r= .rs KB [] 0 (L.filter λx=> !q x).length L.length 34 .tip∧fp=[.arr 34 ((L.filter λx=> !q x).map cI++List.replicate (L.length-(L.filter λx=> !q x).length) DQ)]):=by
 obtain⟨p,KX⟩:∃p:ja->Bool,∀x,p x= !q x:=⟨_,λ_=>rfl⟩
 rw[show(λx=> !q x)=p from funext λx=>(KX x).symm]
 refine ah.intro T.bp (by simp[F.bp]) ?_
 have vz:∀l:List ja,aB (l.map cI):=λl=>bZ iz l
 have Zz:=akF (c:= .tip) (J:=[]) hl lA hq
 simp only[List.append_nil,List.length_nil,Nat.add_zero]at Zz
 simp[F.bp,au,aG]
 refine al.gen [KB] [] [.arr 34 (L.map cI)] Zz (by simp[getAll]) (by simp) (by simp) (by simp[ae,ab,bg,idx]) (by simp[af]) (by simp[aK,aF,aT,idx]) (by simp[a0]) (by simp[af,ab]) ?_
 simp[bC,a0,aF]
 rcases tM q L with⟨he,ff⟩|⟨i,hi,he,OW,hqi⟩
 ·have hK:L.filter p=L:=List.filter_eq_self.2 λx hx=>by rw[KX,ff x hx];rfl
  rw[hK]
  simp[he]
  refine aL.with [.keep [4]] [KB] ?_
  simp[af,a0]
  skip
 ·have ZA:p L[i]=false:=by rw[KX,hqi];rfl
  obtain⟨D,cn,⟨d0,c0⟩,dg,dn,dy,dl,cl,⟨ce,de⟩,dw,dp⟩:=Oc p cI iz (n:=34) (λx=>by simp) hi (λx hx=>by rw[KX,OW x hx];rfl) ZA
  have wi:IntKind.i64.wrap ((i:Int)+1)=(i:Int)+1:=wrap_i64 (by omega)
  have fc:¬(i:Int)= -1:=by omega
  simp[he,wi,fc]
  rw[←d0]
  have Ow:L.length-(i+1)+(i+1)=L.length:=by omega
  refine jx.kl (L.length-(i+1)) (λ_=>True) [0,1,4,5,6] (λr=>[(5,.int .i64 (cn (i+1+r))),(6,.int .i64 ((i:Int)+1+r))]) (λr=>[(KB,.arr 34 (D (i+1+r)))]) [.keep [0,1,4,5,6]] ?_
  simp[c0]
  refine⟨λr hr K hK=> ?_,λK=> ?_⟩
  ·obtain⟨j,hj⟩:∃j,j=i+1+r:=⟨_,rfl⟩
   have xX:j<L.length:=by omega
   have ZB:(i:Int)+1+r=j:=by omega
   have hx:=dg j xX
   have hc:=hq L[j] (List.getElem_mem xX)
   have dn:=dn j xX
   have dy:=dy j xX
   have cl:=cl j
   have dlj:=dl j
   have dpj:=dp j
   have dpj1:=dp (j+1)
   have wj:IntKind.i64.wrap ((j:Int)+1)=(j:Int)+1:=wrap_i64 (by omega)
   have wc:IntKind.i64.wrap ((cn j:Int)+1)=(cn j:Int)+1:=wrap_i64 (by omega)
   have KV:cn j<L.length:=by omega
   obtain⟨y,hy,hyw⟩:∃y,(D j)[cn j]? =some y∧y.width=34:=by
    have fZ:cn j<(D j).length:=by rw[dlj];exact KV
    exact⟨_,gJ fZ,dw j _ (List.getElem_mem fZ)⟩
   have hK:∀s2,jP s2 [0,1,4,5,6] [] []=⟨[(0,.rs KB [] 0 L.length L.length 34 .tip),(1,.fn (.func g) [] []),(4,.sl 34 [] true),(5,.int .i64 (cn (j+1))),(6,.int .i64 ((j:Int)+1))],[(KB,.arr 34 (D (j+1)))]⟩->K s2:=by
    intro s2 xW
    refine hK s2 (xW.trans ?_)
    rw[show i+1+(r+1)=j+1 by omega,show(i:Int)+1+((r:Int)+1)=(j:Int)+1 by omega]
   rw[←hj,ZB]
   have hpx:p L[j]= !q L[j]:=KX _
   generalize L[j]=x at*
   generalize cn j=cj at*
   generalize D j=Dj at*
   generalize D (j+1)=Dj1 at*
   generalize cn (j+1)=cj1 at*
   simp[↓aA,hx,xX,dlj,-getElem?_pos]
   refine al.gen [] [] [] hc (by simp) (by simp) (by simp) (by simp[ae]) (by simp) (by simp[aK]) (by simp) (by simp[ab]) ?_
   simp[bC,aF]
   by_cases hb:q x=true
   ·obtain⟨rfl,rfl⟩:=dn (by rw[hpx,hb];rfl)
    simp[hb,wj]
    refine⟨[.keep [0,1,4,5,6],.dr 7],?_⟩
    simp[bL,cL,ab,ae,af,dpj.refs]
    exact hK _ (by simp)
   ·have hb:q x=false:=by simpa using hb
    obtain⟨rfl,rfl⟩:=dy (by rw[hpx,hb];rfl)
    simp[hb,wj,wc,dlj,KV,hy,hyw,-getElem?_pos]
    refine⟨[.keep [0,1,4,5,6],.dr 7],?_⟩
    simp[bL,cL,ab,ae,af,dpj1.refs]
    exact hK _ (by simp)
  ·have xX:i+1+(L.length-(i+1))=L.length:=by omega
   have ZB:(i:Int)+1+((L.length-(i+1):Nat):Int)=L.length:=by omega
   simp only[xX,ZB]
   have cl:=cl L.length
   have dlj:=dl L.length
   have dpj:=dp L.length
   have dw:=dw L.length
   have rT:(L.filter p).length≤L.length:=by rw[←ce];exact cl.2
   rw[ce]
   generalize D L.length=DJ at*
   generalize hKk:L.filter p=Kp at*
   simp[↓aA,dlj,rT,-getElem?_pos]
   rw[de]
   obtain⟨Z,hZ,hzp,hzl⟩:∃Z,(List.replicate (L.length-Kp.length) (.st 34 [(.int .u32 0),(.ar 1 32 (zr 32 (.int .u8 0))),(.bl false)])++List.drop L.length DJ)=Z∧aB Z∧Z.length=L.length-Kp.length:=
    ⟨_,rfl,(aB.mk' λp hp=>by rw[List.eq_of_mem_replicate hp];simp).append (dpj.drop _),by simp[dlj]⟩
   rw[hZ]
   have iG:aB (Kp.map cI++Z):=(vz Kp).append hzp
   have vF:(Kp.map cI++Z).length=L.length:=by simp;omega
   refine aL.with [.keep [4]] [KB] ?_
   simp[af,a0,iG.refs,iG.aF]
   rw[←hZ,List.drop_of_length_le (by omega),List.append_nil];rfl
end Go.Ab
end S6s
noncomputable section S7s
namespace Go.Ab
open Go.Ab
@[simp↓] theorem Yu {s:St} (d:Option Nat) (sz:Nat) (p:PV) (K:St->Prop) (k:Nat) (pth:List Step) (off len aC z:Nat) (c:jb):cpQ s d sz p K (.rs k pth off len aC z c)=xH s (λbB l=>(l=[]∨bB=sz)∧O3 s d sz l K p) (.rs k pth off len aC z c):=_root_.id rfl
theorem Sg {l:List fS} (h:l.length≤1048576) (k:Key) (n:Int):ah Pg I.ib [dA l,ey k,.int .i64 n] [] (λr fp=>∃(J:List PV) (c:Nat),(aB J∧(dv l k n).length≤c∧c≤(dv l k n).length+J.length)∧r= .rs KB [] 0 (dv l k n).length ((dv l k n).length+J.length) 34 (.full c)∧fp=[.arr 34 ((dv l k n).map bY++J)]):=by
 refine ah.intro T.ib (by simp[F.ib]) ?_
 have vz:∀l:List fS,aB (l.map bY):=λl=>bZ jR l
 have sI:qV Pg I.ba [.sl 34 (l.map bY) false] 34 (l.map bY):=qF (bytes:=48) T.ba (by omega) (vz l) (by simpa using h) (by omega)
 have hd:=atX (L:=l) h (g:=I.fP) (q:=λt=> !rG k n t) (v:=ey k) (w:= .int .i64 n) (by simp) (by simp) (λx _=>akB x k n)
 have hf:(l.filter λx=> !!rG k n x)=dv l k n:=by simp only[Bool.not_not];rfl
 rw[hf]at hd
 simp[F.ib,au,aG,dA]
 refine al.own 8 sI (by simp) (by simp[vz]) (vz l) (by simp) ?_
 simp
 refine al.Fg [8,4,5] [] [.arr 34 (l.map bY),.box (ey k),.box (.int .i64 n)] hd (by simp[getAll]) (by simp) (by simp) (by simp[ae,ab,bg,idx]) (by simp[af,ab]) (by simp[aK,aF,aT,idx]) (by simp[a0,aF]) ?_
 rintro r fp ⟨J,c,⟨hJ,h1,h2⟩,rfl,rfl⟩
 have iG:aB ((dv l k n).map bY++J):=(vz _).append hJ
 have vF:((dv l k n).map bY++J).length=(dv l k n).length+J.length:=by simp
 have hR:∃(J':List PV) (c':Nat),(aB J'∧(dv l k n).length≤c'∧c'≤(dv l k n).length+J'.length)∧(J.length=J'.length∧c=c')∧(dv l k n).map bY++J=(dv l k n).map bY++J':=⟨J,c,⟨hJ,h1,h2⟩,⟨rfl,rfl⟩,rfl⟩
 generalize hB:(dv l k n).map bY++J=B at iG vF hR⊢
 refine⟨by simp[af,ab,fR,iG.refs],?_⟩
 simp[bC,a0,aF,eO,iG.aF]
 refine aL.with [.keep [6]] [8] ?_
 simp[af,a0,iG.refs,iG.aF]
 exact hR
theorem akG {x:PV} {B:List PV} {off len:Nat} {c:jb} (ho:0<B.length) (hl:1≤len):ah Pg I.iM [.rs KB [] 0 1 1 34 .tip,.rs (KB+1) [] off len B.length 34 c] [.arr 34 [x],.arr 34 B] (λr fp=>r= .bl false∧fp=[.arr 34 [x],.arr 34 B]):=by
 intro Γ w vs hw hm lY hA
 match vs,hA with
 |
  [v1,v2],hA=>
  obtain⟨h1,h2,_⟩:=hA
  have g1:get Γ.bx KB=some (.arr 34 [x]):=by rw[lY];rfl
  have g2:get Γ.bx (KB+1)=some (.arr 34 B):=by rw[lY];rfl
  obtain⟨a1,c1,e1,k1⟩:=h1.rs g1 (by simp[a9.aC])
  obtain⟨a2,c2,e2,k2⟩:=h2.rs g2 (by simp[a9.aC])
  obtain⟨_,_,r1⟩:=hm.blk _ _ g1
  obtain⟨r2w,_,r2⟩:=hm.blk _ _ g2
  unfold jc at k1 k2
  cases i1:Γ.ι KB with
  |none=>rw[i1]at k1;exact absurd k1.1 (by omega)
  |
   some b1=>
   cases i2:Γ.ι (KB+1)with
   |none=>rw[i2]at k2;exact absurd k2.1 (by omega)
   |
    some b2=>
    rw[i1]at k1 r1;rw[i2]at k2 r2
    obtain⟨p1,p2,_⟩:=k1
    obtain⟨q1,q2,_⟩:=k2
    rcases p2 with p2|rfl
    ·omega
    rcases q2 with q2|rfl
    ·omega
    obtain⟨cc1,ce1,cs1,ayJ,u1,u2,u3,_⟩:=r1
    obtain⟨cc2,ce2,cs2,alW,w1,w2,w3,_⟩:=r2
    have fc:b1≠b2:=λe=>by
     have:=hm.inj KB (KB+1) b1 (by rw[g1];rfl) (by rw[g2];rfl) i1 (by rw[i2,e])
     omega
    rw[←hw]at u1 w1
    have xW:cc2.size≠0:=by
     have e1:cs2.length=B.length*34:=by rw[w3.length,bP r2w]
     have e2:cc2.size=cs2.length+alW.length:=by rw[←Array.length_toList,w2];simp
     omega
    have iN:=Go.Lib.run_overlaps_apart (P:=Pg) w 41 4 122 (by kernel_rfl) 34 (λw=>run_sizeOf (by kernel_rfl)) ⟨b1,cW []+0*34,none⟩ ⟨b2,cW []+off*34,none⟩ 1 c1 len c2 fc ce1 ce2 cc1.size cc2.size (by simp[World.shape?,u1]) (by simp[World.shape?,w1]) xW (by simp[World.frozen?,u1]) (by simp[World.frozen?,u1])
    rw[e1,e2]
    refine .inr ⟨.bool false,w,?_,_,_,[.arr 34 [x],.arr 34 B],Γ,rfl,⟨rfl,rfl⟩,hw,hm,lY,jA,Le.refl Γ,WF.refl w⟩
    rw[run_callFunc_extern (fn:=(Pg.funcs[I.iM]?).getD default) (by kernel_rfl) (by kernel_rfl) (by kernel_rfl) (by kernel_rfl) (e:=Extern.SlicesOverlaps.overlaps #[41,41] #[4]) (by kernel_rfl)]
    rw[iN]
    rfl
theorem Od {B:List PV} {n i N:Nat} (hB:B.length=N) (hi:i<n) (hn:n+1≤N) (x:PV):
  ∃
   B1,(List.take (i+1) B++(List.take (n-i) (List.take (n+1-i) (List.drop i B))++List.drop (i+1+(n-i)) B))=B1∧B1.length=N∧(List.take i B1++x::List.drop (i+1) B1).length=N∧
   (List.take i B1++x::List.drop (i+1) B1).take (n+1)=List.take i B++x::List.drop i (List.take n B):=by
 refine⟨_,rfl,?_,?_,?_⟩
 ·simp only[List.length_append,lJ,List.length_drop,hB];omega
 ·simp only[List.length_append,List.length_cons,lJ,List.length_drop,hB];omega
 ·have e1:List.take i (List.take (i+1) B++(List.take (n-i) (List.take (n+1-i) (List.drop i B))++List.drop (i+1+(n-i)) B))=List.take i B:=by
   rw[List.take_append_of_le_length (by rw[lJ];omega),List.take_take,Nat.min_eq_left (by omega)]
  have e2:List.drop (i+1) (List.take (i+1) B++(List.take (n-i) (List.take (n+1-i) (List.drop i B))++List.drop (i+1+(n-i)) B))=List.take (n-i) (List.drop i B)++List.drop (i+1+(n-i)) B:=by
   rw[List.drop_append_of_le_length (by rw[lJ];omega),List.drop_of_length_le (by rw[lJ];omega),List.nil_append,List.take_take,Nat.min_eq_left (by omega)]
  rw[e1,e2,List.drop_take]
  have h1:(List.take i B).length=i:=by rw[lJ];omega
  have h2:(List.take (n-i) (List.drop i B)).length=n-i:=by rw[lJ,List.length_drop];omega
  generalize List.take i B=P at*
  generalize List.take (n-i) (List.drop i B)=Q at*
  generalize List.drop (i+1+(n-i)) B=R at*
  rw[show P++x::(Q++R)=(P++x::Q)++R by simp]
  exact List.take_left' (by simp;omega)
theorem KJ {B Z:List PV} {n i:Nat} (hB:n≤B.length) (hi:i<n) (hZ:Z.length=n+1-i) (x:PV):
  (List.take (i+1) (List.take i (List.take i B++Z)++x::List.drop (i+1) (List.take i B++Z))++
   (List.take (n-i) (List.take (n-i) (List.drop i B))++List.drop (i+1+(n-i)) (List.take i (List.take i B++Z)++x::List.drop (i+1) (List.take i B++Z))))=List.take i B++x::List.drop i (List.take n B):=by
 have h1:(List.take i B).length=i:=by rw[lJ];omega
 rw[List.drop_take,List.take_take,Nat.min_self]
 have h2:(List.take (n-i) (List.drop i B)).length=n-i:=by rw[lJ,List.length_drop];omega
 generalize List.take i B=P at*
 generalize List.take (n-i) (List.drop i B)=Q at*
 have e1:List.take i (P++Z)=P:=List.take_left' h1
 have h3:(List.drop (i+1) (P++Z)).length=n-i:=by rw[List.length_drop,List.length_append];omega
 rw[e1]
 generalize List.drop (i+1) (P++Z)=R at*
 have e2:List.take (i+1) (P++x::R)=P++[x]:=by
  rw[show P++x::R=(P++[x])++R by simp]
  exact List.take_left' (by simp[h1])
 have e3:List.drop (i+1+(n-i)) (P++x::R)=[]:=List.drop_of_length_le (by simp;omega)
 rw[e2,e3]
 simp
def mP (L:List fS) (i:Nat) (t:fS):List fS:=L.take i++t::L.drop i
theorem nM {L:List fS} {i:Nat} (t:fS) (_:Unit) (hi:i≤L.length):(mP L i t).length=L.length+1:=by
 simp only[mP,List.length_append,List.length_cons,lJ,List.length_drop];omega
theorem akH {L:List fS} {J:List PV} {c i:Nat} (hl:L.length≤1048576) (hJ:aB J) (hc:L.length+1≤c∧c≤L.length+J.length) (hi:i≤L.length) (t:fS):
  ah Pg I.aI [.rs KB [] 0 L.length (L.length+J.length) 34 (.full c),.int .i64 i,.rs (KB+1) [] 0 1 1 34 .tip] [.arr 34 (L.map bY++J),.arr 34 [bY t]] (λr fp=>∃B,(aB B∧B.length=L.length+J.length∧B.take (L.length+1)=(mP L i t).map bY)∧r= .rs KB [] 0 (L.length+1) (L.length+J.length) 34 (.full c)∧fp=[.arr 34 B,.arr 34 [bY t]]):=by
 refine ah.intro T.aI (by simp[F.aI]) ?_
 have vz:∀l:List fS,aB (l.map bY):=λl=>bZ jR l
 have vF:(L.map bY++J).length=L.length+J.length:=by simp
 have Eb:∀k,k≤L.length->(L.map bY++J).take k=(L.take k).map bY:=λk hk=>by rw[List.take_append_of_le_length (by simpa using hk),List.map_take]
 have iG:aB (L.map bY++J):=(vz _).append hJ
 generalize L.map bY++J=B at*
 by_cases hie:i=L.length
 ·subst hie
  simp(disch:=omega) [F.aI,au,aG,vF]
  refine⟨⟨by omega,hc.2,by omega,by omega⟩,λBB=> ?_,λBB=>by omega⟩
  obtain⟨B2,Zu,sH,DZ,CI⟩:∃B2,List.take L.length B++bY t::List.drop (L.length+1) B=B2∧aB B2∧B2.length=L.length+J.length∧B2.take (L.length+1)=(mP L L.length t).map bY:=by
   have h0:(B.take L.length).length=L.length:=by rw[lJ,vF];omega
   refine⟨_,rfl,(iG.take _).append (aB.mk' λx hx=> ?_),?_,?_⟩
   ·rcases List.mem_cons.1 hx with rfl|hx
    ·simp
    ·exact(iG.drop _).forget x hx
   ·simp only[List.length_append,List.length_cons,List.length_drop,h0,vF];omega
   ·rw[List.take_append,tJ (by omega),h0,show L.length+1-L.length=1 by omega,Eb _ (Nat.le_refl _)]
    simp[mP]
  rw[Zu]
  refine aL.with [.keep [6]] [KB,KB+1] ?_
  simp[af,ae,a0,aK,sH.refs,sH.aF]
  exact⟨sH,DZ,CI⟩
 ·have fZ:i<L.length:=by omega
  have ZC:¬(i:Int)=L.length:=by omega
  have h1:¬(c:Int)<(L.length:Int)+1:=by omega
  have h2:c≤L.length+J.length∧L.length≤c:=by omega
  have h3:L.length+1≤L.length+J.length:=by omega
  have hov:=akG (x:=bY t) (B:=B) (off:=i+1) (len:=L.length-i) (c:= .full (c-(i+1))) (by omega) (by omega)
  rw[vF]at hov
  simp(disch:=omega) [F.aI,au,aG,vF,ZC,hi,h1,h2]
  refine⟨⟨by omega,by omega⟩,by omega,?_⟩
  refine al.gen [KB+1,KB] [] [.arr 34 [bY t],.arr 34 B] hov (by simp[getAll]) (by simp) (by simp) (by simp[ae,ab,bg,idx]) (by simp[af,ae,iG.refs]) (by simp[aK,aF,aT,idx]) (by simp[a0,aK,iG.aF]) (by simp[af,ab,ae,iG.refs]) ?_
  have hw:IntKind.i64.wrap ((i:Int)+1)=(i:Int)+1:=wrap_i64 (by omega)
  have m1:min (L.length+1-i) (L.length+J.length-i)=L.length+1-i:=by omega
  simp(disch:=omega) [bC,a0,aF,aK,(jR t).aF,vF,hw,m1,-List.length_append]
  obtain⟨B1,hB1,tS,DZ,CI⟩:=Od vF fZ (by omega) (bY t)
  rw[Eb _ (Nat.le_refl _),Eb _ hi]at CI
  have VN:aB B1:=by rw[←hB1];exact(iG.take _).append ((((iG.drop _).take _).take _).append (iG.drop _))
  have sH:aB (List.take i B1++bY t::List.drop (i+1) B1):=(VN.take _).append (aB.mk' λx hx=>by
   rcases List.mem_cons.1 hx with rfl|hx
   ·simp
   ·exact(VN.drop _).forget x hx)
  rw[hB1]
  generalize List.take i B1++bY t::List.drop (i+1) B1=B2 at*
  refine⟨⟨by omega,hi⟩,by omega,by omega,by omega,by rw[tS],by omega,⟨by rw[tS],by rw[tS];omega⟩,?_⟩
  refine aL.with [.keep [6]] [KB,KB+1] ?_
  simp[af,ae,a0,aK,sH.refs,sH.aF]
  exact⟨sH,DZ,by rw[CI];simp[mP,List.map_drop,List.map_take]⟩
theorem akI {L:List fS} {J:List PV} {i:Nat} (hl:L.length≤1048576) (hJ:aB J) (hi:i≤L.length) (t:fS):
  ah Pg I.aI [.rs KB [] 0 L.length (L.length+J.length) 34 (.full L.length),.int .i64 i,.rs (KB+1) [] 0 1 1 34 .tip] [.arr 34 (L.map bY++J),.arr 34 [bY t]] (λr fp=>r= .rs (KB+2) [] 0 (L.length+1) (L.length+1) 34 .tip∧fp=[.arr 34 (L.map bY++J),.arr 34 [bY t],.arr 34 ((mP L i t).map bY)]):=by
 refine ah.intro T.aI (by simp[F.aI]) ?_
 have vz:∀l:List fS,aB (l.map bY):=λl=>bZ jR l
 have vF:(L.map bY++J).length=L.length+J.length:=by simp
 have Eb:∀k,k≤L.length->(L.map bY++J).take k=(L.take k).map bY:=λk hk=>by rw[List.take_append_of_le_length (by simpa using hk),List.map_take]
 have iG:aB (L.map bY++J):=(vz _).append hJ
 generalize L.map bY++J=B at*
 by_cases hie:i=L.length
 ·subst hie
  simp(disch:=omega) [F.aI,au,aG,vF]
  refine⟨⟨by omega,by omega⟩,λBB=>by omega,?_⟩
  have Zu:List.take L.length B++[bY t]=(mP L L.length t).map bY:=by rw[Eb _ (Nat.le_refl _)];simp[mP]
  rw[Zu]
  refine aL.with [.keep [6]] [KB,KB+1,25] ?_
  have KY:=vz (mP L L.length t)
  generalize (mP L L.length t).map bY=B2 at*
  simp[af,ae,a0,aK,KY.refs,KY.aF,iG.refs,iG.aF]
 ·have fZ:i<L.length:=by omega
  have ZC:¬(i:Int)=L.length:=by omega
  have h1:(L.length:Int)<(L.length:Int)+1:=by omega
  have h2:(i:Int)<(L.length:Int)+1:=by omega
  have h3:(i:Int)≤(L.length:Int)+1:=by omega
  have h4:(L.length+1)*48≤140737488355328:=by omega
  have h5:L.length≤9223372036854775806:=by omega
  simp(disch:=omega) [F.aI,au,aG,vF,ZC,hi,h1,h2,h3,h4,h5]
  refine⟨by omega,by omega,⟨by omega,by omega⟩,?_⟩
  rw[KJ (by rw[vF];omega) fZ (by simp) (bY t),Eb _ (Nat.le_refl _),Eb _ hi]
  have hI:(List.take i L).map bY++bY t::List.drop i ((List.take L.length L).map bY)=(mP L i t).map bY:=by simp[mP,List.map_drop,List.map_take]
  rw[hI]
  have KY:=vz (mP L i t)
  generalize (mP L i t).map bY=B2 at*
  refine aL.with [.keep [6]] [KB,KB+1,40] ?_
  simp[af,ae,a0,aK,KY.refs,KY.aF,iG.refs,iG.aF]
theorem CA {t:fS}:∀ {l:List fS},(∀x∈l,iI t x=false)->iV t l=l.length
 |[],_=>rfl
 |
  x::r,h=>by
  simp only[iV,h x (by simp),fJ,if_false,List.length_cons]
  rw[CA λy hy=>h y (by simp[hy])]
theorem CB {t:fS}:∀ {l:List fS} {i:Nat} (hi:i<l.length),(∀x∈l.take i,iI t x=false)->iI t l[i]=true->iV t l=i
 |x::r,0,hi,_,hq=>by simp only[List.getElem_cons_zero]at hq;simp only[iV,hq,if_true]
 |
  x::r,i+1,hi,h,hq=>by
  simp only[iV,h x (by simp),fJ,if_false]
  rw[CB (i:=i) (by simpa using hi) (λy hy=>h y (by simp[hy])) (by simpa using hq)]
theorem atZ {l:List fS} (h:l.length≤1048575) (t:fS):bI Pg I.js [dA l,bY t] (dA (lT l t)):=by
 refine ah.intro T.js (by simp[F.js]) ?_
 simp[F.js,au,aG]
 refine al.Fg [] [12] [] (Sg (l:=l) (by omega) t.peer t.kind) (by simp) (by simp) (by simp) (by simp[ae,ab]) (by simp) (by simp[aK,aF]) (by simp) ?_
 rintro r fp ⟨J,c,⟨hJ,h1,h2⟩,rfl,rfl⟩
 have kC:lT l t=mP (dv l t.peer t.kind) (iV t (dv l t.peer t.kind)) t:=by simp[lT,mP]
 have hRl:(dv l t.peer t.kind).length≤1048575:=Nat.le_trans (List.length_filter_le _ _) h
 rw[kC]
 generalize dv l t.peer t.kind=R at*
 have vz:∀l:List fS,aB (l.map bY):=λl=>bZ jR l
 have iG:aB (R.map bY++J):=(vz _).append hJ
 have vF:(R.map bY++J).length=R.length+J.length:=by simp
 have Zz:=akE (L:=R) (J:=J) (c:= .full c) (by omega) hJ (g:=I.ik) (q:=iI t) (v:=bY t) (by simp) (λx _=>akC t x)
 have qZ:=uZ t R
 have hA:=λhc:R.length+1≤c=>akH (L:=R) (J:=J) (c:=c) (i:=iV t R) (by omega) hJ ⟨hc,h2⟩ qZ t
 have hB:=akI (L:=R) (J:=J) (i:=iV t R) (by omega) hJ qZ t
 generalize hBd:R.map bY++J=B at*
 refine⟨by simp[af,ab,fR,iG.refs],?_⟩
 simp[bC,a0,aF,eO,iG.aF]
 refine al.gen [12,3] [] [.arr 34 B,.box (bY t)] Zz (by simp[getAll]) (by simp) (by simp) (by simp[ae,ab,bg,idx]) (by simp[af,iG.refs]) (by simp[aK,aF,aT,idx]) (by simp[a0,iG.aF]) (by simp[af,ab,iG.refs]) ?_
 simp[bC,a0,aF,iG.aF]
 rcases tM (iI t) R with⟨he,ff⟩|⟨i,hi,he,OW,hq⟩
 ·rw[CA ff]at*
  refine⟨λ_=>⟨vF.symm,?_⟩,λh=>by omega⟩
  by_cases hcc:R.length+1≤c
  ·refine al.Fg [12,23] [] [.arr 34 B,.arr 34 [bY t]] (hA hcc) (by simp[getAll]) (by simp) (by simp) (by simp[ae,ab,bg,idx]) (by simp[af,ae,iG.refs]) (by simp[aK,aF,aT,idx]) (by simp[a0,aK,iG.aF]) ?_
   rintro r fp ⟨B2,⟨sH,DZ,CI⟩,rfl,rfl⟩
   refine⟨by simp[af,ab,ae,fR,sH.refs],?_⟩
   simp[bC,a0,aF,aK,eO,sH.aF]
   refine aL.plain [.keep [4],.fz 12] ?_
   have hle:R.length+1≤B2.length:=by omega
   simp[sH.refs]
   rw[if_pos ⟨DZ.symm,hle⟩,CI]
   simp[dA,vz]
  ·obtain rfl:c=R.length:=by omega
   refine al.gen [12,23] [24] [.arr 34 B,.arr 34 [bY t]] hB (by simp[getAll]) (by simp) (by simp) (by simp[ae,ab,bg,idx]) (by simp[af,ae,iG.refs]) (by simp[aK,aF,aT,idx]) (by simp[a0,aK,iG.aF]) (by simp[af,ab,ae,iG.refs,fR]) ?_
   simp[bC,a0,aF,aK,eO,iG.aF]
   refine aL.plain [.keep [4],.fz 24] ?_
   simp
   rw[if_pos (by rw[nM _ () qZ];omega),tJ (by rw[List.length_map,nM _ () qZ];omega)]
   simp[dA,vz]
 ·rw[CB hi OW hq]at*
  refine⟨λh=>by omega,λ_=> ?_⟩
  rw[he]
  by_cases hcc:R.length+1≤c
  ·refine al.Fg [12,23] [] [.arr 34 B,.arr 34 [bY t]] (hA hcc) (by simp[getAll]) (by simp) (by simp) (by simp[ae,ab,bg,idx]) (by simp[af,ae,iG.refs]) (by simp[aK,aF,aT,idx]) (by simp[a0,aK,iG.aF]) ?_
   rintro r fp ⟨B2,⟨sH,DZ,CI⟩,rfl,rfl⟩
   refine⟨by simp[af,ab,ae,fR,sH.refs],?_⟩
   simp[bC,a0,aF,aK,eO,sH.aF]
   refine aL.plain [.keep [4],.fz 12] ?_
   have hle:R.length+1≤B2.length:=by omega
   simp[sH.refs]
   rw[if_pos ⟨DZ.symm,hle⟩,CI]
   simp[dA,vz]
  ·obtain rfl:c=R.length:=by omega
   refine al.gen [12,23] [24] [.arr 34 B,.arr 34 [bY t]] hB (by simp[getAll]) (by simp) (by simp) (by simp[ae,ab,bg,idx]) (by simp[af,ae,iG.refs]) (by simp[aK,aF,aT,idx]) (by simp[a0,aK,iG.aF]) (by simp[af,ab,ae,iG.refs,fR]) ?_
   simp[bC,a0,aF,aK,eO,iG.aF]
   refine aL.plain [.keep [4],.fz 24] ?_
   simp
   rw[if_pos (by rw[nM _ () qZ];omega),tJ (by rw[List.length_map,nM _ () qZ];omega)]
   simp[dA,vz]
end Go.Ab
end S7s
noncomputable section S8s
namespace Go.Ab
open Go.Ab
def eZ (e:bU) (p q:PV):PV:= .st 148 [eP e.rules,e.oq.p,e.pS.p,.int .i64 e.port,e.random.p,.int .i64 e.now,p,eE e.bD,q,dA e.timers,e.jr.p,.int .i64 e.kU,gU e.cN,fy e.buckets,.int .i64 e.bad]
@[simp] theorem Vm (e:bU) (p q:PV):(eZ e p q).width=148:=_root_.id rfl
@[simp] theorem abX (e:bU) (p q:PV):(eZ e p q).isAgg=true:=rfl
@[simp] theorem YA (e:bU) (p q:PV):(eZ e p q).bj=true:=rfl
@[simp] theorem YB (e:bU) (p q:PV):(eZ e p q).flat=true:=rfl
@[simp↓] theorem abY (g:Bool) (e:bU) (p q:PV) (K:PV->Prop):gN g (eZ e p q) K=K (eZ e p q):=_root_.id rfl
@[simp↓] theorem Si (e:bU) (p q:PV) (r:List Step):aQ (eZ e p q) (.f 6 108::r)=aQ (p) r:=by simp[eZ,av]
@[simp↓] theorem Sj (e:bU) (p q:PV) (hp:p.width=1) (r:List Step):aQ (eZ e p q) (.f 8 110::r)=aQ (q) r:=by simp[eZ,av,hp]
def AJ (e:bU) (p q c:PV):PV:= .st 148 [eP e.rules,e.oq.p,e.pS.p,.int .i64 e.port,e.random.p,.int .i64 e.now,p,eE e.bD,c,dA e.timers,e.jr.p,.int .i64 e.kU,gU e.cN,fy e.buckets,.int .i64 e.bad]
@[simp↓] theorem Sk (e:bU) (p q:PV) (hp:p.width=1) (r:List Step) (x:PV):dD (eZ e p q) (.f 8 110::r) x=(dD (q) r x).bind λc=>some (AJ e p q c):=by simp[eZ,AJ,av,hp]
@[simp↓] theorem YC (e:bU) (p q v:PV):AJ e p q v=eZ e p v:=_root_.id rfl
def jN (e:bU) (p q c:PV):PV:= .st 148 [eP e.rules,e.oq.p,e.pS.p,.int .i64 e.port,e.random.p,.int .i64 e.now,p,eE e.bD,q,c,e.jr.p,.int .i64 e.kU,gU e.cN,fy e.buckets,.int .i64 e.bad]
@[simp↓] theorem Sl (e:bU) (p q:PV) (hp:p.width=1) (hq:q.width=1) (r:List Step) (x:PV):dD (eZ e p q) (.f 9 111::r) x=(dD (dA e.timers) r x).bind λc=>some (jN e p q c):=by simp[eZ,jN,av,hp,hq]
@[simp↓] theorem YD (e:bU) (p q:PV) (v:List fS):jN e p q (dA v)=eZ {e with timers:=v} p q:=_root_.id rfl
@[simp↓] theorem Ps (e:bU) (p q:PV) (hp:p.width=1) (hq:q.width=1) (r:List Step):aQ (eZ e p q) (.f 12 145::r)=aQ (gU e.cN) r:=by simp[eZ,av,hp,hq]
def wW (e:bU) (p q c:PV):PV:= .st 148 [eP e.rules,e.oq.p,e.pS.p,.int .i64 e.port,e.random.p,.int .i64 e.now,p,eE e.bD,q,dA e.timers,e.jr.p,.int .i64 e.kU,c,fy e.buckets,.int .i64 e.bad]
@[simp↓] theorem Pt (e:bU) (p q:PV) (hp:p.width=1) (hq:q.width=1) (r:List Step) (x:PV):dD (eZ e p q) (.f 12 145::r) x=(dD (gU e.cN) r x).bind λc=>some (wW e p q c):=by simp[eZ,wW,av,hp,hq]
@[simp↓] theorem Vn (e:bU) (p q:PV) (v:List Int):wW e p q (gU v)=eZ {e with cN:=v} p q:=_root_.id rfl
@[simp↓] theorem Pu (e:bU) (p q:PV) (hp:p.width=1) (hq:q.width=1) (r:List Step):aQ (eZ e p q) (.f 13 146::r)=aQ (fy e.buckets) r:=by simp[eZ,av,hp,hq]
def wX (e:bU) (p q c:PV):PV:= .st 148 [eP e.rules,e.oq.p,e.pS.p,.int .i64 e.port,e.random.p,.int .i64 e.now,p,eE e.bD,q,dA e.timers,e.jr.p,.int .i64 e.kU,gU e.cN,c,.int .i64 e.bad]
@[simp↓] theorem Pv (e:bU) (p q:PV) (hp:p.width=1) (hq:q.width=1) (r:List Step) (x:PV):dD (eZ e p q) (.f 13 146::r) x=(dD (fy e.buckets) r x).bind λc=>some (wX e p q c):=by simp[eZ,wX,av,hp,hq]
@[simp↓] theorem Vo (e:bU) (p q:PV) (v:List IG):wX e p q (fy v)=eZ {e with buckets:=v} p q:=_root_.id rfl
@[simp] theorem DR (f:Nat->Bool) (e:bU) (p q:PV):ab f (eZ e p q)=(ab f p&&ab f q):=by
 have h1:ab f (eP e.rules)=true:=(Ap _).refs f
 have h2:ab f (eE e.bD)=true:=(xp _).refs f
 have h4:ab f (dA e.timers)=true:=(tA _).refs f
 have h5:ab f (gU e.cN)=true:=(Ao _).refs f
 have h6:ab f (fy e.buckets)=true:=(xq _).refs f
 have g1:ab f e.oq.p=true:=(FV.pure e.oq).refs f
 have g2:ab f e.pS.p=true:=(FV.pure e.pS).refs f
 have g3:ab f e.random.p=true:=(FV.pure e.random).refs f
 have g4:ab f e.jr.p=true:=(FV.pure e.jr).refs f
 simp[eZ,ab,ae]
@[simp] theorem abZ (ρ:Nat->Nat) (e:bU) (p q:PV):aF ρ (eZ e p q)=eZ e (aF ρ p) (aF ρ q):=by
 simp[eZ,aF,aK]
@[simp] theorem akJ (e:bU) (p q:PV):wk (eZ e p q)=eZ e (wk p) (wk q):=by simp[eZ]
@[simp] theorem ab0 (k sz:Nat) (l:List PV) (e:bU) (p q:PV):gh k sz l (eZ e p q)=eZ e (gh k sz l p) (gh k sz l q):=by
 simp[eZ,gh,gW]
theorem HE (e:bU) (p c:PV):uY e p c=eZ e p c:=rfl
theorem kj {d:bU} (h:RJ d):ah Pg I.tN [gO d] [] (λr fp=>r=eZ d (.rs KB [] 0 d.aj.length d.aj.length 464 .tip) (.rs (KB+1) [] 0 d.aM.length d.aM.length 34 .tip)∧fp=[.arr 464 (d.aj.map aP),.arr 34 (d.aM.map cI)]):=by
 refine ah.intro T.kj (by simp[F.kj]) ?_
 have A8:qV Pg I.cu [dX d.aM] 34 (d.aM.map cI):=qF (bytes:=40) T.cu (by omega) (bZ iz d.aM) (by simpa using h.aM) (by omega)
 simp[F.kj,au,aG,gO]
 refine al.own 6 (Nh h.aj) (by simp) (by simp) (by simp) (by simp) ?_
 simp
 refine jx.kl d.aj.length (λ_=>True) [1,2,10,11] (λi=>[(11,.int .i64 i)]) (λi=>[]) [.keep [1,2,10,11]] ?_
 simp
 refine⟨λi hi K hK=> ?_,λK=> ?_⟩
 ·have hx:d.aj[i]? =some d.aj[i]:=gJ hi
  have hs:=h.bk _ (List.getElem_mem hi)
  have hl:=h.aj
  simp[↓aA,hi]
  refine a8.ret (iQ hs.1 hs.2) (by simp) (by simp) (by simp) ?_
  simp(disch:=omega) [hi]
  refine⟨[.keep [1,2,10,11]],?_⟩
  simp
  exact hK _ (by simp;exact qG aP _ i hi)
 ·simp[↓aA,↓aA]
  refine nj.run [32] rfl ?_
  simp
  refine a8.ret (Ki h.bD) (by simp) (by simp) (by simp) ?_
  simp
  refine al.own 32 A8 (by simp) (by simp) (bZ iz d.aM) (by simp) ?_
  simp
  refine a8.ret (Kj h.timers) (by simp) (by simp) (by simp) ?_
  simp[HE]
  refine a8.ret (RK h.cN) (by simp) (by simp) (by simp) ?_
  simp
  refine a8.ret (Hi h.buckets) (by simp) (by simp) (by simp) ?_
  simp
  refine aL.with [.keep [2],.dr 1] [6,32] ?_
  simp
def Oe (e:bU) (p q:PV):PV:= .st 148 [eP e.rules,e.oq.p,e.pS.p,.int .i64 e.port,e.random.p,.int .i64 e.now,p,eE e.bD,q,dA e.timers,e.jr.p,.int .i64 e.kU,.sl 0 [] true,.sl 0 [] true,.int .i64 0]
def pe (e:dC):dC:= {e with bk:=[]}
def YE (e:dC):PV:=jS e (.sl 0 [] false)
@[simp] theorem ab1 (e:dC):(YE e).width=464:=rfl
theorem Of:∀l:List dC,Nz (l.map YE) ((l.map pe).map aP)
 |[]=> .nil
 |e::l=> .st 464 (.same _<| .same _<| .same _<| .same _<| .same _<| .same _<| .same _<| .same _<| .same _<| .same _<| .same _<| .same _<| .same _<| .same _<| .sl 0 1 false false (by simp) .nil) (Of l)
theorem FR (e:dC):Pure (YE e):=Pure.of (by rw[YE,wD];simp[ab])
theorem Og {α:Type} (f g:α->PV) (l:List α):∃D:Nat->List PV,D 0=l.map f∧D l.length=l.map g∧(∀i (h:i<l.length),(D i)[i]? =some (f l[i]))∧(∀i (h:i<l.length),(D i).set i (g l[i])=D (i+1))∧(∀i,(D i).length=l.length)∧((∀x,Pure (f x))->(∀x,Pure (g x))->∀i,aB (D i)):=by
 refine⟨λi=>(l.take i).map g++(l.drop i).map f,by simp,by simp,λi h=> ?_,λi h=> ?_,λi=>by simp;omega,λhf hg i=>(aB.map hg _).append (aB.map hf _)⟩
 ·have h1:((l.take i).map g).length=i:=by simp;omega
  show(((l.take i).map g)++(l.drop i).map f)[i]? =_
  rw[List.getElem?_append_right (by omega),h1,Nat.sub_self,List.getElem?_map,List.getElem?_drop,Nat.add_zero,gJ h];rfl
 ·have h1:((l.take i).map g).length=i:=by simp;omega
  show(((l.take i).map g)++(l.drop i).map f).set i _=(l.take (i+1)).map g++(l.drop (i+1)).map f
  rw[List.set_append_right _ _ (by omega),h1,Nat.sub_self,List.drop_eq_getElem_cons h,List.map_cons,List.set_cons_zero,List.take_succ_eq_append_getElem h,List.map_append,List.append_assoc]
  rfl
theorem FT {d:bU} {ps:List dC} {S:List PV} {n:Nat} (hl:ps.length≤1048576) (hS:aB S) (hSl:S.length=n):
  ah Pg I.ee [eZ d (.rs KB [] 0 ps.length ps.length 464 .tip) (.rs (KB+1) [] 0 n n 34 .tip)] [.arr 464 (ps.map aP),.arr 34 S] (λr fp=>r=Oe d (.rs KB [] 0 ps.length ps.length 464 .tip) (.rs (KB+1) [] 0 n n 34 .tip)∧fp=[.arr 464 (ps.map YE),.arr 34 S]):=by
 refine ah.intro T.ee (by simp[F.ee]) ?_
 obtain⟨D,d0,dn,dg,ds,dl,dp⟩:=Og aP YE ps
 have dp:=dp jF FR
 subst hSl
 simp[F.ee,au,aG]
 rw[←d0]
 refine jx.kl ps.length (λ_=>True) [1,2,6,7] (λi=>[(7,.int .i64 i)]) (λi=>[(KB,.arr 464 (D i))]) [.keep [1,2,6,7]] ?_
 simp
 refine⟨λi hi K hK=> ?_,λK=> ?_⟩
 ·have hx:=dg i hi
  have hsd:=ds i hi
  have hld:=dl i
  have wi:IntKind.i64.wrap ((i:Int)+1)=(i:Int)+1:=wrap_i64 (by omega)
  generalize ps[i]=e at*
  generalize D i=Di at*
  generalize D (i+1)=Di1 at*
  have avt:Di.set i (jS e (.sl 0 [] false))=Di1:=hsd
  simp[↓aA,hx,hi,hld,wi,avt,-getElem?_pos]
  refine⟨[.keep [1,2,6,7]],?_⟩
  simp
  exact hK _ (by simp)
 ·simp[↓aA,↓aA,eZ]
  rw[dn]
  have yc:aB (ps.map YE):=aB.map FR ps
  refine aL.with [] [KB,KB+1] ?_
  simp[af,ab,ae,a0,aF,aK,hS.refs,hS.aF,yc.refs,yc.aF,Oe]
theorem Sm {d:bU} {ps:List dC} {S:List PV} {n:Nat} (hl:ps.length≤1048576) (hS:aB S) (hSl:S.length=n):
  ah Pg I.ee [eZ d (.rs KB [] 0 ps.length ps.length 464 .tip) (.rs (KB+1) [] 0 n n 34 .tip)] [.arr 464 (ps.map aP),.arr 34 S] (λr fp=>r=eZ {d with cN:=[],buckets:=[],bad:=0} (.rs KB [] 0 ps.length ps.length 464 .tip) (.rs (KB+1) [] 0 n n 34 .tip)∧fp=[.arr 464 ((ps.map pe).map aP),.arr 34 S]):=by
 refine(FT hl hS hSl).nz ?_
 rintro r fp ⟨rfl,rfl⟩
 exact⟨_,_,.st 148 (.same _<| .same _<| .same _<| .same _<| .same _<| .same _<| .same _<| .same _<| .same _<| .same _<| .same _<| .same _<| .sl 0 1 true false (by simp)<| .sl 0 19 true false (by simp)<| .same _ .nil) .nil,.cons (.arr 464 (Of ps)) (.cons (.same _) .nil),rfl,rfl⟩
end Go.Ab
end S8s

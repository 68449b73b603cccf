/- Deleting and inserting in slices; setting a timer; copies of a daemon. No condition. -/
import Derived.Test.YtdfkcobijmbidaaGreatS1
import Derived.Test.YtdfkcobijmbidaaGreatA7
import Derived.Lib.Overlaps
import Derived.Test.YtdfkcobijmbidaaGreatA5
import Derived.Test.YtdfkcobijmbidaaGreatB2
set_option maxRecDepth 10000
set_option maxHeartbeats 1000000
set_option linter.all false
noncomputable section S5s
namespace Go.Ab
open Go.Ab
def BB {α:Type} (q:α->Bool) (L:List α):Int:=match L.findIdx? q with|some i=>(i:Int)|none=> -1
theorem xR {α:Type} {q:α->Bool} {L:List α} (h:∀x∈L,q x=false):BB q L= -1:=by
 have:L.findIdx? q=none:=List.findIdx?_eq_none_iff.2 h
 rw[BB,this]
theorem xS {α:Type} {q:α->Bool} {L:List α} {i:Nat} (hi:i<L.length) (h:∀x∈L.take i,q x=false) (hq:q L[i]=true):BB q L=i:=by
 have:L.findIdx? q=some i:=by
  rw[List.findIdx?_eq_some_iff_getElem]
  refine⟨hi,hq,λj hj=> ?_⟩
  have:=h L[j] (by rw[List.mem_take_iff_getElem];exact⟨j,by omega,rfl⟩)
  simpa using this
 rw[BB,this]
theorem uE {α:Type} (q:α->Bool) (L:List α):(BB q L= -1∧∀x∈L,q x=false)∨∃i,∃h:i<L.length,BB q L=i∧(∀x∈L.take i,q x=false)∧q L[i]=true:=by
 cases h:L.findIdx? q with
 |none=>exact .inl ⟨by rw[BB,h],List.findIdx?_eq_none_iff.1 h⟩
 |
  some i=>
  obtain⟨hi,hq,hn⟩:=List.findIdx?_eq_some_iff_getElem.1 h
  refine .inr ⟨i,hi,by rw[BB,h],λx hx=> ?_,hq⟩
  rw[List.mem_take_iff_getElem]at hx
  obtain⟨j,hj,rfl⟩:=hx
  simpa using hn j (by omega)
theorem ame {L:List fX} {J:List PV} {c:jA} (hl:L.length≤1048576) (hJ:aB J) {g:FuncId} {q:fX->Bool} {v:PV} {w:PV} (hv:Pure v) (hw:Pure w) (hq:∀x∈L,(af Pg g [bU x,.pt KB [] 0,.pt (KB+1) [] 0] [bh.box v,bh.box w] (λr fp=>r= .bl (q x)∧fp=[bh.box v,bh.box w]))):
  af Pg I.aL [.rs KB [] 0 L.length (L.length+J.length) 34 c,.fn (.func g) [] [.pt (KB+1) [] 0,.pt (KB+2) [] 0]] [.arr 34 (L.map bU++J),.box v,.box w] (λr fp=>r= .int .i64 (BB q L)∧fp=[.arr 34 (L.map bU++J),.box v,.box w]):=by
 refine af.intro T.aL (by simp[F.aL]) ?_
 have rU:aB (L.map bU++J):=(bR kl L).append hJ
 have hwl:L.length=(L.map bU).length:=by simp
 have hx:∀i,(h:i<L.length)->(L.map bU++J)[i]? =some (bU L[i]):=λi h=>by rw[List.getElem?_append_left (by simpa using h)];simp[h]
 have hlen:(L.map bU++J).length=L.length+J.length:=by simp
 generalize L.map bU++J=B at*
 simp[F.aL,an,aG,hlen]
 refine jh.jY L.length (λi=>∀x∈L.take i,q x=false) [0,1,4,6,7,8] (λi=>[(8,.int .i64 i)]) (λ_=>[]) [.keep [0,1,4,6,7,8]] ?_
 simp only[List.take_zero]
 simp
 refine⟨λi hi hI K hK=> ?_,λhI K=> ?_⟩
 ·have hc:=hq L[i] (List.getElem_mem hi)
  have hx:=hx i hi
  have wi:IntKind.i64.wrap ((i:Int)+1)=(i:Int)+1:=wrap_i64 (by omega)
  have hle:i<L.length+J.length:=by omega
  generalize WN:L[i]=x at*
  simp[↓av,hx,hi,hlen,-getElem?_pos]
  refine al.gen [KB+1,KB+2] [] [bh.box v,bh.box w] hc (by simp[getAll]) (by simp) (by simp) (by simp[ae,ab,bj,idx]) (by simp[ah,hv.refs,hw.refs]) (by simp[aO,aI,aV,idx]) (by simp[aZ,hv.aI,hw.aI]) (by simp[ah,ab,hv.refs,hw.refs]) ?_
  simp[bI,aZ,aI,hv.aI,hw.aI]
  by_cases hb:q x=true
  ·simp[hb]
   refine aM.with [] [KB,KB+1,KB+2] ?_
   simp[ah,aZ,rU.refs,rU.aI,hv.refs,hw.refs,hv.aI,hw.aI]
   exact(xS hi hI (by rw[WN];exact hb)).symm
  ·have hb:q x=false:=by simpa using hb
   simp[hb,wi]
   refine⟨[.keep [0,1,4,6,7,8]],?_⟩
   simp
   refine hK _ (by simp) ?_
   rw[List.take_succ_eq_append_getElem hi,WN]
   intro y hy
   rcases List.mem_append.1 hy with h|h
   ·exact hI y h
   ·simp at h;subst h;exact hb
 ·simp[↓av]
  refine aM.with [] [KB,KB+1,KB+2] ?_
  simp[ah,aZ,rU.refs,rU.aI,hv.refs,hw.refs,hv.aI,hw.aI]
  exact(xR hI).symm
theorem amf {L:List fX} {J:List PV} {c:jA} (hl:L.length≤1048576) (hJ:aB J) {g:FuncId} {q:fX->Bool} {v:PV} (hv:Pure v) (hq:∀x∈L,(af Pg g [bU x,.pt KB [] 0] [bh.box v] (λr fp=>r= .bl (q x)∧fp=[bh.box v]))):
  af Pg I.aL [.rs KB [] 0 L.length (L.length+J.length) 34 c,.fn (.func g) [] [.pt (KB+1) [] 0]] [.arr 34 (L.map bU++J),.box v] (λr fp=>r= .int .i64 (BB q L)∧fp=[.arr 34 (L.map bU++J),.box v]):=by
 refine af.intro T.aL (by simp[F.aL]) ?_
 have rU:aB (L.map bU++J):=(bR kl L).append hJ
 have hwl:L.length=(L.map bU).length:=by simp
 have hx:∀i,(h:i<L.length)->(L.map bU++J)[i]? =some (bU L[i]):=λi h=>by rw[List.getElem?_append_left (by simpa using h)];simp[h]
 have hlen:(L.map bU++J).length=L.length+J.length:=by simp
 generalize L.map bU++J=B at*
 simp[F.aL,an,aG,hlen]
 refine jh.jY L.length (λi=>∀x∈L.take i,q x=false) [0,1,4,6,7,8] (λi=>[(8,.int .i64 i)]) (λ_=>[]) [.keep [0,1,4,6,7,8]] ?_
 simp only[List.take_zero]
 simp
 refine⟨λi hi hI K hK=> ?_,λhI K=> ?_⟩
 ·have hc:=hq L[i] (List.getElem_mem hi)
  have hx:=hx i hi
  have wi:IntKind.i64.wrap ((i:Int)+1)=(i:Int)+1:=wrap_i64 (by omega)
  have hle:i<L.length+J.length:=by omega
  generalize WN:L[i]=x at*
  simp[↓av,hx,hi,hlen,-getElem?_pos]
  refine al.gen [KB+1] [] [bh.box v] hc (by simp[getAll]) (by simp) (by simp) (by simp[ae,ab,bj,idx]) (by simp[ah,hv.refs]) (by simp[aO,aI,aV,idx]) (by simp[aZ,hv.aI]) (by simp[ah,ab,hv.refs]) ?_
  simp[bI,aZ,aI,hv.aI]
  by_cases hb:q x=true
  ·simp[hb]
   refine aM.with [] [KB,KB+1] ?_
   simp[ah,aZ,rU.refs,rU.aI,hv.refs,hv.aI]
   exact(xS hi hI (by rw[WN];exact hb)).symm
  ·have hb:q x=false:=by simpa using hb
   simp[hb,wi]
   refine⟨[.keep [0,1,4,6,7,8]],?_⟩
   simp
   refine hK _ (by simp) ?_
   rw[List.take_succ_eq_append_getElem hi,WN]
   intro y hy
   rcases List.mem_append.1 hy with h|h
   ·exact hI y h
   ·simp at h;subst h;exact hb
 ·simp[↓av]
  refine aM.with [] [KB,KB+1] ?_
  simp[ah,aZ,rU.refs,rU.aI,hv.refs,hv.aI]
  exact(xR hI).symm
theorem amg {L:List iK} {J:List PV} {c:jA} (hl:L.length≤1048576) (hJ:aB J) {g:FuncId} {q:iK->Bool} (hq:∀x∈L,(af Pg g [cy x] [] (λr fp=>r= .bl (q x)∧fp=[]))):
  af Pg I.bC [.rs KB [] 0 L.length (L.length+J.length) 34 c,.fn (.func g) [] []] [.arr 34 (L.map cy++J)] (λr fp=>r= .int .i64 (BB q L)∧fp=[.arr 34 (L.map cy++J)]):=by
 refine af.intro T.bC (by simp[F.bC]) ?_
 have rU:aB (L.map cy++J):=(bR iT L).append hJ
 have hwl:L.length=(L.map cy).length:=by simp
 have hx:∀i,(h:i<L.length)->(L.map cy++J)[i]? =some (cy L[i]):=λi h=>by rw[List.getElem?_append_left (by simpa using h)];simp[h]
 have hlen:(L.map cy++J).length=L.length+J.length:=by simp
 generalize L.map cy++J=B at*
 simp[F.bC,an,aG,hlen]
 refine jh.jY L.length (λi=>∀x∈L.take i,q x=false) [0,1,4,6,7,8] (λi=>[(8,.int .i64 i)]) (λ_=>[]) [.keep [0,1,4,6,7,8]] ?_
 simp only[List.take_zero]
 simp
 refine⟨λi hi hI K hK=> ?_,λhI K=> ?_⟩
 ·have hc:=hq L[i] (List.getElem_mem hi)
  have hx:=hx i hi
  have wi:IntKind.i64.wrap ((i:Int)+1)=(i:Int)+1:=wrap_i64 (by omega)
  have hle:i<L.length+J.length:=by omega
  generalize WN:L[i]=x at*
  simp[↓av,hx,hi,hlen,-getElem?_pos]
  refine al.gen [] [] [] hc (by simp) (by simp) (by simp) (by simp[ae]) (by simp) (by simp[aO]) (by simp) (by simp[ab]) ?_
  simp[bI,aI]
  by_cases hb:q x=true
  ·simp[hb]
   refine aM.with [] [KB] ?_
   simp[ah,aZ,rU.refs,rU.aI]
   exact(xS hi hI (by rw[WN];exact hb)).symm
  ·have hb:q x=false:=by simpa using hb
   simp[hb,wi]
   refine⟨[.keep [0,1,4,6,7,8]],?_⟩
   simp
   refine hK _ (by simp) ?_
   rw[List.take_succ_eq_append_getElem hi,WN]
   intro y hy
   rcases List.mem_append.1 hy with h|h
   ·exact hI y h
   ·simp at h;subst h;exact hb
 ·simp[↓av]
  refine aM.with [] [KB] ?_
  simp[ah,aZ,rU.refs,rU.aI]
  exact(xR hI).symm
end Go.Ab
end S5s
noncomputable section S6s
namespace Go.Ab
open Go.Ab
@[simp] theorem azx (f:Fn) (a b:List PV):wk (.fn f a b)= .fn f a b:=by simp only[wk]
theorem pg (sz:Nat) (j:Nat):aB (List.replicate j (IX sz)):=aB.mk' λp hp=>by
 rw[List.eq_of_mem_replicate hp]
 exact aB.st (aB.mk' λp hp=>by rw[List.eq_of_mem_replicate hp];simp) sz
def zL {α:Type} (p:α->Bool) (L:List α) (j:Nat):List α:=(L.take j).filter p++L.drop ((L.take j).filter p).length
theorem zO {α:Type} (p:α->Bool) (L:List α) (j:Nat):((L.take j).filter p).length≤j∧((L.take j).filter p).length≤L.length:=by
 have:=List.length_filter_le p (L.take j)
 rw[lJ]at this
 omega
theorem Iv {α:Type} (p:α->Bool) (L:List α) (j:Nat):(zL p L j).length=L.length:=by
 have:=zO p L j
 simp only[zL,List.length_append,List.length_drop];omega
theorem Dg {α:Type} {p:α->Bool} {L:List α} {i:Nat} (hi:i<L.length) (h:∀x∈L.take i,p x=true) (hq:p L[i]=false):((L.take (i+1)).filter p).length=i∧zL p L (i+1)=L:=by
 have e:(L.take (i+1)).filter p=L.take i:=by
  rw[kO p hi,hq]
  simp only[fJ,if_false,List.append_nil]
  exact List.filter_eq_self.2 h
 have hl:(L.take i).length=i:=by rw[lJ];omega
 refine⟨by rw[e,hl],?_⟩
 rw[zL,e,hl,List.take_append_drop]
theorem Tl {α:Type} (p:α->Bool) {L:List α} {j:Nat} (hj:j<L.length):(zL p L j)[j]? =some L[j]:=by
 have:=zO p L j
 rw[zL,List.getElem?_append_right this.1,List.getElem?_drop,show((L.take j).filter p).length+(j-((L.take j).filter p).length)=j by omega,gJ hj]
theorem O2 {α:Type} {p:α->Bool} {L:List α} {j:Nat} (hj:j<L.length) (h:p L[j]=false):(L.take (j+1)).filter p=(L.take j).filter p∧zL p L (j+1)=zL p L j:=by
 have e:(L.take (j+1)).filter p=(L.take j).filter p:=by rw[kO p hj,h];simp
 exact⟨e,by rw[zL,zL,e]⟩
theorem JO {α:Type} {p:α->Bool} {L:List α} {j:Nat} (hj:j<L.length) (h:p L[j]=true):((L.take (j+1)).filter p).length=((L.take j).filter p).length+1∧(zL p L j).set ((L.take j).filter p).length L[j]=zL p L (j+1):=by
 have e:(L.take (j+1)).filter p=(L.take j).filter p++[L[j]]:=by rw[kO p hj,h];simp
 have hc:=zO p L j
 refine⟨by rw[e];simp,?_⟩
 rw[zL,zL,e,List.set_append_right _ _ (Nat.le_refl _),Nat.sub_self,List.drop_eq_getElem_cons (by omega),List.set_cons_zero]
 simp
theorem Tm {α:Type} (p:α->Bool) (L:List α):(L.take L.length).filter p=L.filter p∧(zL p L L.length).take (L.filter p).length=L.filter p:=by
 rw[List.take_length]
 refine⟨rfl,?_⟩
 rw[zL,List.take_length,List.take_left]
theorem O3 {α:Type} (p:α->Bool) (e:α->PV) (he:∀x,Pure (e x)) {n:Nat} (hw:∀x,(e x).width=n) {L:List α} {i:Nat} (hi:i<L.length) (h:∀x∈L.take i,p x=true) (hq:p L[i]=false):
  ∃
   (D:Nat->List PV) (cn:Nat->Nat),(D (i+1)=L.map e∧cn (i+1)=i)∧(∀j (h:j<L.length),(D j)[j]? =some (e L[j]))∧(∀j (h:j<L.length),p L[j]=false->D (j+1)=D j∧cn (j+1)=cn j)∧
   (∀j (h:j<L.length),p L[j]=true->(D j).set (cn j) (e L[j])=D (j+1)∧cn (j+1)=cn j+1)∧(∀j,(D j).length=L.length)∧(∀j,cn j≤j∧cn j≤L.length)∧
   (cn L.length=(L.filter p).length∧(D L.length).take (L.filter p).length=(L.filter p).map e)∧(∀j,∀x∈D j,x.width=n)∧(∀j,aB (D j)):=by
 refine⟨λj=>(zL p L j).map e,λj=>((L.take j).filter p).length,⟨by show(zL p L (i+1)).map e=_;rw[(Dg hi h hq).2],(Dg hi h hq).1⟩,λj h=> ?_,λj h hp=> ?_,λj h hp=> ?_,λj=> ?_,λj=>zO p L j,?_,λj x hx=> ?_,λj=>aB.map he _⟩
 ·show((zL p L j).map e)[j]? =_
  rw[List.getElem?_map,Tl p h];rfl
 ·exact⟨by show(zL p L (j+1)).map e=_;rw[(O2 h hp).2],by show((L.take (j+1)).filter p).length=_;rw[(O2 h hp).1]⟩
 ·refine⟨?_,(JO h hp).1⟩
  show((zL p L j).map e).set _ _=(zL p L (j+1)).map e
  rw[←(JO h hp).2,List.map_set]
 ·show((zL p L j).map e).length=_
  rw[List.length_map,Iv]
 ·have:=Tm p L
  refine⟨by show((L.take L.length).filter p).length=_;rw[this.1],?_⟩
  show((zL p L L.length).map e).take _=_
  rw[←List.map_take,this.2]
 ·obtain⟨y,_,rfl⟩:=List.mem_map.1 hx
  exact hw y
def EE:PV:= .st 34 [.int .u32 0,.ar 1 32 (zr 32 (.int .u8 0)),.bl false]
theorem avB {L:List fX} (hl:L.length≤1048576) {g:FuncId} {q:fX->Bool} {v:PV} {w:PV} (hv:Pure v) (hw:Pure w) (hq:∀x∈L,(af Pg g [bU x,.pt KB [] 0,.pt (KB+1) [] 0] [bh.box v,bh.box w] (λr fp=>r= .bl (q x)∧fp=[bh.box v,bh.box w]))):
  af Pg I.bq [.rs KB [] 0 L.length L.length 34 .tip,.fn (.func g) [] [.pt (KB+1) [] 0,.pt (KB+2) [] 0]] [.arr 34 (L.map bU),.box v,.box w] (λr fp=>∃(J:List PV) (c:Nat),(aB J∧(L.filter λx=> !q x).length≤c∧c≤(L.filter λx=> !q x).length+J.length)∧r= .rs KB [] 0 (L.filter λx=> !q x).length ((L.filter λx=> !q x).length+J.length) 34 (.full c)∧fp=[.arr 34 ((L.filter λx=> !q x).map bU++J),.box v,.box w]):=by
 obtain⟨p,L3⟩:∃p:fX->Bool,∀x,p x= !q x:=⟨_,λ_=>rfl⟩
 rw[show(λx=> !q x)=p from funext λx=>(L3 x).symm]
 refine af.intro T.bq (by simp[F.bq]) ?_
 have wK:∀l:List fX,aB (l.map bU):=λl=>bR kl l
 have hix:=ame (c:= .tip) (J:=[]) hl mb hv hw hq
 simp only[List.append_nil,List.length_nil,Nat.add_zero]at hix
 simp[F.bq,an,aG]
 refine al.gen [KB,KB+1,KB+2] [] [.arr 34 (L.map bU),.box v,.box w] hix (by simp[getAll]) (by simp) (by simp) (by simp[ae,ab,bj,idx]) (by simp[ah,hv.refs,hw.refs]) (by simp[aO,aI,aV,idx]) (by simp[aZ,hv.aI,hw.aI]) (by simp[ah,ab,hv.refs,hw.refs]) ?_
 simp[bI,aZ,aI,hv.aI,hw.aI]
 rcases uE q L with⟨he,fu⟩|⟨i,hi,he,PJ,hqi⟩
 ·have hK:L.filter p=L:=List.filter_eq_self.2 λx hx=>by rw[L3,fu x hx];rfl
  rw[hK]
  simp[he]
  refine aM.with [.keep [4],.mt 4] [KB,KB+1,KB+2] ?_
  simp[ah,aZ,hv.refs,hw.refs,hv.aI,hw.aI]
  intro c j hcj
  exact⟨(pg 34 j).refs _,List.replicate j (IX 34),c,⟨pg 34 j,by rcases hcj with h|⟨_,_,h⟩<;>simp[h],by rw[List.length_replicate];omega⟩,by simp,((wK L).append (pg 34 j)).aI _⟩
 ·have aaX:p L[i]=false:=by rw[L3,hqi];rfl
  obtain⟨D,cn,⟨d0,c0⟩,dg,dn,dy,dl,cl,⟨ce,de⟩,dw,dp⟩:=O3 p bU kl (n:=34) (λx=>by simp) hi (λx hx=>by rw[L3,PJ x hx];rfl) aaX
  have wi:IntKind.i64.wrap ((i:Int)+1)=(i:Int)+1:=wrap_i64 (by omega)
  have fB:¬(i:Int)= -1:=by omega
  simp[he,wi,fB]
  rw[←d0]
  have Pj:L.length-(i+1)+(i+1)=L.length:=by omega
  refine jh.jY (L.length-(i+1)) (λ_=>True) [0,1,4,5,6] (λr=>[(5,.int .i64 (cn (i+1+r))),(6,.int .i64 ((i:Int)+1+r))]) (λr=>[(KB,.arr 34 (D (i+1+r)))]) [.keep [0,1,4,5,6]] ?_
  simp[c0]
  refine⟨λr hr K hK=> ?_,λK=> ?_⟩
  ·obtain⟨j,hj⟩:∃j,j=i+1+r:=⟨_,rfl⟩
   have y0:j<L.length:=by omega
   have hjc:(i:Int)+1+r=j:=by omega
   have hx:=dg j y0
   have hc:=hq L[j] (List.getElem_mem y0)
   have dn:=dn j y0
   have dy:=dy j y0
   have cl:=cl j
   have dlj:=dl j
   have dpj:=dp j
   have dpj1:=dp (j+1)
   have wj:IntKind.i64.wrap ((j:Int)+1)=(j:Int)+1:=wrap_i64 (by omega)
   have wc:IntKind.i64.wrap ((cn j:Int)+1)=(cn j:Int)+1:=wrap_i64 (by omega)
   have LY:cn j<L.length:=by omega
   obtain⟨y,hy,hyw⟩:∃y,(D j)[cn j]? =some y∧y.width=34:=by
    have gG:cn j<(D j).length:=by rw[dlj];exact LY
    exact⟨_,gJ gG,dw j _ (List.getElem_mem gG)⟩
   have hK:∀s2,kh s2 [0,1,4,5,6] [] []=⟨[(0,.rs KB [] 0 L.length L.length 34 .tip),(1,.fn (.func g) [] [.pt (KB+1) [] 0,.pt (KB+2) [] 0]),(4,.sl 34 [] true),(5,.int .i64 (cn (j+1))),(6,.int .i64 ((j:Int)+1))],[(KB,.arr 34 (D (j+1))),(KB+1,.box v),(KB+2,.box w)]⟩->K s2:=by
    intro s2 yZ
    refine hK s2 (yZ.trans ?_)
    rw[show i+1+(r+1)=j+1 by omega,show(i:Int)+1+((r:Int)+1)=(j:Int)+1 by omega]
   rw[←hj,hjc]
   have hpx:p L[j]= !q L[j]:=L3 _
   generalize L[j]=x at*
   generalize cn j=cj at*
   generalize D j=Dj at*
   generalize D (j+1)=Dj1 at*
   generalize cn (j+1)=cj1 at*
   simp[↓av,hx,y0,dlj,-getElem?_pos]
   refine al.gen [KB+1,KB+2] [] [bh.box v,bh.box w] hc (by simp[getAll]) (by simp) (by simp) (by simp[ae,ab,bj,idx]) (by simp[ah,hv.refs,hw.refs]) (by simp[aO,aI,aV,idx]) (by simp[aZ,hv.aI,hw.aI]) (by simp[ah,ab,hv.refs,hw.refs]) ?_
   simp[bI,aZ,aI,hv.aI,hw.aI]
   by_cases hb:q x=true
   ·obtain⟨rfl,rfl⟩:=dn (by rw[hpx,hb];rfl)
    simp[hb,wj]
    refine⟨[.keep [0,1,4,5,6],.dr 7],?_⟩
    simp[cr,dx,ab,ae,ah,dpj.refs,hv.refs,hw.refs]
    exact hK _ (by simp)
   ·have hb:q x=false:=by simpa using hb
    obtain⟨rfl,rfl⟩:=dy (by rw[hpx,hb];rfl)
    simp[hb,wj,wc,dlj,LY,hy,hyw,-getElem?_pos]
    refine⟨[.keep [0,1,4,5,6],.dr 7],?_⟩
    simp[cr,dx,ab,ae,ah,dpj1.refs,hv.refs,hw.refs]
    exact hK _ (by simp)
  ·have y0:i+1+(L.length-(i+1))=L.length:=by omega
   have hjc:(i:Int)+1+((L.length-(i+1):Nat):Int)=L.length:=by omega
   simp only[y0,hjc]
   have cl:=cl L.length
   have dlj:=dl L.length
   have dpj:=dp L.length
   have dw:=dw L.length
   have rY:(L.filter p).length≤L.length:=by rw[←ce];exact cl.2
   rw[ce]
   generalize D L.length=DJ at*
   generalize hKk:L.filter p=Kp at*
   simp[↓av,dlj,rY,-getElem?_pos]
   rw[de]
   obtain⟨Z,hZ,hzp,hzl⟩:∃Z,(List.replicate (L.length-Kp.length) (.st 34 [(.int .i64 0),(.ar 1 32 (zr 32 (.int .u8 0))),(.int .i64 0)])++List.drop L.length DJ)=Z∧aB Z∧Z.length=L.length-Kp.length:=
    ⟨_,rfl,(aB.mk' λp hp=>by rw[List.eq_of_mem_replicate hp];simp).append (dpj.drop _),by simp[dlj]⟩
   rw[hZ]
   have jc:aB (Kp.map bU++Z):=(wK Kp).append hzp
   have wR:(Kp.map bU++Z).length=L.length:=by simp;omega
   refine aM.with [.keep [4],.mt 4] [KB,KB+1,KB+2] ?_
   simp[wR,ah,aZ,hv.refs,hw.refs,hv.aI,hw.aI]
   intro c j hcj
   have hzu:=hzp.append (pg 34 j)
   refine⟨⟨hzp.refs _,(pg 34 j).refs _⟩,Z++List.replicate j (IX 34),c,⟨hzu,?_,?_⟩,⟨by simp;omega,rfl⟩,((wK Kp).append hzu).aI _⟩
   ·rcases hcj with h|⟨_,_,h⟩
    ·omega
    ·simp[h]
   ·simp only[List.length_append,List.length_replicate];omega
theorem avC {L:List iK} (hl:L.length≤1048576) {g:FuncId} {q:iK->Bool} (hq:∀x∈L,(af Pg g [cy x] [] (λr fp=>r= .bl (q x)∧fp=[]))):
  af Pg I.bA [.rs KB [] 0 L.length L.length 34 .tip,.fn (.func g) [] []] [.arr 34 (L.map cy)] (λr fp=>r= .rs KB [] 0 (L.filter λx=> !q x).length L.length 34 .tip∧fp=[.arr 34 ((L.filter λx=> !q x).map cy++List.replicate (L.length-(L.filter λx=> !q x).length) EE)]):=by
 obtain⟨p,L3⟩:∃p:iK->Bool,∀x,p x= !q x:=⟨_,λ_=>rfl⟩
 rw[show(λx=> !q x)=p from funext λx=>(L3 x).symm]
 refine af.intro T.bA (by simp[F.bA]) ?_
 have wK:∀l:List iK,aB (l.map cy):=λl=>bR iT l
 have hix:=amg (c:= .tip) (J:=[]) hl mb hq
 simp only[List.append_nil,List.length_nil,Nat.add_zero]at hix
 simp[F.bA,an,aG]
 refine al.gen [KB] [] [.arr 34 (L.map cy)] hix (by simp[getAll]) (by simp) (by simp) (by simp[ae,ab,bj,idx]) (by simp[ah]) (by simp[aO,aI,aV,idx]) (by simp[aZ]) (by simp[ah,ab]) ?_
 simp[bI,aZ,aI]
 rcases uE q L with⟨he,fu⟩|⟨i,hi,he,PJ,hqi⟩
 ·have hK:L.filter p=L:=List.filter_eq_self.2 λx hx=>by rw[L3,fu x hx];rfl
  rw[hK]
  simp[he]
  refine aM.with [.keep [4]] [KB] ?_
  simp[ah,aZ]
  skip
 ·have aaX:p L[i]=false:=by rw[L3,hqi];rfl
  obtain⟨D,cn,⟨d0,c0⟩,dg,dn,dy,dl,cl,⟨ce,de⟩,dw,dp⟩:=O3 p cy iT (n:=34) (λx=>by simp) hi (λx hx=>by rw[L3,PJ x hx];rfl) aaX
  have wi:IntKind.i64.wrap ((i:Int)+1)=(i:Int)+1:=wrap_i64 (by omega)
  have fB:¬(i:Int)= -1:=by omega
  simp[he,wi,fB]
  rw[←d0]
  have Pj:L.length-(i+1)+(i+1)=L.length:=by omega
  refine jh.jY (L.length-(i+1)) (λ_=>True) [0,1,4,5,6] (λr=>[(5,.int .i64 (cn (i+1+r))),(6,.int .i64 ((i:Int)+1+r))]) (λr=>[(KB,.arr 34 (D (i+1+r)))]) [.keep [0,1,4,5,6]] ?_
  simp[c0]
  refine⟨λr hr K hK=> ?_,λK=> ?_⟩
  ·obtain⟨j,hj⟩:∃j,j=i+1+r:=⟨_,rfl⟩
   have y0:j<L.length:=by omega
   have hjc:(i:Int)+1+r=j:=by omega
   have hx:=dg j y0
   have hc:=hq L[j] (List.getElem_mem y0)
   have dn:=dn j y0
   have dy:=dy j y0
   have cl:=cl j
   have dlj:=dl j
   have dpj:=dp j
   have dpj1:=dp (j+1)
   have wj:IntKind.i64.wrap ((j:Int)+1)=(j:Int)+1:=wrap_i64 (by omega)
   have wc:IntKind.i64.wrap ((cn j:Int)+1)=(cn j:Int)+1:=wrap_i64 (by omega)
   have LY:cn j<L.length:=by omega
   obtain⟨y,hy,hyw⟩:∃y,(D j)[cn j]? =some y∧y.width=34:=by
    have gG:cn j<(D j).length:=by rw[dlj];exact LY
    exact⟨_,gJ gG,dw j _ (List.getElem_mem gG)⟩
   have hK:∀s2,kh s2 [0,1,4,5,6] [] []=⟨[(0,.rs KB [] 0 L.length L.length 34 .tip),(1,.fn (.func g) [] []),(4,.sl 34 [] true),(5,.int .i64 (cn (j+1))),(6,.int .i64 ((j:Int)+1))],[(KB,.arr 34 (D (j+1)))]⟩->K s2:=by
    intro s2 yZ
    refine hK s2 (yZ.trans ?_)
    rw[show i+1+(r+1)=j+1 by omega,show(i:Int)+1+((r:Int)+1)=(j:Int)+1 by omega]
   rw[←hj,hjc]
   have hpx:p L[j]= !q L[j]:=L3 _
   generalize L[j]=x at*
   generalize cn j=cj at*
   generalize D j=Dj at*
   generalize D (j+1)=Dj1 at*
   generalize cn (j+1)=cj1 at*
   simp[↓av,hx,y0,dlj,-getElem?_pos]
   refine al.gen [] [] [] hc (by simp) (by simp) (by simp) (by simp[ae]) (by simp) (by simp[aO]) (by simp) (by simp[ab]) ?_
   simp[bI,aI]
   by_cases hb:q x=true
   ·obtain⟨rfl,rfl⟩:=dn (by rw[hpx,hb];rfl)
    simp[hb,wj]
    refine⟨[.keep [0,1,4,5,6],.dr 7],?_⟩
    simp[cr,dx,ab,ae,ah,dpj.refs]
    exact hK _ (by simp)
   ·have hb:q x=false:=by simpa using hb
    obtain⟨rfl,rfl⟩:=dy (by rw[hpx,hb];rfl)
    simp[hb,wj,wc,dlj,LY,hy,hyw,-getElem?_pos]
    refine⟨[.keep [0,1,4,5,6],.dr 7],?_⟩
    simp[cr,dx,ab,ae,ah,dpj1.refs]
    exact hK _ (by simp)
  ·have y0:i+1+(L.length-(i+1))=L.length:=by omega
   have hjc:(i:Int)+1+((L.length-(i+1):Nat):Int)=L.length:=by omega
   simp only[y0,hjc]
   have cl:=cl L.length
   have dlj:=dl L.length
   have dpj:=dp L.length
   have dw:=dw L.length
   have rY:(L.filter p).length≤L.length:=by rw[←ce];exact cl.2
   rw[ce]
   generalize D L.length=DJ at*
   generalize hKk:L.filter p=Kp at*
   simp[↓av,dlj,rY,-getElem?_pos]
   rw[de]
   obtain⟨Z,hZ,hzp,hzl⟩:∃Z,(List.replicate (L.length-Kp.length) (.st 34 [(.int .u32 0),(.ar 1 32 (zr 32 (.int .u8 0))),(.bl false)])++List.drop L.length DJ)=Z∧aB Z∧Z.length=L.length-Kp.length:=
    ⟨_,rfl,(aB.mk' λp hp=>by rw[List.eq_of_mem_replicate hp];simp).append (dpj.drop _),by simp[dlj]⟩
   rw[hZ]
   have jc:aB (Kp.map cy++Z):=(wK Kp).append hzp
   have wR:(Kp.map cy++Z).length=L.length:=by simp;omega
   refine aM.with [.keep [4]] [KB] ?_
   simp[ah,aZ,jc.refs,jc.aI]
   rw[←hZ,List.drop_of_length_le (by omega),List.append_nil];rfl
end Go.Ab
end S6s
noncomputable section S7s
namespace Go.Ab
open Go.Ab
@[simp↓] theorem Zx {s:St} (d:Option Nat) (sz:Nat) (p:PV) (K:St->Prop) (k:Nat) (pth:List Step) (off len aE z:Nat) (c:jA):cpQ s d sz p K (.rs k pth off len aE z c)=xl s (λbL l=>(l=[]∨bL=sz)∧PX s d sz l K p) (.rs k pth off len aE z c):=_root_.id rfl
theorem Tn {l:List fX} (h:l.length≤1048576) (k:Key) (n:Int):af Pg I.iE [db l,eF k,.int .i64 n] [] (λr fp=>∃(J:List PV) (c:Nat),(aB J∧(dI l k n).length≤c∧c≤(dI l k n).length+J.length)∧r= .rs KB [] 0 (dI l k n).length ((dI l k n).length+J.length) 34 (.full c)∧fp=[.arr 34 ((dI l k n).map bU++J)]):=by
 refine af.intro T.iE (by simp[F.iE]) ?_
 have wK:∀l:List fX,aB (l.map bU):=λl=>bR kl l
 have tx:sk Pg I.bk [.sl 34 (l.map bU) false] 34 (l.map bU):=rC (bytes:=48) T.bk (by omega) (wK l) (by simpa using h) (by omega)
 have hd:=avB (L:=l) h (g:=I.gx) (q:=λt=> !sv k n t) (v:=eF k) (w:= .int .i64 n) (by simp) (by simp) (λx _=>amc x k n)
 have hf:(l.filter λx=> !!sv k n x)=dI l k n:=by simp only[Bool.not_not];rfl
 rw[hf]at hd
 simp[F.iE,an,aG,db]
 refine al.own 8 tx (by simp) (by simp[wK]) (wK l) (by simp) ?_
 simp
 refine al.F8 [8,4,5] [] [.arr 34 (l.map bU),.box (eF k),.box (.int .i64 n)] hd (by simp[getAll]) (by simp) (by simp) (by simp[ae,ab,bj,idx]) (by simp[ah,ab]) (by simp[aO,aI,aV,idx]) (by simp[aZ,aI]) ?_
 rintro r fp ⟨J,c,⟨hJ,h1,h2⟩,rfl,rfl⟩
 have jc:aB ((dI l k n).map bU++J):=(wK _).append hJ
 have wR:((dI l k n).map bU++J).length=(dI l k n).length+J.length:=by simp
 have hR:∃(J':List PV) (c':Nat),(aB J'∧(dI l k n).length≤c'∧c'≤(dI l k n).length+J'.length)∧(J.length=J'.length∧c=c')∧(dI l k n).map bU++J=(dI l k n).map bU++J':=⟨J,c,⟨hJ,h1,h2⟩,⟨rfl,rfl⟩,rfl⟩
 generalize hB:(dI l k n).map bU++J=B at jc wR hR⊢
 refine⟨by simp[ah,ab,fY,jc.refs],?_⟩
 simp[bI,aZ,aI,eP,jc.aI]
 refine aM.with [.keep [6]] [8] ?_
 simp[ah,aZ,jc.refs,jc.aI]
 exact hR
theorem amh {x:PV} {B:List PV} {off len:Nat} {c:jA} (ho:0<B.length) (hl:1≤len):af Pg I.jk [.rs KB [] 0 1 1 34 .tip,.rs (KB+1) [] off len B.length 34 c] [.arr 34 [x],.arr 34 B] (λr fp=>r= .bl false∧fp=[.arr 34 [x],.arr 34 B]):=by
 intro Γ w vs hw hm mH hA
 match vs,hA with
 |
  [v1,v2],hA=>
  obtain⟨h1,h2,_⟩:=hA
  have g1:get Γ.bx KB=some (.arr 34 [x]):=by rw[mH];rfl
  have g2:get Γ.bx (KB+1)=some (.arr 34 B):=by rw[mH];rfl
  obtain⟨a1,c1,e1,k1⟩:=h1.rs g1 (by simp[bh.aE])
  obtain⟨a2,c2,e2,k2⟩:=h2.rs g2 (by simp[bh.aE])
  obtain⟨_,_,r1⟩:=hm.blk _ _ g1
  obtain⟨r2w,_,r2⟩:=hm.blk _ _ g2
  unfold jC at k1 k2
  cases i1:Γ.ι KB with
  |none=>rw[i1]at k1;exact absurd k1.1 (by omega)
  |
   some b1=>
   cases i2:Γ.ι (KB+1)with
   |none=>rw[i2]at k2;exact absurd k2.1 (by omega)
   |
    some b2=>
    rw[i1]at k1 r1;rw[i2]at k2 r2
    obtain⟨p1,p2,_⟩:=k1
    obtain⟨q1,q2,_⟩:=k2
    rcases p2 with p2|rfl
    ·omega
    rcases q2 with q2|rfl
    ·omega
    obtain⟨cc1,ce1,cs1,aAi,u1,u2,u3,_⟩:=r1
    obtain⟨cc2,ce2,cs2,anx,w1,w2,w3,_⟩:=r2
    have fB:b1≠b2:=λe=>by
     have:=hm.inj KB (KB+1) b1 (by rw[g1];rfl) (by rw[g2];rfl) i1 (by rw[i2,e])
     omega
    rw[←hw]at u1 w1
    have yZ:cc2.size≠0:=by
     have e1:cs2.length=B.length*34:=by rw[w3.length,bY r2w]
     have e2:cc2.size=cs2.length+anx.length:=by rw[←Array.length_toList,w2];simp
     omega
    have jl:=Go.Lib.run_overlaps_apart (P:=Pg) w 41 4 122 (by kernel_rfl) 34 (λw=>run_sizeOf (by kernel_rfl)) ⟨b1,dj []+0*34,none⟩ ⟨b2,dj []+off*34,none⟩ 1 c1 len c2 fB ce1 ce2 cc1.size cc2.size (by simp[World.shape?,u1]) (by simp[World.shape?,w1]) yZ (by simp[World.frozen?,u1]) (by simp[World.frozen?,u1])
    rw[e1,e2]
    refine .inr ⟨.bool false,w,?_,_,_,[.arr 34 [x],.arr 34 B],Γ,rfl,⟨rfl,rfl⟩,hw,hm,mH,j3,Le.refl Γ,WF.refl w⟩
    rw[run_callFunc_extern (fn:=(Pg.funcs[I.jk]?).getD default) (by kernel_rfl) (by kernel_rfl) (by kernel_rfl) (by kernel_rfl) (e:=Extern.SlicesOverlaps.overlaps #[41,41] #[4]) (by kernel_rfl)]
    rw[jl]
    rfl
theorem O4 {B:List PV} {n i N:Nat} (hB:B.length=N) (hi:i<n) (hn:n+1≤N) (x:PV):
  ∃
   B1,(List.take (i+1) B++(List.take (n-i) (List.take (n+1-i) (List.drop i B))++List.drop (i+1+(n-i)) B))=B1∧B1.length=N∧(List.take i B1++x::List.drop (i+1) B1).length=N∧
   (List.take i B1++x::List.drop (i+1) B1).take (n+1)=List.take i B++x::List.drop i (List.take n B):=by
 refine⟨_,rfl,?_,?_,?_⟩
 ·simp only[List.length_append,lJ,List.length_drop,hB];omega
 ·simp only[List.length_append,List.length_cons,lJ,List.length_drop,hB];omega
 ·have e1:List.take i (List.take (i+1) B++(List.take (n-i) (List.take (n+1-i) (List.drop i B))++List.drop (i+1+(n-i)) B))=List.take i B:=by
   rw[List.take_append_of_le_length (by rw[lJ];omega),List.take_take,Nat.min_eq_left (by omega)]
  have e2:List.drop (i+1) (List.take (i+1) B++(List.take (n-i) (List.take (n+1-i) (List.drop i B))++List.drop (i+1+(n-i)) B))=List.take (n-i) (List.drop i B)++List.drop (i+1+(n-i)) B:=by
   rw[List.drop_append_of_le_length (by rw[lJ];omega),List.drop_of_length_le (by rw[lJ];omega),List.nil_append,List.take_take,Nat.min_eq_left (by omega)]
  rw[e1,e2,List.drop_take]
  have h1:(List.take i B).length=i:=by rw[lJ];omega
  have h2:(List.take (n-i) (List.drop i B)).length=n-i:=by rw[lJ,List.length_drop];omega
  generalize List.take i B=P at*
  generalize List.take (n-i) (List.drop i B)=Q at*
  generalize List.drop (i+1+(n-i)) B=R at*
  rw[show P++x::(Q++R)=(P++x::Q)++R by simp]
  exact List.take_left' (by simp;omega)
theorem LF {B Z:List PV} {n i:Nat} (hB:n≤B.length) (hi:i<n) (hZ:Z.length=n+1-i) (x:PV):
  (List.take (i+1) (List.take i (List.take i B++Z)++x::List.drop (i+1) (List.take i B++Z))++
   (List.take (n-i) (List.take (n-i) (List.drop i B))++List.drop (i+1+(n-i)) (List.take i (List.take i B++Z)++x::List.drop (i+1) (List.take i B++Z))))=List.take i B++x::List.drop i (List.take n B):=by
 have h1:(List.take i B).length=i:=by rw[lJ];omega
 rw[List.drop_take,List.take_take,Nat.min_self]
 have h2:(List.take (n-i) (List.drop i B)).length=n-i:=by rw[lJ,List.length_drop];omega
 generalize List.take i B=P at*
 generalize List.take (n-i) (List.drop i B)=Q at*
 have e1:List.take i (P++Z)=P:=List.take_left' h1
 have h3:(List.drop (i+1) (P++Z)).length=n-i:=by rw[List.length_drop,List.length_append];omega
 rw[e1]
 generalize List.drop (i+1) (P++Z)=R at*
 have e2:List.take (i+1) (P++x::R)=P++[x]:=by
  rw[show P++x::R=(P++[x])++R by simp]
  exact List.take_left' (by simp[h1])
 have e3:List.drop (i+1+(n-i)) (P++x::R)=[]:=List.drop_of_length_le (by simp;omega)
 rw[e2,e3]
 simp
def nF (L:List fX) (i:Nat) (t:fX):List fX:=L.take i++t::L.drop i
theorem ou {L:List fX} {i:Nat} (t:fX) (_:Unit) (hi:i≤L.length):(nF L i t).length=L.length+1:=by
 simp only[nF,List.length_append,List.length_cons,lJ,List.length_drop];omega
theorem ami {L:List fX} {J:List PV} {c i:Nat} (hl:L.length≤1048576) (hJ:aB J) (hc:L.length+1≤c∧c≤L.length+J.length) (hi:i≤L.length) (t:fX):
  af Pg I.aN [.rs KB [] 0 L.length (L.length+J.length) 34 (.full c),.int .i64 i,.rs (KB+1) [] 0 1 1 34 .tip] [.arr 34 (L.map bU++J),.arr 34 [bU t]] (λr fp=>∃B,(aB B∧B.length=L.length+J.length∧B.take (L.length+1)=(nF L i t).map bU)∧r= .rs KB [] 0 (L.length+1) (L.length+J.length) 34 (.full c)∧fp=[.arr 34 B,.arr 34 [bU t]]):=by
 refine af.intro T.aN (by simp[F.aN]) ?_
 have wK:∀l:List fX,aB (l.map bU):=λl=>bR kl l
 have wR:(L.map bU++J).length=L.length+J.length:=by simp
 have zX:∀k,k≤L.length->(L.map bU++J).take k=(L.take k).map bU:=λk hk=>by rw[List.take_append_of_le_length (by simpa using hk),List.map_take]
 have jc:aB (L.map bU++J):=(wK _).append hJ
 generalize L.map bU++J=B at*
 by_cases hie:i=L.length
 ·subst hie
  simp(disch:=omega) [F.aN,an,aG,wR]
  refine⟨⟨by omega,hc.2,by omega,by omega⟩,λCq=> ?_,λCq=>by omega⟩
  obtain⟨B2,hB2,tc,EU,Du⟩:∃B2,List.take L.length B++bU t::List.drop (L.length+1) B=B2∧aB B2∧B2.length=L.length+J.length∧B2.take (L.length+1)=(nF L L.length t).map bU:=by
   have h0:(B.take L.length).length=L.length:=by rw[lJ,wR];omega
   refine⟨_,rfl,(jc.take _).append (aB.mk' λx hx=> ?_),?_,?_⟩
   ·rcases List.mem_cons.1 hx with rfl|hx
    ·simp
    ·exact(jc.drop _).forget x hx
   ·simp only[List.length_append,List.length_cons,List.length_drop,h0,wR];omega
   ·rw[List.take_append,tJ (by omega),h0,show L.length+1-L.length=1 by omega,zX _ (Nat.le_refl _)]
    simp[nF]
  rw[hB2]
  refine aM.with [.keep [6]] [KB,KB+1] ?_
  simp[ah,ae,aZ,aO,tc.refs,tc.aI]
  exact⟨tc,EU,Du⟩
 ·have gG:i<L.length:=by omega
  have aaZ:¬(i:Int)=L.length:=by omega
  have h1:¬(c:Int)<(L.length:Int)+1:=by omega
  have h2:c≤L.length+J.length∧L.length≤c:=by omega
  have h3:L.length+1≤L.length+J.length:=by omega
  have hov:=amh (x:=bU t) (B:=B) (off:=i+1) (len:=L.length-i) (c:= .full (c-(i+1))) (by omega) (by omega)
  rw[wR]at hov
  simp(disch:=omega) [F.aN,an,aG,wR,aaZ,hi,h1,h2]
  refine⟨⟨by omega,by omega⟩,by omega,?_⟩
  refine al.gen [KB+1,KB] [] [.arr 34 [bU t],.arr 34 B] hov (by simp[getAll]) (by simp) (by simp) (by simp[ae,ab,bj,idx]) (by simp[ah,ae,jc.refs]) (by simp[aO,aI,aV,idx]) (by simp[aZ,aO,jc.aI]) (by simp[ah,ab,ae,jc.refs]) ?_
  have hw:IntKind.i64.wrap ((i:Int)+1)=(i:Int)+1:=wrap_i64 (by omega)
  have m1:min (L.length+1-i) (L.length+J.length-i)=L.length+1-i:=by omega
  simp(disch:=omega) [bI,aZ,aI,aO,(kl t).aI,wR,hw,m1,-List.length_append]
  obtain⟨B1,hB1,uO,EU,Du⟩:=O4 wR gG (by omega) (bU t)
  rw[zX _ (Nat.le_refl _),zX _ hi]at Du
  have PH:aB B1:=by rw[←hB1];exact(jc.take _).append ((((jc.drop _).take _).take _).append (jc.drop _))
  have tc:aB (List.take i B1++bU t::List.drop (i+1) B1):=(PH.take _).append (aB.mk' λx hx=>by
   rcases List.mem_cons.1 hx with rfl|hx
   ·simp
   ·exact(PH.drop _).forget x hx)
  rw[hB1]
  generalize List.take i B1++bU t::List.drop (i+1) B1=B2 at*
  refine⟨⟨by omega,hi⟩,by omega,by omega,by omega,by rw[uO],by omega,⟨by rw[uO],by rw[uO];omega⟩,?_⟩
  refine aM.with [.keep [6]] [KB,KB+1] ?_
  simp[ah,ae,aZ,aO,tc.refs,tc.aI]
  exact⟨tc,EU,by rw[Du];simp[nF,List.map_drop,List.map_take]⟩
theorem amj {L:List fX} {J:List PV} {i:Nat} (hl:L.length≤1048576) (hJ:aB J) (hi:i≤L.length) (t:fX):
  af Pg I.aN [.rs KB [] 0 L.length (L.length+J.length) 34 (.full L.length),.int .i64 i,.rs (KB+1) [] 0 1 1 34 .tip] [.arr 34 (L.map bU++J),.arr 34 [bU t]] (λr fp=>r= .rs (KB+2) [] 0 (L.length+1) (L.length+1) 34 .tip∧fp=[.arr 34 (L.map bU++J),.arr 34 [bU t],.arr 34 ((nF L i t).map bU)]):=by
 refine af.intro T.aN (by simp[F.aN]) ?_
 have wK:∀l:List fX,aB (l.map bU):=λl=>bR kl l
 have wR:(L.map bU++J).length=L.length+J.length:=by simp
 have zX:∀k,k≤L.length->(L.map bU++J).take k=(L.take k).map bU:=λk hk=>by rw[List.take_append_of_le_length (by simpa using hk),List.map_take]
 have jc:aB (L.map bU++J):=(wK _).append hJ
 generalize L.map bU++J=B at*
 by_cases hie:i=L.length
 ·subst hie
  simp(disch:=omega) [F.aN,an,aG,wR]
  refine⟨⟨by omega,by omega⟩,λCq=>by omega,?_⟩
  have hB2:List.take L.length B++[bU t]=(nF L L.length t).map bU:=by rw[zX _ (Nat.le_refl _)];simp[nF]
  rw[hB2]
  refine aM.with [.keep [6]] [KB,KB+1,25] ?_
  have L4:=wK (nF L L.length t)
  generalize (nF L L.length t).map bU=B2 at*
  simp[ah,ae,aZ,aO,L4.refs,L4.aI,jc.refs,jc.aI]
 ·have gG:i<L.length:=by omega
  have aaZ:¬(i:Int)=L.length:=by omega
  have h1:(L.length:Int)<(L.length:Int)+1:=by omega
  have h2:(i:Int)<(L.length:Int)+1:=by omega
  have h3:(i:Int)≤(L.length:Int)+1:=by omega
  have h4:(L.length+1)*48≤140737488355328:=by omega
  have h5:L.length≤9223372036854775806:=by omega
  simp(disch:=omega) [F.aN,an,aG,wR,aaZ,hi,h1,h2,h3,h4,h5]
  refine⟨by omega,by omega,⟨by omega,by omega⟩,?_⟩
  rw[LF (by rw[wR];omega) gG (by simp) (bU t),zX _ (Nat.le_refl _),zX _ hi]
  have hI:(List.take i L).map bU++bU t::List.drop i ((List.take L.length L).map bU)=(nF L i t).map bU:=by simp[nF,List.map_drop,List.map_take]
  rw[hI]
  have L4:=wK (nF L i t)
  generalize (nF L i t).map bU=B2 at*
  refine aM.with [.keep [6]] [KB,KB+1,40] ?_
  simp[ah,ae,aZ,aO,L4.refs,L4.aI,jc.refs,jc.aI]
theorem Dh {t:fX}:∀ {l:List fX},(∀x∈l,jf t x=false)->ju t l=l.length
 |[],_=>rfl
 |
  x::r,h=>by
  simp only[ju,h x (by simp),fJ,if_false,List.length_cons]
  rw[Dh λy hy=>h y (by simp[hy])]
theorem Dk {t:fX}:∀ {l:List fX} {i:Nat} (hi:i<l.length),(∀x∈l.take i,jf t x=false)->jf t l[i]=true->ju t l=i
 |x::r,0,hi,_,hq=>by simp only[List.getElem_cons_zero]at hq;simp only[ju,hq,if_true]
 |
  x::r,i+1,hi,h,hq=>by
  simp only[ju,h x (by simp),fJ,if_false]
  rw[Dk (i:=i) (by simpa using hi) (λy hy=>h y (by simp[hy])) (by simpa using hq)]
theorem avD {l:List fX} (h:l.length≤1048575) (t:fX):bB Pg I.jW [db l,bU t] (db (kX l t)):=by
 refine af.intro T.jW (by simp[F.jW]) ?_
 simp[F.jW,an,aG]
 refine al.F8 [] [12] [] (Tn (l:=l) (by omega) t.peer t.kind) (by simp) (by simp) (by simp) (by simp[ae,ab]) (by simp) (by simp[aO,aI]) (by simp) ?_
 rintro r fp ⟨J,c,⟨hJ,h1,h2⟩,rfl,rfl⟩
 have lg:kX l t=nF (dI l t.peer t.kind) (ju t (dI l t.peer t.kind)) t:=by simp[kX,nF]
 have hRl:(dI l t.peer t.kind).length≤1048575:=Nat.le_trans (List.length_filter_le _ _) h
 rw[lg]
 generalize dI l t.peer t.kind=R at*
 have wK:∀l:List fX,aB (l.map bU):=λl=>bR kl l
 have jc:aB (R.map bU++J):=(wK _).append hJ
 have wR:(R.map bU++J).length=R.length+J.length:=by simp
 have hix:=amf (L:=R) (J:=J) (c:= .full c) (by omega) hJ (g:=I.iL) (q:=jf t) (v:=bU t) (by simp) (λx _=>amd t x)
 have rU:=vT t R
 have hA:=λhc:R.length+1≤c=>ami (L:=R) (J:=J) (c:=c) (i:=ju t R) (by omega) hJ ⟨hc,h2⟩ rU t
 have hB:=amj (L:=R) (J:=J) (i:=ju t R) (by omega) hJ rU t
 generalize hBd:R.map bU++J=B at*
 refine⟨by simp[ah,ab,fY,jc.refs],?_⟩
 simp[bI,aZ,aI,eP,jc.aI]
 refine al.gen [12,3] [] [.arr 34 B,.box (bU t)] hix (by simp[getAll]) (by simp) (by simp) (by simp[ae,ab,bj,idx]) (by simp[ah,jc.refs]) (by simp[aO,aI,aV,idx]) (by simp[aZ,jc.aI]) (by simp[ah,ab,jc.refs]) ?_
 simp[bI,aZ,aI,jc.aI]
 rcases uE (jf t) R with⟨he,fu⟩|⟨i,hi,he,PJ,hq⟩
 ·rw[Dh fu]at*
  refine⟨λ_=>⟨wR.symm,?_⟩,λh=>by omega⟩
  by_cases hcc:R.length+1≤c
  ·refine al.F8 [12,23] [] [.arr 34 B,.arr 34 [bU t]] (hA hcc) (by simp[getAll]) (by simp) (by simp) (by simp[ae,ab,bj,idx]) (by simp[ah,ae,jc.refs]) (by simp[aO,aI,aV,idx]) (by simp[aZ,aO,jc.aI]) ?_
   rintro r fp ⟨B2,⟨tc,EU,Du⟩,rfl,rfl⟩
   refine⟨by simp[ah,ab,ae,fY,tc.refs],?_⟩
   simp[bI,aZ,aI,aO,eP,tc.aI]
   refine aM.plain [.keep [4],.fz 12] ?_
   have hle:R.length+1≤B2.length:=by omega
   simp[tc.refs]
   rw[if_pos ⟨EU.symm,hle⟩,Du]
   simp[db,wK]
  ·obtain rfl:c=R.length:=by omega
   refine al.gen [12,23] [24] [.arr 34 B,.arr 34 [bU t]] hB (by simp[getAll]) (by simp) (by simp) (by simp[ae,ab,bj,idx]) (by simp[ah,ae,jc.refs]) (by simp[aO,aI,aV,idx]) (by simp[aZ,aO,jc.aI]) (by simp[ah,ab,ae,jc.refs,fY]) ?_
   simp[bI,aZ,aI,aO,eP,jc.aI]
   refine aM.plain [.keep [4],.fz 24] ?_
   simp
   rw[if_pos (by rw[ou _ () rU];omega),tJ (by rw[List.length_map,ou _ () rU];omega)]
   simp[db,wK]
 ·rw[Dk hi PJ hq]at*
  refine⟨λh=>by omega,λ_=> ?_⟩
  rw[he]
  by_cases hcc:R.length+1≤c
  ·refine al.F8 [12,23] [] [.arr 34 B,.arr 34 [bU t]] (hA hcc) (by simp[getAll]) (by simp) (by simp) (by simp[ae,ab,bj,idx]) (by simp[ah,ae,jc.refs]) (by simp[aO,aI,aV,idx]) (by simp[aZ,aO,jc.aI]) ?_
   rintro r fp ⟨B2,⟨tc,EU,Du⟩,rfl,rfl⟩
   refine⟨by simp[ah,ab,ae,fY,tc.refs],?_⟩
   simp[bI,aZ,aI,aO,eP,tc.aI]
   refine aM.plain [.keep [4],.fz 12] ?_
   have hle:R.length+1≤B2.length:=by omega
   simp[tc.refs]
   rw[if_pos ⟨EU.symm,hle⟩,Du]
   simp[db,wK]
  ·obtain rfl:c=R.length:=by omega
   refine al.gen [12,23] [24] [.arr 34 B,.arr 34 [bU t]] hB (by simp[getAll]) (by simp) (by simp) (by simp[ae,ab,bj,idx]) (by simp[ah,ae,jc.refs]) (by simp[aO,aI,aV,idx]) (by simp[aZ,aO,jc.aI]) (by simp[ah,ab,ae,jc.refs,fY]) ?_
   simp[bI,aZ,aI,aO,eP,jc.aI]
   refine aM.plain [.keep [4],.fz 24] ?_
   simp
   rw[if_pos (by rw[ou _ () rU];omega),tJ (by rw[List.length_map,ou _ () rU];omega)]
   simp[db,wK]
end Go.Ab
end S7s
noncomputable section S8s
namespace Go.Ab
open Go.Ab
def ft (e:bK) (p q:PV):PV:= .st 148 [dU e.rules,e.mZ.p,e.nP.p,.int .i64 e.port,e.random.p,.int .i64 e.now,p,dV e.bn,q,db e.timers,e.ix.p,.int .i64 e.ka,gz e.bD,eO e.buckets,.int .i64 e.bad]
@[simp] theorem Wm (e:bK) (p q:PV):(ft e p q).width=148:=_root_.id rfl
@[simp] theorem adr (e:bK) (p q:PV):(ft e p q).isAgg=true:=rfl
@[simp] theorem ZC (e:bK) (p q:PV):(ft e p q).bp=true:=rfl
@[simp] theorem ZD (e:bK) (p q:PV):(ft e p q).flat=true:=rfl
@[simp↓] theorem ads (g:Bool) (e:bK) (p q:PV) (K:PV->Prop):il g (ft e p q) K=K (ft e p q):=_root_.id rfl
@[simp↓] theorem To (e:bK) (p q:PV) (r:List Step):aQ (ft e p q) (.f 6 108::r)=aQ (p) r:=by simp[ft,az]
@[simp↓] theorem Tp (e:bK) (p q:PV) (hp:p.width=1) (r:List Step):aQ (ft e p q) (.f 8 110::r)=aQ (q) r:=by simp[ft,az,hp]
def BC (e:bK) (p q c:PV):PV:= .st 148 [dU e.rules,e.mZ.p,e.nP.p,.int .i64 e.port,e.random.p,.int .i64 e.now,p,dV e.bn,c,db e.timers,e.ix.p,.int .i64 e.ka,gz e.bD,eO e.buckets,.int .i64 e.bad]
@[simp↓] theorem Tq (e:bK) (p q:PV) (hp:p.width=1) (r:List Step) (x:PV):di (ft e p q) (.f 8 110::r) x=(di (q) r x).bind λc=>some (BC e p q c):=by simp[ft,BC,az,hp]
@[simp↓] theorem ZE (e:bK) (p q v:PV):BC e p q v=ft e p v:=_root_.id rfl
def jX (e:bK) (p q c:PV):PV:= .st 148 [dU e.rules,e.mZ.p,e.nP.p,.int .i64 e.port,e.random.p,.int .i64 e.now,p,dV e.bn,q,c,e.ix.p,.int .i64 e.ka,gz e.bD,eO e.buckets,.int .i64 e.bad]
@[simp↓] theorem Tr (e:bK) (p q:PV) (hp:p.width=1) (hq:q.width=1) (r:List Step) (x:PV):di (ft e p q) (.f 9 111::r) x=(di (db e.timers) r x).bind λc=>some (jX e p q c):=by simp[ft,jX,az,hp,hq]
@[simp↓] theorem ZF (e:bK) (p q:PV) (v:List fX):jX e p q (db v)=ft {e with timers:=v} p q:=_root_.id rfl
@[simp↓] theorem Qp (e:bK) (p q:PV) (hp:p.width=1) (hq:q.width=1) (r:List Step):aQ (ft e p q) (.f 12 145::r)=aQ (gz e.bD) r:=by simp[ft,az,hp,hq]
def xT (e:bK) (p q c:PV):PV:= .st 148 [dU e.rules,e.mZ.p,e.nP.p,.int .i64 e.port,e.random.p,.int .i64 e.now,p,dV e.bn,q,db e.timers,e.ix.p,.int .i64 e.ka,c,eO e.buckets,.int .i64 e.bad]
@[simp↓] theorem Qq (e:bK) (p q:PV) (hp:p.width=1) (hq:q.width=1) (r:List Step) (x:PV):di (ft e p q) (.f 12 145::r) x=(di (gz e.bD) r x).bind λc=>some (xT e p q c):=by simp[ft,xT,az,hp,hq]
@[simp↓] theorem Wn (e:bK) (p q:PV) (v:List Int):xT e p q (gz v)=ft {e with bD:=v} p q:=_root_.id rfl
@[simp↓] theorem Qr (e:bK) (p q:PV) (hp:p.width=1) (hq:q.width=1) (r:List Step):aQ (ft e p q) (.f 13 146::r)=aQ (eO e.buckets) r:=by simp[ft,az,hp,hq]
def xU (e:bK) (p q c:PV):PV:= .st 148 [dU e.rules,e.mZ.p,e.nP.p,.int .i64 e.port,e.random.p,.int .i64 e.now,p,dV e.bn,q,db e.timers,e.ix.p,.int .i64 e.ka,gz e.bD,c,.int .i64 e.bad]
@[simp↓] theorem Qs (e:bK) (p q:PV) (hp:p.width=1) (hq:q.width=1) (r:List Step) (x:PV):di (ft e p q) (.f 13 146::r) x=(di (eO e.buckets) r x).bind λc=>some (xU e p q c):=by simp[ft,xU,az,hp,hq]
@[simp↓] theorem Wo (e:bK) (p q:PV) (v:List BV):xU e p q (eO v)=ft {e with buckets:=v} p q:=_root_.id rfl
@[simp] theorem EF (f:Nat->Bool) (e:bK) (p q:PV):ab f (ft e p q)=(ab f p&&ab f q):=by
 have h1:ab f (dU e.rules)=true:=(Bk _).refs f
 have h2:ab f (dV e.bn)=true:=(yx _).refs f
 have h4:ab f (db e.timers)=true:=(um _).refs f
 have h5:ab f (gz e.bD)=true:=(Bj _).refs f
 have h6:ab f (eO e.buckets)=true:=(yy _).refs f
 have g1:ab f e.mZ.p=true:=(FV.pure e.mZ).refs f
 have g2:ab f e.nP.p=true:=(FV.pure e.nP).refs f
 have g3:ab f e.random.p=true:=(FV.pure e.random).refs f
 have g4:ab f e.ix.p=true:=(FV.pure e.ix).refs f
 simp[ft,ab,ae]
@[simp] theorem adt (ρ:Nat->Nat) (e:bK) (p q:PV):aI ρ (ft e p q)=ft e (aI ρ p) (aI ρ q):=by
 simp[ft,aI,aO]
@[simp] theorem amk (e:bK) (p q:PV):wk (ft e p q)=ft e (wk p) (wk q):=by simp[ft]
@[simp] theorem adu (k sz:Nat) (l:List PV) (e:bK) (p q:PV):gq k sz l (ft e p q)=ft e (gq k sz l p) (gq k sz l q):=by
 simp[ft,gq,im]
theorem BD (e:bK) (p c:PV):vS e p c=ft e p c:=rfl
theorem kR {d:bK} (h:uo d):af Pg I.uF [dY d] [] (λr fp=>r=ft d (.rs KB [] 0 d.aj.length d.aj.length 464 .tip) (.rs (KB+1) [] 0 d.aD.length d.aD.length 34 .tip)∧fp=[.arr 464 (d.aj.map aC),.arr 34 (d.aD.map cy)]):=by
 refine af.intro T.kR (by simp[F.kR]) ?_
 have BY:sk Pg I.cF [cZ d.aD] 34 (d.aD.map cy):=rC (bytes:=40) T.cF (by omega) (bR iT d.aD) (by simpa using h.aD) (by omega)
 simp[F.kR,an,aG,dY]
 refine al.own 6 (Oi h.aj) (by simp) (by simp) (by simp) (by simp) ?_
 simp
 refine jh.jY d.aj.length (λ_=>True) [1,2,10,11] (λi=>[(11,.int .i64 i)]) (λi=>[]) [.keep [1,2,10,11]] ?_
 simp
 refine⟨λi hi K hK=> ?_,λK=> ?_⟩
 ·have hx:d.aj[i]? =some d.aj[i]:=gJ hi
  have hs:=h.aW _ (List.getElem_mem hi)
  have hl:=h.aj
  simp[↓av,hi]
  refine a0.ret (jq hs.1 hs.2) (by simp) (by simp) (by simp) ?_
  simp(disch:=omega) [hi]
  refine⟨[.keep [1,2,10,11]],?_⟩
  simp
  exact hK _ (by simp;exact rD aC _ i hi)
 ·simp[↓av,↓av]
  refine ny.run [32] rfl ?_
  simp
  refine a0.ret (Lg h.bn) (by simp) (by simp) (by simp) ?_
  simp
  refine al.own 32 BY (by simp) (by simp) (bR iT d.aD) (by simp) ?_
  simp
  refine a0.ret (Lh h.timers) (by simp) (by simp) (by simp) ?_
  simp[BD]
  refine a0.ret (SE h.bD) (by simp) (by simp) (by simp) ?_
  simp
  refine a0.ret (H7 h.buckets) (by simp) (by simp) (by simp) ?_
  simp
  refine aM.with [.keep [2],.dr 1] [6,32] ?_
  simp
def EG (e:bK) (p q:PV):PV:= .st 148 [dU e.rules,e.mZ.p,e.nP.p,.int .i64 e.port,e.random.p,.int .i64 e.now,p,dV e.bn,q,db e.timers,e.ix.p,.int .i64 e.ka,.sl 0 [] true,.sl 0 [] true,.int .i64 0]
def ke (e:dC):dC:= {e with aW:=[]}
def Iw (e:dC):PV:=jo e (.sl 0 [] false)
@[simp] theorem adv (e:dC):(Iw e).width=464:=rfl
theorem EH:∀l:List dC,Nz (l.map Iw) ((l.map ke).map aC)
 |[]=> .nil
 |e::l=> .st 464 (.same _<| .same _<| .same _<| .same _<| .same _<| .same _<| .same _<| .same _<| .same _<| .same _<| .same _<| .same _<| .same _<| .same _<| .sl 0 1 false false (by simp) .nil) (EH l)
theorem qR (e:dC):Pure (Iw e):=Pure.of (by rw[Iw,xA];simp[ab])
theorem BE {α:Type} (f g:α->PV) (l:List α):∃D:Nat->List PV,D 0=l.map f∧D l.length=l.map g∧(∀i (h:i<l.length),(D i)[i]? =some (f l[i]))∧(∀i (h:i<l.length),(D i).set i (g l[i])=D (i+1))∧(∀i,(D i).length=l.length)∧((∀x,Pure (f x))->(∀x,Pure (g x))->∀i,aB (D i)):=by
 refine⟨λi=>(l.take i).map g++(l.drop i).map f,by simp,by simp,λi h=> ?_,λi h=> ?_,λi=>by simp;omega,λhf hg i=>(aB.map hg _).append (aB.map hf _)⟩
 ·have h1:((l.take i).map g).length=i:=by simp;omega
  show(((l.take i).map g)++(l.drop i).map f)[i]? =_
  rw[List.getElem?_append_right (by omega),h1,Nat.sub_self,List.getElem?_map,List.getElem?_drop,Nat.add_zero,gJ h];rfl
 ·have h1:((l.take i).map g).length=i:=by simp;omega
  show(((l.take i).map g)++(l.drop i).map f).set i _=(l.take (i+1)).map g++(l.drop (i+1)).map f
  rw[List.set_append_right _ _ (by omega),h1,Nat.sub_self,List.drop_eq_getElem_cons h,List.map_cons,List.set_cons_zero,List.take_succ_eq_append_getElem h,List.map_append,List.append_assoc]
  rfl
theorem GJ {d:bK} {ps:List dC} {S:List PV} {n:Nat} (hl:ps.length≤1048576) (hS:aB S) (hSl:S.length=n):
  af Pg I.eA [ft d (.rs KB [] 0 ps.length ps.length 464 .tip) (.rs (KB+1) [] 0 n n 34 .tip)] [.arr 464 (ps.map aC),.arr 34 S] (λr fp=>r=EG d (.rs KB [] 0 ps.length ps.length 464 .tip) (.rs (KB+1) [] 0 n n 34 .tip)∧fp=[.arr 464 (ps.map Iw),.arr 34 S]):=by
 refine af.intro T.eA (by simp[F.eA]) ?_
 obtain⟨D,d0,dn,dg,ds,dl,dp⟩:=BE aC Iw ps
 have dp:=dp eG qR
 subst hSl
 simp[F.eA,an,aG]
 rw[←d0]
 refine jh.jY ps.length (λ_=>True) [1,2,6,7] (λi=>[(7,.int .i64 i)]) (λi=>[(KB,.arr 464 (D i))]) [.keep [1,2,6,7]] ?_
 simp
 refine⟨λi hi K hK=> ?_,λK=> ?_⟩
 ·have hx:=dg i hi
  have Ua:=ds i hi
  have Ub:=dl i
  have wi:IntKind.i64.wrap ((i:Int)+1)=(i:Int)+1:=wrap_i64 (by omega)
  generalize ps[i]=e at*
  generalize D i=Di at*
  generalize D (i+1)=Di1 at*
  have PK:Di.set i (jo e (.sl 0 [] false))=Di1:=Ua
  simp[↓av,hx,hi,Ub,wi,PK,-getElem?_pos]
  refine⟨[.keep [1,2,6,7]],?_⟩
  simp
  exact hK _ (by simp)
 ·simp[↓av,↓av,ft]
  rw[dn]
  have td:aB (ps.map Iw):=aB.map qR ps
  refine aM.with [] [KB,KB+1] ?_
  simp[ah,ab,ae,aZ,aI,aO,hS.refs,hS.aI,td.refs,td.aI,EG]
theorem Ts {d:bK} {ps:List dC} {S:List PV} {n:Nat} (hl:ps.length≤1048576) (hS:aB S) (hSl:S.length=n):
  af Pg I.eA [ft d (.rs KB [] 0 ps.length ps.length 464 .tip) (.rs (KB+1) [] 0 n n 34 .tip)] [.arr 464 (ps.map aC),.arr 34 S] (λr fp=>r=ft {d with bD:=[],buckets:=[],bad:=0} (.rs KB [] 0 ps.length ps.length 464 .tip) (.rs (KB+1) [] 0 n n 34 .tip)∧fp=[.arr 464 ((ps.map ke).map aC),.arr 34 S]):=by
 refine(GJ hl hS hSl).nz ?_
 rintro r fp ⟨rfl,rfl⟩
 exact⟨_,_,.st 148 (.same _<| .same _<| .same _<| .same _<| .same _<| .same _<| .same _<| .same _<| .same _<| .same _<| .same _<| .same _<| .sl 0 1 true false (by simp)<| .sl 0 19 true false (by simp)<| .same _ .nil) .nil,.cons (.arr 464 (EH ps)) (.cons (.same _) .nil),rfl,rfl⟩
end Go.Ab
end S8s

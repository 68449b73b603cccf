/- Rule 8; slots of the document. No condition. -/
import Derived.Test.YtjkfnhhekobfgaaGreatDoorW3
set_option maxRecDepth 10000
set_option maxHeartbeats 8000000
set_option linter.all false
noncomputable section W20s
namespace Go.Ab
open Go.Ab
section
variable {α:Type} {sz:Nat} {ag:Bool} {f ix:FuncId} {e:α->PV} {l:List α} {p:α->Bool} {g:FuncId} {v w:PV}
theorem ahV (ht:jI Pg [] [] f=some (ki sz ag).er) (hL:Il sz ag e l) (hv:Pure v) (hw:Pure w)
  (hp:∀x∈l,ai Pg g [e x,.pt KB [] 0,.pt (KB+1) [] 0] [.box v,.box w] (λr fp=>r= .bl (p x)∧fp=[.box v,.box w])):
  ai Pg f [.sl sz (l.map e) false,.fn (.func g) [] [.pt KB [] 0,.pt (KB+1) [] 0]] [.box v,.box w] (λr fp=>r= .int .i64 (fi p l)∧fp=[.box v,.box w]):=by
 refine ai.intro ht (by simp[ki]) ?_
 have hl:=hL.len
 obtain⟨m,hm⟩:∃m,m=l.findIdx p:=⟨_,rfl⟩
 have hle:m≤l.length:=by rw[hm];exact List.findIdx_le_length
 have hb:∀i (h:i<l.length),i<m->p l[i]=false:=λi h h2=>List.not_of_lt_findIdx (by rw[←hm];exact h2)
 have ha:∀(h:m<l.length),p l[m]=true∧fi p l=m:=λh=>by
  have h2:p l[m]=true:=by subst hm;exact List.findIdx_getElem
  exact⟨h2,by unfold fi;rw[if_pos (List.any_eq_true.2 ⟨_,List.getElem_mem h,h2⟩),hm]⟩
 have hc:¬m<l.length->fi p l= -1:=λh=>by
  unfold fi;rw[if_neg];intro h2;exact h (by rw[hm];exact List.findIdx_lt_length.2 (List.any_eq_true.1 h2))
 clear hm
 simp[ki,aj,aF]
 refine fb.fG m (λ_=>True) [0,1,4,6,7,8] (λi=>[(8,.int .i64 i)]) (λ_=>[]) [.keep [0,1,4,6,7,8]] ?_
 simp
 refine⟨λi hi K hK=> ?_,λK=> ?_⟩
 ·have eS:i<l.length:=by omega
  have hx:l[i]? =some l[i]:=gJ eS
  obtain⟨⟨e1,e2⟩,e3,e4,e5⟩:=hL.el l[i]
  have hc:=hp l[i] (List.getElem_mem eS)
  have hf:=hb i eS hi
  rw[hf]at hc
  have wi:IntKind.i64.wrap ((i:Int)+1)=(i:Int)+1:=wrap_i64 (by omega)
  generalize l[i]=x at*
  simp[↓ah,hx,eS,e1,e2,e5,-getElem?_pos]
  refine an.gen [KB,KB+1] [] [.box v,.box w] (hc) (by simp[getAll]) (by simp) (by simp) (by simp[ab,ae,bM,idx,e3.refs]) (by simp[hv.refs,hv.aB,hw.refs,hw.aB,af,ae,ab]) (by simp[aD,aB,bp,idx,e3.aB,e4]) (by simp[hv.refs,hv.aB,hw.refs,hw.aB,aE]) (by simp[hv.refs,hv.aB,hw.refs,hw.aB,af,ae,ab,fj]) ?_
  simp[hv.refs,hv.aB,hw.refs,hw.aB,bb,aE,aB,aD,dv]
  simp[wi]
  refine⟨[.keep [0,1,4,6,7,8]],?_⟩
  simp
  exact hK _ (by simp)
 ·by_cases hn:m<l.length
  ·have hx:l[m]? =some l[m]:=gJ hn
   obtain⟨⟨e1,e2⟩,e3,e4,e5⟩:=hL.el l[m]
   have hc:=hp l[m] (List.getElem_mem hn)
   obtain⟨hf,sV⟩:=ha hn
   rw[hf]at hc
   generalize l[m]=x at*
   simp[↓ah,hx,hn,e1,e2,e5,-getElem?_pos]
   refine an.gen [KB,KB+1] [] [.box v,.box w] (hc) (by simp[getAll]) (by simp) (by simp) (by simp[ab,ae,bM,idx,e3.refs]) (by simp[hv.refs,hv.aB,hw.refs,hw.aB,af,ae,ab]) (by simp[aD,aB,bp,idx,e3.aB,e4]) (by simp[hv.refs,hv.aB,hw.refs,hw.aB,aE]) (by simp[hv.refs,hv.aB,hw.refs,hw.aB,af,ae,ab,fj]) ?_
   simp[hv.refs,hv.aB,hw.refs,hw.aB,bb,aE,aB,aD,dv]
   refine al.with [] [KB,KB+1] ?_
   simp[hv.refs,hv.aB,hw.refs,hw.aB,af,ae,ab,aE,aB,aD,fj,sV]
  ·have sV:=hc hn
   have mC:¬(m:Int)<l.length:=by omega
   simp[↓ah,mC,hn]
   refine al.with [] [KB,KB+1] ?_
   simp[hv.refs,hv.aB,hw.refs,hw.aB,af,ae,ab,aE,aB,aD,fj,sV]
theorem ahW (hf:jI Pg [] [] f=some (mG ix).er) (ht:jI Pg [] [] ix=some (ki sz ag).er) (hL:Il sz ag e l) (hv:Pure v) (hw:Pure w)
  (hp:∀x∈l,ai Pg g [e x,.pt KB [] 0,.pt (KB+1) [] 0] [.box v,.box w] (λr fp=>r= .bl (p x)∧fp=[.box v,.box w])):
  ai Pg f [.sl sz (l.map e) false,.fn (.func g) [] [.pt KB [] 0,.pt (KB+1) [] 0]] [.box v,.box w] (λr fp=>r= .bl (l.any p)∧fp=[.box v,.box w]):=by
 refine ai.intro hf (by simp[mG]) ?_
 have sZ:cD (l.map e):=dQ (λx=>(hL.el x).2.1) l
 have L3:jo (l.map e)=l.map e:=pM (λx=>(hL.el x).2.2.1) l
 simp[mG,aj,aF]
 refine an.gen [KB,KB+1] [] [.box v,.box w] (ahV (p:=p) ht hL hv hw hp) (by simp[getAll]) (by simp) (by simp) (by simp[ab,ae,bM,idx,sZ.refs]) (by simp[hv.refs,hv.aB,hw.refs,hw.aB,af,ae,ab]) (by simp[aD,aB,bp,idx,sZ.aB,L3]) (by simp[hv.refs,hv.aB,hw.refs,hw.aB,aE]) (by simp[hv.refs,hv.aB,hw.refs,hw.aB,af,ae,ab,fj]) ?_
 simp[hv.refs,hv.aB,hw.refs,hw.aB,bb,aE,aB,aD,dv]
 refine al.with [] [KB,KB+1] ?_
 simp[hv.refs,hv.aB,hw.refs,hw.aB,af,ae,ab,aE,aB,aD,fj,sL]
end
theorem Lt:∀a b:List UInt8,a.length=b.length->(rH a b=0↔a=b)
 |[],[],_=>by rw[rA];simp
 |[],y::b,h=>by simp at h
 |x::a,[],h=>by simp at h
 |
  x::a,y::b,h=>by
  rw[vq]
  have:=Lt a b (by simpa using h)
  by_cases e:x=y
  ·subst e;simpa using this
  ·by_cases h2:x<y
   ·simp[e,h2]
   ·simp[e,h2]
theorem Lu (a b:Key):rH a.l b.l=0↔a=b:=by
 rw[Lt _ _ (by rw[a.h,b.h])]
 exact⟨Key.ext',λe=>by rw[e]⟩
def D6 (k:Key) (n:Int) (t:iR):Bool:=decide (t.peer=k)&&decide (t.kind=n)
def hasB (l:List iR) (k:Key) (n:Int):Bool:=l.any (D6 k n)
theorem GQ {l:List iR} (h:l.length≤1048576):Il 34 true iv l:=⟨h,λx=>⟨⟨rfl,rfl⟩,by simp,by simp,λK=>by simp⟩⟩
theorem pof (t:iR) (k:Key) (n:Int):bg Pg I.fw [.st 34 [iv t],dU k,.int .i64 n] (.bl (D6 k n t)):=by
 refine ai.intro T.fw (by simp[F.fw]) ?_
 by_cases h1:t.peer=k
 ·simp[F.fw,aj,aF,gr,h1,av]
  refine al.plain [] ?_
  simp[D6,h1]
 ·simp[F.fw,aj,aF,gr,h1,av]
  refine al.plain [] ?_
  simp[D6,h1]
theorem ab5 (t:iR) (k:Key) (n:Int):ai Pg I.gV [iv t,.pt KB [] 0,.pt (KB+1) [] 0] [.box (dU k),.box (.int .i64 n)] (λr fp=>r= .bl (D6 k n t)∧fp=[.box (dU k),.box (.int .i64 n)]):=by
 refine ai.intro T.gV (by simp[F.gV]) ?_
 simp[F.gV,aj,aF,av]
 refine an.ret (pof t k n) (by simp) (by simp) (by simp) ?_
 simp
 refine al.with [] [KB,KB+1] ?_
 simp[af,ae,ab,aE,aB,aD,fj]
theorem Pb {l:List iR} (hl:l.length≤1048576) (k:Key) (n:Int):bg Pg I.jB [.sl 34 (l.map iv) false,dU k,.int .i64 n] (.bl (hasB l k n)):=by
 refine ai.intro T.jB (by simp[F.jB]) ?_
 have hc:=ahW (f:=I.ba) (ix:=I.bm) (p:=D6 k n) T.ba T.bm (GQ hl) (g:=I.gV) (v:=dU k) (w:= .int .i64 n) (by simp) (by simp) (λx _=>ab5 x k n)
 simp[F.jB,aj,aF]
 refine an.gen [4,5] [] [.box (dU k),.box (.int .i64 n)] hc (by simp[getAll]) (by simp) (by simp) (by simp[ab,ae,bM,idx,(dQ oR l).refs]) (by simp[af,ae]) (by simp[aD,aB,bp,idx,(dQ oR l).aB]) (by simp[aE,aB]) (by simp[af,ae]) ?_
 simp[bb,aE,aB,dv]
 refine al.plain [] ?_
 simp[hasB]
theorem Pc (a b:iR):bg Pg I.ef [.st 34 [iv a],.st 34 [iv b]] (.bl (iF a b)):=by
 refine ai.intro T.ef (by simp[F.ef]) ?_
 have g1:bf (.st 34 [iv a]) [.f 0 0,.f 1 1]=some (.ar 1 32 (a.peer.l.map u8)):=by simp[av,dU]
 have g2:bf (.st 34 [iv b]) [.f 0 0,.f 1 1]=some (.ar 1 32 (b.peer.l.map u8)):=by simp[av,dU]
 have hv:=GM g1 g2 a.peer.h b.peer.h
 have p1:Pure (.st 34 [iv a]):=by simp
 have p2:Pure (.st 34 [iv b]):=by simp
 by_cases h1:a.at_=b.at_
 ·simp[F.ef,aj,aF,av,h1]
  refine an.gen [2,3] [] [.box (.st 34 [iv a]),.box (.st 34 [iv b])] hv (by simp[getAll]) (by simp) (by simp) (by simp[ab,ae,bM,idx]) (by simp[af,p1.refs,p2.refs]) (by simp[aD,aB,bp,idx]) (by simp[aE,p1.aB,p2.aB]) (by simp[af,ae,p1.refs,p2.refs]) ?_
  simp[bb,aE,aB,dv,p1.aB,p2.aB]
  by_cases h2:a.peer=b.peer
  ·have h3:=(Lu a.peer b.peer).2 h2
   simp[h3,av]
   refine al.plain [] ?_
   simp[iF,h1,h2]
  ·have h3:¬rH a.peer.l b.peer.l=0:=λe=>h2 ((Lu _ _).1 e)
   simp[h3,av]
   refine al.plain [] ?_
   simp[iF,h1,h2,RL,←rB]
 ·simp[F.ef,aj,aF,av,h1]
  refine al.plain [] ?_
  simp[iF,h1]
theorem Lv (a b:iR):bg Pg I.iM [iv a,iv b] (.bl (iF a b)):=by
 refine ai.intro T.iM (by simp[F.iM]) ?_
 simp[F.iM,aj,aF,av]
 refine an.ret (Pc a b) (by simp) (by simp) (by simp) ?_
 simp
 refine al.plain [] ?_
 simp
theorem ab6 {l:List iR} (hl:l.length≤1048576) (k:Key) (n:Int):bg Pg I.dp [cN l,dU k,.int .i64 n] (.bl (hasB l k n)):=by
 refine ai.intro T.dp (by simp[F.dp]) ?_
 obtain⟨m,hle,jP,jQ,uo⟩:=pT (D6 k n) l
 simp[F.dp,aj,aF]
 refine fb.fG m (λ_=>True) [2,4,6,9,10,11] (λi=>[(11,.int .i64 i)]) (λi=>[]) [.keep [2,4,6,9,10,11]] ?_
 simp
 refine⟨λi hi K hK=> ?_,λK=> ?_⟩
 ·have eS:i<l.length:=by omega
  have hx:l[i]? =some l[i]:=gJ eS
  have he:=jP i eS hi
  by_cases h1:l[i].peer=k
  ·have h2:¬l[i].kind=n:=by simpa[D6,h1]using he
   simp[↓ah,hx,eS,h2,gr,h1,cu eS hl]
   refine⟨[.keep [2,4,6,9,10,11],.dr 8],?_⟩
   simp
   exact hK _ (by simp)
  ·simp[↓ah,hx,eS,gr,h1,cu eS hl]
   refine⟨[.keep [2,4,6,9,10,11],.dr 8],?_⟩
   simp
   exact hK _ (by simp)
 ·by_cases hn:m<l.length
  ·have hx:l[m]? =some l[m]:=gJ hn
   obtain⟨h1,h2,h3⟩:=jQ hn
   have he:l[m].peer=k∧l[m].kind=n:=by simpa[D6]using h1
   simp[↓ah,hx,hn,he.1,he.2,gr]
   refine al.plain [] ?_
   simp[hasB,h3]
  ·obtain⟨h2,h3⟩:=uo hn
   have mC:¬((m:Int)<l.length):=by omega
   simp[↓ah,mC,hn]
   refine al.plain [] ?_
   simp[hasB,h3]
end Go.Ab
end W20s
noncomputable section W21s
namespace Go.Ab
open Go.Ab
def B1 (t:iR):Bool:=decide (t.kind<1)||(decide (5<t.kind)||(decide (t.at_<0)||decide (4398046511104<t.at_)))
def zJ (l:List iR) (i:Nat):Bool:=match l[i]?with
 |none=>false
 |
  some t=>B1 t||((match i with
  |0=>false
  |
   j+1=>match l[j]?with
   |none=>false
   |some s=> !iF s t)||hasB (l.take i) t.peer t.kind)
theorem GR {l:List iR} {t:iR} (h:l[0]? =some t):zJ l 0=B1 t:=by simp[zJ,h,hasB]
theorem GS {l:List iR} {j:Nat} {s t:iR} (hs:l[j]? =some s) (ht:l[j+1]? =some t):zJ l (j+1)=(B1 t||(!iF s t||hasB (l.take (j+1)) t.peer t.kind)):=by simp only[zJ,hs,ht]
def MQ (l:List iR):Bool:=decide (fst (zJ l) l.length=l.length)
theorem B2 {t:iR} (h:B1 t=false):¬t.kind<1∧¬5<t.kind∧¬t.at_<0∧¬4398046511104<t.at_:=by simpa[B1]using h
theorem Pd {l:List iR} (hl:l.length≤1048576):bg Pg I.jm [cN l] (.bl (MQ l)):=by
 refine ai.intro T.jm (by simp[F.jm]) ?_
 have hle:=gu (zJ l) l.length
 have jP:∀i,i<fst (zJ l) l.length->zJ l i=false:=λi h=>gD h
 have jQ:fst (zJ l) l.length<l.length->zJ l (fst (zJ l) l.length)=true:=gN
 have hr:MQ l=decide (fst (zJ l) l.length=l.length):=rfl
 generalize fst (zJ l) l.length=n at*
 simp[F.jm,aj,aF]
 refine fb.fG n (λ_=>True) [0,2,5,6,7] (λi=>[(7,.int .i64 i)]) (λi=>[]) [.keep [0,2,5,6,7]] ?_
 simp
 refine⟨λi hi K hK=> ?_,λK=> ?_⟩
 ·have eS:i<l.length:=by omega
  have hx:l[i]? =some l[i]:=gJ eS
  have hb:=jP i hi
  have hH:=Pb (l:=l.take i) (by rw[lJ];omega) l[i].peer l[i].kind
  by_cases hz:i=0
  ·subst hz
   rw[GR hx]at hb
   obtain⟨g1,g2,g3,g4⟩:=B2 hb
   rw[show hasB (l.take 0) l[0].peer l[0].kind=false from rfl]at hH
   simp at hH
   simp[↓ah,hx,eS,g1,g2,g3,g4,cN]
   refine aU.ret hH (by simp) (by simp) (by simp) ?_
   simp
   refine⟨[.keep [0,2,5,6,7],.dr 4],?_⟩
   simp
   exact hK _ (by simp[cN])
  ·obtain⟨j,rfl⟩:∃j,i=j+1:=⟨i-1,by omega⟩
   have hj:j<l.length:=by omega
   have hy:l[j]? =some l[j]:=gJ hj
   rw[GS hy hx]at hb
   simp only[Bool.or_eq_false_iff]at hb
   obtain⟨oA,pg,hb3⟩:=hb
   obtain⟨g1,g2,g3,g4⟩:=B2 oA
   have hL:=Lv l[j] l[j+1]
   rw[show iF l[j] l[j+1]=true by simpa using pg]at hL
   rw[hb3]at hH
   have hw:IntKind.i64.wrap (j:Int)=j:=wrap_i64 (by omega)
   have hp:(0:Int)<(j:Int)+1:=by omega
   have hg:(j:Int)+1<l.length:=by omega
   have mR:(0:Int)≤(j:Int)+1:=by omega
   have ht:((j:Int)+1).toNat=j+1:=by omega
   have w2:=cu eS hl
   simp at w2
   simp[↓ah,hx,hy,eS,hj,g1,g2,g3,g4,hw,hp,hg,mR,ht,cN]
   refine aU.ret hL (by simp) (by simp) (by simp) ?_
   simp[cN,show(j:Int)+1≤l.length by omega,ht,mR]
   refine aU.ret hH (by simp) (by simp) (by simp) ?_
   simp[w2]
   refine⟨[.keep [0,2,5,6,7],.dr 4],?_⟩
   simp
   exact hK _ (by simp[cN])
 ·by_cases hn:n<l.length
  ·have hx:l[n]? =some l[n]:=gJ hn
   have hb:=jQ hn
   have bS:¬n=l.length:=by omega
   by_cases g1:l[n].kind<1
   ·simp[↓ah,hx,hn,g1,cN]
    refine al.plain [] ?_
    simp[hr,bS]
   by_cases g2:5<l[n].kind
   ·simp[↓ah,hx,hn,g1,g2,cN]
    refine al.plain [] ?_
    simp[hr,bS]
   by_cases g3:l[n].at_<0
   ·simp[↓ah,hx,hn,g1,g2,g3,cN]
    refine al.plain [] ?_
    simp[hr,bS]
   by_cases g4:4398046511104<l[n].at_
   ·simp[↓ah,hx,hn,g1,g2,g3,g4,cN]
    refine al.plain [] ?_
    simp[hr,bS]
   have hB:B1 l[n]=false:=by simp[B1,g1,g2,g3,g4]
   by_cases hz:n=0
   ·subst hz
    rw[GR hx,hB]at hb
    exact absurd hb (by simp)
   obtain⟨j,rfl⟩:∃j,n=j+1:=⟨n-1,by omega⟩
   have hj:j<l.length:=by omega
   have hy:l[j]? =some l[j]:=gJ hj
   rw[GS hy hx,hB]at hb
   have hL:=Lv l[j] l[j+1]
   have hw:IntKind.i64.wrap (j:Int)=j:=wrap_i64 (by omega)
   have hp:(0:Int)<(j:Int)+1:=by omega
   have hg:(j:Int)+1<l.length:=by omega
   have mR:(0:Int)≤(j:Int)+1:=by omega
   have pj:min (j+1) l.length=j+1:=by omega
   have ht:((j:Int)+1).toNat=j+1:=by omega
   simp[↓ah,hx,hy,hn,hj,g1,g2,g3,g4,hw,hp,hg,mR,ht,cN]
   refine aU.ret hL (by simp) (by simp) (by simp) ?_
   cases dG:iF l[j] l[j+1]
   ·simp
    refine al.plain [] ?_
    simp[hr,bS]
   have hH:hasB (l.take (j+1)) l[j+1].peer l[j+1].kind=true:=by simpa[dG]using hb
   have hP:=Pb (l:=l.take (j+1)) (by rw[lJ];omega) l[j+1].peer l[j+1].kind
   rw[hH]at hP
   simp[cN,show(j:Int)+1≤l.length by omega,ht,mR,pj]
   refine aU.ret hP (by simp) (by simp) (by simp) ?_
   simp
   refine al.plain [] ?_
   simp[hr,bS]
  ·have bS:n=l.length:=by omega
   have mC:¬((n:Int)<l.length):=by omega
   simp[↓ah,mC,hn]
   refine al.plain [] ?_
   simp[hr,bS]
theorem Pe {l:List iR} (hl:l.length≤1048576):bg Pg I.bB [cN l] (.bl (MQ l)):=by
 refine ai.intro T.bB (by simp[F.bB]) ?_
 have hle:=gu (zJ l) l.length
 have jP:∀i,i<fst (zJ l) l.length->zJ l i=false:=λi h=>gD h
 have jQ:fst (zJ l) l.length<l.length->zJ l (fst (zJ l) l.length)=true:=gN
 have hr:MQ l=decide (fst (zJ l) l.length=l.length):=rfl
 generalize fst (zJ l) l.length=n at*
 simp[F.bB,aj,aF]
 refine fb.fG n (λ_=>True) [0,2,7,8,9] (λi=>[(9,.int .i64 i)]) (λi=>[]) [.keep [0,2,7,8,9]] ?_
 simp
 refine⟨λi hi K hK=> ?_,λK=> ?_⟩
 ·have eS:i<l.length:=by omega
  have hx:l[i]? =some l[i]:=gJ eS
  have hb:=jP i hi
  by_cases hz:i=0
  ·subst hz
   rw[GR hx]at hb
   obtain⟨g1,g2,g3,g4⟩:=B2 hb
   simp[↓ah,hx,eS,g1,g2,g3,g4,cN]
   refine fb.fG 0 (λ_=>True) [0,2,4,7,8,9,48,49,50] (λi=>[]) (λi=>[]) [.keep [0,2,4,7,8,9,48,49,50]] ?_
   simp
   intro K2
   simp[↓ah]
   refine⟨[.keep [0,2,7,8,9],.dr 4],?_⟩
   simp
   exact hK _ (by simp[cN])
  ·obtain⟨j,rfl⟩:∃j,i=j+1:=⟨i-1,by omega⟩
   have hj:j<l.length:=by omega
   have hy:l[j]? =some l[j]:=gJ hj
   rw[GS hy hx]at hb
   simp only[Bool.or_eq_false_iff]at hb
   obtain⟨oA,pg,hb3⟩:=hb
   obtain⟨g1,g2,g3,g4⟩:=B2 oA
   have hL:=aW l[j] l[j+1]
   rw[show iF l[j] l[j+1]=true by simpa using pg]at hL
   have hw:IntKind.i64.wrap (j:Int)=j:=wrap_i64 (by omega)
   have hp:(0:Int)<(j:Int)+1:=by omega
   have hg:(j:Int)+1<l.length:=by omega
   have mR:(0:Int)≤(j:Int)+1:=by omega
   have pj:min (j+1) l.length=j+1:=by omega
   have ht:((j:Int)+1).toNat=j+1:=by omega
   have w2:=cu eS hl
   simp at w2
   have dM:∀m (h:m<l.length),m<j+1->D6 l[j+1].peer l[j+1].kind l[m]=false:=λm h h2=>by
    have:=List.any_eq_false.1 hb3 l[m] (by rw[List.mem_iff_getElem];exact⟨m,by rw[lJ];omega,by rw[List.getElem_take]⟩)
    simpa using this
   simp[↓ah,hx,hy,eS,hj,g1,g2,g3,g4,hw,hp,hg,mR,ht,cN]
   refine aU.ret hL (by simp) (by simp) (by simp) ?_
   simp[cN,show(j:Int)+1≤l.length by omega,ht,mR,pj]
   refine fb.fG (j+1) (λ_=>True) [0,2,4,7,8,9,48,49,50] (λm=>[(50,.int .i64 m)]) (λi=>[]) [.keep [0,2,4,7,8,9,48,49,50]] ?_
   simp
   refine⟨λm hm K2 lX=> ?_,λK2=> ?_⟩
   ·have mD:m<l.length:=by omega
    have P3:(m:Int)<(j:Int)+1:=by omega
    have uw:l[m]? =some l[m]:=gJ mD
    have hu:=dM m mD hm
    by_cases hp:l[j+1].peer=l[m].peer
    ·have hk:¬l[j+1].kind=l[m].kind:=λe=>by simp[D6,hp,e]at hu
     simp[↓ah,pj,uw,hm,mD,P3,gr,hp,hk,cu hm (by omega)]
     refine⟨[.keep [0,2,4,7,8,9,48,49,50],.dr 6],?_⟩
     simp
     exact lX _ (by simp)
    ·simp[↓ah,pj,uw,hm,mD,P3,gr,hp,cu hm (by omega)]
     refine⟨[.keep [0,2,4,7,8,9,48,49,50],.dr 6],?_⟩
     simp
     exact lX _ (by simp)
   ·simp[↓ah,w2]
    refine⟨[.keep [0,2,7,8,9],.dr 4],?_⟩
    simp
    exact hK _ (by simp[cN])
 ·by_cases hn:n<l.length
  ·have hx:l[n]? =some l[n]:=gJ hn
   have hb:=jQ hn
   have bS:¬n=l.length:=by omega
   by_cases g1:l[n].kind<1
   ·simp[↓ah,hx,hn,g1,cN]
    refine al.plain [] ?_
    simp[hr,bS]
   by_cases g2:5<l[n].kind
   ·simp[↓ah,hx,hn,g1,g2,cN]
    refine al.plain [] ?_
    simp[hr,bS]
   by_cases g3:l[n].at_<0
   ·simp[↓ah,hx,hn,g1,g2,g3,cN]
    refine al.plain [] ?_
    simp[hr,bS]
   by_cases g4:4398046511104<l[n].at_
   ·simp[↓ah,hx,hn,g1,g2,g3,g4,cN]
    refine al.plain [] ?_
    simp[hr,bS]
   have hB:B1 l[n]=false:=by simp[B1,g1,g2,g3,g4]
   by_cases hz:n=0
   ·subst hz
    rw[GR hx,hB]at hb
    exact absurd hb (by simp)
   obtain⟨j,rfl⟩:∃j,n=j+1:=⟨n-1,by omega⟩
   have hj:j<l.length:=by omega
   have hy:l[j]? =some l[j]:=gJ hj
   rw[GS hy hx,hB]at hb
   have hL:=aW l[j] l[j+1]
   have hw:IntKind.i64.wrap (j:Int)=j:=wrap_i64 (by omega)
   have hp:(0:Int)<(j:Int)+1:=by omega
   have hg:(j:Int)+1<l.length:=by omega
   have mR:(0:Int)≤(j:Int)+1:=by omega
   have pj:min (j+1) l.length=j+1:=by omega
   have ht:((j:Int)+1).toNat=j+1:=by omega
   simp[↓ah,hx,hy,hn,hj,g1,g2,g3,g4,hw,hp,hg,mR,ht,cN]
   refine aU.ret hL (by simp) (by simp) (by simp) ?_
   cases dG:iF l[j] l[j+1]
   ·simp
    refine al.plain [] ?_
    simp[hr,bS]
   have hH:hasB (l.take (j+1)) l[j+1].peer l[j+1].kind=true:=by simpa[dG]using hb
   obtain⟨q,Wh,Ml,Mm,Wi⟩:=pT (D6 l[j+1].peer l[j+1].kind) (l.take (j+1))
   have hq:q<(l.take (j+1)).length:=by
    by_cases h:q<(l.take (j+1)).length
    ·exact h
    ·have:=(Wi h).2;unfold hasB at hH;rw[this]at hH;cases hH
   have hq1:=(Mm hq).1
   rw[List.getElem_take]at hq1
   rw[lJ]at hq Wh
   simp[cN,show(j:Int)+1≤l.length by omega,ht,mR,pj]
   refine fb.fG q (λ_=>True) [0,2,4,7,8,9,48,49,50] (λm=>[(50,.int .i64 m)]) (λi=>[]) [.keep [0,2,4,7,8,9,48,49,50]] ?_
   simp
   refine⟨λm hm K2 lX=> ?_,λK2=> ?_⟩
   ·have mD:m<l.length:=by omega
    have yU:m<j+1:=by omega
    have P3:(m:Int)<(j:Int)+1:=by omega
    have uw:l[m]? =some l[m]:=gJ mD
    have hu:=Ml m (by rw[lJ];omega) hm
    rw[List.getElem_take]at hu
    by_cases hp:l[j+1].peer=l[m].peer
    ·have hk:¬l[j+1].kind=l[m].kind:=λe=>by simp[D6,hp,e]at hu
     simp[↓ah,pj,uw,yU,mD,P3,gr,hp,hk,cu yU (by omega)]
     refine⟨[.keep [0,2,4,7,8,9,48,49,50],.dr 6],?_⟩
     simp
     exact lX _ (by simp)
    ·simp[↓ah,pj,uw,yU,mD,P3,gr,hp,cu yU (by omega)]
     refine⟨[.keep [0,2,4,7,8,9,48,49,50],.dr 6],?_⟩
     simp
     exact lX _ (by simp)
   ·have mD:q<l.length:=by omega
    have yU:q<j+1:=by omega
    have P3:(q:Int)<(j:Int)+1:=by omega
    have uw:l[q]? =some l[q]:=gJ mD
    have he:l[q].peer=l[j+1].peer∧l[q].kind=l[j+1].kind:=by simpa[D6]using hq1
    simp[↓ah,pj,uw,yU,mD,P3,gr,he.1,he.2]
    refine al.plain [] ?_
    simp[hr,bS]
  ·have bS:n=l.length:=by omega
   have mC:¬((n:Int)<l.length):=by omega
   simp[↓ah,mC,hn]
   refine al.plain [] ?_
   simp[hr,bS]
end Go.Ab
end W21s
noncomputable section W22s
namespace Go.Ab
open Go.Ab
def B3 (d:cK) (t:iR):Bool:=decide (t.at_≤d.now)|| !iw d t.peer
def zL (d:cK) (p:fg):Bool:=(hasB d.timers p.fF 1==p.hand.has)&&(!decide (p.oS=0)|| !hasB d.timers p.fF 4)
def r8 (d:cK):Bool:=MQ d.timers&&(!d.timers.any (B3 d)&&d.aa.all (zL d))
theorem ab7 {d:cK} (hl:d.aa.length≤1048576) (t:iR):ai Pg I.eN [iv t,.pt KB [] 0] [.box (bE d)] (λr fp=>r= .bl (B3 d t)∧fp=[.box (bE d)]):=by
 refine ai.intro T.eN (by simp[F.eN]) ?_
 by_cases hn:t.at_≤d.now
 ·simp[F.eN,aj,aF,hn]
  refine al.with [] [KB] ?_
  simp[af,(aK d).refs,aE,(aK d).aB,B3,hn]
 ·simp[F.eN,aj,aF,hn]
  refine an.ret (Lk hl t.peer) (by simp) (by simp) (by simp) ?_
  simp
  refine al.with [] [KB] ?_
  simp[af,(aK d).refs,aE,(aK d).aB,B3,hn]
theorem ab8 {d:cK} (hl:d.timers.length≤1048576) (p:fg):ai Pg I.fQ [br p,.pt KB [] 0] [.box (bE d)] (λr fp=>r= .bl (zL d p)∧fp=[.box (bE d)]):=by
 refine ai.intro T.fQ (by simp[F.fQ]) ?_
 have h1:=Pb hl p.fF 1
 have h4:=Pb hl p.fF 4
 simp[F.fQ,aj,aF,cN]
 refine aU.ret h1 (by simp) (by simp) (by simp) ?_
 cases g1:hasB d.timers p.fF 1<;>cases g2:p.hand.has
 case false.true=>
  simp[g2]
  refine al.with [] [KB] ?_
  simp[af,(aK d).refs,aE,(aK d).aB,zL,g1,g2]
 case true.false=>
  simp[g2]
  refine al.with [] [KB] ?_
  simp[af,(aK d).refs,aE,(aK d).aB,zL,g1,g2]
 all_goals
  by_cases hk:p.oS=0
  ·simp[hk,g2,cN]
   refine aU.ret h4 (by simp) (by simp) (by simp) ?_
   simp
   refine al.with [] [KB] ?_
   simp[af,(aK d).refs,aE,(aK d).aB,zL,g1,g2,hk]
  ·simp[hk,g2]
   refine al.with [] [KB] ?_
   simp[af,(aK d).refs,aE,(aK d).aB,zL,g1,g2,hk]
theorem Pf {d:cK} (hl:d.aa.length≤1048576) (ht:d.timers.length≤1048576):bg Pg I.gn [bE d] (.bl (r8 d)):=by
 refine ai.intro T.gn (by simp[F.gn]) ?_
 have hc:=OZ (f:=I.ba) (ix:=I.bm) (p:=B3 d) T.ba T.bm (GQ ht) (g:=I.eN) (v:=bE d) (by simp) (λx _=>ab7 hl x)
 have hr:r8 d=(MQ d.timers&&(!d.timers.any (B3 d)&&d.aa.all (zL d))):=rfl
 generalize d.timers.any (B3 d)=b at hc hr
 simp[F.gn,aj,aF]
 refine an.ret (Pd ht) (by simp) (by simp) (by simp) ?_
 cases g1:MQ d.timers
 ·simp
  refine al.plain [] ?_
  simp[r8,g1]
 simp
 refine an.gen [1] [] [.box (bE d)] hc (by simp[getAll]) (by simp) (by simp) (by simp[ab,ae,bM,idx,cN,(dQ oR d.timers).refs]) (by simp[af,(aK d).refs]) (by simp[aD,aB,bp,idx,cN,(dQ oR d.timers).aB]) (by simp[aE,(aK d).aB]) (by simp[af,ae,(aK d).refs]) ?_
 simp[bb,aE,aB,dv,(aK d).aB]
 cases b
 ·simp
  refine pS hl (by simp) (λx _=>ab8 ht x) ?_
  simp
  refine al.plain [] ?_
  simp[hr,g1]
 ·simp
  refine al.plain [] ?_
  simp[hr,g1]
def Lw (d:cK) (k:Key):Bool:=match d.aa[(fi (xf k) d.aa).toNat]?with
 |some p=>decide (p.oS=0)
 |none=>false
def B4 (d:cK) (t:iR):Bool:= !(decide (t.at_≤d.now)||(!iw d t.peer||(decide (t.kind=4)&&Lw d t.peer)))
def Lx (d:cK) (p:fg):Bool:=hasB d.timers p.fF 1==p.hand.has
def Yx (d:cK):Bool:=MQ d.timers&&(d.timers.all (B4 d)&&d.aa.all (Lx d))
theorem ab9 {d:cK} {k:Key}:iw d k=decide (0≤fi (xf k) d.aa):=(sL (xf k) d.aa).symm
theorem GU {d:cK} {k:Key} (h:iw d k=true):∃(m:Nat) (hm:m<d.aa.length),fi (xf k) d.aa=m∧d.aa[m].fF=k:=by
 obtain⟨m,hle,jP,jQ,uo⟩:=pT (xf k) d.aa
 have hm:m<d.aa.length:=by
  by_cases e:m<d.aa.length
  ·exact e
  ·have:=(uo e).2;unfold iw at h;rw[this]at h;cases h
 obtain⟨h1,h2,_⟩:=jQ hm
 exact⟨m,hm,h2,by simpa[xf]using h1⟩
theorem Ph {d:cK} (hl:d.aa.length≤1048576) (ht:d.timers.length≤1048576):bg Pg I.cX [bE d] (.bl (Yx d)):=by
 refine ai.intro T.cX (by simp[F.cX]) ?_
 obtain⟨n,hle,jP,jQ,dM⟩:=zI (B4 d) d.timers
 obtain⟨m,Iz,ajk,ajl,L6⟩:=zI (Lx d) d.aa
 have hr:Yx d=(MQ d.timers&&(decide (n=d.timers.length)&&decide (m=d.aa.length))):=by unfold Yx;rw[dM,L6]
 simp[F.cX,aj,aF]
 refine an.ret (Pe ht) (by simp) (by simp) (by simp) ?_
 cases hv:MQ d.timers
 ·simp
  refine al.plain [] ?_
  simp[hr,hv]
 simp
 refine fb.fG n (λ_=>True) [1,2,13,14,15] (λi=>[(15,.int .i64 i)]) (λi=>[]) [.keep [1,2,13,14,15]] ?_
 simp
 refine⟨λi hi K hK=> ?_,λK=> ?_⟩
 ·have eS:i<d.timers.length:=by omega
  have hx:d.timers[i]? =some d.timers[i]:=gJ eS
  have hq:=jP i eS hi
  generalize d.timers[i]=t at*
  have hf:=GO hl t.peer
  have wK:¬t.at_≤d.now:=by intro e;simp[B4,e]at hq
  have lY:iw d t.peer=true:=by cases e:iw d t.peer<;>simp[B4,e]at hq⊢
  obtain⟨j,hj,he,_⟩:=GU lY
  have hy:d.aa[j]? =some d.aa[j]:=gJ hj
  have nu:t.kind=4->¬d.aa[j].oS=0:=by
   intro e1 e2
   simp[B4,e1,Lw,he,hy,e2]at hq
  rw[he]at hf
  have DX:¬(j:Int)<0:=by omega
  simp[↓ah,hx,eS,-getElem?_pos]
  refine an.ret hf (by simp) (by simp) (by simp) ?_
  by_cases hk:t.kind=4
  ·have V8:=nu hk
   simp[wK,DX,hk,hy,hj,V8,cu eS ht]
   refine⟨[.keep [1,2,13,14,15],.dr 4],?_⟩
   simp
   exact hK _ (by simp)
  ·simp[wK,DX,hk,hy,hj,cu eS ht]
   refine⟨[.keep [1,2,13,14,15],.dr 4],?_⟩
   simp
   exact hK _ (by simp)
 ·by_cases hn:n<d.timers.length
  ·have bS:¬n=d.timers.length:=by omega
   have hx:d.timers[n]? =some d.timers[n]:=gJ hn
   have hq:=jQ hn
   generalize d.timers[n]=t at*
   have hf:=GO hl t.peer
   simp[↓ah,hx,hn,-getElem?_pos]
   refine an.ret hf (by simp) (by simp) (by simp) ?_
   by_cases wK:t.at_≤d.now
   ·simp[wK]
    refine al.plain [] ?_
    simp[hr,bS]
   cases lY:iw d t.peer
   ·have na:fi (xf t.peer) d.aa<0:=by
     have:=ab9 (d:=d) (k:=t.peer);rw[lY]at this
     have:=of_decide_eq_false this.symm;omega
    simp[wK,na]
    refine al.plain [] ?_
    simp[hr,bS]
   obtain⟨j,hj,he,_⟩:=GU lY
   have hy:d.aa[j]? =some d.aa[j]:=gJ hj
   have hk:t.kind=4∧d.aa[j].oS=0:=by
    by_cases e1:t.kind=4<;>by_cases e2:d.aa[j].oS=0<;>simp[B4,wK,lY,e1,e2,Lw,he,hy]at hq⊢
   have DX:¬(j:Int)<0:=by omega
   simp[wK,he,DX,hk.1,hy,hj,hk.2]
   refine al.plain [] ?_
   simp[hr,bS]
  have bS:n=d.timers.length:=by omega
  have mC:¬((n:Int)<d.timers.length):=by omega
  simp[↓ah,mC,hn]
  refine fb.fG m (λ_=>True) [1,2,48,49,50] (λi=>[(50,.int .i64 i)]) (λi=>[]) [.keep [1,2,48,49,50]] ?_
  simp
  refine⟨λi hi K hK=> ?_,λK=> ?_⟩
  ·have eS:i<d.aa.length:=by omega
   have hx:d.aa[i]? =some d.aa[i]:=gJ eS
   have hq:=ajk i eS hi
   generalize d.aa[i]=p at*
   have hs:=ab6 ht p.fF 1
   have h6:hasB d.timers p.fF 1=p.hand.has:=by simpa[Lx]using hq
   rw[h6]at hs
   simp[↓ah,hx,eS,-getElem?_pos]
   refine aU.ret hs (by simp) (by simp) (by simp) ?_
   simp[cu eS hl]
   refine⟨[.keep [1,2,48,49,50],.dr 7],?_⟩
   simp
   exact hK _ (by simp)
  ·by_cases hm:m<d.aa.length
   ·have hme:¬m=d.aa.length:=by omega
    have hx:d.aa[m]? =some d.aa[m]:=gJ hm
    have hq:=ajl hm
    generalize d.aa[m]=p at*
    have hs:=ab6 ht p.fF 1
    have h6:hasB d.timers p.fF 1= !p.hand.has:=by cases e1:hasB d.timers p.fF 1<;>cases e2:p.hand.has<;>simp[Lx,e1,e2]at hq⊢
    rw[h6]at hs
    simp[↓ah,hx,hm,-getElem?_pos]
    refine aU.ret hs (by simp) (by simp) (by simp) ?_
    simp
    refine al.plain [] ?_
    simp[hr,hme]
   ·have hme:m=d.aa.length:=by omega
    have mC:¬((m:Int)<d.aa.length):=by omega
    simp[↓ah,mC,hm]
    refine al.plain [] ?_
    simp[hr,hv,bS,hme]
def Dst (l:List fg):Prop:=∀(i j:Nat) (hi:i<l.length) (hj:j<l.length),l[i].fF=l[j].fF->i=j
theorem aca {d:cK} (hd:Dst d.aa):Yx d=r8 d:=by
 unfold Yx r8
 congr 1
 rw[Bool.eq_iff_iff]
 simp only[aJ,List.all_eq_true,Bool.not_eq_true',List.any_eq_false]
 have key:∀p∈d.aa,iw d p.fF=true∧Lw d p.fF=decide (p.oS=0):=λp hp=>by
  have hk:iw d p.fF=true:=List.any_eq_true.2 ⟨p,hp,by simp[xf]⟩
  obtain⟨j,hj,he,h2⟩:=GU hk
  obtain⟨i,hi,rfl⟩:=List.mem_iff_getElem.1 hp
  have:=hd j i hj hi h2
  subst this
  exact⟨hk,by simp[Lw,he,hj]⟩
 constructor
 ·rintro⟨h1,h2⟩
  refine⟨λt ht e=> ?_,λp hp=> ?_⟩
  ·have:=h1 t ht
   simp only[B4,B3]at this e
   cases g1:decide (t.at_≤d.now)<;>cases g2:iw d t.peer<;>simp_all
  ·have h3:=h2 p hp
   simp only[zL]
   simp only[Lx]at h3
   rw[h3,Bool.true_and]
   by_cases hk:p.oS=0
   ·cases h4:hasB d.timers p.fF 4
    ·simp
    ·obtain⟨t,ht,e⟩:=List.any_eq_true.1 h4
     have e:t.peer=p.fF∧t.kind=4:=by simpa[D6]using e
     have h5:=h1 t ht
     have:=(key p hp).2
     simp[B4,e.1,e.2,this,hk]at h5
   ·simp[hk]
 ·rintro⟨h1,h2⟩
  refine⟨λt ht=> ?_,λp hp=> ?_⟩
  ·have h3:=h1 t ht
   simp only[B4]
   simp only[B3]at h3
   by_cases hn:t.at_≤d.now
   ·simp[hn]at h3
   cases lY:iw d t.peer
   ·simp[lY]at h3
   by_cases h4:t.kind=4
   ·obtain⟨j,hj,he,e2⟩:=GU lY
    have h5:=h2 _ (List.getElem_mem hj)
    have h6:hasB d.timers d.aa[j].fF 4=true:=List.any_eq_true.2 ⟨t,ht,by simp[D6,e2,h4]⟩
    have h7:=(key _ (List.getElem_mem hj)).2
    rw[e2]at h7
    simp only[zL,h6]at h5
    have h8:¬d.aa[j].oS=0:=by intro e;simp[e]at h5
    simp[hn,h7,h8]
   ·simp[hn,h4]
  ·have:=h2 p hp
   simp only[zL,aJ]at this
   exact this.1
end Go.Ab
end W22s
noncomputable section W23s
namespace Go.Ab
open Go.Ab
def nT (l:List cS) (i:Nat):Bool:=match l[i]?with
 |none=>false
 |
  some s=>decide (s.index=0)||(match i with
  |0=>false
  |
   j+1=>match l[j]?with
   |none=>false
   |some q=>decide (s.index≤q.index))
theorem B5 {l:List cS} {s:cS} (h:l[0]? =some s):nT l 0=decide (s.index=0):=by simp[nT,h]
theorem yN {l:List cS} {j:Nat} {q s:cS} (hq:l[j]? =some q) (hs:l[j+1]? =some s):nT l (j+1)=(decide (s.index=0)||decide (s.index≤q.index)):=by simp only[nT,hq,hs]
def Iw (l:List cS):Bool:=decide (fst (nT l) l.length=l.length)&&decide ((l.length:Int)≤32)
theorem Pj {l:List cS} (hl:l.length≤1048576):bg Pg I.iK [b6 l] (.bl (Iw l)):=by
 refine ai.intro T.iK (by simp[F.iK]) ?_
 have hle:=gu (nT l) l.length
 have jP:∀i,i<fst (nT l) l.length->nT l i=false:=λi h=>gD h
 have jQ:fst (nT l) l.length<l.length->nT l (fst (nT l) l.length)=true:=gN
 have hr:Iw l=(decide (fst (nT l) l.length=l.length)&&decide ((l.length:Int)≤32)):=rfl
 generalize fst (nT l) l.length=n at*
 simp[F.iK,aj,aF]
 refine fb.fG n (λ_=>True) [0,2,5,6,7] (λi=>[(7,.int .i64 i)]) (λi=>[]) [.keep [0,2,5,6,7]] ?_
 simp
 refine⟨λi hi K hK=> ?_,λK=> ?_⟩
 ·have eS:i<l.length:=by omega
  have hx:l[i]? =some l[i]:=gJ eS
  have hb:=jP i hi
  by_cases hz:i=0
  ·subst hz
   rw[B5 hx]at hb
   have g1:¬l[0].index=0:=of_decide_eq_false hb
   generalize l[0]=s at*
   simp[↓ah,hx,eS,g1,b6,-getElem?_pos]
   refine⟨[.keep [0,2,5,6,7],.dr 4],?_⟩
   simp
   exact hK _ (by simp[b6])
  ·obtain⟨j,rfl⟩:∃j,i=j+1:=⟨i-1,by omega⟩
   have hj:j<l.length:=by omega
   have hy:l[j]? =some l[j]:=gJ hj
   rw[yN hy hx]at hb
   generalize l[j+1]=s at*
   generalize l[j]=q at*
   have g1:¬s.index=0∧¬s.index≤q.index:=by simpa using hb
   have hw:IntKind.i64.wrap (j:Int)=j:=wrap_i64 (by omega)
   have hp:(0:Int)<(j:Int)+1:=by omega
   have hg:(j:Int)+1<l.length:=by omega
   have mR:(0:Int)≤(j:Int)+1:=by omega
   have ht:((j:Int)+1).toNat=j+1:=by omega
   have w2:=cu eS hl
   simp at w2
   simp[↓ah,hx,hy,eS,hj,g1.1,g1.2,hw,hp,hg,mR,ht,b6,w2,-getElem?_pos]
   refine⟨[.keep [0,2,5,6,7],.dr 4],?_⟩
   simp
   exact hK _ (by simp[b6])
 ·by_cases hn:n<l.length
  ·have hx:l[n]? =some l[n]:=gJ hn
   have hb:=jQ hn
   have bS:¬n=l.length:=by omega
   by_cases g1:l[n].index=0
   ·generalize l[n]=s at*
    simp[↓ah,hx,hn,g1,b6,-getElem?_pos]
    refine al.plain [] ?_
    simp[hr,bS]
   by_cases hz:n=0
   ·subst hz
    rw[B5 hx]at hb
    exact absurd (of_decide_eq_true hb) g1
   obtain⟨j,rfl⟩:∃j,n=j+1:=⟨n-1,by omega⟩
   have hj:j<l.length:=by omega
   have hy:l[j]? =some l[j]:=gJ hj
   rw[yN hy hx]at hb
   generalize l[j+1]=s at*
   generalize l[j]=q at*
   have g2:s.index≤q.index:=by simpa[g1]using hb
   have hw:IntKind.i64.wrap (j:Int)=j:=wrap_i64 (by omega)
   have hp:(0:Int)<(j:Int)+1:=by omega
   have hg:(j:Int)+1<l.length:=by omega
   have mR:(0:Int)≤(j:Int)+1:=by omega
   have ht:((j:Int)+1).toNat=j+1:=by omega
   simp[↓ah,hx,hy,hn,hj,g1,g2,hw,hp,hg,mR,ht,b6,-getElem?_pos]
   refine al.plain [] ?_
   simp[hr,bS]
  ·have bS:n=l.length:=by omega
   have mC:¬((n:Int)<l.length):=by omega
   simp[↓ah,mC,hn,b6]
   refine al.plain [] ?_
   simp[hr,bS]
theorem Pk {l:List cS} (hl:l.length≤1048576):bg Pg I.bW [b6 l] (.bl (Iw l)):=by
 refine ai.intro T.bW (by simp[F.bW]) ?_
 have hle:=gu (nT l) l.length
 have jP:∀i,i<fst (nT l) l.length->nT l i=false:=λi h=>gD h
 have jQ:fst (nT l) l.length<l.length->nT l (fst (nT l) l.length)=true:=gN
 have hr:Iw l=(decide (fst (nT l) l.length=l.length)&&decide ((l.length:Int)≤32)):=rfl
 generalize fst (nT l) l.length=n at*
 simp[F.bW,aj,aF]
 refine fb.fG n (λ_=>True) [0,2,5,6,7] (λi=>[(7,.int .i64 i)]) (λi=>[]) [.keep [0,2,5,6,7]] ?_
 simp
 refine⟨λi hi K hK=> ?_,λK=> ?_⟩
 ·have eS:i<l.length:=by omega
  have hx:l[i]? =some l[i]:=gJ eS
  have hb:=jP i hi
  by_cases hz:i=0
  ·subst hz
   rw[B5 hx]at hb
   have g1:¬l[0].index=0:=of_decide_eq_false hb
   generalize l[0]=s at*
   simp[↓ah,hx,eS,g1,b6,-getElem?_pos]
   refine⟨[.keep [0,2,5,6,7],.dr 4],?_⟩
   simp
   exact hK _ (by simp[b6])
  ·obtain⟨j,rfl⟩:∃j,i=j+1:=⟨i-1,by omega⟩
   have hj:j<l.length:=by omega
   have hy:l[j]? =some l[j]:=gJ hj
   rw[yN hy hx]at hb
   generalize l[j+1]=s at*
   generalize l[j]=q at*
   have g1:¬s.index=0∧¬s.index≤q.index:=by simpa using hb
   have hw:IntKind.i64.wrap (j:Int)=j:=wrap_i64 (by omega)
   have hp:(0:Int)<(j:Int)+1:=by omega
   have hg:(j:Int)+1<l.length:=by omega
   have mR:(0:Int)≤(j:Int)+1:=by omega
   have ht:((j:Int)+1).toNat=j+1:=by omega
   have w2:=cu eS hl
   simp at w2
   simp[↓ah,hx,hy,eS,hj,g1.1,g1.2,hw,hp,hg,mR,ht,b6,w2,-getElem?_pos]
   refine⟨[.keep [0,2,5,6,7],.dr 4],?_⟩
   simp
   exact hK _ (by simp[b6])
 ·by_cases hn:n<l.length
  ·have hx:l[n]? =some l[n]:=gJ hn
   have hb:=jQ hn
   have bS:¬n=l.length:=by omega
   by_cases g1:l[n].index=0
   ·generalize l[n]=s at*
    simp[↓ah,hx,hn,g1,b6,-getElem?_pos]
    refine al.plain [] ?_
    simp[hr,bS]
   by_cases hz:n=0
   ·subst hz
    rw[B5 hx]at hb
    exact absurd (of_decide_eq_true hb) g1
   obtain⟨j,rfl⟩:∃j,n=j+1:=⟨n-1,by omega⟩
   have hj:j<l.length:=by omega
   have hy:l[j]? =some l[j]:=gJ hj
   rw[yN hy hx]at hb
   generalize l[j+1]=s at*
   generalize l[j]=q at*
   have g2:s.index≤q.index:=by simpa[g1]using hb
   have hw:IntKind.i64.wrap (j:Int)=j:=wrap_i64 (by omega)
   have hp:(0:Int)<(j:Int)+1:=by omega
   have hg:(j:Int)+1<l.length:=by omega
   have mR:(0:Int)≤(j:Int)+1:=by omega
   have ht:((j:Int)+1).toNat=j+1:=by omega
   simp[↓ah,hx,hy,hn,hj,g1,g2,hw,hp,hg,mR,ht,b6,-getElem?_pos]
   refine al.plain [] ?_
   simp[hr,bS]
  ·have bS:n=l.length:=by omega
   have mC:¬((n:Int)<l.length):=by omega
   simp[↓ah,mC,hn,b6]
   refine al.plain [] ?_
   simp[hr,bS]
def RU (x:Int) (s:cS):Bool:=decide (s.index=x)
def Co (l:List cS) (x:Int):Option cS:=l.find? (RU x)
theorem vZ {l:List cS} (hl:l.length≤1048576) (x:Int):bg Pg I.aX [b6 l,.int .u32 x] (.tup [aM ((Co l x).getD zSl),.bl (Co l x).isSome]):=by
 obtain⟨m,hle,jP,jQ,uo⟩:=pT (RU x) l
 by_cases hm:m<l.length
 ·have h1:=(jQ hm).1
  have hf:Co l x=some l[m]:=by
   unfold Co
   rw[List.find?_eq_some_iff_getElem]
   exact⟨h1,m,hm,rfl,λj hj=>by simpa using jP j (by omega) hj⟩
  rw[hf]
  exact tU hl hm (of_decide_eq_true h1) (λj hj h=>by simpa[RU]using jP j hj h)
 ·have mD:m=l.length:=by omega
  have dM:∀s∈l,s.index≠x:=λs hs=>by
   obtain⟨i,hi,rfl⟩:=List.mem_iff_getElem.1 hs
   simpa[RU]using jP i hi (by omega)
  have hf:Co l x=none:=by
   unfold Co
   rw[List.find?_eq_none]
   intro s hs;simpa[RU]using dM s hs
  rw[hf]
  exact qN hl dM
end Go.Ab
end W23s
noncomputable section W24s
namespace Go.Ab
open Go.Ab
def qR (p:fg):List Int:=rU [p.ring.p,p.ring.c,p.ring.n]
theorem uj (p:fg):(qR p).length≤3:=sG _
def GV (o:Option cS) (b:Bool) (k:Key):Bool:=match o with
 |some s=>(s.pk==b)&&decide (s.peer=k)
 |none=>false
theorem yO {o:Option cS} {b:Bool} {k:Key} (h:GV o b k=true):∃s,o=some s∧s.pk=b∧s.peer=k:=by
 cases o with
 |none=>simp[GV]at h
 |some s=>exact⟨s,rfl,by simpa[GV]using h⟩
def IP (d:cK) (p:fg) (x:Int):Bool:=GV (Co d.bq x) true p.fF
def Pl (d:cK) (p:fg):Bool:= !p.hand.has||GV (Co d.bq p.hand.loc) false p.fF
def nU (L:List Int) (i:Nat):Bool:=match L[i]?with
 |none=>false
 |some x=>(L.take i).any (λy=>decide (y=x))
def Pm (L:List Int):Bool:=decide (fst (nU L) L.length=L.length)
def Yy (d:cK) (p:fg):Bool:=Pl d p&&((qR p).all (IP d p)&&Pm (qR p))
def Ly (p:fg):Nat:=(if p.hand.has=true then 1 else 0)+(qR p).length
def aQ:List fg->Nat->Nat
 |[],_=>0
 |_::_,0=>0
 |p::l,i+1=>Ly p+aQ l i
theorem Lz (l:List fg):aQ l 0=0:=by cases l<;>rfl
theorem yP:∀ {l:List fg} {i:Nat} (h:i<l.length),aQ l (i+1)=aQ l i+Ly l[i]
 |p::l,0,h=>by simp[aQ,Lz]
 |
  p::l,i+1,h=>by
  have:=yP (l:=l) (i:=i) (by simpa using h)
  simp only[aQ,List.getElem_cons_succ]
  omega
theorem Fq:∀(l:List fg) (i:Nat),aQ l i≤4*i
 |[],i=>by simp[aQ]
 |p::l,0=>by simp[aQ]
 |
  p::l,i+1=>by
  have:=Fq l i
  have h3:=uj p
  simp only[aQ,Ly]
  split<;>omega
def Yz (d:cK):Bool:=Iw d.bq&&(d.aa.all (Yy d)&&decide (aQ d.aa d.aa.length=d.bq.length))
theorem U9 {d:cK} (sZ:d.aa.length≤1048576) (qf:d.bq.length≤1048576):bg Pg I.di [bE d] (.bl (Yz d)):=by
 refine ai.intro T.di (by simp[F.di]) ?_
 obtain⟨n,hle,jP,jQ,dM⟩:=zI (Yy d) d.aa
 have hr:Yz d=(Iw d.bq&&(decide (n=d.aa.length)&&decide (aQ d.aa d.aa.length=d.bq.length))):=by unfold Yz;rw[dM]
 simp[F.di,aj,aF]
 refine an.ret (Pk qf) (by simp) (by simp) (by simp) ?_
 cases hv:Iw d.bq
 ·simp
  refine al.plain [] ?_
  simp[hr,hv]
 simp
 refine fb.fG n (λ_=>True) [1,2,3,22,23,24] (λi=>[(3,.int .i64 (aQ d.aa i)),(24,.int .i64 i)]) (λi=>[]) [.keep [1,2,3,22,23,24]] ?_
 simp[Lz]
 refine⟨λi hi K hK=> ?_,λK=> ?_⟩
 ·have eS:i<d.aa.length:=by omega
  have hx:d.aa[i]? =some d.aa[i]:=gJ eS
  have rN:=Fq d.aa i
  have FN:=cy d.aa[i].ring
  have Me:=uj d.aa[i]
  have e3:rU [d.aa[i].ring.p,d.aa[i].ring.c,d.aa[i].ring.n]=qR d.aa[i]:=rfl
  rw[e3]at FN
  have hP:=jP i eS hi
  have hc:=yP eS
  rw[hc]at hK
  unfold Ly at hK
  unfold Yy at hP
  generalize d.aa[i]=p at*
  generalize qR p=L at*
  have hP':Pl d p=true∧L.all (IP d p)=true∧Pm L=true:=by simpa[-List.all_eq_true]using hP
  obtain⟨hH,hXa,hN⟩:=hP'
  have hX:∀j (h:j<L.length),j<L.length->IP d p L[j]=true:=λj h _=>List.all_eq_true.1 hXa _ (List.getElem_mem h)
  have hD:∀j,j<L.length->nU L j=false:=by simpa[Pm,j5]using hN
  generalize aQ d.aa i=c at*
  cases h6:p.hand.has
  ·simp[h6]at hK
   simp[↓ah,hx,eS,h6,-getElem?_pos]
   refine an.ret FN (by simp) (by simp) (by simp) ?_
   simp
   refine fb.fG L.length (λ_=>True) [1,2,3,5,22,23,24,57,58,59] (λj=>[(3,.int .i64 ((c:Int)+j)),(59,.int .i64 j)]) (λi=>[]) [.keep [1,2,3,5,22,23,24,57,58,59]] ?_
   simp
   refine⟨λj hj K2 lX=> ?_,λK2=> ?_⟩
   ·have hy:L[j]? =some L[j]:=gJ (by omega)
    have pe:j<L.length:=by omega
    have Wj:=hX j pe hj
    have hf:=vZ qf L[j]
    generalize L[j]=x at*
    obtain⟨s,e1,e2,e3⟩:=yO Wj
    rw[e1]at hf
    simp only[Option.getD_some,Option.isSome_some]at hf
    have Ed:IntKind.i64.wrap ((c:Int)+j+1)=(c:Int)+((j:Int)+1):=by rw[wrap_i64 (by omega)];omega
    simp[↓ah,hy,pe,-getElem?_pos]
    refine an.ret hf (by simp) (by simp) (by simp) ?_
    simp[gr,e2,e3,Ed,cu pe (by omega)]
    refine⟨[.keep [1,2,3,5,22,23,24,57,58,59],.dr 10],?_⟩
    simp
    exact lX _ (by simp)
   ·simp[↓ah]
    refine an.ret FN (by simp) (by simp) (by simp) ?_
    simp
    refine fb.fG L.length (λ_=>True) [1,2,3,5,12,22,23,24,90,91,92] (λj=>[(92,.int .i64 j)]) (λi=>[]) [.keep [1,2,3,5,12,22,23,24,90,91,92]] ?_
    simp
    refine⟨λj hj K3 P1=> ?_,λK3=> ?_⟩
    ·have pe:j<L.length:=by omega
     have hy:L[j]? =some L[j]:=gJ pe
     have Mn:=hD j hj
     have xi:∀m (h:m<L.length),m<j->¬L[j]=L[m]:=λm h h2 e=>by
      simp only[nU,hy]at Mn
      have:=List.any_eq_false.1 Mn L[m] (by rw[List.mem_iff_getElem];exact⟨m,by rw[lJ];omega,by rw[List.getElem_take]⟩)
      simp[e]at this
     simp[↓ah,hy,pe,jE,show j≤L.length by omega]
     refine fb.fG j (λ_=>True) [1,2,3,5,12,14,22,23,24,90,91,92,99,100,101] (λm=>[(101,.int .i64 m)]) (λi=>[]) [.keep [1,2,3,5,12,14,22,23,24,90,91,92,99,100,101]] ?_
     simp
     refine⟨λm Cj K4 IE=> ?_,λK4=> ?_⟩
     ·have mD:m<L.length:=by omega
      have mO:m<min j L.length:=by omega
      have uw:L[m]? =some L[m]:=gJ mD
      have pW:=xi m mD Cj
      simp[↓ah,uw,Cj,mO,mD,pW,cu Cj (by omega)]
      refine⟨[.keep [1,2,3,5,12,14,22,23,24,90,91,92,99,100,101]],?_⟩
      simp
      exact IE _ (by simp)
     ·simp[↓ah,cu pe (by omega)]
      refine⟨[.keep [1,2,3,5,12,22,23,24,90,91,92]],?_⟩
      simp
      exact P1 _ (by simp[jE])
    ·simp[↓ah,cu eS sZ]
     refine⟨[.keep [1,2,3,22,23,24],.dr 5],?_⟩
     simp
     exact hK _ (by simp)
  ·simp[h6]at hK
   have hH2:GV (Co d.bq p.hand.loc) false p.fF=true:=by simpa[Pl,h6]using hH
   have hf:=vZ qf p.hand.loc
   obtain⟨s,e1,e2,e3⟩:=yO hH2
   rw[e1]at hf
   simp only[Option.getD_some,Option.isSome_some]at hf
   have zf:IntKind.i64.wrap ((c:Int)+1)=(c:Int)+1:=wrap_i64 (by omega)
   simp[↓ah,hx,eS,h6,-getElem?_pos]
   refine an.ret hf (by simp) (by simp) (by simp) ?_
   simp[gr,e2,e3,zf]
   refine an.ret FN (by simp) (by simp) (by simp) ?_
   simp
   refine fb.fG L.length (λ_=>True) [1,2,3,5,22,23,24,57,58,59] (λj=>[(3,.int .i64 (((c:Int)+1)+j)),(59,.int .i64 j)]) (λi=>[]) [.keep [1,2,3,5,22,23,24,57,58,59]] ?_
   simp
   refine⟨λj hj K2 lX=> ?_,λK2=> ?_⟩
   ·have hy:L[j]? =some L[j]:=gJ (by omega)
    have pe:j<L.length:=by omega
    have Wj:=hX j pe hj
    have hf:=vZ qf L[j]
    generalize L[j]=x at*
    obtain⟨s,e1,e2,e3⟩:=yO Wj
    rw[e1]at hf
    simp only[Option.getD_some,Option.isSome_some]at hf
    have Ed:IntKind.i64.wrap (((c:Int)+1)+j+1)=((c:Int)+1)+((j:Int)+1):=by rw[wrap_i64 (by omega)];omega
    simp[↓ah,hy,pe,-getElem?_pos]
    refine an.ret hf (by simp) (by simp) (by simp) ?_
    simp[gr,e2,e3,Ed,cu pe (by omega)]
    refine⟨[.keep [1,2,3,5,22,23,24,57,58,59],.dr 10],?_⟩
    simp
    exact lX _ (by simp)
   ·simp[↓ah]
    refine an.ret FN (by simp) (by simp) (by simp) ?_
    simp
    refine fb.fG L.length (λ_=>True) [1,2,3,5,12,22,23,24,90,91,92] (λj=>[(92,.int .i64 j)]) (λi=>[]) [.keep [1,2,3,5,12,22,23,24,90,91,92]] ?_
    simp
    refine⟨λj hj K3 P1=> ?_,λK3=> ?_⟩
    ·have pe:j<L.length:=by omega
     have hy:L[j]? =some L[j]:=gJ pe
     have Mn:=hD j hj
     have xi:∀m (h:m<L.length),m<j->¬L[j]=L[m]:=λm h h2 e=>by
      simp only[nU,hy]at Mn
      have:=List.any_eq_false.1 Mn L[m] (by rw[List.mem_iff_getElem];exact⟨m,by rw[lJ];omega,by rw[List.getElem_take]⟩)
      simp[e]at this
     simp[↓ah,hy,pe,jE,show j≤L.length by omega]
     refine fb.fG j (λ_=>True) [1,2,3,5,12,14,22,23,24,90,91,92,99,100,101] (λm=>[(101,.int .i64 m)]) (λi=>[]) [.keep [1,2,3,5,12,14,22,23,24,90,91,92,99,100,101]] ?_
     simp
     refine⟨λm Cj K4 IE=> ?_,λK4=> ?_⟩
     ·have mD:m<L.length:=by omega
      have mO:m<min j L.length:=by omega
      have uw:L[m]? =some L[m]:=gJ mD
      have pW:=xi m mD Cj
      simp[↓ah,uw,Cj,mO,mD,pW,cu Cj (by omega)]
      refine⟨[.keep [1,2,3,5,12,14,22,23,24,90,91,92,99,100,101]],?_⟩
      simp
      exact IE _ (by simp)
     ·simp[↓ah,cu pe (by omega)]
      refine⟨[.keep [1,2,3,5,12,22,23,24,90,91,92]],?_⟩
      simp
      exact P1 _ (by simp[jE])
    ·simp[↓ah,cu eS sZ]
     refine⟨[.keep [1,2,3,22,23,24],.dr 5,.dr 6],?_⟩
     simp
     exact hK _ (by simp<;>omega)
 ·by_cases hn:n<d.aa.length
  ·have hx:d.aa[n]? =some d.aa[n]:=gJ hn
   have rN:=Fq d.aa n
   have FN:=cy d.aa[n].ring
   have Me:=uj d.aa[n]
   have e3:rU [d.aa[n].ring.p,d.aa[n].ring.c,d.aa[n].ring.n]=qR d.aa[n]:=rfl
   rw[e3]at FN
   have hP:=jQ hn
   have bS:¬n=d.aa.length:=by omega
   unfold Yy at hP
   generalize d.aa[n]=p at*
   generalize qR p=L at*
   generalize aQ d.aa n=c at*
   cases h6:p.hand.has
   ·have hH:Pl d p=true:=by simp[Pl,h6]
    simp[↓ah,hx,hn,h6,-getElem?_pos]
    obtain⟨q,Wh,Ml,Mm,Mo⟩:=zI (IP d p) L
    have hX:∀j (h:j<L.length),j<q->IP d p L[j]=true:=Ml
    refine an.ret FN (by simp) (by simp) (by simp) ?_
    simp
    refine fb.fG q (λ_=>True) [1,2,3,5,22,23,24,57,58,59] (λj=>[(3,.int .i64 ((c:Int)+j)),(59,.int .i64 j)]) (λi=>[]) [.keep [1,2,3,5,22,23,24,57,58,59]] ?_
    simp
    refine⟨λj hj K2 lX=> ?_,λK2=> ?_⟩
    ·have hy:L[j]? =some L[j]:=gJ (by omega)
     have pe:j<L.length:=by omega
     have Wj:=hX j pe hj
     have hf:=vZ qf L[j]
     generalize L[j]=x at*
     obtain⟨s,e1,e2,e3⟩:=yO Wj
     rw[e1]at hf
     simp only[Option.getD_some,Option.isSome_some]at hf
     have Ed:IntKind.i64.wrap ((c:Int)+j+1)=(c:Int)+((j:Int)+1):=by rw[wrap_i64 (by omega)];omega
     simp[↓ah,hy,pe,-getElem?_pos]
     refine an.ret hf (by simp) (by simp) (by simp) ?_
     simp[gr,e2,e3,Ed,cu pe (by omega)]
     refine⟨[.keep [1,2,3,5,22,23,24,57,58,59],.dr 10],?_⟩
     simp
     exact lX _ (by simp)
    ·by_cases hq:q<L.length
     ·have hy:L[q]? =some L[q]:=gJ hq
      have hXq:=Mm hq
      have hf:=vZ qf L[q]
      generalize L[q]=x at*
      simp[↓ah,hy,hq,-getElem?_pos]
      refine an.ret hf (by simp) (by simp) (by simp) ?_
      unfold IP at hXq
      generalize Co d.bq x=o at*
      cases o with
      |
       none=>
       simp
       refine al.plain [] ?_
       simp[hr,bS]
      |
       some s=>
       by_cases e2:s.pk=true
       ·have e3:¬s.peer=p.fF:=by intro e;simp[GV,e2,e]at hXq
        simp[gr,e2,e3]
        refine al.plain [] ?_
        simp[hr,bS]
       ·simp[e2]
        refine al.plain [] ?_
        simp[hr,bS]
     have hqe:q=L.length:=by omega
     have Mk:¬((q:Int)<L.length):=by omega
     have hN:Pm L=false:=by
      have h1:L.all (IP d p)=true:=by rw[Mo];simpa using hqe
      simpa[hH,h1]using hP
     simp[↓ah,Mk,hq]
     refine an.ret FN (by simp) (by simp) (by simp) ?_
     simp
     have hDl:=gu (nU L) L.length
     have Wk:fst (nU L) L.length<L.length:=by
      by_cases e:fst (nU L) L.length=L.length
      ·simp[Pm,e]at hN
      ·omega
     have hD:∀j,j<fst (nU L) L.length->nU L j=false:=λj h=>gD h
     have FP:=gN Wk
     generalize fst (nU L) L.length=w at*
     refine fb.fG w (λ_=>True) [1,2,3,5,12,22,23,24,90,91,92] (λj=>[(92,.int .i64 j)]) (λi=>[]) [.keep [1,2,3,5,12,22,23,24,90,91,92]] ?_
     simp
     refine⟨λj hj K3 P1=> ?_,λK3=> ?_⟩
     ·have pe:j<L.length:=by omega
      have hy:L[j]? =some L[j]:=gJ pe
      have Mn:=hD j hj
      have xi:∀m (h:m<L.length),m<j->¬L[j]=L[m]:=λm h h2 e=>by
       simp only[nU,hy]at Mn
       have:=List.any_eq_false.1 Mn L[m] (by rw[List.mem_iff_getElem];exact⟨m,by rw[lJ];omega,by rw[List.getElem_take]⟩)
       simp[e]at this
      simp[↓ah,hy,pe,jE,show j≤L.length by omega]
      refine fb.fG j (λ_=>True) [1,2,3,5,12,14,22,23,24,90,91,92,99,100,101] (λm=>[(101,.int .i64 m)]) (λi=>[]) [.keep [1,2,3,5,12,14,22,23,24,90,91,92,99,100,101]] ?_
      simp
      refine⟨λm Cj K4 IE=> ?_,λK4=> ?_⟩
      ·have mD:m<L.length:=by omega
       have mO:m<min j L.length:=by omega
       have uw:L[m]? =some L[m]:=gJ mD
       have pW:=xi m mD Cj
       simp[↓ah,uw,Cj,mO,mD,pW,cu Cj (by omega)]
       refine⟨[.keep [1,2,3,5,12,14,22,23,24,90,91,92,99,100,101]],?_⟩
       simp
       exact IE _ (by simp)
      ·simp[↓ah,cu pe (by omega)]
       refine⟨[.keep [1,2,3,5,12,22,23,24,90,91,92]],?_⟩
       simp
       exact P1 _ (by simp[jE])
     ·have hy:L[w]? =some L[w]:=gJ Wk
      simp only[nU,hy]at FP
      obtain⟨m,Wl,Wm,Wn,FQ⟩:=pT (λy=>decide (y=L[w])) (L.take w)
      have Mp:m<(L.take w).length:=by
       by_cases h:m<(L.take w).length
       ·exact h
       ·have:=(FQ h).2;rw[this]at FP;cases FP
      have yU:=(Wn Mp).1
      rw[List.getElem_take]at yU
      rw[lJ]at Mp Wl
      simp[↓ah,hy,Wk,jE,show w≤L.length by omega]
      refine fb.fG m (λ_=>True) [1,2,3,5,12,14,22,23,24,90,91,92,99,100,101] (λm=>[(101,.int .i64 m)]) (λi=>[]) [.keep [1,2,3,5,12,14,22,23,24,90,91,92,99,100,101]] ?_
      simp
      refine⟨λt ht K4 IE=> ?_,λK4=> ?_⟩
      ·have mD:t<L.length:=by omega
       have mO:t<min w L.length:=by omega
       have P4:t<w:=by omega
       have uw:L[t]? =some L[t]:=gJ mD
       have pW:¬L[w]=L[t]:=λe=>by
        have:=Wm t (by rw[lJ];omega) ht
        rw[List.getElem_take]at this
        simp[e]at this
       simp[↓ah,uw,P4,mO,mD,pW,cu P4 (by omega)]
       refine⟨[.keep [1,2,3,5,12,14,22,23,24,90,91,92,99,100,101]],?_⟩
       simp
       exact IE _ (by simp)
      ·have mD:m<L.length:=by omega
       have mO:m<min w L.length:=by omega
       have P4:m<w:=by omega
       have uw:L[m]? =some L[m]:=gJ mD
       have he:L[m]=L[w]:=by simpa using yU
       simp[↓ah,uw,P4,mO,mD,he]
       refine al.plain [] ?_
       simp[hr,bS]
   ·have hf:=vZ qf p.hand.loc
    simp[↓ah,hx,hn,h6,-getElem?_pos]
    refine an.ret hf (by simp) (by simp) (by simp) ?_
    cases hH:Pl d p
    ·have hH2:GV (Co d.bq p.hand.loc) false p.fF=false:=by simpa[Pl,h6]using hH
     generalize Co d.bq p.hand.loc=o at*
     cases o with
     |
      none=>
      simp
      refine al.plain [] ?_
      simp[hr,bS]
     |
      some s=>
      cases e2:s.pk
      ·have e3:¬s.peer=p.fF:=by intro e;simp[GV,e2,e]at hH2
       simp[gr,e2,e3]
       refine al.plain [] ?_
       simp[hr,bS]
      ·simp[e2]
       refine al.plain [] ?_
       simp[hr,bS]
    have hH2:GV (Co d.bq p.hand.loc) false p.fF=true:=by simpa[Pl,h6]using hH
    obtain⟨s,e1,e2,e3⟩:=yO hH2
    have zf:IntKind.i64.wrap ((c:Int)+1)=(c:Int)+1:=wrap_i64 (by omega)
    simp[e1,gr,e2,e3,zf]
    obtain⟨q,Wh,Ml,Mm,Mo⟩:=zI (IP d p) L
    have hX:∀j (h:j<L.length),j<q->IP d p L[j]=true:=Ml
    refine an.ret FN (by simp) (by simp) (by simp) ?_
    simp
    refine fb.fG q (λ_=>True) [1,2,3,5,22,23,24,57,58,59] (λj=>[(3,.int .i64 (((c:Int)+1)+j)),(59,.int .i64 j)]) (λi=>[]) [.keep [1,2,3,5,22,23,24,57,58,59]] ?_
    simp
    refine⟨λj hj K2 lX=> ?_,λK2=> ?_⟩
    ·have hy:L[j]? =some L[j]:=gJ (by omega)
     have pe:j<L.length:=by omega
     have Wj:=hX j pe hj
     have hf:=vZ qf L[j]
     generalize L[j]=x at*
     obtain⟨s,e1,e2,e3⟩:=yO Wj
     rw[e1]at hf
     simp only[Option.getD_some,Option.isSome_some]at hf
     have Ed:IntKind.i64.wrap (((c:Int)+1)+j+1)=((c:Int)+1)+((j:Int)+1):=by rw[wrap_i64 (by omega)];omega
     simp[↓ah,hy,pe,-getElem?_pos]
     refine an.ret hf (by simp) (by simp) (by simp) ?_
     simp[gr,e2,e3,Ed,cu pe (by omega)]
     refine⟨[.keep [1,2,3,5,22,23,24,57,58,59],.dr 10],?_⟩
     simp
     exact lX _ (by simp)
    ·by_cases hq:q<L.length
     ·have hy:L[q]? =some L[q]:=gJ hq
      have hXq:=Mm hq
      have hf:=vZ qf L[q]
      generalize L[q]=x at*
      simp[↓ah,hy,hq,-getElem?_pos]
      refine an.ret hf (by simp) (by simp) (by simp) ?_
      unfold IP at hXq
      generalize Co d.bq x=o at*
      cases o with
      |
       none=>
       simp
       refine al.plain [] ?_
       simp[hr,bS]
      |
       some s=>
       by_cases e2:s.pk=true
       ·have e3:¬s.peer=p.fF:=by intro e;simp[GV,e2,e]at hXq
        simp[gr,e2,e3]
        refine al.plain [] ?_
        simp[hr,bS]
       ·simp[e2]
        refine al.plain [] ?_
        simp[hr,bS]
     have hqe:q=L.length:=by omega
     have Mk:¬((q:Int)<L.length):=by omega
     have hN:Pm L=false:=by
      have h1:L.all (IP d p)=true:=by rw[Mo];simpa using hqe
      simpa[hH,h1]using hP
     simp[↓ah,Mk,hq]
     refine an.ret FN (by simp) (by simp) (by simp) ?_
     simp
     have hDl:=gu (nU L) L.length
     have Wk:fst (nU L) L.length<L.length:=by
      by_cases e:fst (nU L) L.length=L.length
      ·simp[Pm,e]at hN
      ·omega
     have hD:∀j,j<fst (nU L) L.length->nU L j=false:=λj h=>gD h
     have FP:=gN Wk
     generalize fst (nU L) L.length=w at*
     refine fb.fG w (λ_=>True) [1,2,3,5,12,22,23,24,90,91,92] (λj=>[(92,.int .i64 j)]) (λi=>[]) [.keep [1,2,3,5,12,22,23,24,90,91,92]] ?_
     simp
     refine⟨λj hj K3 P1=> ?_,λK3=> ?_⟩
     ·have pe:j<L.length:=by omega
      have hy:L[j]? =some L[j]:=gJ pe
      have Mn:=hD j hj
      have xi:∀m (h:m<L.length),m<j->¬L[j]=L[m]:=λm h h2 e=>by
       simp only[nU,hy]at Mn
       have:=List.any_eq_false.1 Mn L[m] (by rw[List.mem_iff_getElem];exact⟨m,by rw[lJ];omega,by rw[List.getElem_take]⟩)
       simp[e]at this
      simp[↓ah,hy,pe,jE,show j≤L.length by omega]
      refine fb.fG j (λ_=>True) [1,2,3,5,12,14,22,23,24,90,91,92,99,100,101] (λm=>[(101,.int .i64 m)]) (λi=>[]) [.keep [1,2,3,5,12,14,22,23,24,90,91,92,99,100,101]] ?_
      simp
      refine⟨λm Cj K4 IE=> ?_,λK4=> ?_⟩
      ·have mD:m<L.length:=by omega
       have mO:m<min j L.length:=by omega
       have uw:L[m]? =some L[m]:=gJ mD
       have pW:=xi m mD Cj
       simp[↓ah,uw,Cj,mO,mD,pW,cu Cj (by omega)]
       refine⟨[.keep [1,2,3,5,12,14,22,23,24,90,91,92,99,100,101]],?_⟩
       simp
       exact IE _ (by simp)
      ·simp[↓ah,cu pe (by omega)]
       refine⟨[.keep [1,2,3,5,12,22,23,24,90,91,92]],?_⟩
       simp
       exact P1 _ (by simp[jE])
     ·have hy:L[w]? =some L[w]:=gJ Wk
      simp only[nU,hy]at FP
      obtain⟨m,Wl,Wm,Wn,FQ⟩:=pT (λy=>decide (y=L[w])) (L.take w)
      have Mp:m<(L.take w).length:=by
       by_cases h:m<(L.take w).length
       ·exact h
       ·have:=(FQ h).2;rw[this]at FP;cases FP
      have yU:=(Wn Mp).1
      rw[List.getElem_take]at yU
      rw[lJ]at Mp Wl
      simp[↓ah,hy,Wk,jE,show w≤L.length by omega]
      refine fb.fG m (λ_=>True) [1,2,3,5,12,14,22,23,24,90,91,92,99,100,101] (λm=>[(101,.int .i64 m)]) (λi=>[]) [.keep [1,2,3,5,12,14,22,23,24,90,91,92,99,100,101]] ?_
      simp
      refine⟨λt ht K4 IE=> ?_,λK4=> ?_⟩
      ·have mD:t<L.length:=by omega
       have mO:t<min w L.length:=by omega
       have P4:t<w:=by omega
       have uw:L[t]? =some L[t]:=gJ mD
       have pW:¬L[w]=L[t]:=λe=>by
        have:=Wm t (by rw[lJ];omega) ht
        rw[List.getElem_take]at this
        simp[e]at this
       simp[↓ah,uw,P4,mO,mD,pW,cu P4 (by omega)]
       refine⟨[.keep [1,2,3,5,12,14,22,23,24,90,91,92,99,100,101]],?_⟩
       simp
       exact IE _ (by simp)
      ·have mD:m<L.length:=by omega
       have mO:m<min w L.length:=by omega
       have P4:m<w:=by omega
       have uw:L[m]? =some L[m]:=gJ mD
       have he:L[m]=L[w]:=by simpa using yU
       simp[↓ah,uw,P4,mO,mD,he]
       refine al.plain [] ?_
       simp[hr,bS]
  ·have bS:n=d.aa.length:=by omega
   have mC:¬((n:Int)<d.aa.length):=by omega
   have hcc:((aQ d.aa n:Int)=(d.bq.length:Int))↔aQ d.aa d.aa.length=d.bq.length:=by rw[bS];omega
   simp[↓ah,mC,hn]
   refine al.plain [] ?_
   simp[hr,hv,bS]
   omega
end Go.Ab
end W24s

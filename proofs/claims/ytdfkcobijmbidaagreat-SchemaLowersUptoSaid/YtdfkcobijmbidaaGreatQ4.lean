/- A step on such a packet, from a made daemon. No condition. -/
import Derived.Test.YtdfkcobijmbidaaGreatB7
import Derived.Test.YtdfkcobijmbidaaGreatQ2
import Derived.Test.YtdfkcobijmbidaaGreatQ3
set_option maxRecDepth 10000
set_option maxHeartbeats 4000000
set_option linter.all false
noncomputable section H4s
namespace Go.Ab
open Go.Ab
theorem Lv {d:bK} (h:VD d) {i:Nat} (hi:i<d.aj.length) {s:j9} (hs:vV d s) (h1:1≤s.loc) (n6:∀x∈d.aD,x.index≠s.loc) (own:Bool):
  af Pg I.eQ [dY d,eF (nZ i),fO s,.bl own] [] (λr fp=>r= .tup [br (mc d i hi s own) (.rs KB [] 0 d.aj.length d.aj.length 464 .tip),.int .i64 0]∧fp=[.arr 464 ((mc d i hi s own).aj.map aC)]):=by
 refine af.intro T.eQ (by simp[F.eQ]) ?_
 have Dp:=h.sls.len h.G5.1
 have hni:¬(i:Int)<0:=by omega
 have LU:¬s.loc=0:=by omega
 have zQ:=h.ru
 have hx:d.aj[i]? =some d.aj[i]:=gJ hi
 have hw:IntKind.i64.wrap (3*d.rules.lQ)=3*d.rules.lQ:=by
  obtain⟨h1,h2,h3,h4,h5,h6,h7,h8,h9,Mh,T5,_⟩:=zQ
  exact wrap_i64 (by omega)
 simp[F.eQ,an,aG]
 refine al.ret (SO h) (by simp) (by simp) (by simp) ?_
 simp
 refine al.ret (Ii h.G5 hi) (by simp) (by simp) (by simp) ?_
 simp[hni]
 refine al.ret (sx (l:=d.aD) (by omega) n6) (by simp) (by simp) (by simp) ?_
 simp[LU]
 refine al.ret (Jy hs) (by simp) (by simp) (by simp) ?_
 simp
 refine al.gen [] [47] [] (bM h.sml) (by simp) (by simp) (by simp) (by simp[ae]) (by simp) (by simp[aO]) (by simp) (by simp[ah,ab,fY]) ?_
 simp[bI,aZ,aI,eP,hi]
 obtain⟨PS,hPS⟩:∃PS,PS=d.aj.set i (pR d.aj[i] (tG d.aj[i].ring s own)):=⟨_,rfl⟩
 have hPl:PS.length=d.aj.length:=by rw[hPS,List.length_set]
 obtain⟨SD,hSD⟩:∃SD,SD=fh d.aD (kP d.aj[i].ring own):=⟨_,rfl⟩
 have aDw:SD.length≤9:=by have:=lR (kP d.aj[i].ring own) d.aD;rw[←hSD]at this;omega
 have hT:=Take (l:=SD) (by omega) h1 (λx hx=>n6 x (by rw[hSD]at hx;exact sA hx)) (nZ i) true
 obtain⟨SL,hSL⟩:∃SL,SL=rR SD ⟨s.loc,nZ i,true⟩:=⟨_,rfl⟩
 rw[←hSL]at hT
 have hPi:PS[i].gC=nZ i:=by
  simp only[hPS,List.getElem_set_self];exact h.G5.2 i hi
 have E3:=h.tis.len
 have aDx:=h.n0
 have aDy:=h.n1
 obtain⟨q1,q2,q3,q4,q5,q6,q7,q8,q9,q10,q11,_⟩:=zQ
 cases own with
 |
  true=>
  have lg:(List.map aC d.aj).set i (aC {d.aj[i]with ring:=ur d.aj[i].ring s})=PS.map aC:=by
   rw[hPS,List.map_set];rfl
  have hD:=vZ (d:=d) (by omega) (l:=rF d.aj[i].ring) (C3 d.aj[i].ring true) PS
  have aaU:fh d.aD (rF d.aj[i].ring)=SD:=by rw[hSD];rfl
  have hS:=yC (d:=qL d SL) (by show d.timers.length≤1048575;omega) (ps:=PS) (i:=i) (by omega) 5 (n:=3*d.rules.lQ) h.n0 h.n1 (by omega) (by omega)
  rw[hPi]at hS
  rw[hPl]at hD hS
  dsimp only at lg
  simp[V7]
  refine a0.ret (dS d.aj[i].ring s) (by simp) (by simp) (by simp) ?_
  simp[hi]
  rw[lg]
  refine al.gen [13,47] [] [.box (C2 d (.rs 47 [] 0 d.aj.length d.aj.length 464 .tip)),.arr 464 (PS.map aC)] hD (by simp[getAll]) (by simp) (by simp) (by simp[ae,ab,bj,idx]) (by simp[ah,ab,bj,idx]) (by simp[aO,aI,aV,idx]) (by simp[aZ,aI,aV,idx]) (by simp[ah,ab,fY]) ?_
  simp[bI,aZ,aI,eP,aaU]
  refine al.ret hT (by simp) (by simp) (by simp) ?_
  simp[hw]
  refine al.gen [13,47] [] [.box (C2 (qL d SL) (.rs 47 [] 0 d.aj.length d.aj.length 464 .tip)),.arr 464 (PS.map aC)] hS (by simp[getAll];rfl) (by simp) (by simp) (by simp[ae,ab,bj,idx]) (by simp[ah,ab,bj,idx]) (by simp[aO,aI,aV,idx]) (by simp[aZ,aI,aV,idx]) (by simp[ah,ab,fY]) ?_
  simp[bI,aZ,aI,eP]
  refine aM.with [.keep [8,9],.dr 13] [47] ?_
  simp[cr,dx,ab,ah]
  have he:mc d i hi s true= {yW (qL d SL) (kX (qL d SL).timers ⟨(qL d SL).now+3*d.rules.lQ,nZ i,5⟩)with aj:=PS}:=by
   simp only[mc,hPS,hSL,hSD,yW,qL]
  rw[he]
  exact⟨rfl,rfl⟩
 |
  false=>
  have lg:(List.map aC d.aj).set i (aC {d.aj[i]with ring:=On d.aj[i].ring s})=PS.map aC:=by
   rw[hPS,List.map_set];rfl
  have hD:=vZ (d:=d) (by omega) (l:=Gu d.aj[i].ring) (C3 d.aj[i].ring false) PS
  have aaU:fh d.aD (Gu d.aj[i].ring)=SD:=by rw[hSD];rfl
  have hS:=yC (d:=qL d SL) (by show d.timers.length≤1048575;omega) (ps:=PS) (i:=i) (by omega) 5 (n:=3*d.rules.lQ) h.n0 h.n1 (by omega) (by omega)
  rw[hPi]at hS
  rw[hPl]at hD hS
  dsimp only at lg
  simp[V7]
  refine a0.ret (dz d.aj[i].ring s) (by simp) (by simp) (by simp) ?_
  simp[hi]
  rw[lg]
  refine al.gen [13,47] [] [.box (C2 d (.rs 47 [] 0 d.aj.length d.aj.length 464 .tip)),.arr 464 (PS.map aC)] hD (by simp[getAll]) (by simp) (by simp) (by simp[ae,ab,bj,idx]) (by simp[ah,ab,bj,idx]) (by simp[aO,aI,aV,idx]) (by simp[aZ,aI,aV,idx]) (by simp[ah,ab,fY]) ?_
  simp[bI,aZ,aI,eP,aaU]
  refine al.ret hT (by simp) (by simp) (by simp) ?_
  simp[hw]
  refine al.gen [13,47] [] [.box (C2 (qL d SL) (.rs 47 [] 0 d.aj.length d.aj.length 464 .tip)),.arr 464 (PS.map aC)] hS (by simp[getAll];rfl) (by simp) (by simp) (by simp[ae,ab,bj,idx]) (by simp[ah,ab,bj,idx]) (by simp[aO,aI,aV,idx]) (by simp[aZ,aI,aV,idx]) (by simp[ah,ab,fY]) ?_
  simp[bI,aZ,aI,eP]
  refine aM.with [.keep [8,9],.dr 13] [47] ?_
  simp[cr,dx,ab,ah]
  have he:mc d i hi s false= {yW (qL d SL) (kX (qL d SL).timers ⟨(qL d SL).now+3*d.rules.lQ,nZ i,5⟩)with aj:=PS}:=by
   simp only[mc,hPS,hSL,hSD,yW,qL]
  rw[he]
  exact⟨rfl,rfl⟩
end Go.Ab
end H4s
noncomputable section H5s
namespace Go.Ab
open Go.Ab
theorem It {d:bK} {c:qe} {n:Nat} (hV:VP d n) (hn:n=2∨n=3) (hC:gK c):
  aw Pg F.Zt (ends 1 [AK.load true 148 (AX.t 2)] λr fp=>∃a b,(VM a 40∧2≤a.aj.length∧gK b∧Bd a)∧r=br a (.rs (KB+1) [] 0 a.aj.length a.aj.length 464 .tip)∧fp=[bh.box (gQ b),bh.arr 464 (a.aj.map aC)])
   {
    env:=[(0,.pt KB [] 0),(2,.pt 2 [] 0),(3,.pt 3 [] 0),(4,.int .i64 n),(5,.int .i64 n),(38,.int .i64 n),(39,.int .i64 n),(40,.bl false)],
    bx:=[(2,.box zD),(3,.box (br d (.rs 80 [] 0 n n 464 .tip))),(80,.arr 464 (d.aj.map aC)),(KB,.box (gQ c))]}:=by
 simp[F.Zt]
 refine jh.ko n (d,c) (λi y=>(VM y.1 (3+3*i)∧y.1.aj.length=n∧ar4 y.1 (10*i))∧gK y.2) [0,2,3,4,7] (λi _=>[(7,.int .i64 i)]) (λi y=>[(3,.box (br y.1 (.rs 80 [] 0 n n 464 .tip))),(80,.arr 464 (y.1.aj.map aC)),(KB,.box (gQ y.2))]) [.keep [0,2,3,4,7]] ?_
 simp
 have hL:=hV.len
 refine⟨⟨⟨⟨hV.vm.vd,hV.vm.ti.mono (by omega)⟩,hL,?_⟩,hC⟩,?_,?_⟩
 ·intro x hx;rw[hV.sl]at hx;simp at hx
 ·intro i d c hi hV hL hS hC K hK
  have Cs:IntKind.i64.wrap ((i:Int)+1)=(i:Int)+1:=wrap_i64 (by omega)
  simp[F.Zu,hi]
  refine al.nJ KB (bf hC 4 (by omega)) (by simp) (by simp[ae,ab,bj,idx]) (by simp[aO,aI,aV,idx]) (by simp) ?_
  have m1:=eI c (n:=4) (by omega)
  have p1:=dF hC 4
  generalize lN c 4=y1 at*
  simp
  refine jh.ko y1.1 (d,y1.2) (λj y=>(VM y.1 (3+3*i+j)∧y.1.aj.length=n∧(∀x∈y.1.aD,0≤x.index∧(x.index<10*i∨10*(i:Int)+y1.1-j<x.index∧x.index≤10*i+3)))∧gK y.2) [0,2,3,4,7,8] (λj _=>[(8,.int .i64 ((y1.1:Int)-j))]) (λj y=>[(3,.box (br y.1 (.rs 80 [] 0 n n 464 .tip))),(80,.arr 464 (y.1.aj.map aC)),(KB,.box (gQ y.2))]) [.keep [0,2,3,4,7,8]] ?_
  simp
  refine⟨⟨⟨hV,hL,λx hx=>⟨(hS x hx).1,Or.inl (hS x hx).2⟩⟩,p1⟩,?_,?_⟩
  ·intro j d c hj hV hL hS hC K2 xY
   have hgt:(0:Int)<(y1.1:Int)-j:=by omega
   have v1:IntKind.i64.wrap (10*(i:Int))=10*(i:Int):=wrap_i64 (by omega)
   have v2:IntKind.i64.wrap (10*(i:Int)+((y1.1:Int)-j))=10*(i:Int)+((y1.1:Int)-j):=wrap_i64 (by omega)
   obtain⟨m,hm⟩:∃m:Nat,m=10*i+(y1.1-j):=⟨_,rfl⟩
   have v3:IntKind.u32.wrap (10*(i:Int)+((y1.1:Int)-j))=(m:Int):=by rw[wrap_u32 (by omega)];omega
   have v4:IntKind.i64.wrap ((y1.1:Int)-j-1)=(y1.1:Int)-(j+1):=by rw[wrap_i64 (by omega)];omega
   have ht:List.take n (List.map aC d.aj)=List.map aC d.aj:=tJ (by simp[hL])
   simp[F.Zv]
   refine Up.of (λs'=>s'=⟨[(0,.pt KB [] 0),(2,.pt 2 [] 0),(3,.pt 3 [] 0),(4,.int .i64 n),(7,.int .i64 i),(8,.int .i64 ((y1.1:Int)-j))],[(2,.box zD),(3,.box (dY d)),(KB,.box (gQ c))]⟩) ?_ ?_
   ·simp[hj]
    refine⟨[.keep [0,2,3,4,7,8],.fz 80],?_⟩
    simp
    rw[if_pos ⟨hL.symm,by omega⟩,ht]
    rfl
   rintro s' rfl
   simp
   refine ny.run [KB] rfl ?_
   simp
   refine a0.ret (dR (i:=i) (by omega)) (by simp) (by simp) (by simp) ?_
   simp[v1,v2,v3]
   refine al.yU KB (dW hC hV.vd.n0 hV.vd.n1 hV.vd.ru (n:=m) (by omega) (by omega)) (by simp) (by simp[ae,ab,bj,idx]) (by simp[aO,aI,aV,idx]) (by simp) ?_
   rintro⟨s,c1⟩ ⟨hs,Dp,o1⟩
   simp at hs Dp o1
   simp
   refine al.nJ KB (na o1) (by simp) (by simp[ae,ab,bj,idx]) (by simp[aO,aI,aV,idx]) (by simp) ?_
   have o2:gK (bool c1).2:=dF o1 2
   generalize bool c1=x2 at*
   simp
   have hip:i<d.aj.length:=by omega
   have n6:∀x∈d.aD,x.index≠s.loc:=by
    intro x hx he
    rcases(hS x hx).2 with h|h<;>omega
   refine al.gen [] [120] [] (Lv hV.vd hip hs (by omega) n6 x2.1) (by simp) (by simp) (by simp) (by simp[ae]) (by simp) (by simp[aO]) (by simp) (by simp[ah,ab,ae,fY,br]) ?_
   have hil:(mc d i hip s x2.1).aj.length=n:=C8.trans hL
   simp[bI,aZ,aI,aO,eP,hL,v4]
   refine⟨[.keep [0,2,3,4,7,8],.mv 120 80],?_⟩
   simp
   have q1:tY 120 80 KB=KB:=rfl
   have q2:tY 120 80 2=2:=rfl
   have q3:tY 120 80 3=3:=rfl
   have q4:tY 120 80 120=80:=rfl
   refine xY (mc d i hip s x2.1) x2.2 _ (by simp[q1,q2,q3,q4]) (hV.inst (by omega) hip hs (by omega) n6 x2.1) (C8.trans hL) ?_ o2
   intro x hx
   rcases Lr hx with h|h
   ·exact⟨by omega,by right;omega⟩
   ·have g:=hS x h
    exact⟨g.1,by rcases g.2 with h|h<;>omega⟩
  ·intro d c hV hL hS hC K2
   simp[F.Zv]
   refine Up.of (λ_=>False) ?_ (λ_ h=>h.elim)
   simp[F.al0,Cs]
   refine⟨[.keep [0,2,3,4,7]],?_⟩
   simp
   refine hK d c _ (by simp) ⟨hV.vd,hV.ti.mono (by omega)⟩ hL ?_ hC
   intro x hx
   have g:=hS x hx
   exact⟨g.1,by rcases g.2 with h|h<;>omega⟩
 ·intro d c hV hL hS hC K
  simp[F.Zu,F.al1]
  refine aM.with [] [KB,80] ?_
  simp[ah,aZ,ab]
  exact⟨d,c,⟨⟨hV.vd,hV.ti.mono (by omega)⟩,by omega,hC,λx hx=>⟨(hS x hx).1,by have:=(hS x hx).2;omega⟩⟩,by rw[hL],rfl,rfl⟩
theorem OX {c:qe} (h:gK c):
  af Pg I.mD [.pt KB [] 0] [.box (gQ c)] (λr fp=>∃w:bK×qe,(VM w.1 40∧w.1.aj.length≥2∧gK w.2∧Bd w.1)∧r=br w.1 (.rs (KB+1) [] 0 w.1.aj.length w.1.aj.length 464 .tip)∧fp=[.box (gQ w.2),.arr 464 (w.1.aj.map aC)]):=by
 refine af.intro T.D2 (by simp[F.D2]) ?_
 simp[F.D2,an,aG]
 refine al.yU KB (Gp h) (by simp) (by simp[ae,ab,bj,idx]) (by simp[aO,aI,aV,idx]) (by simp) ?_
 rintro⟨ru,c1⟩ ⟨zQ,o1⟩
 simp
 refine al.yU KB (oE o1) (by simp) (by simp[ae,ab,bj,idx]) (by simp[aO,aI,aV,idx]) (by simp) ?_
 rintro⟨k1,c2⟩ o2
 simp
 refine al.yU KB (oE o2) (by simp) (by simp[ae,ab,bj,idx]) (by simp[aO,aI,aV,idx]) (by simp) ?_
 rintro⟨k2,c3⟩ o3
 simp
 refine al.yU KB ((C0 o3 65536 (by omega) (by omega)).mono (R':=λr fp=>∃w:Nat×qe,(gK w.2∧w.1<65536)∧r= .int .i64 w.1∧fp=[.box (gQ w.2)]) ?_) (by simp) (by simp[ae,ab,bj,idx]) (by simp[aO,aI,aV,idx]) (by simp) ?_
 ·rintro r fp ⟨m,c',a,b,e,f⟩;exact⟨⟨m,c'⟩,⟨a,b⟩,e,f⟩
 rintro⟨po,c4⟩ ⟨o4,hpo⟩
 simp
 refine al.yU KB (oE o4) (by simp) (by simp[ae,ab,bj,idx]) (by simp[aO,aI,aV,idx]) (by simp) ?_
 rintro⟨k3,c5⟩ o5
 simp
 refine al.yU KB ((C0 o5 16777216 (by omega) (by omega)).mono (R':=λr fp=>∃w:Nat×qe,(gK w.2∧w.1<16777216)∧r= .int .i64 w.1∧fp=[.box (gQ w.2)]) ?_) (by simp) (by simp[ae,ab,bj,idx]) (by simp[aO,aI,aV,idx]) (by simp) ?_
 ·rintro r fp ⟨m,c',a,b,e,f⟩;exact⟨⟨m,c'⟩,⟨a,b⟩,e,f⟩
 rintro⟨nw,c6⟩ ⟨o6,zV⟩
 dsimp only at hpo zV o1 o2 o3 o4 o5 o6 zQ
 have w1:IntKind.i64.wrap (nw:Int)=(nw:Int):=wrap_i64 (by omega)
 simp
 refine ny.run [KB] rfl ?_
 simp
 refine al.yU KB (oE o6) (by simp) (by simp[ae,ab,bj,idx]) (by simp[aO,aI,aV,idx]) (by simp) ?_
 rintro⟨k4,c7⟩ o7
 simp
 refine al.nJ KB (bf o7 2 (by omega)) (by simp) (by simp[ae,ab,bj,idx]) (by simp[aO,aI,aV,idx]) (by simp) ?_
 have l8:=eI c7 (n:=2) (by omega)
 have o8:=dF o7 2
 generalize lN c7 2=x8 at*
 simp
 refine al.nJ KB (bf o8 2 (by omega)) (by simp) (by simp[ae,ab,bj,idx]) (by simp[aO,aI,aV,idx]) (by simp) ?_
 have l9:=eI x8.2 (n:=2) (by omega)
 have o9:=dF o8 2
 generalize lN x8.2 2=x9 at*
 have w2:IntKind.i64.wrap ((x8.1:Int)*min (nw:Int) 20000)=(x8.1:Int)*min (nw:Int) 20000:=by
  rcases(by omega:x8.1=0∨x8.1=1)with e|e<;>rw[e]<;>exact wrap_i64 (by omega)
 have h3:0≤(nw:Int)-(x8.1:Int)*min (nw:Int) 20000∧(nw:Int)-(x8.1:Int)*min (nw:Int) 20000≤nw:=by
  rcases(by omega:x8.1=0∨x8.1=1)with e|e<;>rw[e]<;>omega
 have w3:IntKind.i64.wrap ((nw:Int)-(x8.1:Int)*min (nw:Int) 20000)=(nw:Int)-(x8.1:Int)*min (nw:Int) 20000:=wrap_i64 (by omega)
 have w4:IntKind.i64.wrap (2+(x9.1:Int))=((2+x9.1:Nat):Int):=by rw[wrap_i64 (by omega)];omega
 obtain⟨n,hn⟩:∃n,n=2+x9.1:=⟨_,rfl⟩
 obtain⟨sa,hsa⟩:∃sa,sa=(nw:Int)-(x8.1:Int)*min (nw:Int) 20000:=⟨_,rfl⟩
 rw[←hsa]at h3 w3
 simp only[w2,w3,←hsa]
 simp
 simp only[w4,←hn]
 obtain⟨d0,hd0⟩:∃d:bK,d=⟨ru,k1.fv,k2.fv,po,k3.fv,nw,[],[],[],[],k4.fv,sa,[],[],0⟩:=⟨_,rfl⟩
 refine jh.ko n (d0,x9.2) (λi y=>VP y.1 i∧gK y.2) [0,2,3,4,5] (λi _=>[(5,.int .i64 i)]) (λi y=>[(3,.box (br y.1 (.rs 80 [] 0 i i 464 .tip))),(80,.arr 464 (y.1.aj.map aC)),(KB,.box (gQ y.2))]) [.vb 3 [.f 6 108] 80 464,.wb 3,.keep [0,2,3,4,5]] ?_
 simp
 refine⟨by rw[hd0];exact⟨rfl,rfl⟩,⟨?_,o9⟩,?_,?_⟩
 ·rw[hd0]
  refine⟨⟨?_,⟨.nil,by simp,.nil,by simp⟩⟩,rfl,rfl,by simp⟩
  exact⟨zQ,by show(0:Int)≤nw;omega,by show(nw:Int)≤16777216;omega,by show(0:Int)≤po;omega,by show(po:Int)≤65535;omega,rfl,⟨by simp,by simp⟩,by simp,⟨by simp,by simp⟩,rfl,⟨⟨by simp,by simp⟩,by simp⟩,⟨by simp,by simp,by simp,by simp⟩,h3.1,h3.2,rfl,rfl⟩
 ·intro i d cc hi hV hC K hK
  have Cs:IntKind.i64.wrap ((i:Int)+1)=((i+1:Nat):Int):=by rw[wrap_i64 (by omega)];omega
  have hu8:((UInt8.ofNat (i+1)).toNat:Int)=((i+1:Nat):Int):=by simp[UInt8.toNat_ofNat];omega
  have hH:=b8 (UInt8.ofNat (i+1)) 0
  obtain⟨u,hu⟩:∃u,u=UInt8.ofNat (i+1):=⟨_,rfl⟩
  have PG:rt i=⟨rE u,nZ i⟩:=by rw[hu];rfl
  rw[hu8,show(((0:UInt8).toNat:Nat):Int)=0 from rfl]at hH
  have hVv:=hV.vm.vd
  have LU:=hVv.n0
  have Dr:=hVv.n1
  have JX:d.bn.length=i:=by rw[hVv.rtl,hV.len]
  have E3:=hVv.tis.len
  have hro:∀r∈d.bn,∃m,m<UInt8.ofNat (i+1)∧r.K6=rE m:=by
   intro r hr
   obtain⟨j,hj,rfl⟩:=List.mem_iff_getElem.1 hr
   refine⟨UInt8.ofNat (j+1),?_,by rw[hVv.Y5.2 j hj];rfl⟩
   rw[UInt8.lt_iff_toNat_lt]
   simp[UInt8.toNat_ofNat]
   omega
  rw[←hu]at hH hro
  simp[F.Zw,hi]
  refine al.ret (dR (i:=i) (by omega)) (by simp) (by simp) (by simp) ?_
  simp
  refine al.nJ KB (bf hC 8 (by omega)) (by simp) (by simp[ae,ab,bj,idx]) (by simp[aO,aI,aV,idx]) (by simp) ?_
  have m1:=eI cc (n:=8) (by omega)
  have p1:=dF hC 8
  generalize lN cc 8=y1 at*
  by_cases hb:0<y1.1
  ·simp[hb]
   refine al.ret (fL (i:=i) (by omega)) (by simp) (by simp) (by simp) ?_
   simp
   refine al.nJ KB (bf p1 4 (by omega)) (by simp) (by simp[ae,ab,bj,idx]) (by simp[aO,aI,aV,idx]) (by simp) ?_
   have m2:=eI y1.2 (n:=4) (by omega)
   have p2:=dF p1 4
   generalize lN y1.2 4=y2 at*
   by_cases hc:(y2.1:Int)=1
   ·simp[hc]
    refine al.nJ KB (bf p2 30 (by omega)) (by simp) (by simp[ae,ab,bj,idx]) (by simp[aO,aI,aV,idx]) (by simp) ?_
    have m3:=eI y2.2 (n:=30) (by omega)
    have p3:=dF p2 30
    generalize lN y2.2 30=y3 at*
    have v1:IntKind.i64.wrap (1+(y3.1:Int))=1+(y3.1:Int):=wrap_i64 (by omega)
    have v2:IntKind.i64.wrap (1000*(1+(y3.1:Int)))=1000*(1+(y3.1:Int)):=wrap_i64 (by omega)
    simp[v1,v2]
    refine ny.run [KB] rfl ?_
    simp
    refine al.nJ KB (bf p3 200 (by omega)) (by simp) (by simp[ae,ab,bj,idx]) (by simp[aO,aI,aV,idx]) (by simp) ?_
    have m4:=eI y3.2 (n:=200) (by omega)
    have p4:=dF p3 200
    generalize lN y3.2 200=y4 at*
    have v3:IntKind.i64.wrap (d.now+1)=d.now+1:=wrap_i64 (by omega)
    have v4:IntKind.i64.wrap ((y4.1:Int)*10)=(y4.1:Int)*10:=wrap_i64 (by omega)
    have v5:IntKind.i64.wrap (d.now+1+(y4.1:Int)*10)=d.now+1+(y4.1:Int)*10:=wrap_i64 (by omega)
    simp[v3,v4,v5]
    obtain⟨A,hA⟩:∃A,A=d.now+1+(y4.1:Int)*10:=⟨_,rfl⟩
    rw[←hA]
    refine a0.ret (cu (l:=d.timers) (by omega) ⟨A,nZ i,4⟩) (by simp;rfl) (by simp) (by simp) ?_
    obtain⟨T,hT⟩:∃T,T=kX d.timers ⟨A,nZ i,4⟩:=⟨_,rfl⟩
    rw[←hT]
    simp[Cs,hV.len]
    refine⟨⟨by omega,by omega⟩,?_⟩
    refine a0.ret hH (by simp) (by simp) (by simp) ?_
    simp
    refine a0.ret (cL (a:=jv u 0) (s7 _)) (by simp) (by simp) (by simp) ?_
    simp
    refine a0.ret (bE (l:=d.bn) (n:=u) hro (by omega) (nZ i)) (by simp;rfl) (by simp) (by simp) ?_
    simp[Cs]
    refine⟨[.keep [0,2,3,4,5],.dr 6],?_⟩
    simp[cr,dx,ab,ah]
    refine hK (qO d (pz i true (1000*(1+(y3.1:Int)))) i T) y4.2 _ ?_ (hV.add (by omega) (JD (by omega) ?_) rfl rfl ?_) ?_
    ·simp[qO,PG]
     exact⟨rfl,rfl⟩
    ·exact Or.inr (by omega)
    ·exact Or.inr ⟨A,by omega,by omega,by show(1000*(1+(y3.1:Int)))≠0;omega,hT⟩
    ·assumption
   ·simp[hc]
    simp[Cs,hV.len]
    refine⟨⟨by omega,by omega⟩,?_⟩
    refine a0.ret hH (by simp) (by simp) (by simp) ?_
    simp
    refine a0.ret (cL (a:=jv u 0) (s7 _)) (by simp) (by simp) (by simp) ?_
    simp
    refine a0.ret (bE (l:=d.bn) (n:=u) hro (by omega) (nZ i)) (by simp;rfl) (by simp) (by simp) ?_
    simp[Cs]
    refine⟨[.keep [0,2,3,4,5],.dr 6],?_⟩
    simp[cr,dx,ab,ah]
    refine hK (qO d (pz i true 0) i d.timers) y2.2 _ ?_ (hV.add (by omega) (JD (by omega) ?_) rfl rfl ?_) ?_
    ·simp[qO,PG]
     exact⟨rfl,rfl⟩
    ·exact Or.inl rfl
    ·exact Or.inl rfl
    ·assumption
  ·simp[hb]
   refine al.nJ KB (bf p1 4 (by omega)) (by simp) (by simp[ae,ab,bj,idx]) (by simp[aO,aI,aV,idx]) (by simp) ?_
   have m2:=eI y1.2 (n:=4) (by omega)
   have p2:=dF p1 4
   generalize lN y1.2 4=y2 at*
   by_cases hc:(y2.1:Int)=1
   ·simp[hc]
    refine al.nJ KB (bf p2 30 (by omega)) (by simp) (by simp[ae,ab,bj,idx]) (by simp[aO,aI,aV,idx]) (by simp) ?_
    have m3:=eI y2.2 (n:=30) (by omega)
    have p3:=dF p2 30
    generalize lN y2.2 30=y3 at*
    have v1:IntKind.i64.wrap (1+(y3.1:Int))=1+(y3.1:Int):=wrap_i64 (by omega)
    have v2:IntKind.i64.wrap (1000*(1+(y3.1:Int)))=1000*(1+(y3.1:Int)):=wrap_i64 (by omega)
    simp[v1,v2]
    refine ny.run [KB] rfl ?_
    simp
    refine al.nJ KB (bf p3 200 (by omega)) (by simp) (by simp[ae,ab,bj,idx]) (by simp[aO,aI,aV,idx]) (by simp) ?_
    have m4:=eI y3.2 (n:=200) (by omega)
    have p4:=dF p3 200
    generalize lN y3.2 200=y4 at*
    have v3:IntKind.i64.wrap (d.now+1)=d.now+1:=wrap_i64 (by omega)
    have v4:IntKind.i64.wrap ((y4.1:Int)*10)=(y4.1:Int)*10:=wrap_i64 (by omega)
    have v5:IntKind.i64.wrap (d.now+1+(y4.1:Int)*10)=d.now+1+(y4.1:Int)*10:=wrap_i64 (by omega)
    simp[v3,v4,v5]
    obtain⟨A,hA⟩:∃A,A=d.now+1+(y4.1:Int)*10:=⟨_,rfl⟩
    rw[←hA]
    refine a0.ret (cu (l:=d.timers) (by omega) ⟨A,nZ i,4⟩) (by simp;rfl) (by simp) (by simp) ?_
    obtain⟨T,hT⟩:∃T,T=kX d.timers ⟨A,nZ i,4⟩:=⟨_,rfl⟩
    rw[←hT]
    simp[Cs,hV.len]
    refine⟨⟨by omega,by omega⟩,?_⟩
    refine a0.ret hH (by simp) (by simp) (by simp) ?_
    simp
    refine a0.ret (cL (a:=jv u 0) (s7 _)) (by simp) (by simp) (by simp) ?_
    simp
    refine a0.ret (bE (l:=d.bn) (n:=u) hro (by omega) (nZ i)) (by simp;rfl) (by simp) (by simp) ?_
    simp[Cs]
    refine⟨[.keep [0,2,3,4,5],.dr 6],?_⟩
    simp[cr,dx,ab,ah]
    refine hK (qO d (pz i false (1000*(1+(y3.1:Int)))) i T) y4.2 _ ?_ (hV.add (by omega) (JD (by omega) ?_) rfl rfl ?_) ?_
    ·simp[qO,PG]
     exact⟨by first|rfl|(rw[gX];rfl),(ahg i _).symm⟩
    ·exact Or.inr (by omega)
    ·exact Or.inr ⟨A,by omega,by omega,by show(1000*(1+(y3.1:Int)))≠0;omega,hT⟩
    ·assumption
   ·simp[hc]
    simp[Cs,hV.len]
    refine⟨⟨by omega,by omega⟩,?_⟩
    refine a0.ret hH (by simp) (by simp) (by simp) ?_
    simp
    refine a0.ret (cL (a:=jv u 0) (s7 _)) (by simp) (by simp) (by simp) ?_
    simp
    refine a0.ret (bE (l:=d.bn) (n:=u) hro (by omega) (nZ i)) (by simp;rfl) (by simp) (by simp) ?_
    simp[Cs]
    refine⟨[.keep [0,2,3,4,5],.dr 6],?_⟩
    simp[cr,dx,ab,ah]
    refine hK (qO d (pz i false 0) i d.timers) y2.2 _ ?_ (hV.add (by omega) (JD (by omega) ?_) rfl rfl ?_) ?_
    ·simp[qO,PG]
     exact⟨by first|rfl|(rw[gX];rfl),(ahg i _).symm⟩
    ·exact Or.inl rfl
    ·exact Or.inl rfl
    ·assumption
 ·intro d cc hV hC K
  simp[F.Zw]
  exact It hV (by omega) hC
end Go.Ab
end H5s
noncomputable section Q15s
namespace Go.Ab
open Go.Ab
noncomputable def F.GI:cY:=⟨F.dP.nt,F.dP.res,Wh 1 F.dP.code⟩
theorem T.GI:kJ Pg [] [] I.dP=some F.GI.er:=OQ 1 T.dP
structure StW (d d':bK):Prop where
 timers:d'.timers.length≤d.timers.length+120
 aD:d'.aD.length≤d.aD.length+120
 bn:d'.bn=d.bn
 bD:d'.bD=d.bD
 buckets:d'.buckets=d.buckets
 yV:sF d.aj d'.aj
theorem al2 {d:bK} (hm:uo d) (hk:yB d.aj) (hr:C1 d.bn) (JX:d.bn.length=d.aj.length) (hs:d.aD.length<32) (hb:∀s∈d.aD,s.index≤1000) (ht:d.timers.length≤900000)
  (yd:OV d.aj) (hsg: -9223372036854775808≤d.rules.oX∧d.rules.oX≤9223372036854775807) {b:List UInt8} (aaT:b.length≤80) {x y:PV} (hx:Pure x) (hw:x.width=18) (hwk:wk x=x) (hy:Pure y) (G9:wk y=y) (a:Int):
  af Pg I.dP [dY d,.st 22 [.int .i64 1,x,eN b,.int .i64 a,y]] [] (λr fp=>fp=[]∧∃d' N,StW d d'∧aB N∧r= .tup [dY d',.sl 86 N false]):=by
 refine af.intro T.GI (by simp[F.GI,F.dP]) ?_
 simp[F.GI,F.dP,Wh,an,aG]
 refine Up.of (λs'=>s'=⟨[(3,.pt 3 [] 0),(4,.pt 4 [] 0),(5,.sl 86 [] true),(6,.pt 6 [] 0)],[(3,.box (.st 22 [.int .i64 1,x,eN b,.int .i64 a,y])),(4,.box zD),(6,.box (zG d 8 d.aj.length 200 0)),(8,.arr 464 (d.aj.map aC)),(200,.arr 86 [])]⟩) ?_ ?_
 ·simp
  refine al.gen [] [8] [] (bM hm) (by simp) (by simp) (by simp) (by simp[ae]) (by simp) (by simp[aO]) (by simp) (by simp[ah,ab,fY]) ?_
  simp[bI,aZ,aI,eP]
  refine⟨[.keep [3,4,5,6],.dr 2,.vb 6 [.f 1 148] 200 86],?_⟩
  simp[cr,dx,ab,ah,ae]
  exact⟨⟨hx.refs _,hy.refs _⟩,rfl,rfl⟩
 rintro s' rfl
 simp[hw]
 refine al.mo 6 8 200 (L:=[]) (OW hk hr JX hs hb ht mb (by simp) yd hsg aaT) (by simp) (by simp) (by simp) (by simp) mb (by simp[ae,ab,bj,idx]) (by simp[aO,aI,aV,idx]) ?_
 rintro r fp ⟨rfl,d',tO,L',⟨g1,g2,g3,g4,g5⟩,hW,mK,rT,rfl⟩
 refine⟨_,_,_,rfl,by simp,mK,?_⟩
 simp
 refine ny.run [4] rfl ?_
 simp
 refine aM.plain [.keep [4,5],.dr 3,.dr 6,.fz 8,.fz 200] ?_
 simp[cr,dx,ab,ah,mK.refs,mK.gq]
 exact⟨mK,{d' with aj:=tO},⟨by simpa using g1,by simpa using g2,g3,g4,g5,hW⟩,mK,rfl⟩
end Go.Ab
end Q15s
noncomputable section Q16s
namespace Go.Ab
open Go.Ab
theorem eV {l:List UInt8} {n:Nat} (hl:(l.length:Int)≤9223372036854775807) (hn:n≤1000):af Pg I.eV [eN l,.int .i64 n] [] (λr fp=>r= .pt KB [] 0∧fp=[.box (gQ ⟨l.take n,0⟩)]):=by
 refine af.intro T.eV (by simp[F.eV]) ?_
 simp[F.eV,an,aG,eN]
 refine⟨⟨by omega,by omega⟩,?_⟩
 refine aM.with [.keep [4]] [12] ?_
 have e:(min (l.length:Int) (n:Int)).toNat=min l.length n:=by omega
 have e2:List.take (min l.length n) (List.map u8 l)=List.take n (List.map u8 l):=by
  rcases Nat.le_total l.length n with h|h
  ·rw[Nat.min_eq_left h,tJ (by simp),tJ (by simpa using h)]
  ·rw[Nat.min_eq_right h]
 simp[ab,ah,ae,aZ,aI,aO,e,e2,gQ,eN]
@[simp↓] theorem Zx {s:St} (d:Option Nat) (sz:Nat) (p:PV) (K:St->Prop) (k:Nat) (pth:List Step) (off len aE bL:Nat) (c:jA):cpQ s d sz p K (.rs k pth off len aE bL c)=xl s (λsz'' ys=>(ys=[]∨sz''=sz)∧PX s d sz ys K p) (.rs k pth off len aE bL c):=_root_.id rfl
def OY (x:Int):UInt8:=UInt8.ofNat (IntKind.u8.wrap x).toNat
theorem JL (x:Int):PV.int .u8 (IntKind.u8.wrap x)=u8 (OY x):=by
 have h:0≤IntKind.u8.wrap x∧IntKind.u8.wrap x<256:=by constructor<;>simp[IntKind.wrap,IntKind.bits,IntKind.signed]<;>omega
 simp[u8,OY]
 omega
def Lw (l:List UInt8) (v:Int):Nat->List UInt8
 |0=>l
 |i+1=>(Lw l v i).set (20+i) (OY (v+IntKind.u8.wrap ((20+i:Nat):Int)))
theorem wG (l:List UInt8) (v:Int):∀i,(Lw l v i).length=l.length
 |0=>rfl
 |i+1=>by simp[Lw,wG l v i]
theorem EC {s d:tm} {n:Nat} (hn:n≤60) (v:Int):∃b:List UInt8,b.length=20+n∧sk Pg I.fa [jF s,jF d,.int .i64 n,.int .u8 v] 1 (b.map u8):=by
 obtain⟨m,hm⟩:∃m,m=20+n:=⟨_,rfl⟩
 have hw:IntKind.i64.wrap (20+(n:Int))=(m:Int):=by rw[wrap_i64 (by omega)];omega
 have hz:List.replicate m (PV.int .u8 0)=(List.replicate m (0:UInt8)).map u8:=by simp[u8]
 have h0:(List.replicate m (0:UInt8)).length=m:=by simp
 have hmx:max (m:Int) 0=m:=by omega
 have b1:(m:Int)≤281474976710656:=by omega
 have b2:(m:Int)≤9223372036854775807:=by omega
 have b3:0<m:=by omega
 have b4:(2:Int)<m:=by omega
 have b5:(3:Int)<m:=by omega
 have b6:(16:Int)≤m:=by omega
 have b7:(20:Int)≤m:=by omega
 generalize hZ:List.replicate m (0:UInt8)=Z at hz h0
 have z0:Z[0]? =some Z[0]:=gJ (by omega)
 have z2:Z[2]? =some Z[2]:=gJ (by omega)
 have z3:Z[3]? =some Z[3]:=gJ (by omega)
 have hs4:min 4 s.ip.length=4:=by have:=s.h;omega
 have hd4:min 4 d.ip.length=4:=by have:=d.h;omega
 obtain⟨Z1,hZ1⟩:∃Z1,Z1=((Z.set 0 69).set 2 (OY ((m:Int).fdiv (2^min 8 IntKind.i64.bits)))).set 3 (OY m):=⟨_,rfl⟩
 have l1:Z1.length=m:=by rw[hZ1];simp[h0]
 obtain⟨Z2,hZ2⟩:∃Z2,Z2=(Z1.take 12++(s.ip.take 4++Z1.drop 16)).take 16++(d.ip.take 4++(Z1.take 12++(s.ip.take 4++Z1.drop 16)).drop 20):=⟨_,rfl⟩
 have l2:Z2.length=m:=by rw[hZ2];simp[l1,s.h,d.h];omega
 refine⟨Lw Z2 v n,by rw[wG,l2,hm],?_⟩
 refine af.intro T.fa (by simp[F.fa]) ?_
 simp[F.fa,an,aG,hw,hz,b1,b2,b3,b4,b5,b6,b7,h0,z2,z3]
 have e1:((((Z.map u8).set 0 (.int .u8 69)).set 2 (.int .u8 (IntKind.u8.wrap ((m:Int).fdiv (2^min 8 IntKind.i64.bits))))).set 3 (.int .u8 (IntKind.u8.wrap m)))=(((Z.set 0 69).set 2 (OY ((m:Int).fdiv (2^min 8 IntKind.i64.bits)))).set 3 (OY m)).map u8:=by
  rw[List.map_set,List.map_set,List.map_set,←JL,←JL];rfl
 rw[e1,←hZ1]
 simp only[hs4,hd4]
 have e2:List.take 16 (List.take 12 (List.map u8 Z1)++(List.take 4 (List.take 4 (List.map u8 s.ip))++List.drop (12+4) (List.map u8 Z1)))++(List.take 4 (List.take 4 (List.map u8 d.ip))++List.drop (16+4) (List.take 12 (List.map u8 Z1)++(List.take 4 (List.take 4 (List.map u8 s.ip))++List.drop (12+4) (List.map u8 Z1))))=Z2.map u8:=by
  rw[hZ2];simp[List.map_take,List.map_drop,List.take_take]
 rw[e2]
 refine⟨by omega,by omega,⟨by omega,by omega⟩,?_⟩
 refine jh.jY n (λ_=>True) [3,9,10] (λi=>[(10,.int .i64 ((20+i:Nat):Int))]) (λi=>[(13,.arr 1 ((Lw Z2 v i).map u8))]) [.keep [3,9,10],.dr 4,.dr 5] ?_
 simp
 refine⟨rfl,λi hi K hK=> ?_,λK=> ?_⟩
 ·have h20:((20+i:Nat):Int)<m:=by omega
  have uP:20+i<(Lw Z2 v i).length:=by rw[wG];omega
  have uR:IntKind.i64.wrap (20+(i:Int)+1)=20+(i:Int)+1:=wrap_i64 (by omega)
  have J2:(Lw Z2 v i).length=m:=by rw[wG,l2]
  have hx:(Lw Z2 v i)[20+i]? =some (Lw Z2 v i)[20+i]:=gJ uP
  have c1:20+(i:Int)<m:=by omega
  have c2:(20+(i:Int)).toNat=20+i:=by omega
  have c3:0≤20+(i:Int):=by omega
  simp[↓av,hx,uR,J2,c1,c2,c3]
  refine⟨[.keep [3,8,9,10]],?_⟩
  simp
  refine hK _ ?_
  have e3:(List.map u8 (Lw Z2 v i)).set (20+i) (.int .u8 (IntKind.u8.wrap (v+IntKind.u8.wrap (20+(i:Int)))))=(Lw Z2 v (i+1)).map u8:=by
   rw[Lw,List.map_set,←JL];push_cast;rfl
  simp[e3]
  try omega
 ·have hln:(Lw Z2 v n).length=m:=by rw[wG,l2]
  have c1:¬20+(n:Int)<m:=by omega
  have c2:(m:Int)≤20+(n:Int):=by omega
  simp[↓av,hln,c1]
  refine aM.with [.keep [8]] [13] ?_
  simp[hln]
end Go.Ab
end Q16s
noncomputable section Q17s
namespace Go.Ab
open Go.Ab
theorem Zy {c:qe} (h:gK c):af Pg I.fW [.pt KB [] 0] [.box (gQ c)] (λr fp=>∃w:List UInt8×qe,(w.1.length≤80∧gK w.2)∧r= .st 22 [.int .i64 1,ji xE,eN w.1,.int .i64 0,.str []]∧fp=[.box (gQ w.2)]):=by
 refine af.intro T.fW (by simp[F.fW]) ?_
 simp[F.fW,an,aG,←OI]
 have hH:=b8 0 1
 simp at hH
 refine al.ret hH (by simp) (by simp) (by simp) ?_
 simp
 refine al.nJ KB (bf h 4 (by omega)) (by simp) (by simp[ae,ab,bj,idx]) (by simp[aO,aI,aV,idx]) (by simp) ?_
 have m1:=eI c (n:=4) (by omega)
 have p1:=dF h 4
 generalize lN c 4=y1 at*
 simp
 refine al.nJ KB (bf p1 256 (by omega)) (by simp) (by simp[ae,ab,bj,idx]) (by simp[aO,aI,aV,idx]) (by simp) ?_
 have m2:=eI y1.2 (n:=256) (by omega)
 have p2:=dF p1 256
 generalize lN y1.2 256=y2 at*
 have w1:IntKind.i64.wrap (1+(y1.1:Int))=((UInt8.ofNat (1+y1.1)).toNat:Int):=by rw[wrap_i64 (by omega)];simp[UInt8.toNat_ofNat];omega
 have w2:(y2.1:Int)=((UInt8.ofNat y2.1).toNat:Int):=by simp;omega
 have hH2:=b8 (UInt8.ofNat (1+y1.1)) (UInt8.ofNat y2.1)
 rw[←w1,←w2]at hH2
 simp
 refine al.ret hH2 (by simp) (by simp) (by simp) ?_
 simp
 refine al.nJ KB (bf p2 60 (by omega)) (by simp) (by simp[ae,ab,bj,idx]) (by simp[aO,aI,aV,idx]) (by simp) ?_
 have m3:=eI y2.2 (n:=60) (by omega)
 have p3:=dF p2 60
 generalize lN y2.2 60=y3 at*
 simp
 refine al.nJ KB (bf p3 256 (by omega)) (by simp) (by simp[ae,ab,bj,idx]) (by simp[aO,aI,aV,idx]) (by simp) ?_
 have m4:=eI y3.2 (n:=256) (by omega)
 have p4:=dF p3 256
 generalize lN y3.2 256=y4 at*
 simp
 obtain⟨b,hb,hP⟩:=EC (s:=jv 0 1) (d:=jv (UInt8.ofNat (1+y1.1)) (UInt8.ofNat y2.1)) (n:=y3.1) (by omega) (IntKind.u8.wrap (y4.1:Int))
 refine al.own 16 hP (by simp) (by simp) (by simp) (by simp) ?_
 simp
 refine al.nJ KB (bf p4 10 (by omega)) (by simp) (by simp[ae,ab,bj,idx]) (by simp[aO,aI,aV,idx]) (by simp) ?_
 have m5:=eI y4.2 (n:=10) (by omega)
 have p5:=dF p4 10
 generalize lN y4.2 10=y5 at*
 simp
 have y7:0<b.length:=by omega
 have hx0:b[0]? =some b[0]:=gJ y7
 have fin:∀(L:List UInt8) (c':qe),L.length≤80->gK c'->∃w:List UInt8×qe,(w.1.length≤80∧gK w.2)∧PV.st 22 [.int .i64 1,ji xE,eN L,.int .i64 0,.str []]= .st 22 [.int .i64 1,ji xE,eN w.1,.int .i64 0,.str []]∧[bh.box (gQ c')]=[.box (gQ w.2)]:=λL c' h1 h2=>⟨(L,c'),⟨h1,h2⟩,rfl,rfl⟩
 by_cases e1:(y5.1:Int)=1
 ·simp[e1]
  refine al.nJ KB (bf p5 b.length (by omega)) (by simp) (by simp[ae,ab,bj,idx]) (by simp[aO,aI,aV,idx]) (by simp) ?_
  have m6:=eI y5.2 (n:=b.length) (by omega)
  have p6:=dF p5 b.length
  generalize lN y5.2 b.length=y6 at*
  have q1:(y6.1:Int)≤b.length:=by omega
  simp[q1]
  refine aM.with [.keep [2,3],.fz 16] [KB] ?_
  simp[ab,ah,ae]
  have eb:PV.sl 1 (List.take y6.1 (List.map u8 b)) false=eN (b.take y6.1):=by simp[eN,List.map_take]
  rw[if_pos (by omega),eb]
  exact⟨(s5 _).refs _,b.take y6.1,y6.2,⟨by simp;omega,p6⟩,(s5 _).aI _,rfl⟩
 ·by_cases e2:(y5.1:Int)=2
  ·simp[e2]
   refine al.nJ KB (bf p5 256 (by omega)) (by simp) (by simp[ae,ab,bj,idx]) (by simp[aO,aI,aV,idx]) (by simp) ?_
   have m6:=eI y5.2 (n:=256) (by omega)
   have p6:=dF p5 256
   generalize lN y5.2 256=y6 at*
   simp[y7]
   refine aM.with [.keep [2,3],.fz 16] [KB] ?_
   simp[ab,ah,ae]
   have eb:List.take b.length ((List.map u8 b).set 0 (.int .u8 (IntKind.u8.wrap (y6.1:Int))))=(b.set 0 (OY y6.1)).map u8:=by
    rw[tJ (by simp),JL,←List.map_set]
   have eb2:PV.sl 1 ((b.set 0 (OY y6.1)).map u8) false=eN (b.set 0 (OY y6.1)):=rfl
   rw[eb,eb2]
   exact⟨(bR (λx=>by simp[u8]) _).refs _,b.set 0 (OY y6.1),y6.2,⟨by simp;omega,p6⟩,(s5 _).aI _,rfl⟩
  ·simp[e1,e2]
   refine aM.with [.keep [2,3],.fz 16] [KB] ?_
   simp[ah]
   exact⟨b,y5.2,⟨by omega,p5⟩,rfl,rfl⟩
end Go.Ab
end Q17s
noncomputable section Q18s
namespace Go.Ab
open Go.Ab
theorem al.aiI {P:Program} {s:St} {d:Option Nat} {f:FuncId} {args gy:List PV} {R:PV->Prop} {K:St->Prop} {t:Tg K} (hA:af P f gy [] (λr fp=>R r∧fp=[])) (ha:jO args=gy) (hp:aB args) (hv:∀r,R r->Pure r) (h:∀r,R r->K (s.put d r)):al P s d f args K t:=by
 subst ha
 refine al.F8 [] [] [] hA (by simp) (by simp) (by simp) (hp.refs _) (by simp) (by rw[hp.aI]) (by simp) ?_
 rintro r fp ⟨hr,rfl⟩
 exact⟨⟨rfl,(hv r hr).refs _,by simp⟩,by simpa[bI,(hv r hr).aI]using h r hr⟩
theorem avz:PV.st 148 [PV.st 10 [.int .u64 0,.int .u64 0,.int .i64 0,.int .i64 0,.int .i64 0,.int .i64 0,.int .i64 0,.int .i64 0,.int .i64 0,.int .i64 0],
 .ar 1 32 (zr 32 (.int .u8 0)),.ar 1 32 (zr 32 (.int .u8 0)),.int .i64 0,.ar 1 32 (zr 32 (.int .u8 0)),.int .i64 0,.sl 464 [] true,.sl 50 [] true,.sl 34 [] true,.sl 34 [] true,
 .ar 1 32 (zr 32 (.int .u8 0)),.int .i64 0,.sl 1 [] true,.sl 19 [] true,.int .i64 0]=zD:=rfl
def tgB (x:Int):FV vR:=⟨.ar 1 16 [.int .u8 (IntKind.u8.wrap x),.int .u8 1,.int .u8 0,.int .u8 0,.int .u8 0,.int .u8 0,.int .u8 0,.int .u8 0,.int .u8 0,.int .u8 0,.int .u8 0,.int .u8 0,.int .u8 0,.int .u8 0,.int .u8 0,.int .u8 0],by simp[Ab.fits,pj,lj]⟩
theorem al3 (x:Int):PV.ar 1 16 [.int .u8 (IntKind.u8.wrap x),.int .u8 1,.int .u8 0,.int .u8 0,.int .u8 0,.int .u8 0,.int .u8 0,.int .u8 0,.int .u8 0,.int .u8 0,.int .u8 0,.int .u8 0,.int .u8 0,.int .u8 0,.int .u8 0,.int .u8 0]=(tgB x).p:=rfl
structure al4 (p q:dC):Prop where
 gC:q.gC=p.gC
 ring:q.ring=p.ring
 stl:q.aW.length≤1
 stb:∀b∈q.aW,17≤b.length∧b.length≤80
def Dd (ps qs:List dC):Prop:=qs.length=ps.length∧∀(i:Nat) (p:dC),ps[i]? =some p->∃q:dC,qs[i]? =some q∧al4 p q
theorem Dd.set {ps qs:List dC} (h:Dd ps qs) {i:Nat} (hi:i<qs.length) {q:dC} (hq:q.gC=qs[i].gC∧q.ring=qs[i].ring) (h1:q.aW.length≤1) (h2:∀b∈q.aW,17≤b.length∧b.length≤80):Dd ps (qs.set i q):=by
 refine⟨by simp[h.1],λj p hp=> ?_⟩
 obtain⟨q0,e1,e2⟩:=h.2 j p hp
 by_cases hj:i=j
 ·subst hj
  rw[gJ hi]at e1
  cases e1
  exact⟨q,by simp[hi],⟨hq.1.trans e2.gC,hq.2.trans e2.ring,h1,h2⟩⟩
 ·exact⟨q0,by rw[List.getElem?_set_ne hj];exact e1,e2⟩
structure rG (d:bK):Prop where
 aj:d.aj.length≤3
 bn:d.bn.length≤3
 aD:d.aD.length≤200
 timers:d.timers.length≤200
 bD:d.bD.length≤2
 buckets:d.buckets.length≤1
 aW:∀p∈d.aj,p.aW.length≤100∧∀b∈p.aW,b.length≤80
 py:∀p∈d.aj,∃(e:bK) (p0:dC),mC e p0∧uC p0.ring.p p.ring.p∧uC p0.ring.c p.ring.c∧uC p0.ring.n p.ring.n
theorem rG.sml {d:bK} (h:rG d):uo d where
 aj:=by have:=h.aj;omega
 bn:=by have:=h.bn;omega
 aD:=by have:=h.aD;omega
 timers:=by have:=h.timers;omega
 bD:=by have:=h.bD;omega
 buckets:=by have:=h.buckets;omega
 aW:=λp hp=>by obtain⟨h1,h2⟩:=h.aW p hp;exact⟨by omega,λb hb=>by have:=h2 b hb;omega⟩
theorem Dd.mem {ps qs:List dC} (h:Dd ps qs) {q:dC} (hq:q∈qs):∃p∈ps,al4 p q:=by
 obtain⟨i,hi,rfl⟩:=List.getElem_of_mem hq
 have lO:i<ps.length:=by rw[←h.1];exact hi
 obtain⟨q,h1,h2⟩:=h.2 i ps[i] (gJ lO)
 rw[gJ hi]at h1
 cases h1
 exact⟨ps[i],List.getElem_mem lO,h2⟩
theorem sF.mem {ps qs:List dC} (h:sF ps qs) {q:dC} (hq:q∈qs):∃p∈ps,alW p q:=by
 obtain⟨i,hi,rfl⟩:=List.getElem_of_mem hq
 have lO:i<ps.length:=by rw[←h.1];exact hi
 obtain⟨q,h1,h2⟩:=h.2 i ps[i] (gJ lO)
 rw[gJ hi]at h1
 cases h1
 exact⟨ps[i],List.getElem_mem lO,h2⟩
theorem al5 {a b:List UInt8} (ha:(a.length:Int)≤9223372036854775807) (hb:(b.length:Int)≤9223372036854775807):af Pg I.lf [eN a,eN b] [] (λr fp=>fp=[]∧∃l d,rG d∧aB l∧r= .st 148 l∧wk r=dY d):=by
 refine af.intro T.bz (by simp[F.bz]) ?_
 simp[F.bz,an,aG]
 refine al.gen [] [9] [] (eV (n:=160) ha (by omega)) (by simp) (by simp) (by simp) (by simp[ae]) (by simp) (by simp[aO]) (by simp) (by simp[ah,ab,fY]) ?_
 simp[bI,aZ,aI,eP]
 have o1:gK ⟨a.take 160,0⟩:=⟨by simp;omega,by simp⟩
 generalize (⟨a.take 160,0⟩:qe)=c1 at o1
 refine al.F8 [9] [10] [.box (gQ c1)] (OX o1) (by simp[getAll]) (by simp) (by simp) (by simp[ae,ab,bj,idx]) (by simp[ah]) (by simp[aO,aI,aV,idx]) (by simp[aZ]) ?_
 rintro r fp ⟨⟨d,c2⟩,⟨hV,tc,o2,hB⟩,rfl,rfl⟩
 dsimp only at hV tc o2 hB
 refine⟨⟨rfl,by simp[ab,ae,fY,br],by simp[ah]⟩,?_⟩
 simp[bI,aZ,aI,eP]
 refine al.gen [] [12] [] (eV (n:=40) hb (by omega)) (by simp) (by simp) (by simp) (by simp[ae]) (by simp) (by simp[aO]) (by simp) (by simp[ah,ab,fY]) ?_
 simp[bI,aZ,aI,eP]
 have o3:gK ⟨b.take 40,0⟩:=⟨by simp;omega,by simp⟩
 generalize (⟨b.take 40,0⟩:qe)=c3 at o3
 simp only[avz]
 have Mi:=hV.vd.G5
 have hn3:=Mi.1
 have ant:∀p∈d.aj,p.aW=[]:=λp hp=>(hV.vd.yV p hp).aW
 refine jh.ko d.aj.length (d.aj,c3) (λi y=>Dd d.aj y.1∧gK y.2) [4,5,6,15,16] (λi _=>[(16,.int .i64 i)]) (λi y=>[(10,.arr 464 (y.1.map aC)),(12,.box (gQ y.2))]) [.keep [4,5,6,15,16],.dr 9] ?_
 simp[cr,dx,ab,ah]
 refine⟨⟨⟨rfl,λi p hp=>⟨p,hp,⟨rfl,rfl,by rw[ant p (List.mem_of_getElem? hp)];simp,by rw[ant p (List.mem_of_getElem? hp)];simp⟩⟩⟩,o3⟩,?_,?_⟩
 ·intro i ps cc hi hP hC K hK
  have QG:=hP.1
  have lO:i<ps.length:=by omega
  have hx:ps[i]? =some ps[i]:=gJ lO
  have hH1:=b8 0 1
  simp at hH1
  have hH2:=b8 (UInt8.ofNat (i+1)) 1
  have hu8:((UInt8.ofNat (i+1)).toNat:Int)=(i:Int)+1:=by simp[UInt8.toNat_ofNat];omega
  rw[hu8]at hH2
  simp at hH2
  have yc:IntKind.i64.wrap ((i:Int)+1)=(i:Int)+1:=wrap_i64 (by omega)
  have uR:=yc
  simp[F.Zz,hi]
  refine al.nJ 12 (na hC) (by simp) (by simp[ae,ab,bj,idx]) (by simp[aO,aI,aV,idx]) (by simp) ?_
  have p1:gK (bool cc).2:=dF hC 2
  generalize bool cc=y1 at*
  simp
  refine⟨λh1=> ?_,λh1=> ?_⟩
  ·refine ny.run [10] rfl ?_
   simp[QG,hi,gX,List.replicate,al3]
   generalize hq:({ps[i]with mP:=true,ot:=tgB i,qB:=IntKind.i64.wrap (d.now.tdiv 2)}:dC)=q
   have hqr:q.gC=ps[i].gC∧q.ring=ps[i].ring∧q.aW=ps[i].aW:=by subst hq;exact⟨rfl,rfl,rfl⟩
   refine al.nJ 12 (na p1) (by simp) (by simp[ae,ab,bj,idx]) (by simp[aO,aI,aV,idx]) (by simp) ?_
   have p2:gK (bool y1.2).2:=dF p1 2
   generalize bool y1.2=y2 at*
   simp
   refine⟨λh2=> ?_,λh2=> ?_⟩
   ·refine ny.run [12] rfl ?_
    simp
    refine a0.ret hH1 (by simp) (by simp) (by simp) ?_
    simp[yc]
    refine a0.ret hH2 (by simp) (by simp) (by simp) ?_
    simp
    refine al.nJ 12 (bf p2 30 (by omega)) (by simp) (by simp[ae,ab,bj,idx]) (by simp[aO,aI,aV,idx]) (by simp) ?_
    have m3:=eI y2.2 (n:=30) (by omega)
    have p3:=dF p2 30
    generalize lN y2.2 30=y3 at*
    obtain⟨pk,Mi,hP3⟩:=EC (s:=jv 0 1) (d:=jv (UInt8.ofNat (i+1)) 1) (n:=y3.1) (by omega) 1
    simp
    refine a0.ret (hP3.gq (bR (λx=>by simp[u8]) _)) (by simp) (by simp) (by simp) ?_
    have es:PV.sl 1 [PV.sl 1 (pk.map u8) false] false=gI [pk]:=rfl
    simp[QG,hi,es,uR]
    refine⟨[.keep [4,5,6,15,16]],?_⟩
    simp
    exact hK (ps.set i {q with aW:=[pk]}) y3.2 _ (by simp[List.map_set]) (hP.set lO ⟨hqr.1,hqr.2.1⟩ (by simp) (by simp[Mi];omega)) p3
   ·simp[uR]
    refine⟨[.keep [4,5,6,15,16]],?_⟩
    simp
    obtain⟨pi,f1,f2⟩:=hP.2 i d.aj[i] (gJ hi)
    have f3:ps[i]=pi:=by rw[hx]at f1;exact Option.some.inj f1
    exact hK (ps.set i q) y2.2 _ (by simp[List.map_set]) (hP.set lO ⟨hqr.1,hqr.2.1⟩ (by rw[hqr.2.2,f3];exact f2.stl) (by rw[hqr.2.2,f3];exact f2.stb)) p2
  ·refine al.nJ 12 (na p1) (by simp) (by simp[ae,ab,bj,idx]) (by simp[aO,aI,aV,idx]) (by simp) ?_
   have p2:gK (bool y1.2).2:=dF p1 2
   generalize bool y1.2=y2 at*
   simp
   refine⟨λh2=> ?_,λh2=> ?_⟩
   ·refine ny.run [12] rfl ?_
    simp
    refine a0.ret hH1 (by simp) (by simp) (by simp) ?_
    simp[yc]
    refine a0.ret hH2 (by simp) (by simp) (by simp) ?_
    simp
    refine al.nJ 12 (bf p2 30 (by omega)) (by simp) (by simp[ae,ab,bj,idx]) (by simp[aO,aI,aV,idx]) (by simp) ?_
    have m3:=eI y2.2 (n:=30) (by omega)
    have p3:=dF p2 30
    generalize lN y2.2 30=y3 at*
    obtain⟨pk,Mi,hP3⟩:=EC (s:=jv 0 1) (d:=jv (UInt8.ofNat (i+1)) 1) (n:=y3.1) (by omega) 1
    simp
    refine a0.ret (hP3.gq (bR (λx=>by simp[u8]) _)) (by simp) (by simp) (by simp) ?_
    have es:PV.sl 1 [PV.sl 1 (pk.map u8) false] false=gI [pk]:=rfl
    simp[QG,hi,es,uR]
    refine⟨[.keep [4,5,6,15,16]],?_⟩
    simp
    exact hK (ps.set i {ps[i]with aW:=[pk]}) y3.2 _ (by simp[List.map_set]) (hP.set lO ⟨rfl,rfl⟩ (by simp) (by simp[Mi];omega)) p3
   ·simp[uR]
    refine⟨[.keep [4,5,6,15,16]],?_⟩
    simp
    exact hK ps y2.2 _ (by simp) hP p2
 ·intro ps cc hP hC K
  have QG:=hP.1
  simp[F.Zz,F.al6]
  refine al.nJ 12 (bf hC 5 (by omega)) (by simp) (by simp[ae,ab,bj,idx]) (by simp[aO,aI,aV,idx]) (by simp) ?_
  have p1:=dF hC 5
  generalize lN cc 5=y1 at*
  simp
  obtain⟨d1,IG⟩:∃d1:bK,d1= {d with bad:=(y1.1:Int),aj:=ps}:=⟨_,rfl⟩
  refine Up.of (λs'=>∃(l:List PV) (d2:bK) (c2:qe),gK c2∧(aB l∧wk (.st 148 l)=dY d2)∧(d2=d1∨∃r1 r2,d2= {d1 with bD:=r1,buckets:=r2}∧r1.length≤2∧r2.length≤1)∧s'=⟨[(4,.pt 4 [] 0),(5,.pt 5 [] 0),(6,.pt 12 [] 0)],[(4,.box zD),(5,.box (.st 148 l)),(12,.box (gQ c2))]⟩) ?_ ?_
  ·simp
   refine al.nJ 12 (na p1) (by simp) (by simp[ae,ab,bj,idx]) (by simp[aO,aI,aV,idx]) (by simp) ?_
   have p2:gK (bool y1.2).2:=dF p1 2
   generalize bool y1.2=y2 at*
   simp
   refine⟨λh2=> ?_,λh2=> ?_⟩
   ·simp[s6,az]
    refine⟨[.keep [4,5,6],.fz 10],?_⟩
    simp[QG]
    refine⟨_,{d1 with bD:=[IntKind.i64.wrap (d.now.tdiv 2),d.now],buckets:=[⟨Oq,4000,d.now⟩]},y2.2,p2,⟨?_,?_⟩,.inr ⟨[IntKind.i64.wrap (d.now.tdiv 2),d.now],[⟨Oq,4000,d.now⟩],rfl,by simp,by simp⟩,rfl,rfl⟩
    ·simp
    ·have zX:List.take d.aj.length (List.map aC ps)=List.map aC ps:=tJ (by simp[QG])
     rw[zX]
     have ea:PV.st 17 [.bl false,.ar 1 16 (zr 16 (.int .u8 0))]=jF Oq:=by rw[gX];rfl
     simp
     rw[ea,IG]
     rfl
   ·refine⟨[.keep [4,5,6],.fz 10],?_⟩
    simp only[br]
    simp[QG]
    refine⟨_,d1,y2.2,p2,⟨?_,?_⟩,.inl rfl,rfl,rfl⟩
    ·simp
    ·have zX:List.take d.aj.length (List.map aC ps)=List.map aC ps:=tJ (by simp[QG])
     rw[zX]
     simp
     rw[IG]
     rfl
  ·rintro s' ⟨l,d2,c2,p2,⟨hlP,JU⟩,LR,rfl⟩
   have IP:d2.aj=ps:=by rcases LR with rfl|⟨r1,r2,rfl,_,_⟩<;>rw[IG]
   have nU:d2.bn=d.bn:=by rcases LR with rfl|⟨r1,r2,rfl,_,_⟩<;>rw[IG]
   have yZ:d2.aD=d.aD:=by rcases LR with rfl|⟨r1,r2,rfl,_,_⟩<;>rw[IG]
   have Du:d2.timers=d.timers:=by rcases LR with rfl|⟨r1,r2,rfl,_,_⟩<;>rw[IG]
   have hu2:d2.rules=d.rules:=by rcases LR with rfl|⟨r1,r2,rfl,_,_⟩<;>rw[IG]
   have y8:d2.bD.length≤2:=by
    rcases LR with rfl|⟨r1,r2,rfl,h1,_⟩
    ·rw[IG];show d.bD.length≤2;rw[hV.vd.rcn];simp
    ·exact h1
   have anu:d2.buckets.length≤1:=by
    rcases LR with rfl|⟨r1,r2,rfl,_,h2⟩
    ·rw[IG];show d.buckets.length≤1;rw[hV.vd.buc];simp
    ·exact h2
   have aDC:=hV.vd.sls.len hn3
   have aDD:=hV.ti.len
   have aDE:=hV.vd.Y5.1
   have rV:rG d2:=by
    refine⟨by rw[IP];omega,by rw[nU];omega,by rw[yZ];omega,by rw[Du];omega,y8,anu,λp hp=> ?_,λp hp=> ?_⟩
    ·rw[IP]at hp
     obtain⟨p0,_,hc⟩:=hP.mem hp
     exact⟨by have:=hc.stl;omega,λb hb=>(hc.stb b hb).2⟩
    ·rw[IP]at hp
     obtain⟨p0,h0,hc⟩:=hP.mem hp
     exact⟨d,p0,hV.vd.yV p0 h0,by rw[hc.ring];exact .refl _,by rw[hc.ring];exact .refl _,by rw[hc.ring];exact .refl _⟩
   simp
   refine al.nJ 12 (bf p2 4 (by omega)) (by simp) (by simp[ae,ab,bj,idx]) (by simp[aO,aI,aV,idx]) (by simp) ?_
   have p3:=dF p2 4
   generalize lN c2 4=y3 at*
   by_cases e1:(y3.1:Int)=1
   ·simp[e1]
    refine ny.run [12] rfl ?_
    simp
    refine al.yU 12 (Zy p3) (by simp) (by simp[ae,ab,bj,idx]) (by simp[aO,aI,aV,idx]) (by simp) ?_
    rintro⟨bb,c4⟩ ⟨hbb,p4⟩
    dsimp only at hbb p4
    simp
    have awU:yB d2.aj:=by
     rw[IP]
     refine⟨by omega,λj hj=> ?_⟩
     obtain⟨q,e1,e2⟩:=hP.2 j d.aj[j] (gJ (by omega))
     rw[gJ hj]at e1
     cases e1
     rw[e2.gC];exact Mi.2 j (by omega)
    have PI:OV d2.aj:=by
     rw[IP]
     intro p hp
     obtain⟨p0,_,hc⟩:=hP.mem hp
     exact⟨by have:=hc.stl;omega,hc.stb⟩
    have zQ:=hV.vd.ru
    have hS:=al2 (d:=d2) rV.sml awU (by rw[nU];exact hV.vd.Y5) (by rw[nU,IP,hV.vd.rtl];omega) (by rw[yZ];omega) (by rw[yZ];exact λs hs=>(hB s hs).2) (by rw[Du];omega) PI (by
     obtain⟨_,_,_,_,_,_,_,_,_,_,_,_,_,_,_,u1,u2⟩:=zQ
     rw[hu2];omega) hbb (x:=ji xE) (y:= .str []) (by simp) (by simp) (by simp) (by simp) (by simp) 0
    refine al.aiI (R:=λr=>∃d' N,StW d2 d'∧aB N∧r= .tup [dY d',.sl 86 N false]) (hS.mono ?_) ?_ (by simp[hlP]) ?_ ?_
    ·rintro r fp ⟨rfl,h⟩;exact⟨h,rfl⟩
    ·simp;simpa using JU
    ·rintro r ⟨d',N,_,hN,rfl⟩;simp[hN]
    rintro r ⟨d',N,hW,hN,rfl⟩
    simp
    have aDF:=rV.aD
    have aaz:rG d':=by
     have yc:=hW.timers
     have uR:=hW.aD
     rw[Du]at yc
     rw[yZ]at uR
     refine⟨by rw[hW.yV.1,IP];omega,by rw[hW.bn,nU];omega,by omega,by omega,by rw[hW.bD];exact y8,by rw[hW.buckets];exact anu,λp hp=> ?_,λp hp=> ?_⟩
     ·obtain⟨p0,_,hc⟩:=hW.yV.mem hp
      exact⟨hc.stl,hc.stb⟩
     ·obtain⟨p0,h0,hc⟩:=hW.yV.mem hp
      obtain⟨e,p1,g1,g2,g3,g4⟩:=rV.py p0 h0
      exact⟨e,p1,g1,g2.trans hc.rp,g3.trans hc.rc,g4.trans hc.rn⟩
    refine aM.plain [.keep [4],.dr 5,.dr 12] ?_
    simp[cr,dx,ab,ah]
    exact⟨_,d',aaz,by simpa[dY,br]using K8 d',rfl,rfl⟩
   ·simp[e1]
    refine aM.plain [.keep [4],.dr 5,.dr 12] ?_
    simp[cr,dx,ab,ah,hlP]
    exact⟨l,d2,rV,hlP,rfl,JU⟩
theorem af.wkR {P:Program} {f:FuncId} {args:List PV} {fp:List bh} {R:PV->List bh->Prop} (h:af P f args fp R):af P f args fp (λr kS=>∃r0,R r0 kS∧r=wk r0):=by
 intro Γ w vs h1 h2 h3 h4
 refine(h Γ w vs h1 h2 h3 h4).mono ?_
 rintro e w' ⟨v,r,kS,Γ',e1,e2,e3,e4,e5,e6,e7,e8⟩
 exact⟨v,wk r,kS,Γ',e1,⟨r,e2,rfl⟩,e3,e4,e5,e6.wk,e7,e8⟩
theorem aiJ {a b:List UInt8} (ha:(a.length:Int)≤9223372036854775807) (hb:(b.length:Int)≤9223372036854775807):af Pg I.lf [eN a,eN b] [] (λr fp=>(∃d,rG d∧r=dY d)∧fp=[]):=by
 refine(al5 ha hb).wkR.mono ?_
 rintro r fp ⟨r0,⟨rfl,l,d,h1,h2,rfl,h4⟩,rfl⟩
 exact⟨⟨d,h1,h4⟩,rfl⟩
end Go.Ab
end Q18s

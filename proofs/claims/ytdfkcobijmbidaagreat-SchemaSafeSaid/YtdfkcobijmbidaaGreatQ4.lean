/- A step on such a packet, from a made daemon. No condition. -/
import Derived.Test.YtdfkcobijmbidaaGreatB7
import Derived.Test.YtdfkcobijmbidaaGreatQ2
import Derived.Test.YtdfkcobijmbidaaGreatQ3
set_option maxRecDepth 10000
set_option maxHeartbeats 4000000
set_option linter.all false
noncomputable section H4s
namespace Go.Ab
open Go.Ab
theorem KA {d:bU} (h:VD d) {i:Nat} (hi:i<d.aj.length) {s:jt} (hs:u4 d s) (h1:1≤s.loc) (nr:∀x∈d.aM,x.index≠s.loc) (own:Bool):
  ah Pg I.ez [gO d,ey (nn i),eX s,.bl own] [] (λr fp=>r= .tup [bO (lD d i hi s own) (.rs KB [] 0 d.aj.length d.aj.length 464 .tip),.int .i64 0]∧fp=[.arr 464 ((lD d i hi s own).aj.map aP)]):=by
 refine ah.intro T.ez (by simp[F.ez]) ?_
 have DX:=h.sls.len h.Gf.1
 have hni:¬(i:Int)<0:=by omega
 have KR:¬s.loc=0:=by omega
 have yJ:=h.ru
 have hx:d.aj[i]? =some d.aj[i]:=gJ hi
 have hw:IntKind.i64.wrap (3*d.rules.mM)=3*d.rules.mM:=by
  obtain⟨h1,h2,h3,h4,h5,h6,h7,h8,h9,h10,h11,_⟩:=yJ
  exact wrap_i64 (by omega)
 simp[F.ez,au,aG]
 refine al.ret (RS h) (by simp) (by simp) (by simp) ?_
 simp
 refine al.ret (Hr h.Gf hi) (by simp) (by simp) (by simp) ?_
 simp[hni]
 refine al.ret (rI (l:=d.aM) (by omega) nr) (by simp) (by simp) (by simp) ?_
 simp[KR]
 refine al.ret (IN hs) (by simp) (by simp) (by simp) ?_
 simp
 refine al.gen [] [47] [] (dE h.sml) (by simp) (by simp) (by simp) (by simp[ae]) (by simp) (by simp[aK]) (by simp) (by simp[af,ab,fR]) ?_
 simp[bC,a0,aF,eO,hi]
 obtain⟨PS,hPS⟩:∃PS,PS=d.aj.set i (pR d.aj[i] (sT d.aj[i].ring s own)):=⟨_,rfl⟩
 have hPl:PS.length=d.aj.length:=by rw[hPS,List.length_set]
 obtain⟨SD,hSD⟩:∃SD,SD=eT d.aM (kh d.aj[i].ring own):=⟨_,rfl⟩
 have aBW:SD.length≤9:=by have:=lg (kh d.aj[i].ring own) d.aM;rw[←hSD]at this;omega
 have hT:=Take (l:=SD) (by omega) h1 (λx hx=>nr x (by rw[hSD]at hx;exact rL hx)) (nn i) true
 obtain⟨SL,hSL⟩:∃SL,SL=qX SD ⟨s.loc,nn i,true⟩:=⟨_,rfl⟩
 rw[←hSL]at hT
 have hPi:PS[i].gF=nn i:=by
  simp only[hPS,List.getElem_set_self];exact h.Gf.2 i hi
 have Gl:=h.tis.len
 have aBX:=h.n0
 have aBY:=h.n1
 obtain⟨q1,q2,q3,q4,q5,q6,q7,q8,q9,q10,q11,_⟩:=yJ
 cases own with
 |
  true=>
  have kC:(List.map aP d.aj).set i (aP {d.aj[i]with ring:=tC d.aj[i].ring s})=PS.map aP:=by
   rw[hPS,List.map_set];rfl
  have hD:=u9 (d:=d) (by omega) (l:=qI d.aj[i].ring) (Cj d.aj[i].ring true) PS
  have Zw:eT d.aM (qI d.aj[i].ring)=SD:=by rw[hSD];rfl
  have hS:=xv (d:=pY d SL) (by show d.timers.length≤1048575;omega) (ps:=PS) (i:=i) (by omega) 5 (n:=3*d.rules.mM) h.n0 h.n1 (by omega) (by omega)
  rw[hPi]at hS
  rw[hPl]at hD hS
  dsimp only at kC
  simp[Vb]
  refine a8.ret (dI d.aj[i].ring s) (by simp) (by simp) (by simp) ?_
  simp[hi]
  rw[kC]
  refine al.gen [13,47] [] [.box (Ci d (.rs 47 [] 0 d.aj.length d.aj.length 464 .tip)),.arr 464 (PS.map aP)] hD (by simp[getAll]) (by simp) (by simp) (by simp[ae,ab,bg,idx]) (by simp[af,ab,bg,idx]) (by simp[aK,aF,aT,idx]) (by simp[a0,aF,aT,idx]) (by simp[af,ab,fR]) ?_
  simp[bC,a0,aF,eO,Zw]
  refine al.ret hT (by simp) (by simp) (by simp) ?_
  simp[hw]
  refine al.gen [13,47] [] [.box (Ci (pY d SL) (.rs 47 [] 0 d.aj.length d.aj.length 464 .tip)),.arr 464 (PS.map aP)] hS (by simp[getAll];rfl) (by simp) (by simp) (by simp[ae,ab,bg,idx]) (by simp[af,ab,bg,idx]) (by simp[aK,aF,aT,idx]) (by simp[a0,aF,aT,idx]) (by simp[af,ab,fR]) ?_
  simp[bC,a0,aF,eO]
  refine aL.with [.keep [8,9],.dr 13] [47] ?_
  simp[bL,cL,ab,af]
  have he:lD d i hi s true= {xS (pY d SL) (lT (pY d SL).timers ⟨(pY d SL).now+3*d.rules.mM,nn i,5⟩)with aj:=PS}:=by
   simp only[lD,hPS,hSL,hSD,xS,pY]
  rw[he]
  exact⟨rfl,rfl⟩
 |
  false=>
  have kC:(List.map aP d.aj).set i (aP {d.aj[i]with ring:=Nm d.aj[i].ring s})=PS.map aP:=by
   rw[hPS,List.map_set];rfl
  have hD:=u9 (d:=d) (by omega) (l:=FC d.aj[i].ring) (Cj d.aj[i].ring false) PS
  have Zw:eT d.aM (FC d.aj[i].ring)=SD:=by rw[hSD];rfl
  have hS:=xv (d:=pY d SL) (by show d.timers.length≤1048575;omega) (ps:=PS) (i:=i) (by omega) 5 (n:=3*d.rules.mM) h.n0 h.n1 (by omega) (by omega)
  rw[hPi]at hS
  rw[hPl]at hD hS
  dsimp only at kC
  simp[Vb]
  refine a8.ret (dc d.aj[i].ring s) (by simp) (by simp) (by simp) ?_
  simp[hi]
  rw[kC]
  refine al.gen [13,47] [] [.box (Ci d (.rs 47 [] 0 d.aj.length d.aj.length 464 .tip)),.arr 464 (PS.map aP)] hD (by simp[getAll]) (by simp) (by simp) (by simp[ae,ab,bg,idx]) (by simp[af,ab,bg,idx]) (by simp[aK,aF,aT,idx]) (by simp[a0,aF,aT,idx]) (by simp[af,ab,fR]) ?_
  simp[bC,a0,aF,eO,Zw]
  refine al.ret hT (by simp) (by simp) (by simp) ?_
  simp[hw]
  refine al.gen [13,47] [] [.box (Ci (pY d SL) (.rs 47 [] 0 d.aj.length d.aj.length 464 .tip)),.arr 464 (PS.map aP)] hS (by simp[getAll];rfl) (by simp) (by simp) (by simp[ae,ab,bg,idx]) (by simp[af,ab,bg,idx]) (by simp[aK,aF,aT,idx]) (by simp[a0,aF,aT,idx]) (by simp[af,ab,fR]) ?_
  simp[bC,a0,aF,eO]
  refine aL.with [.keep [8,9],.dr 13] [47] ?_
  simp[bL,cL,ab,af]
  have he:lD d i hi s false= {xS (pY d SL) (lT (pY d SL).timers ⟨(pY d SL).now+3*d.rules.mM,nn i,5⟩)with aj:=PS}:=by
   simp only[lD,hPS,hSL,hSD,xS,pY]
  rw[he]
  exact⟨rfl,rfl⟩
end Go.Ab
end H4s
noncomputable section H5s
namespace Go.Ab
open Go.Ab
theorem HB {d:bU} {c:pr} {n:Nat} (hV:VP d n) (hn:n=2∨n=3) (hC:gn c):
  aw Pg F.Yq (ends 1 [AK.load true 148 (AX.t 2)] λr fp=>∃a b,(VM a 40∧2≤a.aj.length∧gn b∧Bd a)∧r=bO a (.rs (KB+1) [] 0 a.aj.length a.aj.length 464 .tip)∧fp=[a9.box (gu b),a9.arr 464 (a.aj.map aP)])
   {
    env:=[(0,.pt KB [] 0),(2,.pt 2 [] 0),(3,.pt 3 [] 0),(4,.int .i64 n),(5,.int .i64 n),(38,.int .i64 n),(39,.int .i64 n),(40,.bl false)],
    bx:=[(2,.box zD),(3,.box (bO d (.rs 80 [] 0 n n 464 .tip))),(80,.arr 464 (d.aj.map aP)),(KB,.box (gu c))]}:=by
 simp[F.Yq]
 refine jx.mw n (d,c) (λi y=>(VM y.1 (3+3*i)∧y.1.aj.length=n∧aqm y.1 (10*i))∧gn y.2) [0,2,3,4,7] (λi _=>[(7,.int .i64 i)]) (λi y=>[(3,.box (bO y.1 (.rs 80 [] 0 n n 464 .tip))),(80,.arr 464 (y.1.aj.map aP)),(KB,.box (gu y.2))]) [.keep [0,2,3,4,7]] ?_
 simp
 have hL:=hV.len
 refine⟨⟨⟨⟨hV.vm.vd,hV.vm.ti.mono (by omega)⟩,hL,?_⟩,hC⟩,?_,?_⟩
 ·intro x hx;rw[hV.sl]at hx;simp at hx
 ·intro i d c hi hV hL hS hC K hK
  have BF:IntKind.i64.wrap ((i:Int)+1)=(i:Int)+1:=wrap_i64 (by omega)
  simp[F.Yr,hi]
  refine al.mR KB (aY hC 4 (by omega)) (by simp) (by simp[ae,ab,bg,idx]) (by simp[aK,aF,aT,idx]) (by simp) ?_
  have m1:=ej c (n:=4) (by omega)
  have p1:=dq hC 4
  generalize k9 c 4=y1 at*
  simp
  refine jx.mw y1.1 (d,y1.2) (λj y=>(VM y.1 (3+3*i+j)∧y.1.aj.length=n∧(∀x∈y.1.aM,0≤x.index∧(x.index<10*i∨10*(i:Int)+y1.1-j<x.index∧x.index≤10*i+3)))∧gn y.2) [0,2,3,4,7,8] (λj _=>[(8,.int .i64 ((y1.1:Int)-j))]) (λj y=>[(3,.box (bO y.1 (.rs 80 [] 0 n n 464 .tip))),(80,.arr 464 (y.1.aj.map aP)),(KB,.box (gu y.2))]) [.keep [0,2,3,4,7,8]] ?_
  simp
  refine⟨⟨⟨hV,hL,λx hx=>⟨(hS x hx).1,Or.inl (hS x hx).2⟩⟩,p1⟩,?_,?_⟩
  ·intro j d c hj hV hL hS hC K2 sX
   have hgt:(0:Int)<(y1.1:Int)-j:=by omega
   have v1:IntKind.i64.wrap (10*(i:Int))=10*(i:Int):=wrap_i64 (by omega)
   have v2:IntKind.i64.wrap (10*(i:Int)+((y1.1:Int)-j))=10*(i:Int)+((y1.1:Int)-j):=wrap_i64 (by omega)
   obtain⟨m,hm⟩:∃m:Nat,m=10*i+(y1.1-j):=⟨_,rfl⟩
   have v3:IntKind.u32.wrap (10*(i:Int)+((y1.1:Int)-j))=(m:Int):=by rw[wrap_u32 (by omega)];omega
   have v4:IntKind.i64.wrap ((y1.1:Int)-j-1)=(y1.1:Int)-(j+1):=by rw[wrap_i64 (by omega)];omega
   have ht:List.take n (List.map aP d.aj)=List.map aP d.aj:=tJ (by simp[hL])
   simp[F.Ys]
   refine TD.of (λs'=>s'=⟨[(0,.pt KB [] 0),(2,.pt 2 [] 0),(3,.pt 3 [] 0),(4,.int .i64 n),(7,.int .i64 i),(8,.int .i64 ((y1.1:Int)-j))],[(2,.box zD),(3,.box (gO d)),(KB,.box (gu c))]⟩) ?_ ?_
   ·simp[hj]
    refine⟨[.keep [0,2,3,4,7,8],.fz 80],?_⟩
    simp
    rw[if_pos ⟨hL.symm,by omega⟩,ht]
    rfl
   rintro s' rfl
   simp
   refine nj.run [KB] rfl ?_
   simp
   refine a8.ret (dH (i:=i) (by omega)) (by simp) (by simp) (by simp) ?_
   simp[v1,v2,v3]
   refine al.xQ KB (dK hC hV.vd.n0 hV.vd.n1 hV.vd.ru (n:=m) (by omega) (by omega)) (by simp) (by simp[ae,ab,bg,idx]) (by simp[aK,aF,aT,idx]) (by simp) ?_
   rintro⟨s,c1⟩ ⟨hs,DX,o1⟩
   simp at hs DX o1
   simp
   refine al.mR KB (mA o1) (by simp) (by simp[ae,ab,bg,idx]) (by simp[aK,aF,aT,idx]) (by simp) ?_
   have o2:gn (bool c1).2:=dq o1 2
   generalize bool c1=x2 at*
   simp
   have hip:i<d.aj.length:=by omega
   have nr:∀x∈d.aM,x.index≠s.loc:=by
    intro x hx he
    rcases(hS x hx).2 with h|h<;>omega
   refine al.gen [] [120] [] (KA hV.vd hip hs (by omega) nr x2.1) (by simp) (by simp) (by simp) (by simp[ae]) (by simp) (by simp[aK]) (by simp) (by simp[af,ab,ae,fR,bO]) ?_
   have hil:(lD d i hip s x2.1).aj.length=n:=Co.trans hL
   simp[bC,a0,aF,aK,eO,hL,v4]
   refine⟨[.keep [0,2,3,4,7,8],.mv 120 80],?_⟩
   simp
   have q1:tk 120 80 KB=KB:=rfl
   have q2:tk 120 80 2=2:=rfl
   have q3:tk 120 80 3=3:=rfl
   have q4:tk 120 80 120=80:=rfl
   refine sX (lD d i hip s x2.1) x2.2 _ (by simp[q1,q2,q3,q4]) (hV.inst (by omega) hip hs (by omega) nr x2.1) (Co.trans hL) ?_ o2
   intro x hx
   rcases Ku hx with h|h
   ·exact⟨by omega,by right;omega⟩
   ·have g:=hS x h
    exact⟨g.1,by rcases g.2 with h|h<;>omega⟩
  ·intro d c hV hL hS hC K2
   simp[F.Ys]
   refine TD.of (λ_=>False) ?_ (λ_ h=>h.elim)
   simp[F.akq,BF]
   refine⟨[.keep [0,2,3,4,7]],?_⟩
   simp
   refine hK d c _ (by simp) ⟨hV.vd,hV.ti.mono (by omega)⟩ hL ?_ hC
   intro x hx
   have g:=hS x hx
   exact⟨g.1,by rcases g.2 with h|h<;>omega⟩
 ·intro d c hV hL hS hC K
  simp[F.Yr,F.akr]
  refine aL.with [] [KB,80] ?_
  simp[af,a0,ab]
  exact⟨d,c,⟨⟨hV.vd,hV.ti.mono (by omega)⟩,by omega,hC,λx hx=>⟨(hS x hx).1,by have:=(hS x hx).2;omega⟩⟩,by rw[hL],rfl,rfl⟩
theorem N7 {c:pr} (h:gn c):
  ah Pg I.lV [.pt KB [] 0] [.box (gu c)] (λr fp=>∃w:bU×pr,(VM w.1 40∧w.1.aj.length≥2∧gn w.2∧Bd w.1)∧r=bO w.1 (.rs (KB+1) [] 0 w.1.aj.length w.1.aj.length 464 .tip)∧fp=[.box (gu w.2),.arr 464 (w.1.aj.map aP)]):=by
 refine ah.intro T.D2 (by simp[F.D2]) ?_
 simp[F.D2,au,aG]
 refine al.xQ KB (Fx h) (by simp) (by simp[ae,ab,bg,idx]) (by simp[aK,aF,aT,idx]) (by simp) ?_
 rintro⟨ru,c1⟩ ⟨yJ,o1⟩
 simp
 refine al.xQ KB (nV o1) (by simp) (by simp[ae,ab,bg,idx]) (by simp[aK,aF,aT,idx]) (by simp) ?_
 rintro⟨k1,c2⟩ o2
 simp
 refine al.xQ KB (nV o2) (by simp) (by simp[ae,ab,bg,idx]) (by simp[aK,aF,aT,idx]) (by simp) ?_
 rintro⟨k2,c3⟩ o3
 simp
 refine al.xQ KB ((Cg o3 65536 (by omega) (by omega)).mono (R':=λr fp=>∃w:Nat×pr,(gn w.2∧w.1<65536)∧r= .int .i64 w.1∧fp=[.box (gu w.2)]) ?_) (by simp) (by simp[ae,ab,bg,idx]) (by simp[aK,aF,aT,idx]) (by simp) ?_
 ·rintro r fp ⟨m,c',a,b,e,f⟩;exact⟨⟨m,c'⟩,⟨a,b⟩,e,f⟩
 rintro⟨po,c4⟩ ⟨o4,hpo⟩
 simp
 refine al.xQ KB (nV o4) (by simp) (by simp[ae,ab,bg,idx]) (by simp[aK,aF,aT,idx]) (by simp) ?_
 rintro⟨k3,c5⟩ o5
 simp
 refine al.xQ KB ((Cg o5 16777216 (by omega) (by omega)).mono (R':=λr fp=>∃w:Nat×pr,(gn w.2∧w.1<16777216)∧r= .int .i64 w.1∧fp=[.box (gu w.2)]) ?_) (by simp) (by simp[ae,ab,bg,idx]) (by simp[aK,aF,aT,idx]) (by simp) ?_
 ·rintro r fp ⟨m,c',a,b,e,f⟩;exact⟨⟨m,c'⟩,⟨a,b⟩,e,f⟩
 rintro⟨nw,c6⟩ ⟨o6,yL⟩
 dsimp only at hpo yL o1 o2 o3 o4 o5 o6 yJ
 have w1:IntKind.i64.wrap (nw:Int)=(nw:Int):=wrap_i64 (by omega)
 simp
 refine nj.run [KB] rfl ?_
 simp
 refine al.xQ KB (nV o6) (by simp) (by simp[ae,ab,bg,idx]) (by simp[aK,aF,aT,idx]) (by simp) ?_
 rintro⟨k4,c7⟩ o7
 simp
 refine al.mR KB (aY o7 2 (by omega)) (by simp) (by simp[ae,ab,bg,idx]) (by simp[aK,aF,aT,idx]) (by simp) ?_
 have l8:=ej c7 (n:=2) (by omega)
 have o8:=dq o7 2
 generalize k9 c7 2=x8 at*
 simp
 refine al.mR KB (aY o8 2 (by omega)) (by simp) (by simp[ae,ab,bg,idx]) (by simp[aK,aF,aT,idx]) (by simp) ?_
 have l9:=ej x8.2 (n:=2) (by omega)
 have o9:=dq o8 2
 generalize k9 x8.2 2=x9 at*
 have w2:IntKind.i64.wrap ((x8.1:Int)*min (nw:Int) 20000)=(x8.1:Int)*min (nw:Int) 20000:=by
  rcases(by omega:x8.1=0∨x8.1=1)with e|e<;>rw[e]<;>exact wrap_i64 (by omega)
 have h3:0≤(nw:Int)-(x8.1:Int)*min (nw:Int) 20000∧(nw:Int)-(x8.1:Int)*min (nw:Int) 20000≤nw:=by
  rcases(by omega:x8.1=0∨x8.1=1)with e|e<;>rw[e]<;>omega
 have w3:IntKind.i64.wrap ((nw:Int)-(x8.1:Int)*min (nw:Int) 20000)=(nw:Int)-(x8.1:Int)*min (nw:Int) 20000:=wrap_i64 (by omega)
 have w4:IntKind.i64.wrap (2+(x9.1:Int))=((2+x9.1:Nat):Int):=by rw[wrap_i64 (by omega)];omega
 obtain⟨n,hn⟩:∃n,n=2+x9.1:=⟨_,rfl⟩
 obtain⟨sa,hsa⟩:∃sa,sa=(nw:Int)-(x8.1:Int)*min (nw:Int) 20000:=⟨_,rfl⟩
 rw[←hsa]at h3 w3
 simp only[w2,w3,←hsa]
 simp
 simp only[w4,←hn]
 obtain⟨d0,hd0⟩:∃d:bU,d=⟨ru,k1.fv,k2.fv,po,k3.fv,nw,[],[],[],[],k4.fv,sa,[],[],0⟩:=⟨_,rfl⟩
 refine jx.mw n (d0,x9.2) (λi y=>VP y.1 i∧gn y.2) [0,2,3,4,5] (λi _=>[(5,.int .i64 i)]) (λi y=>[(3,.box (bO y.1 (.rs 80 [] 0 i i 464 .tip))),(80,.arr 464 (y.1.aj.map aP)),(KB,.box (gu y.2))]) [.vb 3 [.f 6 108] 80 464,.wb 3,.keep [0,2,3,4,5]] ?_
 simp
 refine⟨by rw[hd0];exact⟨rfl,rfl⟩,⟨?_,o9⟩,?_,?_⟩
 ·rw[hd0]
  refine⟨⟨?_,⟨.nil,by simp,.nil,by simp⟩⟩,rfl,rfl,by simp⟩
  exact⟨yJ,by show(0:Int)≤nw;omega,by show(nw:Int)≤16777216;omega,by show(0:Int)≤po;omega,by show(po:Int)≤65535;omega,rfl,⟨by simp,by simp⟩,by simp,⟨by simp,by simp⟩,rfl,⟨⟨by simp,by simp⟩,by simp⟩,⟨by simp,by simp,by simp,by simp⟩,h3.1,h3.2,rfl,rfl⟩
 ·intro i d cc hi hV hC K hK
  have BF:IntKind.i64.wrap ((i:Int)+1)=((i+1:Nat):Int):=by rw[wrap_i64 (by omega)];omega
  have hu8:((UInt8.ofNat (i+1)).toNat:Int)=((i+1:Nat):Int):=by simp[UInt8.toNat_ofNat];omega
  have hH:=bR (UInt8.ofNat (i+1)) 0
  obtain⟨u,hu⟩:∃u,u=UInt8.ofNat (i+1):=⟨_,rfl⟩
  have OV:rt i=⟨qH u,nn i⟩:=by rw[hu];rfl
  rw[hu8,show(((0:UInt8).toNat:Nat):Int)=0 from rfl]at hH
  have hVv:=hV.vm.vd
  have KR:=hVv.n0
  have CH:=hVv.n1
  have Jd:d.bD.length=i:=by rw[hVv.rtl,hV.len]
  have Gl:=hVv.tis.len
  have Zf:∀r∈d.bD,∃m,m<UInt8.ofNat (i+1)∧r.K6=qH m:=by
   intro r hr
   obtain⟨j,hj,rfl⟩:=List.mem_iff_getElem.1 hr
   refine⟨UInt8.ofNat (j+1),?_,by rw[hVv.Ya.2 j hj];rfl⟩
   rw[UInt8.lt_iff_toNat_lt]
   simp[UInt8.toNat_ofNat]
   omega
  rw[←hu]at hH Zf
  simp[F.Yt,hi]
  refine al.ret (dH (i:=i) (by omega)) (by simp) (by simp) (by simp) ?_
  simp
  refine al.mR KB (aY hC 8 (by omega)) (by simp) (by simp[ae,ab,bg,idx]) (by simp[aK,aF,aT,idx]) (by simp) ?_
  have m1:=ej cc (n:=8) (by omega)
  have p1:=dq hC 8
  generalize k9 cc 8=y1 at*
  by_cases hb:0<y1.1
  ·simp[hb]
   refine al.ret (ft (i:=i) (by omega)) (by simp) (by simp) (by simp) ?_
   simp
   refine al.mR KB (aY p1 4 (by omega)) (by simp) (by simp[ae,ab,bg,idx]) (by simp[aK,aF,aT,idx]) (by simp) ?_
   have m2:=ej y1.2 (n:=4) (by omega)
   have p2:=dq p1 4
   generalize k9 y1.2 4=y2 at*
   by_cases hc:(y2.1:Int)=1
   ·simp[hc]
    refine al.mR KB (aY p2 30 (by omega)) (by simp) (by simp[ae,ab,bg,idx]) (by simp[aK,aF,aT,idx]) (by simp) ?_
    have m3:=ej y2.2 (n:=30) (by omega)
    have p3:=dq p2 30
    generalize k9 y2.2 30=y3 at*
    have v1:IntKind.i64.wrap (1+(y3.1:Int))=1+(y3.1:Int):=wrap_i64 (by omega)
    have v2:IntKind.i64.wrap (1000*(1+(y3.1:Int)))=1000*(1+(y3.1:Int)):=wrap_i64 (by omega)
    simp[v1,v2]
    refine nj.run [KB] rfl ?_
    simp
    refine al.mR KB (aY p3 200 (by omega)) (by simp) (by simp[ae,ab,bg,idx]) (by simp[aK,aF,aT,idx]) (by simp) ?_
    have m4:=ej y3.2 (n:=200) (by omega)
    have p4:=dq p3 200
    generalize k9 y3.2 200=y4 at*
    have v3:IntKind.i64.wrap (d.now+1)=d.now+1:=wrap_i64 (by omega)
    have v4:IntKind.i64.wrap ((y4.1:Int)*10)=(y4.1:Int)*10:=wrap_i64 (by omega)
    have v5:IntKind.i64.wrap (d.now+1+(y4.1:Int)*10)=d.now+1+(y4.1:Int)*10:=wrap_i64 (by omega)
    simp[v3,v4,v5]
    obtain⟨A,hA⟩:∃A,A=d.now+1+(y4.1:Int)*10:=⟨_,rfl⟩
    rw[←hA]
    refine a8.ret (db (l:=d.timers) (by omega) ⟨A,nn i,4⟩) (by simp;rfl) (by simp) (by simp) ?_
    obtain⟨T,hT⟩:∃T,T=lT d.timers ⟨A,nn i,4⟩:=⟨_,rfl⟩
    rw[←hT]
    simp[BF,hV.len]
    refine⟨⟨by omega,by omega⟩,?_⟩
    refine a8.ret hH (by simp) (by simp) (by simp) ?_
    simp
    refine a8.ret (cD (a:=iW u 0) (ss _)) (by simp) (by simp) (by simp) ?_
    simp
    refine a8.ret (br (l:=d.bD) (n:=u) Zf (by omega) (nn i)) (by simp;rfl) (by simp) (by simp) ?_
    simp[BF]
    refine⟨[.keep [0,2,3,4,5],.dr 6],?_⟩
    simp[bL,cL,ab,af]
    refine hK (p8 d (pz i true (1000*(1+(y3.1:Int)))) i T) y4.2 _ ?_ (hV.add (by omega) (IU (by omega) ?_) rfl rfl ?_) ?_
    ·simp[p8,OV]
     exact⟨rfl,rfl⟩
    ·exact Or.inr (by omega)
    ·exact Or.inr ⟨A,by omega,by omega,by show(1000*(1+(y3.1:Int)))≠0;omega,hT⟩
    ·assumption
   ·simp[hc]
    simp[BF,hV.len]
    refine⟨⟨by omega,by omega⟩,?_⟩
    refine a8.ret hH (by simp) (by simp) (by simp) ?_
    simp
    refine a8.ret (cD (a:=iW u 0) (ss _)) (by simp) (by simp) (by simp) ?_
    simp
    refine a8.ret (br (l:=d.bD) (n:=u) Zf (by omega) (nn i)) (by simp;rfl) (by simp) (by simp) ?_
    simp[BF]
    refine⟨[.keep [0,2,3,4,5],.dr 6],?_⟩
    simp[bL,cL,ab,af]
    refine hK (p8 d (pz i true 0) i d.timers) y2.2 _ ?_ (hV.add (by omega) (IU (by omega) ?_) rfl rfl ?_) ?_
    ·simp[p8,OV]
     exact⟨rfl,rfl⟩
    ·exact Or.inl rfl
    ·exact Or.inl rfl
    ·assumption
  ·simp[hb]
   refine al.mR KB (aY p1 4 (by omega)) (by simp) (by simp[ae,ab,bg,idx]) (by simp[aK,aF,aT,idx]) (by simp) ?_
   have m2:=ej y1.2 (n:=4) (by omega)
   have p2:=dq p1 4
   generalize k9 y1.2 4=y2 at*
   by_cases hc:(y2.1:Int)=1
   ·simp[hc]
    refine al.mR KB (aY p2 30 (by omega)) (by simp) (by simp[ae,ab,bg,idx]) (by simp[aK,aF,aT,idx]) (by simp) ?_
    have m3:=ej y2.2 (n:=30) (by omega)
    have p3:=dq p2 30
    generalize k9 y2.2 30=y3 at*
    have v1:IntKind.i64.wrap (1+(y3.1:Int))=1+(y3.1:Int):=wrap_i64 (by omega)
    have v2:IntKind.i64.wrap (1000*(1+(y3.1:Int)))=1000*(1+(y3.1:Int)):=wrap_i64 (by omega)
    simp[v1,v2]
    refine nj.run [KB] rfl ?_
    simp
    refine al.mR KB (aY p3 200 (by omega)) (by simp) (by simp[ae,ab,bg,idx]) (by simp[aK,aF,aT,idx]) (by simp) ?_
    have m4:=ej y3.2 (n:=200) (by omega)
    have p4:=dq p3 200
    generalize k9 y3.2 200=y4 at*
    have v3:IntKind.i64.wrap (d.now+1)=d.now+1:=wrap_i64 (by omega)
    have v4:IntKind.i64.wrap ((y4.1:Int)*10)=(y4.1:Int)*10:=wrap_i64 (by omega)
    have v5:IntKind.i64.wrap (d.now+1+(y4.1:Int)*10)=d.now+1+(y4.1:Int)*10:=wrap_i64 (by omega)
    simp[v3,v4,v5]
    obtain⟨A,hA⟩:∃A,A=d.now+1+(y4.1:Int)*10:=⟨_,rfl⟩
    rw[←hA]
    refine a8.ret (db (l:=d.timers) (by omega) ⟨A,nn i,4⟩) (by simp;rfl) (by simp) (by simp) ?_
    obtain⟨T,hT⟩:∃T,T=lT d.timers ⟨A,nn i,4⟩:=⟨_,rfl⟩
    rw[←hT]
    simp[BF,hV.len]
    refine⟨⟨by omega,by omega⟩,?_⟩
    refine a8.ret hH (by simp) (by simp) (by simp) ?_
    simp
    refine a8.ret (cD (a:=iW u 0) (ss _)) (by simp) (by simp) (by simp) ?_
    simp
    refine a8.ret (br (l:=d.bD) (n:=u) Zf (by omega) (nn i)) (by simp;rfl) (by simp) (by simp) ?_
    simp[BF]
    refine⟨[.keep [0,2,3,4,5],.dr 6],?_⟩
    simp[bL,cL,ab,af]
    refine hK (p8 d (pz i false (1000*(1+(y3.1:Int)))) i T) y4.2 _ ?_ (hV.add (by omega) (IU (by omega) ?_) rfl rfl ?_) ?_
    ·simp[p8,OV]
     exact⟨by first|rfl|(rw[gC];rfl),(afG i _).symm⟩
    ·exact Or.inr (by omega)
    ·exact Or.inr ⟨A,by omega,by omega,by show(1000*(1+(y3.1:Int)))≠0;omega,hT⟩
    ·assumption
   ·simp[hc]
    simp[BF,hV.len]
    refine⟨⟨by omega,by omega⟩,?_⟩
    refine a8.ret hH (by simp) (by simp) (by simp) ?_
    simp
    refine a8.ret (cD (a:=iW u 0) (ss _)) (by simp) (by simp) (by simp) ?_
    simp
    refine a8.ret (br (l:=d.bD) (n:=u) Zf (by omega) (nn i)) (by simp;rfl) (by simp) (by simp) ?_
    simp[BF]
    refine⟨[.keep [0,2,3,4,5],.dr 6],?_⟩
    simp[bL,cL,ab,af]
    refine hK (p8 d (pz i false 0) i d.timers) y2.2 _ ?_ (hV.add (by omega) (IU (by omega) ?_) rfl rfl ?_) ?_
    ·simp[p8,OV]
     exact⟨by first|rfl|(rw[gC];rfl),(afG i _).symm⟩
    ·exact Or.inl rfl
    ·exact Or.inl rfl
    ·assumption
 ·intro d cc hV hC K
  simp[F.Yt]
  exact HB hV (by omega) hC
end Go.Ab
end H5s
noncomputable section Q15s
namespace Go.Ab
open Go.Ab
noncomputable def F.FQ:di:=⟨F.dG.nt,F.dG.res,Vh 1 F.dG.code⟩
theorem T.FQ:ka Pg [] [] I.dG=some F.FQ.er:=NZ 1 T.dG
structure StW (d d':bU):Prop where
 timers:d'.timers.length≤d.timers.length+120
 aM:d'.aM.length≤d.aM.length+120
 bD:d'.bD=d.bD
 cN:d'.cN=d.cN
 buckets:d'.buckets=d.buckets
 xR:rQ d.aj d'.aj
theorem aks {d:bU} (hm:RJ d) (hk:xu d.aj) (hr:Ch d.bD) (Jd:d.bD.length=d.aj.length) (hs:d.aM.length<32) (hb:∀s∈d.aM,s.index≤1000) (ht:d.timers.length≤900000)
  (A3:N5 d.aj) (hsg: -9223372036854775808≤d.rules.oo∧d.rules.oo≤9223372036854775807) {b:List UInt8} (Zv:b.length≤80) {x y:PV} (hx:Pure x) (hw:x.width=18) (hwk:wk x=x) (hy:Pure y) (SW:wk y=y) (a:Int):
  ah Pg I.dG [gO d,.st 22 [.int .i64 1,x,eI b,.int .i64 a,y]] [] (λr fp=>fp=[]∧∃d' N,StW d d'∧aB N∧r= .tup [gO d',.sl 86 N false]):=by
 refine ah.intro T.FQ (by simp[F.FQ,F.dG]) ?_
 simp[F.FQ,F.dG,Vh,au,aG]
 refine TD.of (λs'=>s'=⟨[(3,.pt 3 [] 0),(4,.pt 4 [] 0),(5,.sl 86 [] true),(6,.pt 6 [] 0)],[(3,.box (.st 22 [.int .i64 1,x,eI b,.int .i64 a,y])),(4,.box zD),(6,.box (yE d 8 d.aj.length 200 0)),(8,.arr 464 (d.aj.map aP)),(200,.arr 86 [])]⟩) ?_ ?_
 ·simp
  refine al.gen [] [8] [] (dE hm) (by simp) (by simp) (by simp) (by simp[ae]) (by simp) (by simp[aK]) (by simp) (by simp[af,ab,fR]) ?_
  simp[bC,a0,aF,eO]
  refine⟨[.keep [3,4,5,6],.dr 2,.vb 6 [.f 1 148] 200 86],?_⟩
  simp[bL,cL,ab,af,ae]
  exact⟨⟨hx.refs _,hy.refs _⟩,rfl,rfl⟩
 rintro s' rfl
 simp[hw]
 refine al.mo 6 8 200 (L:=[]) (N6 hk hr Jd hs hb ht lA (by simp) A3 hsg Zv) (by simp) (by simp) (by simp) (by simp) lA (by simp[ae,ab,bg,idx]) (by simp[aK,aF,aT,idx]) ?_
 rintro r fp ⟨rfl,d',s5,L',⟨g1,g2,g3,g4,g5⟩,hW,ma,rR,rfl⟩
 refine⟨_,_,_,rfl,by simp,ma,?_⟩
 simp
 refine nj.run [4] rfl ?_
 simp
 refine aL.plain [.keep [4,5],.dr 3,.dr 6,.fz 8,.fz 200] ?_
 simp[bL,cL,ab,af,ma.refs,ma.gh]
 exact⟨ma,{d' with aj:=s5},⟨by simpa using g1,by simpa using g2,g3,g4,g5,hW⟩,ma,rfl⟩
end Go.Ab
end Q15s
noncomputable section Q16s
namespace Go.Ab
open Go.Ab
theorem eF {l:List UInt8} {n:Nat} (hl:(l.length:Int)≤9223372036854775807) (hn:n≤1000):ah Pg I.eF [eI l,.int .i64 n] [] (λr fp=>r= .pt KB [] 0∧fp=[.box (gu ⟨l.take n,0⟩)]):=by
 refine ah.intro T.eF (by simp[F.eF]) ?_
 simp[F.eF,au,aG,eI]
 refine⟨⟨by omega,by omega⟩,?_⟩
 refine aL.with [.keep [4]] [12] ?_
 have e:(min (l.length:Int) (n:Int)).toNat=min l.length n:=by omega
 have e2:List.take (min l.length n) (List.map u8 l)=List.take n (List.map u8 l):=by
  rcases Nat.le_total l.length n with h|h
  ·rw[Nat.min_eq_left h,tJ (by simp),tJ (by simpa using h)]
  ·rw[Nat.min_eq_right h]
 simp[ab,af,ae,a0,aF,aK,e,e2,gu,eI]
@[simp↓] theorem Yu {s:St} (d:Option Nat) (sz:Nat) (p:PV) (K:St->Prop) (k:Nat) (pth:List Step) (off len aC bB:Nat) (c:jb):cpQ s d sz p K (.rs k pth off len aC bB c)=xH s (λsz'' ys=>(ys=[]∨sz''=sz)∧O3 s d sz ys K p) (.rs k pth off len aC bB c):=_root_.id rfl
def N8 (x:Int):UInt8:=UInt8.ofNat (IntKind.u8.wrap x).toNat
theorem I4 (x:Int):PV.int .u8 (IntKind.u8.wrap x)=u8 (N8 x):=by
 have h:0≤IntKind.u8.wrap x∧IntKind.u8.wrap x<256:=by constructor<;>simp[IntKind.wrap,IntKind.bits,IntKind.signed]<;>omega
 simp[u8,N8]
 omega
def KC (l:List UInt8) (v:Int):Nat->List UInt8
 |0=>l
 |i+1=>(KC l v i).set (20+i) (N8 (v+IntKind.u8.wrap ((20+i:Nat):Int)))
theorem vq (l:List UInt8) (v:Int):∀i,(KC l v i).length=l.length
 |0=>rfl
 |i+1=>by simp[KC,vq l v i]
theorem DP {s d:sQ} {n:Nat} (hn:n≤60) (v:Int):∃b:List UInt8,b.length=20+n∧qV Pg I.eN [jf s,jf d,.int .i64 n,.int .u8 v] 1 (b.map u8):=by
 obtain⟨m,hm⟩:∃m,m=20+n:=⟨_,rfl⟩
 have hw:IntKind.i64.wrap (20+(n:Int))=(m:Int):=by rw[wrap_i64 (by omega)];omega
 have hz:List.replicate m (PV.int .u8 0)=(List.replicate m (0:UInt8)).map u8:=by simp[u8]
 have h0:(List.replicate m (0:UInt8)).length=m:=by simp
 have hmx:max (m:Int) 0=m:=by omega
 have b1:(m:Int)≤281474976710656:=by omega
 have b2:(m:Int)≤9223372036854775807:=by omega
 have b3:0<m:=by omega
 have b4:(2:Int)<m:=by omega
 have b5:(3:Int)<m:=by omega
 have b6:(16:Int)≤m:=by omega
 have b7:(20:Int)≤m:=by omega
 generalize hZ:List.replicate m (0:UInt8)=Z at hz h0
 have z0:Z[0]? =some Z[0]:=gJ (by omega)
 have z2:Z[2]? =some Z[2]:=gJ (by omega)
 have z3:Z[3]? =some Z[3]:=gJ (by omega)
 have hs4:min 4 s.ip.length=4:=by have:=s.h;omega
 have hd4:min 4 d.ip.length=4:=by have:=d.h;omega
 obtain⟨Z1,hZ1⟩:∃Z1,Z1=((Z.set 0 69).set 2 (N8 ((m:Int).fdiv (2^min 8 IntKind.i64.bits)))).set 3 (N8 m):=⟨_,rfl⟩
 have l1:Z1.length=m:=by rw[hZ1];simp[h0]
 obtain⟨Z2,hZ2⟩:∃Z2,Z2=(Z1.take 12++(s.ip.take 4++Z1.drop 16)).take 16++(d.ip.take 4++(Z1.take 12++(s.ip.take 4++Z1.drop 16)).drop 20):=⟨_,rfl⟩
 have l2:Z2.length=m:=by rw[hZ2];simp[l1,s.h,d.h];omega
 refine⟨KC Z2 v n,by rw[vq,l2,hm],?_⟩
 refine ah.intro T.eN (by simp[F.eN]) ?_
 simp[F.eN,au,aG,hw,hz,b1,b2,b3,b4,b5,b6,b7,h0,z2,z3]
 have e1:((((Z.map u8).set 0 (.int .u8 69)).set 2 (.int .u8 (IntKind.u8.wrap ((m:Int).fdiv (2^min 8 IntKind.i64.bits))))).set 3 (.int .u8 (IntKind.u8.wrap m)))=(((Z.set 0 69).set 2 (N8 ((m:Int).fdiv (2^min 8 IntKind.i64.bits)))).set 3 (N8 m)).map u8:=by
  rw[List.map_set,List.map_set,List.map_set,←I4,←I4];rfl
 rw[e1,←hZ1]
 simp only[hs4,hd4]
 have e2:List.take 16 (List.take 12 (List.map u8 Z1)++(List.take 4 (List.take 4 (List.map u8 s.ip))++List.drop (12+4) (List.map u8 Z1)))++(List.take 4 (List.take 4 (List.map u8 d.ip))++List.drop (16+4) (List.take 12 (List.map u8 Z1)++(List.take 4 (List.take 4 (List.map u8 s.ip))++List.drop (12+4) (List.map u8 Z1))))=Z2.map u8:=by
  rw[hZ2];simp[List.map_take,List.map_drop,List.take_take]
 rw[e2]
 refine⟨by omega,by omega,⟨by omega,by omega⟩,?_⟩
 refine jx.kl n (λ_=>True) [3,9,10] (λi=>[(10,.int .i64 ((20+i:Nat):Int))]) (λi=>[(13,.arr 1 ((KC Z2 v i).map u8))]) [.keep [3,9,10],.dr 4,.dr 5] ?_
 simp
 refine⟨rfl,λi hi K hK=> ?_,λK=> ?_⟩
 ·have h20:((20+i:Nat):Int)<m:=by omega
  have vA:20+i<(KC Z2 v i).length:=by rw[vq];omega
  have tV:IntKind.i64.wrap (20+(i:Int)+1)=20+(i:Int)+1:=wrap_i64 (by omega)
  have Jh:(KC Z2 v i).length=m:=by rw[vq,l2]
  have hx:(KC Z2 v i)[20+i]? =some (KC Z2 v i)[20+i]:=gJ vA
  have c1:20+(i:Int)<m:=by omega
  have c2:(20+(i:Int)).toNat=20+i:=by omega
  have c3:0≤20+(i:Int):=by omega
  simp[↓aA,hx,tV,Jh,c1,c2,c3]
  refine⟨[.keep [3,8,9,10]],?_⟩
  simp
  refine hK _ ?_
  have e3:(List.map u8 (KC Z2 v i)).set (20+i) (.int .u8 (IntKind.u8.wrap (v+IntKind.u8.wrap (20+(i:Int)))))=(KC Z2 v (i+1)).map u8:=by
   rw[KC,List.map_set,←I4];push_cast;rfl
  simp[e3]
  try omega
 ·have hln:(KC Z2 v n).length=m:=by rw[vq,l2]
  have c1:¬20+(n:Int)<m:=by omega
  have c2:(m:Int)≤20+(n:Int):=by omega
  simp[↓aA,hln,c1]
  refine aL.with [.keep [8]] [13] ?_
  simp[hln]
end Go.Ab
end Q16s
noncomputable section Q17s
namespace Go.Ab
open Go.Ab
theorem Yv {c:pr} (h:gn c):ah Pg I.fF [.pt KB [] 0] [.box (gu c)] (λr fp=>∃w:List UInt8×pr,(w.1.length≤80∧gn w.2)∧r= .st 22 [.int .i64 1,iU wG,eI w.1,.int .i64 0,.str []]∧fp=[.box (gu w.2)]):=by
 refine ah.intro T.fF (by simp[F.fF]) ?_
 simp[F.fF,au,aG,←NG]
 have hH:=bR 0 1
 simp at hH
 refine al.ret hH (by simp) (by simp) (by simp) ?_
 simp
 refine al.mR KB (aY h 4 (by omega)) (by simp) (by simp[ae,ab,bg,idx]) (by simp[aK,aF,aT,idx]) (by simp) ?_
 have m1:=ej c (n:=4) (by omega)
 have p1:=dq h 4
 generalize k9 c 4=y1 at*
 simp
 refine al.mR KB (aY p1 256 (by omega)) (by simp) (by simp[ae,ab,bg,idx]) (by simp[aK,aF,aT,idx]) (by simp) ?_
 have m2:=ej y1.2 (n:=256) (by omega)
 have p2:=dq p1 256
 generalize k9 y1.2 256=y2 at*
 have w1:IntKind.i64.wrap (1+(y1.1:Int))=((UInt8.ofNat (1+y1.1)).toNat:Int):=by rw[wrap_i64 (by omega)];simp[UInt8.toNat_ofNat];omega
 have w2:(y2.1:Int)=((UInt8.ofNat y2.1).toNat:Int):=by simp;omega
 have Zx:=bR (UInt8.ofNat (1+y1.1)) (UInt8.ofNat y2.1)
 rw[←w1,←w2]at Zx
 simp
 refine al.ret Zx (by simp) (by simp) (by simp) ?_
 simp
 refine al.mR KB (aY p2 60 (by omega)) (by simp) (by simp[ae,ab,bg,idx]) (by simp[aK,aF,aT,idx]) (by simp) ?_
 have m3:=ej y2.2 (n:=60) (by omega)
 have p3:=dq p2 60
 generalize k9 y2.2 60=y3 at*
 simp
 refine al.mR KB (aY p3 256 (by omega)) (by simp) (by simp[ae,ab,bg,idx]) (by simp[aK,aF,aT,idx]) (by simp) ?_
 have m4:=ej y3.2 (n:=256) (by omega)
 have p4:=dq p3 256
 generalize k9 y3.2 256=y4 at*
 simp
 obtain⟨b,hb,hP⟩:=DP (s:=iW 0 1) (d:=iW (UInt8.ofNat (1+y1.1)) (UInt8.ofNat y2.1)) (n:=y3.1) (by omega) (IntKind.u8.wrap (y4.1:Int))
 refine al.own 16 hP (by simp) (by simp) (by simp) (by simp) ?_
 simp
 refine al.mR KB (aY p4 10 (by omega)) (by simp) (by simp[ae,ab,bg,idx]) (by simp[aK,aF,aT,idx]) (by simp) ?_
 have m5:=ej y4.2 (n:=10) (by omega)
 have p5:=dq p4 10
 generalize k9 y4.2 10=y5 at*
 simp
 have AZ:0<b.length:=by omega
 have hx0:b[0]? =some b[0]:=gJ AZ
 have fin:∀(L:List UInt8) (c':pr),L.length≤80->gn c'->∃w:List UInt8×pr,(w.1.length≤80∧gn w.2)∧PV.st 22 [.int .i64 1,iU wG,eI L,.int .i64 0,.str []]= .st 22 [.int .i64 1,iU wG,eI w.1,.int .i64 0,.str []]∧[a9.box (gu c')]=[.box (gu w.2)]:=λL c' h1 h2=>⟨(L,c'),⟨h1,h2⟩,rfl,rfl⟩
 by_cases e1:(y5.1:Int)=1
 ·simp[e1]
  refine al.mR KB (aY p5 b.length (by omega)) (by simp) (by simp[ae,ab,bg,idx]) (by simp[aK,aF,aT,idx]) (by simp) ?_
  have m6:=ej y5.2 (n:=b.length) (by omega)
  have p6:=dq p5 b.length
  generalize k9 y5.2 b.length=y6 at*
  have q1:(y6.1:Int)≤b.length:=by omega
  simp[q1]
  refine aL.with [.keep [2,3],.fz 16] [KB] ?_
  simp[ab,af,ae]
  have eb:PV.sl 1 (List.take y6.1 (List.map u8 b)) false=eI (b.take y6.1):=by simp[eI,List.map_take]
  rw[if_pos (by omega),eb]
  exact⟨(sm _).refs _,b.take y6.1,y6.2,⟨by simp;omega,p6⟩,(sm _).aF _,rfl⟩
 ·by_cases e2:(y5.1:Int)=2
  ·simp[e2]
   refine al.mR KB (aY p5 256 (by omega)) (by simp) (by simp[ae,ab,bg,idx]) (by simp[aK,aF,aT,idx]) (by simp) ?_
   have m6:=ej y5.2 (n:=256) (by omega)
   have p6:=dq p5 256
   generalize k9 y5.2 256=y6 at*
   simp[AZ]
   refine aL.with [.keep [2,3],.fz 16] [KB] ?_
   simp[ab,af,ae]
   have eb:List.take b.length ((List.map u8 b).set 0 (.int .u8 (IntKind.u8.wrap (y6.1:Int))))=(b.set 0 (N8 y6.1)).map u8:=by
    rw[tJ (by simp),I4,←List.map_set]
   have eb2:PV.sl 1 ((b.set 0 (N8 y6.1)).map u8) false=eI (b.set 0 (N8 y6.1)):=rfl
   rw[eb,eb2]
   exact⟨(bZ (λx=>by simp[u8]) _).refs _,b.set 0 (N8 y6.1),y6.2,⟨by simp;omega,p6⟩,(sm _).aF _,rfl⟩
  ·simp[e1,e2]
   refine aL.with [.keep [2,3],.fz 16] [KB] ?_
   simp[af]
   exact⟨b,y5.2,⟨by omega,p5⟩,rfl,rfl⟩
end Go.Ab
end Q17s
noncomputable section Q18s
namespace Go.Ab
open Go.Ab
theorem al.aha {P:Program} {s:St} {d:Option Nat} {f:FuncId} {args fQ:List PV} {R:PV->Prop} {K:St->Prop} {t:Tg K} (hA:ah P f fQ [] (λr fp=>R r∧fp=[])) (ha:jj args=fQ) (hp:aB args) (hv:∀r,R r->Pure r) (h:∀r,R r->K (s.put d r)):al P s d f args K t:=by
 subst ha
 refine al.Fg [] [] [] hA (by simp) (by simp) (by simp) (hp.refs _) (by simp) (by rw[hp.aF]) (by simp) ?_
 rintro r fp ⟨hr,rfl⟩
 exact⟨⟨rfl,(hv r hr).refs _,by simp⟩,by simpa[bC,(hv r hr).aF]using h r hr⟩
theorem atV:PV.st 148 [PV.st 10 [.int .u64 0,.int .u64 0,.int .i64 0,.int .i64 0,.int .i64 0,.int .i64 0,.int .i64 0,.int .i64 0,.int .i64 0,.int .i64 0],
 .ar 1 32 (zr 32 (.int .u8 0)),.ar 1 32 (zr 32 (.int .u8 0)),.int .i64 0,.ar 1 32 (zr 32 (.int .u8 0)),.int .i64 0,.sl 464 [] true,.sl 50 [] true,.sl 34 [] true,.sl 34 [] true,
 .ar 1 32 (zr 32 (.int .u8 0)),.int .i64 0,.sl 1 [] true,.sl 19 [] true,.int .i64 0]=zD:=rfl
def tgB (x:Int):FV xO:=⟨.ar 1 16 [.int .u8 (IntKind.u8.wrap x),.int .u8 1,.int .u8 0,.int .u8 0,.int .u8 0,.int .u8 0,.int .u8 0,.int .u8 0,.int .u8 0,.int .u8 0,.int .u8 0,.int .u8 0,.int .u8 0,.int .u8 0,.int .u8 0,.int .u8 0],by simp[Ab.fits,qf,kR]⟩
theorem akt (x:Int):PV.ar 1 16 [.int .u8 (IntKind.u8.wrap x),.int .u8 1,.int .u8 0,.int .u8 0,.int .u8 0,.int .u8 0,.int .u8 0,.int .u8 0,.int .u8 0,.int .u8 0,.int .u8 0,.int .u8 0,.int .u8 0,.int .u8 0,.int .u8 0,.int .u8 0]=(tgB x).p:=rfl
structure aku (p q:dC):Prop where
 gF:q.gF=p.gF
 ring:q.ring=p.ring
 stl:q.bk.length≤1
 stb:∀b∈q.bk,17≤b.length∧b.length≤80
def Cv (ps qs:List dC):Prop:=qs.length=ps.length∧∀(i:Nat) (p:dC),ps[i]? =some p->∃q:dC,qs[i]? =some q∧aku p q
theorem Cv.set {ps qs:List dC} (h:Cv ps qs) {i:Nat} (hi:i<qs.length) {q:dC} (hq:q.gF=qs[i].gF∧q.ring=qs[i].ring) (h1:q.bk.length≤1) (h2:∀b∈q.bk,17≤b.length∧b.length≤80):Cv ps (qs.set i q):=by
 refine⟨by simp[h.1],λj p hp=> ?_⟩
 obtain⟨q0,e1,e2⟩:=h.2 j p hp
 by_cases hj:i=j
 ·subst hj
  rw[gJ hi]at e1
  cases e1
  exact⟨q,by simp[hi],⟨hq.1.trans e2.gF,hq.2.trans e2.ring,h1,h2⟩⟩
 ·exact⟨q0,by rw[List.getElem?_set_ne hj];exact e1,e2⟩
structure qK (d:bU):Prop where
 aj:d.aj.length≤3
 bD:d.bD.length≤3
 aM:d.aM.length≤200
 timers:d.timers.length≤200
 cN:d.cN.length≤2
 buckets:d.buckets.length≤1
 bk:∀p∈d.aj,p.bk.length≤100∧∀b∈p.bk,b.length≤80
 nY:∀p∈d.aj,∃(e:bU) (p0:dC),lU e p0∧tL p0.ring.p p.ring.p∧tL p0.ring.c p.ring.c∧tL p0.ring.n p.ring.n
theorem qK.sml {d:bU} (h:qK d):RJ d where
 aj:=by have:=h.aj;omega
 bD:=by have:=h.bD;omega
 aM:=by have:=h.aM;omega
 timers:=by have:=h.timers;omega
 cN:=by have:=h.cN;omega
 buckets:=by have:=h.buckets;omega
 bk:=λp hp=>by obtain⟨h1,h2⟩:=h.bk p hp;exact⟨by omega,λb hb=>by have:=h2 b hb;omega⟩
theorem Cv.mem {ps qs:List dC} (h:Cv ps qs) {q:dC} (hq:q∈qs):∃p∈ps,aku p q:=by
 obtain⟨i,hi,rfl⟩:=List.getElem_of_mem hq
 have lE:i<ps.length:=by rw[←h.1];exact hi
 obtain⟨q,h1,h2⟩:=h.2 i ps[i] (gJ lE)
 rw[gJ hi]at h1
 cases h1
 exact⟨ps[i],List.getElem_mem lE,h2⟩
theorem rQ.mem {ps qs:List dC} (h:rQ ps qs) {q:dC} (hq:q∈qs):∃p∈ps,akm p q:=by
 obtain⟨i,hi,rfl⟩:=List.getElem_of_mem hq
 have lE:i<ps.length:=by rw[←h.1];exact hi
 obtain⟨q,h1,h2⟩:=h.2 i ps[i] (gJ lE)
 rw[gJ hi]at h1
 cases h1
 exact⟨ps[i],List.getElem_mem lE,h2⟩
theorem akv {a b:List UInt8} (ha:(a.length:Int)≤9223372036854775807) (hb:(b.length:Int)≤9223372036854775807):ah Pg I.kz [eI a,eI b] [] (λr fp=>fp=[]∧∃l d,qK d∧aB l∧r= .st 148 l∧wk r=gO d):=by
 refine ah.intro T.bz (by simp[F.bz]) ?_
 simp[F.bz,au,aG]
 refine al.gen [] [9] [] (eF (n:=160) ha (by omega)) (by simp) (by simp) (by simp) (by simp[ae]) (by simp) (by simp[aK]) (by simp) (by simp[af,ab,fR]) ?_
 simp[bC,a0,aF,eO]
 have o1:gn ⟨a.take 160,0⟩:=⟨by simp;omega,by simp⟩
 generalize (⟨a.take 160,0⟩:pr)=c1 at o1
 refine al.Fg [9] [10] [.box (gu c1)] (N7 o1) (by simp[getAll]) (by simp) (by simp) (by simp[ae,ab,bg,idx]) (by simp[af]) (by simp[aK,aF,aT,idx]) (by simp[a0]) ?_
 rintro r fp ⟨⟨d,c2⟩,⟨hV,sH,o2,hB⟩,rfl,rfl⟩
 dsimp only at hV sH o2 hB
 refine⟨⟨rfl,by simp[ab,ae,fR,bO],by simp[af]⟩,?_⟩
 simp[bC,a0,aF,eO]
 refine al.gen [] [12] [] (eF (n:=40) hb (by omega)) (by simp) (by simp) (by simp) (by simp[ae]) (by simp) (by simp[aK]) (by simp) (by simp[af,ab,fR]) ?_
 simp[bC,a0,aF,eO]
 have o3:gn ⟨b.take 40,0⟩:=⟨by simp;omega,by simp⟩
 generalize (⟨b.take 40,0⟩:pr)=c3 at o3
 simp only[atV]
 have Tp:=hV.vd.Gf
 have hn3:=Tp.1
 have alR:∀p∈d.aj,p.bk=[]:=λp hp=>(hV.vd.xR p hp).bk
 refine jx.mw d.aj.length (d.aj,c3) (λi y=>Cv d.aj y.1∧gn y.2) [4,5,6,15,16] (λi _=>[(16,.int .i64 i)]) (λi y=>[(10,.arr 464 (y.1.map aP)),(12,.box (gu y.2))]) [.keep [4,5,6,15,16],.dr 9] ?_
 simp[bL,cL,ab,af]
 refine⟨⟨⟨rfl,λi p hp=>⟨p,hp,⟨rfl,rfl,by rw[alR p (List.mem_of_getElem? hp)];simp,by rw[alR p (List.mem_of_getElem? hp)];simp⟩⟩⟩,o3⟩,?_,?_⟩
 ·intro i ps cc hi hP hC K hK
  have Tq:=hP.1
  have lE:i<ps.length:=by omega
  have hx:ps[i]? =some ps[i]:=gJ lE
  have hH1:=bR 0 1
  simp at hH1
  have Zx:=bR (UInt8.ofNat (i+1)) 1
  have hu8:((UInt8.ofNat (i+1)).toNat:Int)=(i:Int)+1:=by simp[UInt8.toNat_ofNat];omega
  rw[hu8]at Zx
  simp at Zx
  have wZ:IntKind.i64.wrap ((i:Int)+1)=(i:Int)+1:=wrap_i64 (by omega)
  have tV:=wZ
  simp[F.Yw,hi]
  refine al.mR 12 (mA hC) (by simp) (by simp[ae,ab,bg,idx]) (by simp[aK,aF,aT,idx]) (by simp) ?_
  have p1:gn (bool cc).2:=dq hC 2
  generalize bool cc=y1 at*
  simp
  refine⟨λh1=> ?_,λh1=> ?_⟩
  ·refine nj.run [10] rfl ?_
   simp[Tq,hi,gC,List.replicate,akt]
   generalize hq:({ps[i]with nk:=true,pd:=tgB i,qW:=IntKind.i64.wrap (d.now.tdiv 2)}:dC)=q
   have hqr:q.gF=ps[i].gF∧q.ring=ps[i].ring∧q.bk=ps[i].bk:=by subst hq;exact⟨rfl,rfl,rfl⟩
   refine al.mR 12 (mA p1) (by simp) (by simp[ae,ab,bg,idx]) (by simp[aK,aF,aT,idx]) (by simp) ?_
   have p2:gn (bool y1.2).2:=dq p1 2
   generalize bool y1.2=y2 at*
   simp
   refine⟨λh2=> ?_,λh2=> ?_⟩
   ·refine nj.run [12] rfl ?_
    simp
    refine a8.ret hH1 (by simp) (by simp) (by simp) ?_
    simp[wZ]
    refine a8.ret Zx (by simp) (by simp) (by simp) ?_
    simp
    refine al.mR 12 (aY p2 30 (by omega)) (by simp) (by simp[ae,ab,bg,idx]) (by simp[aK,aF,aT,idx]) (by simp) ?_
    have m3:=ej y2.2 (n:=30) (by omega)
    have p3:=dq p2 30
    generalize k9 y2.2 30=y3 at*
    obtain⟨pk,Tp,hP3⟩:=DP (s:=iW 0 1) (d:=iW (UInt8.ofNat (i+1)) 1) (n:=y3.1) (by omega) 1
    simp
    refine a8.ret (hP3.gh (bZ (λx=>by simp[u8]) _)) (by simp) (by simp) (by simp) ?_
    have es:PV.sl 1 [PV.sl 1 (pk.map u8) false] false=gi [pk]:=rfl
    simp[Tq,hi,es,tV]
    refine⟨[.keep [4,5,6,15,16]],?_⟩
    simp
    exact hK (ps.set i {q with bk:=[pk]}) y3.2 _ (by simp[List.map_set]) (hP.set lE ⟨hqr.1,hqr.2.1⟩ (by simp) (by simp[Tp];omega)) p3
   ·simp[tV]
    refine⟨[.keep [4,5,6,15,16]],?_⟩
    simp
    obtain⟨pi,f1,f2⟩:=hP.2 i d.aj[i] (gJ hi)
    have f3:ps[i]=pi:=by rw[hx]at f1;exact Option.some.inj f1
    exact hK (ps.set i q) y2.2 _ (by simp[List.map_set]) (hP.set lE ⟨hqr.1,hqr.2.1⟩ (by rw[hqr.2.2,f3];exact f2.stl) (by rw[hqr.2.2,f3];exact f2.stb)) p2
  ·refine al.mR 12 (mA p1) (by simp) (by simp[ae,ab,bg,idx]) (by simp[aK,aF,aT,idx]) (by simp) ?_
   have p2:gn (bool y1.2).2:=dq p1 2
   generalize bool y1.2=y2 at*
   simp
   refine⟨λh2=> ?_,λh2=> ?_⟩
   ·refine nj.run [12] rfl ?_
    simp
    refine a8.ret hH1 (by simp) (by simp) (by simp) ?_
    simp[wZ]
    refine a8.ret Zx (by simp) (by simp) (by simp) ?_
    simp
    refine al.mR 12 (aY p2 30 (by omega)) (by simp) (by simp[ae,ab,bg,idx]) (by simp[aK,aF,aT,idx]) (by simp) ?_
    have m3:=ej y2.2 (n:=30) (by omega)
    have p3:=dq p2 30
    generalize k9 y2.2 30=y3 at*
    obtain⟨pk,Tp,hP3⟩:=DP (s:=iW 0 1) (d:=iW (UInt8.ofNat (i+1)) 1) (n:=y3.1) (by omega) 1
    simp
    refine a8.ret (hP3.gh (bZ (λx=>by simp[u8]) _)) (by simp) (by simp) (by simp) ?_
    have es:PV.sl 1 [PV.sl 1 (pk.map u8) false] false=gi [pk]:=rfl
    simp[Tq,hi,es,tV]
    refine⟨[.keep [4,5,6,15,16]],?_⟩
    simp
    exact hK (ps.set i {ps[i]with bk:=[pk]}) y3.2 _ (by simp[List.map_set]) (hP.set lE ⟨rfl,rfl⟩ (by simp) (by simp[Tp];omega)) p3
   ·simp[tV]
    refine⟨[.keep [4,5,6,15,16]],?_⟩
    simp
    exact hK ps y2.2 _ (by simp) hP p2
 ·intro ps cc hP hC K
  have Tq:=hP.1
  simp[F.Yw,F.akw]
  refine al.mR 12 (aY hC 5 (by omega)) (by simp) (by simp[ae,ab,bg,idx]) (by simp[aK,aF,aT,idx]) (by simp) ?_
  have p1:=dq hC 5
  generalize k9 cc 5=y1 at*
  simp
  obtain⟨d1,HO⟩:∃d1:bU,d1= {d with bad:=(y1.1:Int),aj:=ps}:=⟨_,rfl⟩
  refine TD.of (λs'=>∃(l:List PV) (d2:bU) (c2:pr),gn c2∧(aB l∧wk (.st 148 l)=gO d2)∧(d2=d1∨∃r1 r2,d2= {d1 with cN:=r1,buckets:=r2}∧r1.length≤2∧r2.length≤1)∧s'=⟨[(4,.pt 4 [] 0),(5,.pt 5 [] 0),(6,.pt 12 [] 0)],[(4,.box zD),(5,.box (.st 148 l)),(12,.box (gu c2))]⟩) ?_ ?_
  ·simp
   refine al.mR 12 (mA p1) (by simp) (by simp[ae,ab,bg,idx]) (by simp[aK,aF,aT,idx]) (by simp) ?_
   have p2:gn (bool y1.2).2:=dq p1 2
   generalize bool y1.2=y2 at*
   simp
   refine⟨λh2=> ?_,λh2=> ?_⟩
   ·simp[wA,av]
    refine⟨[.keep [4,5,6],.fz 10],?_⟩
    simp[Tq]
    refine⟨_,{d1 with cN:=[IntKind.i64.wrap (d.now.tdiv 2),d.now],buckets:=[⟨No,4000,d.now⟩]},y2.2,p2,⟨?_,?_⟩,.inr ⟨[IntKind.i64.wrap (d.now.tdiv 2),d.now],[⟨No,4000,d.now⟩],rfl,by simp,by simp⟩,rfl,rfl⟩
    ·simp
    ·have Eb:List.take d.aj.length (List.map aP ps)=List.map aP ps:=tJ (by simp[Tq])
     rw[Eb]
     have ea:PV.st 17 [.bl false,.ar 1 16 (zr 16 (.int .u8 0))]=jf No:=by rw[gC];rfl
     simp
     rw[ea,HO]
     rfl
   ·refine⟨[.keep [4,5,6],.fz 10],?_⟩
    simp only[bO]
    simp[Tq]
    refine⟨_,d1,y2.2,p2,⟨?_,?_⟩,.inl rfl,rfl,rfl⟩
    ·simp
    ·have Eb:List.take d.aj.length (List.map aP ps)=List.map aP ps:=tJ (by simp[Tq])
     rw[Eb]
     simp
     rw[HO]
     rfl
  ·rintro s' ⟨l,d2,c2,p2,⟨hlP,Py⟩,KQ,rfl⟩
   have HX:d2.aj=ps:=by rcases KQ with rfl|⟨r1,r2,rfl,_,_⟩<;>rw[HO]
   have m7:d2.bD=d.bD:=by rcases KQ with rfl|⟨r1,r2,rfl,_,_⟩<;>rw[HO]
   have xW:d2.aM=d.aM:=by rcases KQ with rfl|⟨r1,r2,rfl,_,_⟩<;>rw[HO]
   have CI:d2.timers=d.timers:=by rcases KQ with rfl|⟨r1,r2,rfl,_,_⟩<;>rw[HO]
   have YP:d2.rules=d.rules:=by rcases KQ with rfl|⟨r1,r2,rfl,_,_⟩<;>rw[HO]
   have xY:d2.cN.length≤2:=by
    rcases KQ with rfl|⟨r1,r2,rfl,h1,_⟩
    ·rw[HO];show d.cN.length≤2;rw[hV.vd.rcn];simp
    ·exact h1
   have alT:d2.buckets.length≤1:=by
    rcases KQ with rfl|⟨r1,r2,rfl,_,h2⟩
    ·rw[HO];show d.buckets.length≤1;rw[hV.vd.buc];simp
    ·exact h2
   have aB2:=hV.vd.sls.len hn3
   have aB3:=hV.ti.len
   have aB4:=hV.vd.Ya.1
   have ra:qK d2:=by
    refine⟨by rw[HX];omega,by rw[m7];omega,by rw[xW];omega,by rw[CI];omega,xY,alT,λp hp=> ?_,λp hp=> ?_⟩
    ·rw[HX]at hp
     obtain⟨p0,_,hc⟩:=hP.mem hp
     exact⟨by have:=hc.stl;omega,λb hb=>(hc.stb b hb).2⟩
    ·rw[HX]at hp
     obtain⟨p0,h0,hc⟩:=hP.mem hp
     exact⟨d,p0,hV.vd.xR p0 h0,by rw[hc.ring];exact .refl _,by rw[hc.ring];exact .refl _,by rw[hc.ring];exact .refl _⟩
   simp
   refine al.mR 12 (aY p2 4 (by omega)) (by simp) (by simp[ae,ab,bg,idx]) (by simp[aK,aF,aT,idx]) (by simp) ?_
   have p3:=dq p2 4
   generalize k9 c2 4=y3 at*
   by_cases e1:(y3.1:Int)=1
   ·simp[e1]
    refine nj.run [12] rfl ?_
    simp
    refine al.xQ 12 (Yv p3) (by simp) (by simp[ae,ab,bg,idx]) (by simp[aK,aF,aT,idx]) (by simp) ?_
    rintro⟨bb,c4⟩ ⟨hbb,p4⟩
    dsimp only at hbb p4
    simp
    have avj:xu d2.aj:=by
     rw[HX]
     refine⟨by omega,λj hj=> ?_⟩
     obtain⟨q,e1,e2⟩:=hP.2 j d.aj[j] (gJ (by omega))
     rw[gJ hj]at e1
     cases e1
     rw[e2.gF];exact Tp.2 j (by omega)
    have Zy:N5 d2.aj:=by
     rw[HX]
     intro p hp
     obtain⟨p0,_,hc⟩:=hP.mem hp
     exact⟨by have:=hc.stl;omega,hc.stb⟩
    have yJ:=hV.vd.ru
    have hS:=aks (d:=d2) ra.sml avj (by rw[m7];exact hV.vd.Ya) (by rw[m7,HX,hV.vd.rtl];omega) (by rw[xW];omega) (by rw[xW];exact λs hs=>(hB s hs).2) (by rw[CI];omega) Zy (by
     obtain⟨_,_,_,_,_,_,_,_,_,_,_,_,_,_,_,u1,u2⟩:=yJ
     rw[YP];omega) hbb (x:=iU wG) (y:= .str []) (by simp) (by simp) (by simp) (by simp) (by simp) 0
    refine al.aha (R:=λr=>∃d' N,StW d2 d'∧aB N∧r= .tup [gO d',.sl 86 N false]) (hS.mono ?_) ?_ (by simp[hlP]) ?_ ?_
    ·rintro r fp ⟨rfl,h⟩;exact⟨h,rfl⟩
    ·simp;simpa using Py
    ·rintro r ⟨d',N,_,hN,rfl⟩;simp[hN]
    rintro r ⟨d',N,hW,hN,rfl⟩
    simp
    have aB5:=ra.aM
    have Zc:qK d':=by
     have wZ:=hW.timers
     have tV:=hW.aM
     rw[CI]at wZ
     rw[xW]at tV
     refine⟨by rw[hW.xR.1,HX];omega,by rw[hW.bD,m7];omega,by omega,by omega,by rw[hW.cN];exact xY,by rw[hW.buckets];exact alT,λp hp=> ?_,λp hp=> ?_⟩
     ·obtain⟨p0,_,hc⟩:=hW.xR.mem hp
      exact⟨hc.stl,hc.stb⟩
     ·obtain⟨p0,h0,hc⟩:=hW.xR.mem hp
      obtain⟨e,p1,g1,g2,g3,g4⟩:=ra.nY p0 h0
      exact⟨e,p1,g1,g2.trans hc.rp,g3.trans hc.rc,g4.trans hc.rn⟩
    refine aL.plain [.keep [4],.dr 5,.dr 12] ?_
    simp[bL,cL,ab,af]
    exact⟨_,d',Zc,by simpa[gO,bO]using Kf d',rfl,rfl⟩
   ·simp[e1]
    refine aL.plain [.keep [4],.dr 5,.dr 12] ?_
    simp[bL,cL,ab,af,hlP]
    exact⟨l,d2,ra,hlP,rfl,Py⟩
theorem ah.wkR {P:Program} {f:FuncId} {args:List PV} {fp:List a9} {R:PV->List a9->Prop} (h:ah P f args fp R):ah P f args fp (λr kP=>∃r0,R r0 kP∧r=wk r0):=by
 intro Γ w vs h1 h2 h3 h4
 refine(h Γ w vs h1 h2 h3 h4).mono ?_
 rintro e w' ⟨v,r,kP,Γ',e1,e2,e3,e4,e5,e6,e7,e8⟩
 exact⟨v,wk r,kP,Γ',e1,⟨r,e2,rfl⟩,e3,e4,e5,e6.wk,e7,e8⟩
theorem ahb {a b:List UInt8} (ha:(a.length:Int)≤9223372036854775807) (hb:(b.length:Int)≤9223372036854775807):ah Pg I.kz [eI a,eI b] [] (λr fp=>(∃d,qK d∧r=gO d)∧fp=[]):=by
 refine(akv ha hb).wkR.mono ?_
 rintro r fp ⟨r0,⟨rfl,l,d,h1,h2,rfl,h4⟩,rfl⟩
 exact⟨⟨d,h1,h4⟩,rfl⟩
end Go.Ab
end Q18s

/- What burrowmake.Daemon makes. No condition. -/
import Derived.Test.YtjkfnhhekobfgaaGreatDoorB6
set_option maxRecDepth 10000
set_option maxHeartbeats 4000000
set_option linter.all false
noncomputable section H3as
namespace Go.Ab
open Go.Ab
def zD:PV:=PV.st 148 [PV.st 10 [.int .u64 0,.int .u64 0,.int .i64 0,.int .i64 0,.int .i64 0,.int .i64 0,.int .i64 0,.int .i64 0,.int .i64 0,.int .i64 0],
 .ar 1 32 (zr 32 (.int .u8 0)),.ar 1 32 (zr 32 (.int .u8 0)),.int .i64 0,.ar 1 32 (zr 32 (.int .u8 0)),.int .i64 0,.sl 464 [] true,.sl 50 [] true,.sl 34 [] true,.sl 34 [] true,
 .ar 1 32 (zr 32 (.int .u8 0)),.int .i64 0,.sl 1 [] true,.sl 19 [] true,.int .i64 0]
@[simp] theorem abR:zD.width=148:=rfl
@[simp] theorem ahI (k sz:Nat) (l:List PV):iB k sz l zD=zD:=by simp[zD]
theorem lO.mono {d:cK} {l:List iR} {m k:Nat} (h:lO d l m) (hk:m≤k):lO d l k:=⟨h.so,h.rg,h.un,Nat.le_trans h.len hk⟩
def ahJ (d:cK) (m:Int):Prop:=∀x∈d.bq,0≤x.index∧x.index<m
def Bd (d:cK):Prop:=∀x∈d.bq,0≤x.index∧x.index≤1000
theorem Ig {d:cK} {i:Nat} {hi:i<d.aa.length} {s:lq} {own:Bool} {x:cS} (h:x∈(lD d i hi s own).bq):x.index=s.loc∨x∈d.bq:=by
 rcases List.mem_cons.1 ((oX _ _).mem_iff.1 h)with h|h
 ·left;rw[h]
 ·right;exact qO h
theorem Ih {d:cK} {i:Nat} {hi:i<d.aa.length} {s:lq} {own:Bool}:(lD d i hi s own).aa.length=d.aa.length:=List.length_set
theorem Ii {d:cK} {c:qJ} {n:Nat} (hV:VP d n) (hn:n=2∨n=3) (hC:iS c):
  aw Pg F.ke (ends 1 [AK.load true 148 (AX.t 2)] λr fp=>∃a b,(VM a 40∧2≤a.aa.length∧iS b∧Bd a)∧r=bE a∧fp=[bX.box (gI b)])
   {
    env:=[(0,.pt KB [] 0),(2,.pt 2 [] 0),(3,.pt 3 [] 0),(4,.int .i64 n),(5,.int .i64 n),(38,.int .i64 n),(39,.int .i64 n),(40,.bl false)],
    bx:=[(2,.box zD),(3,.box (cO d (.rs 80 [] 0 n n 464 .tip))),(80,.arr 464 (d.aa.map br)),(KB,.box (gI c))]}:=by
 simp[F.ke]
 refine fb.C9 n (d,c) (λi y=>(VM y.1 (3+3*i)∧y.1.aa.length=n∧ahJ y.1 (10*i))∧iS y.2) [0,2,3,4,7] (λi _=>[(7,.int .i64 i)]) (λi y=>[(3,.box (bE y.1)),(KB,.box (gI y.2))]) [.keep [0,2,3,4,7],.fz 80] ?_
 simp[ab]
 have hL:=hV.len
 have ht:List.take n (List.map br d.aa)=List.map br d.aa:=tJ (by simp[hL])
 refine⟨by rw[if_pos ⟨hL.symm,Nat.le_of_eq hL.symm⟩,ht];rfl,⟨⟨⟨hV.vm.vd,hV.vm.ti.mono (by omega)⟩,hL,?_⟩,hC⟩,?_,?_⟩
 ·intro x hx;rw[hV.sl]at hx;simp at hx
 ·intro i d c hi hV hL hS hC K hK
  have vD:IntKind.i64.wrap ((i:Int)+1)=(i:Int)+1:=wrap_i64 (by omega)
  simp[F.kf,hi]
  refine an.qj KB (bP hC 4 (by omega)) (by simp) (by simp[ab,ae,bM,idx]) (by simp[aD,aB,bp,idx]) (by simp) ?_
  have m1:=eW c (n:=4) (by omega)
  have p1:=eV hC 4
  generalize mq c 4=y1 at*
  simp
  refine fb.C9 y1.1 (d,y1.2) (λj y=>(VM y.1 (3+3*i+j)∧y.1.aa.length=n∧(∀x∈y.1.bq,0≤x.index∧(x.index<10*i∨10*(i:Int)+y1.1-j<x.index∧x.index≤10*i+3)))∧iS y.2) [0,2,3,4,7,8] (λj _=>[(8,.int .i64 ((y1.1:Int)-j))]) (λj y=>[(3,.box (bE y.1)),(KB,.box (gI y.2))]) [.keep [0,2,3,4,7,8]] ?_
  simp
  refine⟨⟨⟨hV,hL,λx hx=>⟨(hS x hx).1,Or.inl (hS x hx).2⟩⟩,p1⟩,?_,?_⟩
  ·intro j d c hj hV hL hS hC K2 lX
   have Wc:(0:Int)<(y1.1:Int)-j:=by omega
   have v1:IntKind.i64.wrap (10*(i:Int))=10*(i:Int):=wrap_i64 (by omega)
   have v2:IntKind.i64.wrap (10*(i:Int)+((y1.1:Int)-j))=10*(i:Int)+((y1.1:Int)-j):=wrap_i64 (by omega)
   obtain⟨m,hm⟩:∃m:Nat,m=10*i+(y1.1-j):=⟨_,rfl⟩
   have v3:IntKind.u32.wrap (10*(i:Int)+((y1.1:Int)-j))=(m:Int):=by rw[wrap_u32 (by omega)];omega
   have v4:IntKind.i64.wrap ((y1.1:Int)-j-1)=(y1.1:Int)-(j+1):=by rw[wrap_i64 (by omega)];omega
   simp[F.kg,hj]
   refine qD.run [KB] rfl ?_
   simp
   refine aU.ret (dD (i:=i) (by omega)) (by simp) (by simp) (by simp) ?_
   simp[v1,v2,v3]
   refine an.wG KB (dI hC hV.vd.n0 hV.vd.n1 hV.vd.ru (n:=m) (by omega) (by omega)) (by simp) (by simp[ab,ae,bM,idx,(aK d).refs]) (by simp[aD,aB,bp,idx,(aK d).aB]) (by simp) ?_
   rintro⟨s,c1⟩ ⟨hs,qf,o1⟩
   simp at hs qf o1
   simp
   refine an.qj KB (yz o1) (by simp) (by simp[ab,ae,bM,idx]) (by simp[aD,aB,bp,idx]) (by simp) ?_
   have o2:iS (bool c1).2:=eV o1 2
   generalize bool c1=x2 at*
   simp
   have hip:i<d.aa.length:=by omega
   have nP:∀x∈d.bq,x.index≠s.loc:=by
    intro x hx he
    rcases(hS x hx).2 with h|h<;>omega
   refine aU.ret (Ia hV.vd hip hs (by omega) nP x2.1) (by simp) (by simp) (by simp) ?_
   simp[v4]
   refine⟨[.keep [0,2,3,4,7,8]],?_⟩
   simp
   refine lX (lD d i hip s x2.1) x2.2 _ (by simp) (hV.inst (by omega) hip hs (by omega) nP x2.1) (Ih.trans hL) ?_ o2
   intro x hx
   rcases Ig hx with h|h
   ·exact⟨by omega,by right;omega⟩
   ·have g:=hS x h
    exact⟨g.1,by rcases g.2 with h|h<;>omega⟩
  ·intro d c hV hL hS hC K2
   simp[F.kg,F.mM,vD]
   refine⟨[.keep [0,2,3,4,7]],?_⟩
   simp
   refine hK d c _ (by simp) ⟨hV.vd,hV.ti.mono (by omega)⟩ hL ?_ hC
   intro x hx
   have g:=hS x hx
   exact⟨g.1,by rcases g.2 with h|h<;>omega⟩
 ·intro d c hV hL hS hC K
  simp[F.kf,F.mN]
  refine al.with [] [KB] ?_
  simp[af,(cE _).refs,aE,(cE _).aB,(aK _).refs,(aK _).aB]
  exact⟨d,c,⟨⟨hV.vd,hV.ti.mono (by omega)⟩,by omega,hC,λx hx=>⟨(hS x hx).1,by have:=(hS x hx).2;omega⟩⟩,rfl,rfl⟩
end Go.Ab
end H3as
noncomputable section H3s
namespace Go.Ab
open Go.Ab
def Uu:nO:=⟨ql,ql,ql⟩
def pz (i:Nat) (e:Bool) (k:Int):fg:=⟨nK i,Kt,e,if e=true then sE i else tZ,k,zSm,false,0,ua,false,Gv,0,Gv,Uu,[]⟩
theorem Uv:gZ tZ= .st 18 [.st 17 [.bl false,.ar 1 16 (zr 16 (.int .u8 0))],.int .i64 0]:=by rw[fC];rfl
theorem abS (i:Nat) (k:Int):br (pz i false k)= .st 464 [dU (nK i),Kt.p,.bl false,.st 18 [.st 17 [.bl false,.ar 1 16 (zr 16 (.int .u8 0))],.int .i64 0],.int .i64 k,zSm.p,.bl false,.int .i64 0,iU ua,.bl false,Gv.p,.int .i64 0,Gv.p,gi Uu,jv []]:=by
 show PV.st 464 [dU (nK i),Kt.p,.bl false,gZ tZ,.int .i64 k,zSm.p,.bl false,.int .i64 0,iU ua,.bl false,Gv.p,.int .i64 0,Gv.p,gi Uu,jv []]=_
 rw[Uv]
theorem Gy {d:cK} {i:Nat} (hi:i<3) {e:Bool} {k:Int} (hk:k=0∨1000≤k∧k≤1073741824):lC d (pz i e k):=by
 refine⟨?_,hk,rfl,rfl,rfl,rfl,rfl,rfl,rfl,.z d,.z d,.z d⟩
 cases e
 ·exact Or.inr ⟨rfl,rfl⟩
 ·exact Or.inl ⟨rfl,i,hi,rfl⟩
theorem ec {c:qJ} (h:iS c):
  ai Pg I.ec [.pt KB [] 0] [.box (gI c)] (λr fp=>∃w:cK×qJ,(VM w.1 40∧w.1.aa.length≥2∧iS w.2∧Bd w.1)∧r=bE w.1∧fp=[.box (gI w.2)]):=by
 refine ai.intro T.ec (by simp[F.ec]) ?_
 simp[F.ec,aj,aF]
 refine an.wG KB (Dg h) (by simp) (by simp[ab,ae,bM,idx]) (by simp[aD,aB,bp,idx]) (by simp) ?_
 rintro⟨ru,c1⟩ ⟨zd,o1⟩
 simp
 refine an.wG KB (nr o1) (by simp) (by simp[ab,ae,bM,idx]) (by simp[aD,aB,bp,idx]) (by simp) ?_
 rintro⟨k1,c2⟩ o2
 simp
 refine an.wG KB (nr o2) (by simp) (by simp[ab,ae,bM,idx]) (by simp[aD,aB,bp,idx]) (by simp) ?_
 rintro⟨k2,c3⟩ o3
 simp
 refine an.wG KB ((As o3 65536 (by omega) (by omega)).mono (R':=λr fp=>∃w:Nat×qJ,(iS w.2∧w.1<65536)∧r= .int .i64 w.1∧fp=[.box (gI w.2)]) ?_) (by simp) (by simp[ab,ae,bM,idx]) (by simp[aD,aB,bp,idx]) (by simp) ?_
 ·rintro r fp ⟨m,c',a,b,e,f⟩;exact⟨⟨m,c'⟩,⟨a,b⟩,e,f⟩
 rintro⟨po,c4⟩ ⟨o4,IX⟩
 simp
 refine an.wG KB (nr o4) (by simp) (by simp[ab,ae,bM,idx]) (by simp[aD,aB,bp,idx]) (by simp) ?_
 rintro⟨k3,c5⟩ o5
 simp
 refine an.wG KB ((As o5 16777216 (by omega) (by omega)).mono (R':=λr fp=>∃w:Nat×qJ,(iS w.2∧w.1<16777216)∧r= .int .i64 w.1∧fp=[.box (gI w.2)]) ?_) (by simp) (by simp[ab,ae,bM,idx]) (by simp[aD,aB,bp,idx]) (by simp) ?_
 ·rintro r fp ⟨m,c',a,b,e,f⟩;exact⟨⟨m,c'⟩,⟨a,b⟩,e,f⟩
 rintro⟨nw,c6⟩ ⟨o6,xh⟩
 dsimp only at IX xh o1 o2 o3 o4 o5 o6 zd
 have w1:IntKind.i64.wrap (nw:Int)=(nw:Int):=wrap_i64 (by omega)
 simp[w1]
 refine qD.run [KB] rfl ?_
 simp
 refine an.wG KB (nr o6) (by simp) (by simp[ab,ae,bM,idx]) (by simp[aD,aB,bp,idx]) (by simp) ?_
 rintro⟨k4,c7⟩ o7
 simp
 refine an.qj KB (bP o7 2 (by omega)) (by simp) (by simp[ab,ae,bM,idx]) (by simp[aD,aB,bp,idx]) (by simp) ?_
 have l8:=eW c7 (n:=2) (by omega)
 have o8:=eV o7 2
 generalize mq c7 2=x8 at*
 simp
 refine an.qj KB (bP o8 2 (by omega)) (by simp) (by simp[ab,ae,bM,idx]) (by simp[aD,aB,bp,idx]) (by simp) ?_
 have l9:=eW x8.2 (n:=2) (by omega)
 have o9:=eV o8 2
 generalize mq x8.2 2=x9 at*
 have w2:IntKind.i64.wrap ((x8.1:Int)*min (nw:Int) 20000)=(x8.1:Int)*min (nw:Int) 20000:=by
  rcases(by omega:x8.1=0∨x8.1=1)with e|e<;>rw[e]<;>exact wrap_i64 (by omega)
 have h3:0≤(nw:Int)-(x8.1:Int)*min (nw:Int) 20000∧(nw:Int)-(x8.1:Int)*min (nw:Int) 20000≤nw:=by
  rcases(by omega:x8.1=0∨x8.1=1)with e|e<;>rw[e]<;>omega
 have w3:IntKind.i64.wrap ((nw:Int)-(x8.1:Int)*min (nw:Int) 20000)=(nw:Int)-(x8.1:Int)*min (nw:Int) 20000:=wrap_i64 (by omega)
 have w4:IntKind.i64.wrap (2+(x9.1:Int))=((2+x9.1:Nat):Int):=by rw[wrap_i64 (by omega)];omega
 obtain⟨n,hn⟩:∃n,n=2+x9.1:=⟨_,rfl⟩
 obtain⟨sa,hsa⟩:∃sa,sa=(nw:Int)-(x8.1:Int)*min (nw:Int) 20000:=⟨_,rfl⟩
 rw[←hsa]at h3 w3
 simp only[w2,w3,←hsa]
 simp
 simp only[w4,←hn]
 obtain⟨d0,YX⟩:∃d:cK,d=⟨ru,k1.fv,k2.fv,po,k3.fv,nw,[],[],[],[],k4.fv,sa,[],[],0⟩:=⟨_,rfl⟩
 refine fb.C9 n (d0,x9.2) (λi y=>VP y.1 i∧iS y.2) [0,2,3,4,5] (λi _=>[(5,.int .i64 i)]) (λi y=>[(3,.box (cO y.1 (.rs 80 [] 0 i i 464 .tip))),(80,.arr 464 (y.1.aa.map br)),(KB,.box (gI y.2))]) [.vb 3 [.f 6 108] 80 464,.wb 3,.keep [0,2,3,4,5]] ?_
 simp
 refine⟨by rw[YX];exact⟨rfl,rfl⟩,⟨?_,o9⟩,?_,?_⟩
 ·rw[YX]
  refine⟨⟨?_,⟨.nil,by simp,.nil,by simp⟩⟩,rfl,rfl,by simp⟩
  exact⟨zd,by show(0:Int)≤nw;omega,by show(nw:Int)≤16777216;omega,by show(0:Int)≤po;omega,by show(po:Int)≤65535;omega,rfl,⟨by simp,by simp⟩,by simp,⟨by simp,by simp⟩,rfl,⟨⟨by simp,by simp⟩,by simp⟩,⟨by simp,by simp,by simp,by simp⟩,h3.1,h3.2,rfl,rfl⟩
 ·intro i d cc hi hV hC K hK
  have vD:IntKind.i64.wrap ((i:Int)+1)=((i+1:Nat):Int):=by rw[wrap_i64 (by omega)];omega
  have hu8:((UInt8.ofNat (i+1)).toNat:Int)=((i+1:Nat):Int):=by simp[UInt8.toNat_ofNat];omega
  have hH:=en (UInt8.ofNat (i+1)) 0
  obtain⟨u,hu⟩:∃u,u=UInt8.ofNat (i+1):=⟨_,rfl⟩
  have hrt:rt i=⟨qM u,nK i⟩:=by rw[hu];rfl
  rw[hu8,show(((0:UInt8).toNat:Nat):Int)=0 from rfl]at hH
  have hVv:=hV.vm.vd
  have PK:=hVv.n0
  have wK:=hVv.n1
  have FI:d.aV.length=i:=by rw[hVv.Yt,hV.len]
  have DS:=hVv.tis.len
  have VY:∀r∈d.aV,∃m,m<UInt8.ofNat (i+1)∧r.mA=qM m:=by
   intro r hr
   obtain⟨j,hj,rfl⟩:=List.mem_iff_getElem.1 hr
   refine⟨UInt8.ofNat (j+1),?_,by rw[hVv.rts.2 j hj];rfl⟩
   rw[UInt8.lt_iff_toNat_lt]
   simp[UInt8.toNat_ofNat]
   omega
  rw[←hu]at hH VY
  simp[F.kh,hi]
  refine an.ret (dD (i:=i) (by omega)) (by simp) (by simp) (by simp) ?_
  simp
  refine an.qj KB (bP hC 8 (by omega)) (by simp) (by simp[ab,ae,bM,idx]) (by simp[aD,aB,bp,idx]) (by simp) ?_
  have m1:=eW cc (n:=8) (by omega)
  have p1:=eV hC 8
  generalize mq cc 8=y1 at*
  by_cases hb:0<y1.1
  ·simp[hb]
   refine an.ret (eO (i:=i) (by omega)) (by simp) (by simp) (by simp) ?_
   simp
   refine an.qj KB (bP p1 4 (by omega)) (by simp) (by simp[ab,ae,bM,idx]) (by simp[aD,aB,bp,idx]) (by simp) ?_
   have m2:=eW y1.2 (n:=4) (by omega)
   have p2:=eV p1 4
   generalize mq y1.2 4=y2 at*
   by_cases hc:(y2.1:Int)=1
   ·simp[hc]
    refine an.qj KB (bP p2 30 (by omega)) (by simp) (by simp[ab,ae,bM,idx]) (by simp[aD,aB,bp,idx]) (by simp) ?_
    have m3:=eW y2.2 (n:=30) (by omega)
    have p3:=eV p2 30
    generalize mq y2.2 30=y3 at*
    have v1:IntKind.i64.wrap (1+(y3.1:Int))=1+(y3.1:Int):=wrap_i64 (by omega)
    have v2:IntKind.i64.wrap (1000*(1+(y3.1:Int)))=1000*(1+(y3.1:Int)):=wrap_i64 (by omega)
    simp[v1,v2]
    refine qD.run [KB] rfl ?_
    simp
    refine an.qj KB (bP p3 200 (by omega)) (by simp) (by simp[ab,ae,bM,idx]) (by simp[aD,aB,bp,idx]) (by simp) ?_
    have m4:=eW y3.2 (n:=200) (by omega)
    have p4:=eV p3 200
    generalize mq y3.2 200=y4 at*
    have v3:IntKind.i64.wrap (d.now+1)=d.now+1:=wrap_i64 (by omega)
    have v4:IntKind.i64.wrap ((y4.1:Int)*10)=(y4.1:Int)*10:=wrap_i64 (by omega)
    have v5:IntKind.i64.wrap (d.now+1+(y4.1:Int)*10)=d.now+1+(y4.1:Int)*10:=wrap_i64 (by omega)
    simp[v3,v4,v5]
    obtain⟨A,hA⟩:∃A,A=d.now+1+(y4.1:Int)*10:=⟨_,rfl⟩
    rw[←hA]
    refine aU.ret (dC (l:=d.timers) (by omega) ⟨A,nK i,4⟩) (by simp;rfl) (by simp) (by simp) ?_
    obtain⟨T,hT⟩:∃T,T=yA d.timers ⟨A,nK i,4⟩:=⟨_,rfl⟩
    rw[←hT]
    simp[vD,hV.len]
    refine⟨⟨by omega,by omega⟩,?_⟩
    refine aU.ret hH (by simp) (by simp) (by simp) ?_
    simp
    refine aU.ret (cG (a:=j8 u 0) (rv _)) (by simp) (by simp) (by simp) ?_
    simp
    refine aU.ret (bz (l:=d.aV) (n:=u) VY (by omega) (nK i)) (by simp;rfl) (by simp) (by simp) ?_
    simp[vD]
    refine⟨[.keep [0,2,3,4,5],.dr 6],?_⟩
    simp[eI,fE,ae,af]
    refine hK (oZ d (pz i true (1000*(1+(y3.1:Int)))) i T) y4.2 _ ?_ (hV.add (by omega) (Gy (by omega) ?_) rfl rfl ?_) ?_
    ·simp[oZ,hrt]
     exact⟨rfl,rfl⟩
    ·exact Or.inr (by omega)
    ·exact Or.inr ⟨A,by omega,by omega,by show(1000*(1+(y3.1:Int)))≠0;omega,hT⟩
    ·assumption
   ·simp[hc]
    simp[vD,hV.len]
    refine⟨⟨by omega,by omega⟩,?_⟩
    refine aU.ret hH (by simp) (by simp) (by simp) ?_
    simp
    refine aU.ret (cG (a:=j8 u 0) (rv _)) (by simp) (by simp) (by simp) ?_
    simp
    refine aU.ret (bz (l:=d.aV) (n:=u) VY (by omega) (nK i)) (by simp;rfl) (by simp) (by simp) ?_
    simp[vD]
    refine⟨[.keep [0,2,3,4,5],.dr 6],?_⟩
    simp[eI,fE,ae,af]
    refine hK (oZ d (pz i true 0) i d.timers) y2.2 _ ?_ (hV.add (by omega) (Gy (by omega) ?_) rfl rfl ?_) ?_
    ·simp[oZ,hrt]
     exact⟨rfl,rfl⟩
    ·exact Or.inl rfl
    ·exact Or.inl rfl
    ·assumption
  ·simp[hb]
   refine an.qj KB (bP p1 4 (by omega)) (by simp) (by simp[ab,ae,bM,idx]) (by simp[aD,aB,bp,idx]) (by simp) ?_
   have m2:=eW y1.2 (n:=4) (by omega)
   have p2:=eV p1 4
   generalize mq y1.2 4=y2 at*
   by_cases hc:(y2.1:Int)=1
   ·simp[hc]
    refine an.qj KB (bP p2 30 (by omega)) (by simp) (by simp[ab,ae,bM,idx]) (by simp[aD,aB,bp,idx]) (by simp) ?_
    have m3:=eW y2.2 (n:=30) (by omega)
    have p3:=eV p2 30
    generalize mq y2.2 30=y3 at*
    have v1:IntKind.i64.wrap (1+(y3.1:Int))=1+(y3.1:Int):=wrap_i64 (by omega)
    have v2:IntKind.i64.wrap (1000*(1+(y3.1:Int)))=1000*(1+(y3.1:Int)):=wrap_i64 (by omega)
    simp[v1,v2]
    refine qD.run [KB] rfl ?_
    simp
    refine an.qj KB (bP p3 200 (by omega)) (by simp) (by simp[ab,ae,bM,idx]) (by simp[aD,aB,bp,idx]) (by simp) ?_
    have m4:=eW y3.2 (n:=200) (by omega)
    have p4:=eV p3 200
    generalize mq y3.2 200=y4 at*
    have v3:IntKind.i64.wrap (d.now+1)=d.now+1:=wrap_i64 (by omega)
    have v4:IntKind.i64.wrap ((y4.1:Int)*10)=(y4.1:Int)*10:=wrap_i64 (by omega)
    have v5:IntKind.i64.wrap (d.now+1+(y4.1:Int)*10)=d.now+1+(y4.1:Int)*10:=wrap_i64 (by omega)
    simp[v3,v4,v5]
    obtain⟨A,hA⟩:∃A,A=d.now+1+(y4.1:Int)*10:=⟨_,rfl⟩
    rw[←hA]
    refine aU.ret (dC (l:=d.timers) (by omega) ⟨A,nK i,4⟩) (by simp;rfl) (by simp) (by simp) ?_
    obtain⟨T,hT⟩:∃T,T=yA d.timers ⟨A,nK i,4⟩:=⟨_,rfl⟩
    rw[←hT]
    simp[vD,hV.len]
    refine⟨⟨by omega,by omega⟩,?_⟩
    refine aU.ret hH (by simp) (by simp) (by simp) ?_
    simp
    refine aU.ret (cG (a:=j8 u 0) (rv _)) (by simp) (by simp) (by simp) ?_
    simp
    refine aU.ret (bz (l:=d.aV) (n:=u) VY (by omega) (nK i)) (by simp;rfl) (by simp) (by simp) ?_
    simp[vD]
    refine⟨[.keep [0,2,3,4,5],.dr 6],?_⟩
    simp[eI,fE,ae,af]
    refine hK (oZ d (pz i false (1000*(1+(y3.1:Int)))) i T) y4.2 _ ?_ (hV.add (by omega) (Gy (by omega) ?_) rfl rfl ?_) ?_
    ·simp[oZ,hrt]
     exact⟨by first|rfl|(rw[fC];rfl),(abS i _).symm⟩
    ·exact Or.inr (by omega)
    ·exact Or.inr ⟨A,by omega,by omega,by show(1000*(1+(y3.1:Int)))≠0;omega,hT⟩
    ·assumption
   ·simp[hc]
    simp[vD,hV.len]
    refine⟨⟨by omega,by omega⟩,?_⟩
    refine aU.ret hH (by simp) (by simp) (by simp) ?_
    simp
    refine aU.ret (cG (a:=j8 u 0) (rv _)) (by simp) (by simp) (by simp) ?_
    simp
    refine aU.ret (bz (l:=d.aV) (n:=u) VY (by omega) (nK i)) (by simp;rfl) (by simp) (by simp) ?_
    simp[vD]
    refine⟨[.keep [0,2,3,4,5],.dr 6],?_⟩
    simp[eI,fE,ae,af]
    refine hK (oZ d (pz i false 0) i d.timers) y2.2 _ ?_ (hV.add (by omega) (Gy (by omega) ?_) rfl rfl ?_) ?_
    ·simp[oZ,hrt]
     exact⟨by first|rfl|(rw[fC];rfl),(abS i _).symm⟩
    ·exact Or.inl rfl
    ·exact Or.inl rfl
    ·assumption
 ·intro d cc hV hC K
  simp[F.kh]
  exact Ii hV (by omega) hC
end Go.Ab
end H3s

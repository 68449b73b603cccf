/- The law SchemaLowers: what it computes. No condition. -/
import Derived.Test.YtdfkcobijmbidaaGreatS3
import Derived.Test.YtdfkcobijmbidaaGreatQ4
set_option maxRecDepth 10000
set_option maxHeartbeats 4000000
set_option linter.all false
noncomputable section S11s
namespace Go.Ab
open Go.Ab
theorem Gv.wu {v:FV ui} (h:Gv v):WU v:=by
 rcases h with rfl|⟨w,_,h,rfl⟩
 ·exact⟨⟨false,0,0,0,0,0⟩,⟨by simp,by simp⟩,by
   have:Ib.p=(pr ⟨false,0,0,0,0,0⟩).p:=by
    show PV.st 6 _=PV.st 6 _
    rw[gX];rfl
   generalize hz:Ib=z at*
   generalize hy:pr ⟨false,0,0,0,0,0⟩=y at*
   cases z;cases y;cases this;rfl⟩
 ·exact⟨w,⟨by omega,by omega⟩,rfl⟩
end Go.Ab
end S11s
noncomputable section N1s
namespace Go.Ab
open Go.Ab
def lcs (l:List pq):List j9:=(l.filter (λp=>p.has)).map (λp=>p.iO)
def pls (r:kN):List pq:=[r.p,r.c,r.n]
def sp (p:dC):List j9:=lcs (pls p.ring)
end Go.Ab
end N1s
noncomputable section S13s
namespace Go.Ab
open Go.Ab
theorem lG.wu {d:bK} {p:pq} (h:lG d p):WU p.iO.py:=by
 rcases h with⟨_,h⟩|⟨_,rfl⟩
 ·exact h.wi.wu
 ·exact Gv.wu (.inl rfl)
def PW (e:dC):Prop:=WU e.ring.p.iO.py∧WU e.ring.c.iO.py∧WU e.ring.n.iO.py
theorem PW.pu {e:dC} (h:PW e):PU e:=by
 intro k hk _
 rcases hk with rfl|rfl|rfl
 ·exact h.1
 ·exact h.2.1
 ·exact h.2.2
theorem rG.pw {d:bK} (h:rG d):∀e∈d.aj,PW e:=by
 intro e he
 obtain⟨_,p0,h0,h1,h2,h3⟩:=h.py e he
 refine⟨?_,?_,?_⟩
 ·rw[h1.py];exact h0.rp.wu
 ·rw[h2.py];exact h0.rc.wu
 ·rw[h3.py];exact h0.rn.wu
end Go.Ab
end S13s
namespace Go.Ab
open Go.Ab
theorem dh (p:dC) (h1:p.aW.length≤1048576):bB Pg I.dh [aC p,aC p] (.bl true):=by
 refine af.intro T.dh (by simp[F.dh]) ?_
 simp(maxSteps:=1000000) [F.dh,an,aG]
 refine jh.jY p.aW.length (λ_=>True) [2,3,4,113,114] (λi=>[(114,.int .i64 i)]) (λi=>[]) [.keep [2,3,4,113,114]] ?_
 simp
 refine⟨λi hi K hK=> ?_,λK=> ?_⟩
 ·have hx:p.aW[i]? =some p.aW[i]:=gJ hi
  simp[↓av,hi,fG hi h1]
  refine⟨[.keep [2,3,4,113,114]],?_⟩
  simp
  exact hK _ (by simp)
 ·simp[↓av,↓av]
  refine aM.plain [] ?_
  simp
theorem cT {d:bK} (h:uo d):bB Pg I.cT [dY d,dY d] (.bl true):=by
 refine af.intro T.cT (by simp[F.cT]) ?_
 simp(maxSteps:=1000000) [F.cT,an,aG]
 refine jh.jY d.bn.length (λ_=>True) [2,3,4,55,56] (λi=>[(56,.int .i64 i)]) (λi=>[]) [.keep [2,3,4,55,56]] ?_
 simp
 refine⟨λi hi K hK=> ?_,λK=> ?_⟩
 ·have hx:d.bn[i]? =some d.bn[i]:=gJ hi
  simp[↓av,hi,fG hi h.bn]
  refine⟨[.keep [2,3,4,55,56]],?_⟩
  simp
  exact hK _ (by simp)
 ·simp[↓av,↓av]
  refine jh.jY d.aD.length (λ_=>True) [2,3,4,73,74] (λi=>[(74,.int .i64 i)]) (λi=>[]) [.keep [2,3,4,73,74]] ?_
  simp
  refine⟨λi hi K hK=> ?_,λK=> ?_⟩
  ·have hx:d.aD[i]? =some d.aD[i]:=gJ hi
   simp[↓av,hi,fG hi h.aD]
   refine⟨[.keep [2,3,4,73,74]],?_⟩
   simp
   exact hK _ (by simp)
  ·simp[↓av,↓av]
   refine jh.jY d.timers.length (λ_=>True) [2,3,4,91,92] (λi=>[(92,.int .i64 i)]) (λi=>[]) [.keep [2,3,4,91,92]] ?_
   simp
   refine⟨λi hi K hK=> ?_,λK=> ?_⟩
   ·have hx:d.timers[i]? =some d.timers[i]:=gJ hi
    simp[↓av,hi,fG hi h.timers]
    refine⟨[.keep [2,3,4,91,92]],?_⟩
    simp
    exact hK _ (by simp)
   ·simp[↓av,↓av]
    refine jh.jY d.bD.length (λ_=>True) [2,3,4,109,110] (λi=>[(110,.int .i64 i)]) (λi=>[]) [.keep [2,3,4,109,110]] ?_
    simp
    refine⟨λi hi K hK=> ?_,λK=> ?_⟩
    ·have hx:d.bD[i]? =some d.bD[i]:=gJ hi
     simp[↓av,hi,fG hi h.bD]
     refine⟨[.keep [2,3,4,109,110]],?_⟩
     simp
     exact hK _ (by simp)
    ·simp[↓av,↓av]
     refine jh.jY d.buckets.length (λ_=>True) [2,3,4,127,128] (λi=>[(128,.int .i64 i)]) (λi=>[]) [.keep [2,3,4,127,128]] ?_
     simp
     refine⟨λi hi K hK=> ?_,λK=> ?_⟩
     ·have hx:d.buckets[i]? =some d.buckets[i]:=gJ hi
      simp[↓av,hi,fG hi h.buckets]
      refine⟨[.keep [2,3,4,127,128]],?_⟩
      simp
      exact hK _ (by simp)
     ·simp[↓av,↓av]
      refine aM.plain [] ?_
      simp
theorem dO {d:bK} (h:uo d):bB Pg I.dO [dY d,dY d] (.bl true):=by
 refine af.intro T.dO (by simp[F.dO]) ?_
 simp(maxSteps:=1000000) [F.dO,an,aG]
 refine jh.jY d.aj.length (λ_=>True) [2,3,4,78,79] (λi=>[(79,.int .i64 i)]) (λi=>[]) [.keep [2,3,4,78,79]] ?_
 simp
 refine⟨λi hi K hK=> ?_,λK=> ?_⟩
 ·have hx:d.aj[i]? =some d.aj[i]:=gJ hi
  simp[↓av,hi]
  refine a0.ret (dh d.aj[i] (h.aW _ (List.getElem_mem hi)).1) (by simp) (by simp) (by simp) ?_
  simp[fG hi h.aj]
  refine⟨[.keep [2,3,4,78,79]],?_⟩
  simp
  exact hK _ (by simp)
 ·simp[↓av,↓av]
  refine al.ret (cT h) (by simp) (by simp) (by simp) ?_
  simp
  refine aM.plain [] ?_
  simp
end Go.Ab
noncomputable section T2s
namespace Go.Ab
open Go.Ab
@[simp↓] theorem V8 (s:St) (K:PV->Prop) (g:Bool) (lo hi:Option AX) (l):tj s g 464 lo hi K (iw l)=jM g s lo hi l.length l.length (λa b=>K (iw ((l.take b).drop a))):=by
 have e:∀a b,PV.sl 464 (((l.map aC).take b).drop a) false=iw ((l.take b).drop a):=λa b=>by rw[iw,List.map_drop,List.map_take]
 show tj s g 464 lo hi K (.sl 464 (l.map aC) false)=_
 rw[sY,List.length_map]
 simp only[Bool.false_and,e,true_and]
@[simp↓] theorem V9 (s:St) (K:PV->Prop) (g:Bool) (lo hi:Option AX) (l):tj s g 34 lo hi K (cZ l)=jM g s lo hi l.length l.length (λa b=>K (cZ ((l.take b).drop a))):=by
 have e:∀a b,PV.sl 34 (((l.map cy).take b).drop a) false=cZ ((l.take b).drop a):=λa b=>by rw[cZ,List.map_drop,List.map_take]
 show tj s g 34 lo hi K (.sl 34 (l.map cy) false)=_
 rw[sY,List.length_map]
 simp only[Bool.false_and,e,true_and]
@[simp↓] theorem Za (s:St) (K:PV->Prop) (g:Bool) (lo hi:Option AX) (l):tj s g 34 lo hi K (db l)=jM g s lo hi l.length l.length (λa b=>K (db ((l.take b).drop a))):=by
 have e:∀a b,PV.sl 34 (((l.map bU).take b).drop a) false=db ((l.take b).drop a):=λa b=>by rw[db,List.map_drop,List.map_take]
 show tj s g 34 lo hi K (.sl 34 (l.map bU) false)=_
 rw[sY,List.length_map]
 simp only[Bool.false_and,e,true_and]
@[simp↓] theorem Wa (s:St) (K:PV->Prop) (g:Bool) (lo hi:Option AX) (l):tj s g 50 lo hi K (dV l)=jM g s lo hi l.length l.length (λa b=>K (dV ((l.take b).drop a))):=by
 have e:∀a b,PV.sl 50 (((l.map jI).take b).drop a) false=dV ((l.take b).drop a):=λa b=>by rw[dV,List.map_drop,List.map_take]
 show tj s g 50 lo hi K (.sl 50 (l.map jI) false)=_
 rw[sY,List.length_map]
 simp only[Bool.false_and,e,true_and]
@[simp↓] theorem Zb (s:St) (K:PV->Prop) (g:Bool) (lo hi:Option AX) (l):tj s g 1 lo hi K (gz l)=jM g s lo hi l.length l.length (λa b=>K (gz ((l.take b).drop a))):=by
 have e:∀a b,PV.sl 1 (((l.map (λn:Int=>PV.int .i64 n)).take b).drop a) false=gz ((l.take b).drop a):=λa b=>by rw[gz,List.map_drop,List.map_take]
 show tj s g 1 lo hi K (.sl 1 (l.map (λn:Int=>PV.int .i64 n)) false)=_
 rw[sY,List.length_map]
 simp only[Bool.false_and,e,true_and]
@[simp↓] theorem Wb (s:St) (K:PV->Prop) (g:Bool) (lo hi:Option AX) (l):tj s g 19 lo hi K (eO l)=jM g s lo hi l.length l.length (λa b=>K (eO ((l.take b).drop a))):=by
 have e:∀a b,PV.sl 19 (((l.map mB).take b).drop a) false=eO ((l.take b).drop a):=λa b=>by rw[eO,List.map_drop,List.map_take]
 show tj s g 19 lo hi K (.sl 19 (l.map mB) false)=_
 rw[sY,List.length_map]
 simp only[Bool.false_and,e,true_and]
theorem aiG {d:bK} (h:uo d):bB Pg I.bM [dY d] (dY d):=by
 have:=(bM h).aiH (bR eG _)
 have e:gq KB 464 (d.aj.map aC) (br d (.rs KB [] 0 d.aj.length d.aj.length 464 .tip))=dY d:=by
  have zX:List.take d.aj.length (d.aj.map aC)=d.aj.map aC:=tJ (by simp)
  simp[gq,zX]
  rfl
 rw[e]at this
 exact this
def wB (d:bK):bK:= {d with aj:=d.aj.take (min d.aj.length 9),aD:=d.aD.take (min d.aD.length 34),timers:=d.timers.take (min d.timers.length 20),bn:=d.bn.take (min d.bn.length 18),bD:=d.bD.take (min d.bD.length 66),buckets:=d.buckets.take (min d.buckets.length 18)}
theorem OJ {d:bK} (h:uo d):uo (wB d) where
 aj:=by simp[wB];omega
 bn:=by simp[wB];omega
 aD:=by simp[wB];omega
 timers:=by simp[wB];omega
 bD:=by simp[wB];omega
 buckets:=by simp[wB];omega
 aW:=λp hp=>h.aW p (List.mem_of_mem_take hp)
theorem Gy:uo nc:=⟨by simp[nc],by simp[nc],by simp[nc],by simp[nc],by simp[nc],by simp[nc],λp hp=>by simp[nc]at hp⟩
theorem wC {d:bK} (h:uo d) (hp:d.aj.length≤100000) (m:Nat):uo (pv d m):=by
 match m with
 |0=>exact h
 |1
   =>exact⟨by simpa[pv,EY]using h.aj,h.bn,by simpa[pv,Im]using h.aD,h.timers,by simp[pv,G6],by simp[pv,G6],λp hp=>by
   obtain⟨q,_,rfl⟩:=List.mem_map.1 hp;simp[ke]⟩
 |
  m+2=>
  have ht:=rH {d with bD:=[],buckets:=[],bad:=0} (d.aj.map ke) []
  have hf:(d.aD.filter λx=>x.iO).length≤d.aD.length:=List.length_filter_le _ _
  refine⟨by simpa[pv,EY]using h.aj,h.bn,?_,?_,by simp[pv,G6],by simp[pv,G6],λp hp=> ?_⟩
  ·have:=h.aD;simp only[pv,Im];split<;>omega
  ·show(List.foldl _ [] (d.aj.map ke)).length≤_
   simp only[List.length_map,List.length_nil]at ht
   have:=h.aj;omega
  ·obtain⟨q,hq,rfl⟩:=List.mem_map.1 hp
   obtain⟨q,hq,rfl⟩:=List.mem_map.1 hq
   simp[ke,jZ]
theorem SU {d:bK} (h:uo d) (hp:d.aj.length≤100000) (v:Int):uo (Ls d v):=by
 unfold Ls;split
 ·exact h
 ·split
  ·exact wC h hp 1
  ·split
   ·exact wC h hp 2
   ·exact Gy
theorem SV {d:bK} (h:uo d) (hp:d.aj.length≤100000) (v:Int):uo (Ma d v):=by
 unfold Ma;split
 ·exact wC h hp 1
 ·split
  ·exact wC h hp 2
  ·exact Gy
theorem Et {a b:List UInt8} (ha:(a.length:Int)≤9223372036854775807) (hb:(b.length:Int)≤9223372036854775807) {d:bK} (h:uo d) (hw:∀e∈d.aj,PW e) {v:Int} (hv: -9223372036854775808≤v∧v≤9223372036854775807):
  bB Pg I.dM [eN a,eN b,dY d,.int .i64 v] (.bl true):=by
 refine af.intro T.dM (by simp[F.dM]) ?_
 simp[F.dM,an,aG]
 refine al.ret (aiG h) (by simp) (by simp) (by simp) ?_
 have m1:min (d.aj.length:Int) 9=((min d.aj.length 9:Nat):Int):=by omega
 have m2:min (d.aD.length:Int) 34=((min d.aD.length 34:Nat):Int):=by omega
 have m3:min (d.timers.length:Int) 20=((min d.timers.length 20:Nat):Int):=by omega
 have m4:min (d.bn.length:Int) 18=((min d.bn.length 18:Nat):Int):=by omega
 have m5:min (d.bD.length:Int) 66=((min d.bD.length 66:Nat):Int):=by omega
 have m6:min (d.buckets.length:Int) 18=((min d.buckets.length 18:Nat):Int):=by omega
 simp
 refine ny.run [6] rfl ?_
 simp[m1,m2,m3]
 refine⟨by omega,by omega,by omega,?_⟩
 refine ny.run [6] rfl ?_
 simp[m4,m5,m6]
 refine⟨by omega,by omega,by omega,?_⟩
 have hcd:br {rules:=d.rules,mZ:=d.mZ,nP:=d.nP,port:=d.port,random:=d.random,now:=d.now,aj:=d.aj,bn:=d.bn.take (min d.bn.length 18),aD:=d.aD.take (min d.aD.length 34),timers:=d.timers.take (min d.timers.length 20),ix:=d.ix,ka:=d.ka,bD:=d.bD.take (min d.bD.length 66),buckets:=d.buckets.take (min d.buckets.length 18),bad:=d.bad} (iw (d.aj.take (min d.aj.length 9)))=dY (wB d):=rfl
 rw[hcd]
 refine ny.run [] rfl ?_
 simp
 refine al.aiI (R:=λr=>∃d,rG d∧r=dY d) (aiJ ha hb) (by simp) (by simp) (by rintro r ⟨d',_,rfl⟩;simp) ?_
 rintro r ⟨e,he,rfl⟩
 simp
 have fu:∀i:Nat,i<2->∃x:bK,[dY e,dY (wB d)][i]? =some (dY x)∧uo x∧x.aj.length≤9∧∀p∈x.aj,PU p:=by
  intro i hi
  rcases(by omega:i=0∨i=1)with rfl|rfl
  ·exact⟨e,rfl,he.sml,by have:=he.aj;omega,λp hp=>(he.pw p hp).pu⟩
  ·refine⟨wB d,rfl,OJ h,by simp[wB];omega,λp hp=>(hw p (List.mem_of_mem_take hp)).pu⟩
 have hvs:∀j:Nat,j<6->∃y:Int,[PV.int .i64 v,.int .i64 0,.int .i64 1,.int .i64 2,.int .i64 3,.int .i64 4][j]? =some (.int .i64 y)∧-9223372036854775808≤y∧y≤9223372036854775807:=by
  intro j hj
  rcases(by omega:j=0∨j=1∨j=2∨j=3∨j=4∨j=5)with rfl|rfl|rfl|rfl|rfl|rfl
  ·exact⟨v,rfl,hv.1,hv.2⟩
  all_goals exact⟨_,rfl,by omega,by omega⟩
 have hq2:aB [dY e,dY (wB d)]:=by simp
 have hq6:aB [PV.int .i64 v,.int .i64 0,.int .i64 1,.int .i64 2,.int .i64 3,.int .i64 4]:=by simp
 have hL2:[dY e,dY (wB d)].length=2:=rfl
 have hV6:[PV.int .i64 v,.int .i64 0,.int .i64 1,.int .i64 2,.int .i64 3,.int .i64 4].length=6:=rfl
 refine jh.jY 2 (λ_=>True) [3,6,8,81,82,83] (λi=>[(83,.int .i64 i)]) (λi=>[]) [.keep [3,6,8,81,82,83]] ?_
 simp
 refine⟨λi hi K hK=> ?_,λK=> ?_⟩
 ·obtain⟨x,hx,hs,hp,uU⟩:=fu i hi
  have wi:IntKind.i64.wrap ((i:Int)+1)=(i:Int)+1:=wrap_i64 (by omega)
  have uP:(i:Int)<2:=by omega
  generalize [dY e,dY (wB d)]=L2 at*
  simp[↓av,hx,uP,hL2,-getElem?_pos]
  generalize [PV.int .i64 v,.int .i64 0,.int .i64 1,.int .i64 2,.int .i64 3,.int .i64 4]=L6 at*
  refine jh.jY 6 (λ_=>True) [3,6,8,10,81,82,83,88,89,90] (λj=>[(90,.int .i64 j)]) (λj=>[]) [.keep [3,6,8,10,81,82,83,88,89,90]] ?_
  simp
  refine⟨λj hj K2 xY=> ?_,λK2=> ?_⟩
  ·obtain⟨y,hy,hyb⟩:=hvs j hj
   have wj:IntKind.i64.wrap ((j:Int)+1)=(j:Int)+1:=wrap_i64 (by omega)
   have hj6:(j:Int)<6:=by omega
   simp[↓av,hy,hj6,hV6,-getElem?_pos]
   have hp5:x.aj.length≤100000:=by omega
   refine al.ret (SW hs hp5 uU y) (by simp) (by simp) (by simp) ?_
   simp
   refine al.ret (Zc hs hp5 uU y) (by simp) (by simp) (by simp) ?_
   simp
   refine al.ret (Zd hs hp5 uU hyb) (by simp) (by simp) (by simp) ?_
   simp
   refine al.ret (Ze hs hp5 uU hyb) (by simp) (by simp) (by simp) ?_
   simp
   refine al.ret (Zf y) (by simp) (by simp) (by simp[kV]) ?_
   simp[kV]
   refine al.ret (Zg y) (by simp) (by simp) (by simp[kV]) ?_
   simp[kV]
   refine al.ret (dO (SU hs hp5 y)) (by simp) (by simp) (by simp) ?_
   simp
   refine al.ret (dO (SV hs hp5 y)) (by simp) (by simp) (by simp) ?_
   simp[wj]
   refine⟨[.keep [3,6,8,10,81,82,83,88,89,90],.dr 13,.dr 15,.dr 17,.dr 19],?_⟩
   simp[cr,dx,ab,ah,hq2.refs,hq6.refs]
   exact xY _ (by simp)
  ·simp[↓av,wi]
   refine⟨[.keep [3,6,8,81,82,83],.dr 10],?_⟩
   simp[cr,dx,ab,ah,hq2.refs]
   exact hK _ (by simp)
 ·simp[↓av]
  refine al.ret SX (by simp) (by simp) (by simp) ?_
  simp
  refine aM.plain [] ?_
  simp
end Go.Ab
end T2s

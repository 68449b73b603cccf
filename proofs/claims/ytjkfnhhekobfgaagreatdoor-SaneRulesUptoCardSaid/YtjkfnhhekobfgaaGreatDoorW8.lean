/- Changed states; the law SaneRules. No condition. -/
import Derived.Test.YtjkfnhhekobfgaaGreatDoorB7
import Derived.Test.YtjkfnhhekobfgaaGreatDoorW7
set_option maxRecDepth 10000
set_option maxHeartbeats 4000000
set_option linter.all false
noncomputable section W45s
namespace Go.Ab
open Go.Ab
def G7 (d:cK) (k:Nat):PV:= .st 148 [fa d.rules,d.tS.p,d.tT.p,.int .i64 d.port,d.random.p,.int .i64 d.now,.rs k [] 0 d.aa.length d.aa.length 464 .tip,.rs (k+1) [] 0 d.aV.length d.aV.length 50 .tip,.rs (k+2) [] 0 d.bq.length d.bq.length 34 .tip,.rs (k+3) [] 0 d.timers.length d.timers.length 34 .tip,d.lu.p,.int .i64 d.kT,.rs (k+4) [] 0 d.aR.length d.aR.length 1 .tip,.rs (k+5) [] 0 d.buckets.length d.buckets.length 19 .tip,.int .i64 d.bad]
theorem acz {d:cK} (h:Ui d):ai Pg I.bV [bE d] [] (λr fp=>r=G7 d KB∧fp=[.arr 464 (d.aa.map br),.arr 50 (d.aV.map iQ),.arr 34 (d.bq.map aM),.arr 34 (d.timers.map iv),.arr 1 (d.aR.map (λn:Int=>PV.int .i64 n)),.arr 19 (d.buckets.map jK)]):=by
 refine ai.intro T.bV (by simp[F.bV]) ?_
 have hp:=h.aa
 simp(disch:=omega) [F.bV,aj,aF,bE,cO,fk]
 refine⟨⟨by omega,by omega⟩,?_⟩
 refine fb.fG d.aa.length (λ_=>True) [1,2,13,14] (λi=>[(14,.int .i64 i)]) (λi=>[]) [.keep [1,2,13,14]] ?_
 simp
 refine⟨λi hi K hK=> ?_,λK=> ?_⟩
 ·have hx:d.aa[i]? =some d.aa[i]:=gJ hi
  have hs:=h.bD _ (List.getElem_mem hi)
  obtain⟨m,hm⟩:∃m,d.aa[i].bD=m:=⟨_,rfl⟩
  rw[hm]at hs
  simp[↓ah,hx,hi,hm,jv]
  refine fb.fG m.length (λ_=>True) [1,2,3,4,13,14,22,23,24] (λj=>[(4,.rs 4 [] 0 j j 1 .tip),(24,.int .i64 j)]) (λj=>[(4,.arr 1 ((m.take j).map fV))]) [.vt 4 4 1] ?_
  simp
  refine⟨λj hj K2 lX=> ?_,λK2=> ?_⟩
  ·have hy:m[j]? =some m[j]:=gJ hj
   have hb:=hs.2 _ (List.getElem_mem hj)
   have Sp:min j m.length=j:=by omega
   simp(disch:=omega) [↓ah,hy,hj,fV]
   refine⟨⟨by omega,by omega⟩,⟨by omega,by omega⟩,[.keep [1,2,3,4,13,14,22,23,24],.fz 31],?_⟩
   simp
   exact lX _ (by simp[List.take_add_one,hy,fV])
  ·simp(disch:=omega) [↓ah,↓ah,hx,hi,↓ah]
   refine⟨[.keep [1,2,13,14],.fz 4],?_⟩
   simp
   refine hK _ ?_
   simp[yy]
   exact rS hi (by rw[←hm];rfl)
 ·simp[↓ah,↓ah]
  have hr:=h.aV
  have qf:=h.bq
  have ht:=h.timers
  have YG:=h.aR
  have hb:=h.buckets
  refine qD.run [44,47] rfl ?_
  simp(disch:=omega) [ee,b6,cN,fH,eU]
  refine⟨⟨by omega,by omega⟩,⟨by omega,by omega⟩,?_⟩
  refine qD.run [52,55] rfl ?_
  simp(disch:=omega)
  refine⟨⟨by omega,by omega⟩,⟨by omega,by omega⟩,⟨by omega,by omega⟩,?_⟩
  refine al.with [.keep [2],.dr 1] [9,44,47,52,55,60] ?_
  simp[G7]
end Go.Ab
end W45s
noncomputable section W46s
namespace Go.Ab
open Go.Ab
def LU (n:Int):UInt8:=UInt8.ofNat (IntKind.u8.wrap n).toNat
theorem Vq (n:Int):IntKind.u8.wrap n=n%256:=by
 rfl
theorem LV (n:Int):u8 (LU n)= .int .u8 (IntKind.u8.wrap n):=by
 have h:IntKind.u8.wrap n=n%256:=Vq n
 simp only[u8,LU,h]
 congr 1
 rw[UInt8.toNat_ofNat']
 omega
def Pw (k:Key) (n:Int):Key:=⟨k.l.set 0 (LU n),by rw[List.length_set];exact k.h⟩
def pd (d:cK) (g:fg->fg):cK:= {d with aa:=match d.aa with|[]=>[]|p::l=>g p::l}
def Iy (d:cK):Key:=match d.aa with|[]=>zK|p::_=>p.fF
def ev2 (n:Int):Bool:=decide (bits .and .i64 n 1=0)
def brH (n:Int):Cm:=⟨ev2 n,IntKind.u32.wrap n,Kt,zNo,bits .and .i64 n 3,bits .and .i64 n 5⟩
def brS (d:cK) (n:Int):rl:=⟨ev2 n,{Uj with loc:=IntKind.u32.wrap n,next:=IntKind.u64.wrap n,gB:=d.rules.mj}⟩
def D7 (d:cK) (k:Nat) (n:Int):cK:=
 match k with
 |0=> {d with port:=n}
 |1=>pd d λp=> {p with fF:=Pw p.fF n}
 |2=>pd d λp=> {p with oS:=n}
 |3=>pd d λp=> {p with hand:=brH n}
 |4=>pd d λp=> {p with ring:= {p.ring with n:=brS d n}}
 |5=> {d with aV:=d.aV++[⟨⟨E4,bits .and .i64 n 63⟩,Iy d⟩]}
 |6=> {d with bq:=d.bq++[⟨IntKind.u32.wrap n,zK,false⟩]}
 |7=> {d with timers:=d.timers++[⟨n,Iy d,bits .and .i64 n 7⟩]}
 |_=> {d with buckets:=d.buckets++[⟨E4,n,0⟩]}
theorem mZ (k:Key) (n:Int):eL (dU k) [Step.i 0 1] (PV.int IntKind.u8 (IntKind.u8.wrap n))=some (dU (Pw k n)):=by
 have h:k.l.length=32:=k.h
 simp[dU,eL,Pw,List.map_set,LV,h]
theorem LW:PV.st 17 [.bl false,.ar 1 16 (zr 16 (.int .u8 0))]=dN E4:=by rw[fC];rfl
theorem acA (n:Int):PV.st 100 [.bl (decide (bits .and .i64 n 1=0)),.int .u32 (IntKind.u32.wrap n),.ar 1 32 (zr 32 (.int .u8 0)),.st 64 [.ar 1 32 (zr 32 (.int .u8 0)),.ar 1 32 (zr 32 (.int .u8 0))],.int .i64 (bits .and .i64 n 3),.int .i64 (bits .and .i64 n 5)]=iU (brH n):=rfl
theorem acB (d:cK) (n:Int):PV.st 77 [.bl (decide (bits .and .i64 n 1=0)),.st 76 [.int .u32 (IntKind.u32.wrap n),.int .u32 0,.ar 1 32 (zr 32 (.int .u8 0)),.ar 1 32 (zr 32 (.int .u8 0)),.int .u64 (IntKind.u64.wrap n),.int .u64 d.rules.mj,.st 6 [.bl false,.int .u64 0,.ar 1 4 (zr 4 (.int .u64 0))],.int .i64 0,.bl false]]=iD (brS d n):=rfl
theorem ah3:PV.ar 1 32 (zr 32 (.int .u8 0))=dU zK:=by rw[fC];rfl
theorem broken {d:cK} (h:Ui d) (h1:d.aa≠[]) {w n:Int} (hw:0≤w) {k:Nat} (hk:w.tmod 9=k) (hk9:k<9):bg Pg I.dJ [bE d,.int .u8 w,.int .i64 n] (bE (D7 d k n)):=by
 refine ai.intro T.dJ (by simp[F.dJ]) ?_
 have hp0:=h.aa
 have hr0:=h.aV
 have AY:=h.bq
 have YJ:=h.timers
 have Eb:=h.buckets
 obtain⟨p,ps,hp⟩:∃p ps,d.aa=p::ps:=by
  cases hd:d.aa with
  |nil=>exact absurd hd h1
  |cons p ps=>exact⟨p,ps,rfl⟩
 have hlen:d.aa.length=ps.length+1:=by rw[hp];rfl
 have P8:d.aa[0]? =some p:=by rw[hp];rfl
 simp[F.dJ,aj,aF]
 refine an.gen [] [9,44,45,46,47,48] [] (acz h) (by simp[getAll]) (by simp) (by simp) (by simp[ab]) (by simp) (by simp[aD]) (by simp) (by simp[af,ae,ab,G7,fj]) ?_
 simp[bb,G7,aE,aB,aD,dv]
 have gF:0<d.aa.length:=by omega
 refine⟨gF,?_⟩
 rcases(by omega:k=0∨k=1∨k=2∨k=3∨k=4∨k=5∨k=6∨k=7∨k=8)with rfl|rfl|rfl|rfl|rfl|rfl|rfl|rfl|rfl
 ·simp only[show((0:Nat):Int)=0 from rfl]at hk
  simp(disch:=omega) [hk,P8,gF,mZ,-getElem?_pos]
  refine al.plain [.keep [6],.dr 3,.fz 9,.fz 44,.fz 45,.fz 46,.fz 47,.fz 48] ?_
  simp[D7,pd,hp]
  rfl
 ·simp only[show((1:Nat):Int)=1 from rfl]at hk
  simp(disch:=omega) [hk,P8,gF,mZ,-getElem?_pos]
  refine al.plain [.keep [6],.dr 3,.fz 9,.fz 44,.fz 45,.fz 46,.fz 47,.fz 48] ?_
  simp[D7,pd,hp]
  rfl
 ·simp only[show((2:Nat):Int)=2 from rfl]at hk
  simp(disch:=omega) [hk,P8,gF,mZ,-getElem?_pos]
  refine al.plain [.keep [6],.dr 3,.fz 9,.fz 44,.fz 45,.fz 46,.fz 47,.fz 48] ?_
  simp[D7,pd,hp]
  rfl
 ·simp only[show((3:Nat):Int)=3 from rfl]at hk
  simp(disch:=omega) [hk,P8,gF,mZ,acA,-getElem?_pos]
  refine al.plain [.keep [6],.dr 3,.fz 9,.fz 44,.fz 45,.fz 46,.fz 47,.fz 48] ?_
  simp[D7,pd,hp]
  rfl
 ·simp only[show((4:Nat):Int)=4 from rfl]at hk
  simp(disch:=omega) [hk,P8,gF,mZ,acB,-getElem?_pos]
  refine al.plain [.keep [6],.dr 3,.fz 9,.fz 44,.fz 45,.fz 46,.fz 47,.fz 48] ?_
  simp[D7,pd,hp]
  rfl
 ·simp only[show((5:Nat):Int)=5 from rfl]at hk
  simp(disch:=omega) [hk,P8,gF,mZ,-getElem?_pos]
  refine⟨⟨by omega,by omega⟩,?_⟩
  refine al.plain [.keep [6],.dr 3,.fz 9,.fz 44,.fz 45,.fz 46,.fz 47,.fz 48] ?_
  simp[D7,pd,hp]
  rw[LW]
  simp[bE,cO,fk,ee,b6,cN,fH,eU,Iy,hp,iQ,iE]
 ·simp only[show((6:Nat):Int)=6 from rfl]at hk
  simp(disch:=omega) [hk,P8,gF,mZ,-getElem?_pos]
  refine⟨⟨by omega,by omega⟩,?_⟩
  refine al.plain [.keep [6],.dr 3,.fz 9,.fz 44,.fz 45,.fz 46,.fz 47,.fz 48] ?_
  simp[D7,pd,hp]
  rw[ah3]
  simp[bE,cO,fk,ee,b6,cN,fH,eU,Iy,hp,aM]
 ·simp only[show((7:Nat):Int)=7 from rfl]at hk
  simp(disch:=omega) [hk,P8,gF,mZ,-getElem?_pos]
  refine⟨⟨by omega,by omega⟩,?_⟩
  refine al.plain [.keep [6],.dr 3,.fz 9,.fz 44,.fz 45,.fz 46,.fz 47,.fz 48] ?_
  simp[D7,pd,hp]
  simp[bE,cO,fk,ee,b6,cN,fH,eU,Iy,hp,iv]
 ·simp only[show((8:Nat):Int)=8 from rfl]at hk
  simp(disch:=omega) [hk,P8,gF,mZ,-getElem?_pos]
  refine⟨⟨by omega,by omega⟩,?_⟩
  refine al.plain [.keep [6],.dr 3,.fz 9,.fz 44,.fz 45,.fz 46,.fz 47,.fz 48] ?_
  simp[D7,pd,hp]
  rw[LW]
  simp[bE,cO,fk,ee,b6,cN,fH,eU,Iy,hp,jK]
end Go.Ab
end W46s
noncomputable section W47s
namespace Go.Ab
open Go.Ab
def Lo (x:Int):Prop:=0≤x∧x<4294967296
structure Yw (p:fg):Prop where
 hh:Lo p.hand.loc
 hp:Lo p.ring.p.pk.loc
 hc:Lo p.ring.c.pk.loc
 hn:Lo p.ring.n.pk.loc
structure zb (d:cK) (m:Nat):Prop where
 aa:d.aa.length≤m
 aV:d.aV.length≤m
 bq:d.bq.length≤m
 timers:d.timers.length≤m
 aR:d.aR.length≤m
 buckets:d.buckets.length≤m
 bD:∀p∈d.aa,p.bD.length≤1048576∧∀b∈p.bD,b.length≤1048576
 wn:∀p∈d.aa,qd p
 lo:∀p∈d.aa,Yw p
 il:Cn d.rules.load
 is:Cn d.rules.gC
 ib:Cn d.bad
theorem Px {l:List rl} {x:Int} (h:x∈rU l):∃q∈l,q.pk.loc=x:=by
 unfold rU at h
 obtain⟨q,hq,rfl⟩:=List.mem_map.1 h
 exact⟨q,(List.mem_filter.1 hq).1,rfl⟩
theorem Vr {p:fg} (h:Yw p):∀s∈AP p,rL s:=by
 intro s hs
 unfold AP at hs
 rcases List.mem_append.1 hs with hs|hs
 ·unfold LL at hs
  split at hs
  ·rw[List.mem_singleton]at hs;subst hs;exact h.hh
  ·cases hs
 ·obtain⟨x,hx,rfl⟩:=List.mem_map.1 hs
  obtain⟨q,hq,rfl⟩:=Px hx
  rcases List.mem_cons.1 hq with rfl|hq
  ·exact h.hp
  rcases List.mem_cons.1 hq with rfl|hq
  ·exact h.hc
  rcases List.mem_cons.1 hq with rfl|hq
  ·exact h.hn
  cases hq
theorem zb.ok {d:cK} {m:Nat} (h:zb d m) (hm:m≤1048576):YA d where
 rV:=⟨Nat.le_trans h.aa hm,Nat.le_trans h.aV hm,Nat.le_trans h.bq hm,Nat.le_trans h.timers hm,Nat.le_trans h.aR hm,Nat.le_trans h.buckets hm,h.bD⟩
 wn:=h.wn
 il:=h.il
 is:=h.is
 ib:=h.ib
 u
  :=by
  intro s hs
  unfold gl at hs
  obtain⟨p,hp,hs⟩:=List.mem_flatMap.1 hs
  exact Vr (h.lo p (List.mem_of_mem_take hp)) s hs
theorem zb.le {d:cK} {m n:Nat} (h:zb d m) (hn:m≤n):zb d n:=
 ⟨Nat.le_trans h.aa hn,Nat.le_trans h.aV hn,Nat.le_trans h.bq hn,Nat.le_trans h.timers hn,Nat.le_trans h.aR hn,Nat.le_trans h.buckets hn,h.bD,h.wn,h.lo,h.il,h.is,h.ib⟩
theorem acC (n:Int):Lo (IntKind.u32.wrap n):=by
 have h:IntKind.u32.wrap n=n%4294967296:=rfl
 rw[h];exact⟨by omega,by omega⟩
theorem LX:uf Uj:=⟨zW,BJ.symm⟩
theorem zb.Py {d:cK} {m:Nat} (h:zb d m) {g:fg->fg} (hs:∀p,(g p).bD=p.bD) (hw:∀p,qd p->qd (g p)) (hl:∀p,Yw p->Yw (g p)):zb (pd d g) m:=by
 obtain⟨h1,h2,h3,h4,h5,h6,h7,h8,h9,Ci,Ee,FM⟩:=h
 cases hd:d.aa with
 |
  nil=>
  have e:pd d g= {d with aa:=[]}:=by unfold pd;rw[hd]
  rw[e]
  exact⟨Nat.zero_le _,h2,h3,h4,h5,h6,λp hp=>(by cases hp),λp hp=>(by cases hp),λp hp=>(by cases hp),Ci,Ee,FM⟩
 |
  cons p l=>
  have e:pd d g= {d with aa:=g p::l}:=by unfold pd;rw[hd]
  rw[hd]at h1 h7 h8 h9
  rw[e]
  have key:∀ {Q:fg->Prop},(∀q∈p::l,Q q)->(Q p->Q (g p))->∀q∈g p::l,Q q:=λhq hp q hm=>by
   rcases List.mem_cons.1 hm with e|hm
   ·rw[e];exact hp (hq _ List.mem_cons_self)
   ·exact hq _ (List.mem_cons_of_mem _ hm)
  exact⟨h1,h2,h3,h4,h5,h6,key h7 (λe=>by rw[hs];exact e),key h8 (hw p),key h9 (hl p),Ci,Ee,FM⟩
theorem zb.acD {d:cK} {m:Nat} (h:zb d m) (k:Nat) (n:Int):zb (D7 d k n) (m+1):=by
 unfold D7
 split
 ·obtain⟨h1,h2,h3,h4,h5,h6,h7,h8,h9,Ci,Ee,FM⟩:=h.le (Nat.le_succ m)
  exact⟨h1,h2,h3,h4,h5,h6,h7,h8,h9,Ci,Ee,FM⟩
 ·exact zb.le (h.Py (g:=λp=> {p with fF:=Pw p.fF n}) (λ_=>rfl) (λ_ h=>h) (λ_ h=>⟨h.hh,h.hp,h.hc,h.hn⟩)) (Nat.le_succ m)
 ·exact zb.le (h.Py (g:=λp=> {p with oS:=n}) (λ_=>rfl) (λ_ h=>h) (λ_ h=>⟨h.hh,h.hp,h.hc,h.hn⟩)) (Nat.le_succ m)
 ·exact zb.le (h.Py (g:=λp=> {p with hand:=brH n}) (λ_=>rfl) (λ_ h=>h) (λ_ h=>⟨acC n,h.hp,h.hc,h.hn⟩)) (Nat.le_succ m)
 ·exact zb.le (h.Py (g:=λp=> {p with ring:= {p.ring with n:=brS d n}}) (λ_=>rfl) (λ_ h=>⟨h.1,h.2.1,LX⟩) (λ_ h=>⟨h.hh,h.hp,h.hc,acC n⟩)) (Nat.le_succ m)
 all_goals
  obtain⟨h1,h2,h3,h4,h5,h6,h7,h8,h9,Ci,Ee,FM⟩:=h
  refine⟨?_,?_,?_,?_,?_,?_,h7,h8,h9,Ci,Ee,FM⟩<;>simp<;>omega
theorem Vs {d:cK} (h:d.aa≠[]) (k:Nat) (n:Int):(D7 d k n).aa≠[]:=by
 have key:∀g,(pd d g).aa≠[]:=by
  intro g
  unfold pd
  cases hd:d.aa with
  |nil=>exact absurd hd h
  |cons p l=>simp
 unfold D7
 split<;>first|exact h|exact key _
theorem Dn.wn {s:lq} (h:Dn s.wO):uf s:=by
 rcases h with h|⟨w,_,_,h⟩
 ·exact⟨zW,h.trans BJ.symm⟩
 ·exact⟨w,h⟩
theorem j9.wn {d:cK} {q:rl} (h:j9 d q):uf q.pk:=by
 rcases h with⟨_,h⟩|⟨_,rfl⟩
 ·exact Dn.wn h.wi
 ·exact LX
theorem Pz {d:cK} {m:Nat} (h:VM d m) (hb:Bd d) (hm:m≤1000):zb d 1000:=by
 have v:=h.vd
 obtain⟨s1,s2,s3,s4,s5,s6,s7⟩:=v.rV
 have hp:=v.D5.1
 have ajC:∀p∈d.aa,∀x∈yD p.ring,Lo x:=by
  intro p hp x hx
  have hm:(⟨x,p.fF,true⟩:cS)∈d.bq:=v.Ur.pm.mem_iff.2 (List.mem_flatMap.2 ⟨p,hp,List.mem_map.2 ⟨x,hx,rfl⟩⟩)
  have:=hb _ hm
  exact⟨this.1,by have:=this.2;simp at this;omega⟩
 have Me:∀p∈d.aa,∀q∈[p.ring.p,p.ring.c,p.ring.n],j9 d q->Lo q.pk.loc:=by
  intro p hp q hq hk
  rcases hk with⟨h1,_⟩|⟨_,rfl⟩
  ·exact ajC p hp _ (List.mem_map.2 ⟨q,List.mem_filter.2 ⟨hq,h1⟩,rfl⟩)
  ·exact⟨by decide,by decide⟩
 have qf:d.bq.length≤1000:=by
  have e:=v.Ur.pm.length_eq
  rw[e,List.length_flatMap]
  have key:∀l:List fg,(l.map λp=>(nL p).length).sum≤3*l.length:=by
   intro l
   induction l with
   |nil=>simp
   |
    cons p l ih=>
    have:=E7 p.ring
    have e2:(nL p).length=(yD p.ring).length:=by simp[nL]
    simp only[List.map_cons,List.sum_cons,List.length_cons]
    omega
  have:=key d.aa
  omega
 refine⟨by omega,by rw[v.Yt];omega,qf,Nat.le_trans v.tis.len (by omega),by rw[v.rcn];simp,by rw[v.buc];simp,s7,λp hp=> ?_,λp hp=> ?_,?_,?_,?_⟩
 ·have IX:=v.IM p hp
  exact⟨IX.rp.wn,IX.rc.wn,IX.rn.wn⟩
 ·have IX:=v.IM p hp
  refine⟨by rw[IX.hand];exact⟨by decide,by decide⟩,Me p hp _ (by simp) IX.rp,Me p hp _ (by simp) IX.rc,Me p hp _ (by simp) IX.rn⟩
 ·have:=v.ru.2.2.2.2.2.2.2.2.2.2.2.2.2.1
  have:=v.ru.2.2.2.2.2.2.2.2.2.2.2.2.2.2.1
  exact⟨by omega,by omega⟩
 ·have:=v.ru.2.2.2.2.2.2.2.2.2.2.2.2.2.2.2.1
  have:=v.ru.2.2.2.2.2.2.2.2.2.2.2.2.2.2.2.2
  exact⟨by omega,by omega⟩
 ·rw[v.bad];exact⟨by decide,by decide⟩
end Go.Ab
end W47s
noncomputable section W48s
namespace Go.Ab
open Go.Ab
theorem ai.ah4 {P:Program} {f:FuncId} {args:List PV} {sz:Nat} {l:List PV} {v:PV} (h:ai P f args [] (λr fp=>r=v∧fp=[.arr sz l])) (hl:cD l):bg P f args (iB KB sz l v):=by
 refine λΓ w vs h1 h2 h3 h4=>(h Γ w vs h1 h2 h3 h4).mono ?_
 rintro e w' ⟨v',r,pV,Γ',e1,⟨rfl,rfl⟩,e3,e4,e5,e6,e7,e8⟩
 have hg:get Γ'.bx KB=some (.arr sz l):=by rw[e5,fY];simp
 have hf:=Ew e4 hg (hl.refs _)
 refine⟨v',_,[],{Γ' with bx:=lK (wB KB sz l) (del Γ'.bx KB)},e1,⟨rfl,rfl⟩,e3,wV e4 _ (λj blk bS hb=>(e4.blk j blk hb).iB hf),?_,e6.iB hf,?_,e8⟩
 ·rw[e5];simp[aF]
 ·refine⟨e7.heap,λb hb hm=> ?_,e7.ed,e7.size,λk blk hk=> ?_⟩
  ·obtain⟨k,blk,g1,g2⟩:=hm
   rw[e5]at g1
   simp[aF]at g1
  ·rw[h3]at hk;simp[aF]at hk
@[simp↓] theorem R0 (s:St) (K:PV->Prop) (g:Bool) (lo hi:Option AX) (l):rF s g 464 lo hi K (fk l)=jh g s lo hi l.length l.length (λa b=>K (fk ((l.take b).drop a))):=by
 have e:∀a b,PV.sl 464 (((l.map br).take b).drop a) false=fk ((l.take b).drop a):=λa b=>by rw[fk,List.map_drop,List.map_take]
 show rF s g 464 lo hi K (.sl 464 (l.map br) false)=_
 rw[ri,List.length_map]
 simp only[Bool.false_and,e,true_and]
@[simp↓] theorem R2 (s:St) (K:PV->Prop) (g:Bool) (lo hi:Option AX) (l):rF s g 34 lo hi K (b6 l)=jh g s lo hi l.length l.length (λa b=>K (b6 ((l.take b).drop a))):=by
 have e:∀a b,PV.sl 34 (((l.map aM).take b).drop a) false=b6 ((l.take b).drop a):=λa b=>by rw[b6,List.map_drop,List.map_take]
 show rF s g 34 lo hi K (.sl 34 (l.map aM) false)=_
 rw[ri,List.length_map]
 simp only[Bool.false_and,e,true_and]
@[simp↓] theorem Vt (s:St) (K:PV->Prop) (g:Bool) (lo hi:Option AX) (l):rF s g 34 lo hi K (cN l)=jh g s lo hi l.length l.length (λa b=>K (cN ((l.take b).drop a))):=by
 have e:∀a b,PV.sl 34 (((l.map iv).take b).drop a) false=cN ((l.take b).drop a):=λa b=>by rw[cN,List.map_drop,List.map_take]
 show rF s g 34 lo hi K (.sl 34 (l.map iv) false)=_
 rw[ri,List.length_map]
 simp only[Bool.false_and,e,true_and]
@[simp↓] theorem R3 (s:St) (K:PV->Prop) (g:Bool) (lo hi:Option AX) (l):rF s g 50 lo hi K (ee l)=jh g s lo hi l.length l.length (λa b=>K (ee ((l.take b).drop a))):=by
 have e:∀a b,PV.sl 50 (((l.map iQ).take b).drop a) false=ee ((l.take b).drop a):=λa b=>by rw[ee,List.map_drop,List.map_take]
 show rF s g 50 lo hi K (.sl 50 (l.map iQ) false)=_
 rw[ri,List.length_map]
 simp only[Bool.false_and,e,true_and]
@[simp↓] theorem Vu (s:St) (K:PV->Prop) (g:Bool) (lo hi:Option AX) (l):rF s g 1 lo hi K (fH l)=jh g s lo hi l.length l.length (λa b=>K (fH ((l.take b).drop a))):=by
 have e:∀a b,PV.sl 1 (((l.map (λn:Int=>PV.int .i64 n)).take b).drop a) false=fH ((l.take b).drop a):=λa b=>by rw[fH,List.map_drop,List.map_take]
 show rF s g 1 lo hi K (.sl 1 (l.map (λn:Int=>PV.int .i64 n)) false)=_
 rw[ri,List.length_map]
 simp only[Bool.false_and,e,true_and]
@[simp↓] theorem R5 (s:St) (K:PV->Prop) (g:Bool) (lo hi:Option AX) (l):rF s g 19 lo hi K (eU l)=jh g s lo hi l.length l.length (λa b=>K (eU ((l.take b).drop a))):=by
 have e:∀a b,PV.sl 19 (((l.map jK).take b).drop a) false=eU ((l.take b).drop a):=λa b=>by rw[eU,List.map_drop,List.map_take]
 show rF s g 19 lo hi K (.sl 19 (l.map jK) false)=_
 rw[ri,List.length_map]
 simp only[Bool.false_and,e,true_and]
theorem acE {d:cK} (h:Ui d):bg Pg I.bV [bE d] (bE d):=by
 have:=(bV h).ah4 (dQ kL _)
 have e:iB KB 464 (d.aa.map br) (cO d (.rs KB [] 0 d.aa.length d.aa.length 464 .tip))=bE d:=by
  have YI:List.take d.aa.length (d.aa.map br)=d.aa.map br:=tJ (by simp)
  simp[iB,jj,YI]
  rfl
 rw[e]at this
 exact this
def Ca (d:cK):cK:= {d with aa:=d.aa.take (min d.aa.length 9),bq:=d.bq.take (min d.bq.length 34),timers:=d.timers.take (min d.timers.length 20),aV:=d.aV.take (min d.aV.length 18),aR:=d.aR.take (min d.aR.length 66),buckets:=d.buckets.take (min d.buckets.length 18)}
theorem zb.cut {d:cK} {m:Nat} (h:zb d m):zb (Ca d) m where
 aa:=by have:=h.aa;simp[Ca];omega
 aV:=by have:=h.aV;simp[Ca];omega
 bq:=by have:=h.bq;simp[Ca];omega
 timers:=by have:=h.timers;simp[Ca];omega
 aR:=by have:=h.aR;simp[Ca];omega
 buckets:=by have:=h.buckets;simp[Ca];omega
 bD:=λp hp=>h.bD p (List.mem_of_mem_take hp)
 wn:=λp hp=>h.wn p (List.mem_of_mem_take hp)
 lo:=λp hp=>h.lo p (List.mem_of_mem_take hp)
 il:=h.il
 is:=h.is
 ib:=h.ib
def acF:vS:=⟨0,0,0,0,0,0,0,0,0,0⟩
def vz:cK:=⟨acF,Kt,Kt,0,Kt,0,[],[],[],[],Kt,0,[],[],0⟩
theorem PA:zb vz 0 where
 aa:=by simp[vz]
 aV:=by simp[vz]
 bq:=by simp[vz]
 timers:=by simp[vz]
 aR:=by simp[vz]
 buckets:=by simp[vz]
 bD:=λp hp=>by simp[vz]at hp
 wn:=λp hp=>by simp[vz]at hp
 lo:=λp hp=>by simp[vz]at hp
 il:=⟨by decide,by decide⟩
 is:=⟨by decide,by decide⟩
 ib:=⟨by decide,by decide⟩
theorem fB {d:cK} (h:YA d):bg Pg I.fB [bE d] (.int .i64 (yQ (rr d))):=Vo (Pv h)
theorem ah5:yQ (rr vz)=1:=G5 (k:=0) (by omega) (λj hj=>by omega) (by
 show r1 vz=false
 unfold r1 kj
 simp[vz,acF])
theorem G8:bg Pg I.eA [] (.bl true):=by
 refine ai.intro T.eA (by simp[F.eA]) ?_
 simp[F.eA,aj,aF]
 have hc:=fB (PA.ok (by omega))
 rw[ah5]at hc
 refine an.ret hc (by simp;rfl) (by simp) (by simp) ?_
 simp
 refine an.ret (gj 7) (by simp) (by simp) (by simp) ?_
 simp
 refine al.plain [] ?_
 simp[rY,MS]
end Go.Ab
end W48s
noncomputable section W49s
namespace Go.Ab
open Go.Ab
theorem FB {d:cK} (h:YA d):∃c,bg Pg I.fB [bE d] (.int .i64 c)∧bg Pg I.cV [bE d] (.int .i64 c):=⟨_,fB h,Vp h⟩
theorem ah6 {l:List UInt8} (hl:l.length≤9223372036854775807) {n:Nat} (hn:n≤1000000):ai Pg I.fm [fV l,.int .i64 n] [] (λr fp=>r= .pt KB [] 0∧fp=[.box (gI ⟨l.take n,0⟩)]):=by
 refine ai.intro T.fm (by simp[F.fm]) ?_
 simp[F.fm,aj,aF]
 have pj:(min (l.length:Int) (n:Int))=((min l.length n:Nat):Int):=by omega
 have ht:(List.map u8 l).take (min l.length n)=(l.take n).map u8:=by
  rw[←List.map_take];congr 1
  rcases Nat.le_total l.length n with h|h
  ·rw[Nat.min_eq_left h,List.take_length,tJ h]
  ·rw[Nat.min_eq_right h]
 simp(disch:=omega) [fV,pj,ht]
 refine⟨by omega,?_⟩
 refine al.with [] [12] ?_
 simp[af,ae,ab,aE,aB,aD]
 simp[gI,fV]
theorem words:∃U:List PV,[PV.str [],.str [110,117,109,98,101,114,115],.str [112,101,101,114,115],.str [102,105,101,108,100,115],.str [104,97,110,100],.str [115,101,115,115,105,111,110,115],.str [114,111,117,116,101,115],.str [115,108,111,116,115],.str [116,105,109,101,114,115],.str [108,111,97,100],.str []]=U∧U.length=11∧cD U∧jo U=U∧∀i:Nat,i<11->U[i]? =some (.str (rY i)):=by
 refine⟨_,rfl,rfl,by simp,by simp,λi hi=> ?_⟩
 rcases(by omega:i=0∨i=1∨i=2∨i=3∨i=4∨i=5∨i=6∨i=7∨i=8∨i=9∨i=10)with rfl|rfl|rfl|rfl|rfl|rfl|rfl|rfl|rfl|rfl|rfl<;>rfl
theorem LY (m:Int):(rY m=[])↔¬(1≤m∧m≤9):=by
 unfold rY
 split
 ·rename_i h
  refine⟨λe=> ?_,λe=>absurd h e⟩
  exfalso
  rcases(by omega:m=1∨m=2∨m=3∨m=4∨m=5∨m=6∨m=7∨m=8∨m=9)with rfl|rfl|rfl|rfl|rfl|rfl|rfl|rfl|rfl<;>simp[MS]at e
 ·rename_i h
  exact⟨λ_=>h,λ_=>rfl⟩
theorem R6 {w:Int} (h:0≤w):∃k:Nat,w.tmod 9=(k:Int)∧k<9:=by
 rw[Int.tmod_eq_emod_of_nonneg h]
 exact⟨(w%9).toNat,by omega,by omega⟩
theorem Ik {l:List UInt8} (hl:l.length≤9223372036854775807) {w t n m:Int} (hw:0≤w∧w≤255) (ht:0≤t∧t≤255) {e:cK} (he:zb e 1048576):
  bg Pg I.ei [fV l,.int .u8 w,.int .u8 t,.int .i64 n,bE e,.int .i64 m] (.bl true):=by
 refine ai.intro T.ei (by simp[F.ei]) ?_
 simp[F.ei,aj,aF]
 refine an.gen [] [20] [] (ah6 hl (n:=160) (by omega)) (by simp[getAll]) (by simp) (by simp) (by simp[ab]) (by simp) (by simp[aD]) (by simp) (by simp[af,ae,fj,(cE _).refs]) ?_
 simp[bb,aE,aB,dv,(cE _).aB]
 have hC:iS ⟨l.take 160,0⟩:=⟨by simp;omega,by simp⟩
 refine an.wG 20 (ec hC) (by simp) (by simp[ab,ae,bM,idx]) (by simp[aD,aB,bp,idx]) (by simp) ?_
 rintro⟨d,c⟩ ⟨hV,Vw,_,YZ⟩
 dsimp only at hV YZ Vw
 have YX:=Pz hV YZ (by omega)
 have bS:d.aa≠[]:=λe=>by rw[e]at Vw;simp at Vw
 simp
 refine an.ret (acE (he.ok (by omega)).rV) (by simp) (by simp) (by simp) ?_
 have m1:min (e.aa.length:Int) 9=((min e.aa.length 9:Nat):Int):=by omega
 have m2:min (e.bq.length:Int) 34=((min e.bq.length 34:Nat):Int):=by omega
 have m3:min (e.timers.length:Int) 20=((min e.timers.length 20:Nat):Int):=by omega
 have m4:min (e.aV.length:Int) 18=((min e.aV.length 18:Nat):Int):=by omega
 have m5:min (e.aR.length:Int) 66=((min e.aR.length 66:Nat):Int):=by omega
 have m6:min (e.buckets.length:Int) 18=((min e.buckets.length 18:Nat):Int):=by omega
 simp
 refine qD.run [10] rfl ?_
 simp[m1,m2,m4]
 refine⟨by omega,by omega,by omega,?_⟩
 refine qD.run [10] rfl ?_
 simp[m3,m5,m6]
 refine⟨by omega,by omega,by omega,?_⟩
 have hcd:cO {rules:=e.rules,tS:=e.tS,tT:=e.tT,port:=e.port,random:=e.random,now:=e.now,aa:=e.aa,aV:=e.aV.take (min e.aV.length 18),bq:=e.bq.take (min e.bq.length 34),timers:=e.timers.take (min e.timers.length 20),lu:=e.lu,kT:=e.kT,aR:=e.aR.take (min e.aR.length 66),buckets:=e.buckets.take (min e.buckets.length 18),bad:=e.bad} (fk (e.aa.take (min e.aa.length 9)))=bE (Ca e):=rfl
 rw[hcd]
 have he':=he.cut
 generalize Ca e=g at*
 obtain⟨k1,lY,h91⟩:=R6 hw.1
 obtain⟨k2,AW,h92⟩:=R6 ht.1
 have oA:=broken (n:=n) (YX.ok (by omega)).rV bS hw.1 lY h91
 have hd1:=YX.acD k1 n
 have ajD:=Vs bS k1 n
 generalize D7 d k1 n=d1 at*
 have pg:=broken (n:=bits .and .i64 n 7) (hd1.ok (by omega)).rV ajD ht.1 AW h92
 have PD:=hd1.acD k2 (bits .and .i64 n 7)
 generalize D7 d1 k2 (bits .and .i64 n 7)=d2 at*
 refine aU.ret oA (by simp) (by simp) (by simp) ?_
 simp
 refine aU.ret oA (by simp) (by simp) (by simp) ?_
 simp
 refine aU.ret pg (by simp) (by simp) (by simp) ?_
 simp
 have dM:∀i:Nat,i<4->∃x:cK,[bE d,bE d1,bE d2,bE g][i]? =some (bE x)∧YA x:=by
  intro i hi
  rcases(by omega:i=0∨i=1∨i=2∨i=3)with rfl|rfl|rfl|rfl
  ·exact⟨d,rfl,YX.ok (by omega)⟩
  ·exact⟨d1,rfl,hd1.ok (by omega)⟩
  ·exact⟨d2,rfl,PD.ok (by omega)⟩
  ·exact⟨g,rfl,he'.ok (by omega)⟩
 have hq2:cD [bE d,bE d1,bE d2,bE g]:=by simp
 have Cq:jo [bE d,bE d1,bE d2,bE g]=[bE d,bE d1,bE d2,bE g]:=by simp
 have hq4:[bE d,bE d1,bE d2,bE g].length=4:=rfl
 generalize [bE d,bE d1,bE d2,bE g]=X at*
 have hq3:∀f,ae f (PV.sl 148 X true)=true:=λf=>by simp[ae,hq2.refs]
 refine fb.fG 4 (λ_=>True) [5,12,86,87,88] (λi=>[(88,.int .i64 i)]) (λi=>[]) [.keep [5,12,86,87,88],.dr 10,.dr 13,.dr 20] ?_
 simp[hq3]
 refine⟨λi hi K hK=> ?_,λK=> ?_⟩
 ·obtain⟨x,hx,eE⟩:=dM i hi
  obtain⟨v,c1,c2⟩:=FB eE
  have MO:(i:Int)<4:=by omega
  simp[↓ah,hx,hi,MO,hq4,cu hi (by omega),-getElem?_pos]
  refine aU.ret c1 (by simp) (by simp) (by simp) ?_
  simp
  refine aU.ret c2 (by simp) (by simp) (by simp) ?_
  simp[cu hi (by omega)]
  refine⟨[.keep [5,12,86,87,88],.dr 15],?_⟩
  simp[hq3]
  exact hK _ (by simp)
 ·obtain⟨U,hU,hU1,hU2,hU3,hU4⟩:=words
  have YY:∀u:List UInt8,(PV.str u).width=1:=λ_=>rfl
  simp[↓ah,YY]
  rw[hU]
  refine fb.fG 11 (λ_=>True) [5,12,99,100,101] (λi=>[(101,.int .i64 i)]) (λi=>[]) [.keep [5,12,99,100,101]] ?_
  simp[hU1]
  refine⟨λi hi K hK=> ?_,λK=> ?_⟩
  ·have hx:=hU4 i hi
   have ajF:(i:Int)<11:=by omega
   simp[↓ah,hx,hi,ajF,hU1,YY,cu hi (by omega),-getElem?_pos]
   refine an.ret (gj i) (by simp) (by simp) (by simp) ?_
   simp[cu hi (by omega)]
   refine⟨[.keep [5,12,99,100,101]],?_⟩
   simp
   exact hK _ (by simp)
  ·simp[↓ah,hU1]
   refine an.ret (gj m) (by simp) (by simp) (by simp) ?_
   have bS:=LY m
   by_cases hm:1≤m∧m≤9
   ·have e:¬rY m=[]:=λh=>bS.1 h hm
    simp[e,hm.1,hm.2]
    refine an.ret G8 (by simp) (by simp) (by simp) ?_
    simp
    refine al.plain [] ?_
    simp
   ·have e:rY m=[]:=bS.2 hm
    have e2:(decide (1≤m)&&decide (m≤9))=false:=by
     rw[←Bool.decide_and];exact decide_eq_false hm
    simp[e,e2]
    refine an.ret G8 (by simp) (by simp) (by simp) ?_
    simp
    refine al.plain [] ?_
    simp
end Go.Ab
end W49s

/- The law SchemaSafe: what it computes. No condition. -/
import Derived.Test.YtdfkcobijmbidaaGreatS3
import Derived.Test.YtdfkcobijmbidaaGreatB7
import Derived.Test.YtdfkcobijmbidaaGreatSF1
import Derived.Test.YtdfkcobijmbidaaGreatSF2
import Derived.Test.YtdfkcobijmbidaaGreatSF3
import Derived.Test.YtdfkcobijmbidaaGreatSF4
import Derived.Test.YtdfkcobijmbidaaGreatSF5
import Derived.Test.YtdfkcobijmbidaaGreatQ4
set_option maxRecDepth 10000
set_option maxHeartbeats 4000000
set_option linter.all false
noncomputable section S11s
namespace Go.Ab
open Go.Ab
theorem NH:∀b:Fin 64,bits .and .u64 ((18446744073709551615:Int).fdiv (2^b.val)) 1=1:=by decide+kernel
theorem NI:∀a b:Fin 64,b.val≤a.val->bits .and .u64 (((18446744073709551615:Int).fdiv (2^(63-a.val))).fdiv (2^b.val)) 1=1:=by decide+kernel
theorem NJ {w:oM} (hu:w.used=true) {k:Nat} (hk:k<4):Pq (jM w) k=if sE w.top=k then xw w.top else qb:=by
 rcases(by omega:k=0∨k=1∨k=2∨k=3)with rfl|rfl|rfl|rfl<;>simp[Pq,jM,hu]
theorem NK {w:oM} {c:Int} (ht:DE w.top) (hc:DE c) (hu:w.used=true):ou (jM w) c=decide (w.top<c):=by
 have e1:(jM w).used=true:=by simp[jM,hu]
 have e2:(jM w).top=w.top:=by simp[jM,hu]
 obtain⟨t0,t1⟩:=ht
 obtain⟨c0,c1⟩:=hc
 by_cases h:w.top<c
 ·simp[ou,e2,h]
 ·have q1:c.tdiv 64=c/64:=Int.tdiv_eq_ediv_of_nonneg c0
  have q2:w.top.tdiv 64=w.top/64:=Int.tdiv_eq_ediv_of_nonneg t0
  have q3:c.tmod 64=c%64:=Int.tmod_eq_emod_of_nonneg c0
  have q5:w.top.tmod 64=w.top%64:=Int.tmod_eq_emod_of_nonneg t0
  have q4:(c.tdiv 64).tmod 4=c/64%4:=by rw[q1];exact Int.tmod_eq_emod_of_nonneg (by omega)
  have q6:(w.top.tdiv 64).tmod 4=w.top/64%4:=by rw[q2];exact Int.tmod_eq_emod_of_nonneg (by omega)
  have hb:¬w.top/64-c/64≤3∨bits .and .u64 ((Pq (jM w) (c/64%4).toNat).fdiv (2^min (c%64).toNat 64)) 1=1:=by
   by_cases h3:w.top/64-c/64≤3
   ·refine .inr ?_
    rw[NJ hu (by omega),Nat.min_eq_left (by omega)]
    by_cases hk:sE w.top=(c/64%4).toNat
    ·rw[if_pos hk,xw,q5,Nat.min_eq_left (by omega)]
     unfold sE at hk
     rw[q6]at hk
     have:=NI ⟨(w.top%64).toNat,by omega⟩ ⟨(c%64).toNat,by omega⟩ (by show(c%64).toNat≤(w.top%64).toNat;omega)
     simp only at this
     rw[show(63-w.top%64).toNat=63-(w.top%64).toNat by omega]
     exact this
    ·rw[if_neg hk]
     exact NH ⟨(c%64).toNat,by omega⟩
   ·exact .inl h3
  unfold ou
  rw[e1,e2,q4,q3,q2,q1]
  rcases hb with hb|hb
  ·simp[h,hb]
  ·simp[h,hb]
theorem RV {w:oM} (hu:w.used=false):jM w=w:=by simp[jM,hu]
theorem DF {w:oM} {c:Int} (h:w.top<c):ou w c=true:=by simp[ou,h]
theorem Cp {w:oM} {c:Int} (ht:DE w.top) (hc:DE c):(ou w c=false->ou (jM w) c=false)∧(w.top<c->ou (jM w) c=true):=by
 by_cases hu:w.used=true
 ·rw[NK ht hc hu]
  refine⟨λh=> ?_,λh=>by simpa using h⟩
  by_cases h2:w.top<c
  ·rw[DF h2]at h;cases h
  ·simpa using h2
 ·rw[RV (by simpa using hu)]
  exact⟨id,DF⟩
theorem FD.wu {v:FV uV} (h:FD v):WU v:=by
 rcases h with rfl|⟨w,_,h,rfl⟩
 ·exact⟨⟨false,0,0,0,0,0⟩,⟨by simp,by simp⟩,by
   have:Hm.p=(ot ⟨false,0,0,0,0,0⟩).p:=by
    show PV.st 6 _=PV.st 6 _
    rw[gC];rfl
   generalize hz:Hm=z at*
   generalize hy:ot ⟨false,0,0,0,0,0⟩=y at*
   cases z;cases y;cases this;rfl⟩
 ·exact⟨w,⟨by omega,by omega⟩,rfl⟩
end Go.Ab
end S11s
noncomputable section N1s
namespace Go.Ab
open Go.Ab
def lcs (l:List oC):List jt:=(l.filter (λp=>p.has)).map (λp=>p.ju)
theorem NL {l:List oC} {i:Nat} (h:i<l.length):lcs (l.take (i+1))=lcs (l.take i)++(if l[i].has=true then [l[i].ju]else []):=by
 unfold lcs;rw[kg _ h];by_cases hk:l[i].has=true<;>simp[hk]
theorem NM (l:List oC):(lcs l).length≤l.length:=by
 unfold lcs;rw[List.length_map];exact List.length_filter_le _ _
def D6 (r:lB):List oC:=[r.p,r.c,r.n]
def sp (p:dC):List jt:=lcs (D6 p.ring)
def qJ (l:List dC):List jt:=l.flatMap sp
def sg (l:List dC) (i:Nat):List jt:=qJ (l.take i)
theorem RW {l:List dC} {i:Nat} (h:i<l.length):sg l (i+1)=sg l i++sp l[i]:=by
 unfold sg qJ;rw[List.take_succ_eq_append_getElem h,List.flatMap_append];simp
theorem IV (l:List dC):(qJ l).length≤3*l.length:=by
 induction l with
 |nil=>simp[qJ]
 |
  cons p l ih=>
  have:(sp p).length≤3:=NM _
  unfold qJ at*
  rw[List.flatMap_cons,List.length_append,List.length_cons];omega
theorem ag5 (l:List dC) (i:Nat):(sg l i).length≤3*i:=by
 have:=IV (l.take i)
 rw[lJ]at this
 unfold sg;omega
theorem NN (r:lB) {j:Nat} (h:j<(D6 r).length):(D6 r)[j]=lf r (j+1):=by
 have h3:j<3:=h
 rcases(by omega:j=0∨j=1∨j=2)with rfl|rfl|rfl<;>rfl
theorem RX (r:lB) {j:Nat} (h:j<3):lcs ((D6 r).take (j+1))=lcs ((D6 r).take j)++(if(lf r (j+1)).has=true then [(lf r (j+1)).ju]else []):=by
 have h':j<(D6 r).length:=h
 rw[NL h',NN r h']
theorem FG {d:bU} (hl:d.aj.length≤3):qV Pg I.dP [gO d] 76 ((qJ d.aj).map eX):=by
 refine ah.intro T.dP (by simp[F.dP]) ?_
 simp[F.dP,au,aG]
 refine jx.kl d.aj.length (λ_=>True) [1,2,3,9,10,11] (λi=>[(3,.rs 3 [] 0 (sg d.aj i).length (sg d.aj i).length 76 .tip),(11,.int .i64 i)]) (λi=>[(3,.arr 76 ((sg d.aj i).map eX))]) [.keep [1,2,3,9,10,11],.vt 3 3 76] ?_
 simp[show sg d.aj 0=[] from rfl]
 refine⟨λi hi K hK=> ?_,λK=> ?_⟩
 ·have hx:d.aj[i]? =some d.aj[i]:=gJ hi
  have hA:=ag5 d.aj i
  rw[RW hi]at hK
  generalize d.aj[i]=p at*
  generalize sg d.aj i=A at*
  simp[↓aA,hx,hi,-getElem?_pos]
  refine jx.kl 3 (λ_=>True) [1,2,3,5,6,9,10,11] (λj=>[(3,.rs 3 [] 0 (A++lcs ((D6 p.ring).take j)).length (A++lcs ((D6 p.ring).take j)).length 76 .tip),(6,.int .i64 ((j:Int)+1))]) (λj=>[(3,.arr 76 ((A++lcs ((D6 p.ring).take j)).map eX))]) [.keep [1,2,3,5,6,9,10,11]] ?_
  simp[show lcs []=[] from rfl]
  refine⟨λj hj K2 sX=> ?_,λK2=> ?_⟩
  ·have hj3:(j:Int)+1≤3:=by omega
   have hw:IntKind.i64.wrap ((j:Int)+1+1)=(j:Int)+1+1:=wrap_i64 (by omega)
   have eH:=dQ p.ring (k:=j+1) (by omega)
   rw[show((j+1:Nat):Int)=(j:Int)+1 by omega]at eH
   have hB:=NM ((D6 p.ring).take j)
   rw[lJ,show(D6 p.ring).length=3 from rfl]at hB
   rw[RX p.ring hj]at sX
   generalize lcs ((D6 p.ring).take j)=B at*
   generalize lf p.ring (j+1)=q at*
   simp[↓aA,hj3]
   refine al.ret eH (by simp) (by simp) (by simp) ?_
   by_cases h1:q.has=true
   ·simp[h1,hw]
    refine⟨by omega,[.keep [1,2,3,5,6,9,10,11],.dr 7],?_⟩
    simp[bL,cL,ab,af]
    exact sX _ (by simp[h1,Nat.add_assoc])
   ·simp[h1,hw]
    refine⟨[.keep [1,2,3,5,6,9,10,11],.dr 7],?_⟩
    simp[bL,cL,ab,af]
    exact sX _ (by simp[h1])
  ·have h3:(D6 p.ring).take 3=D6 p.ring:=rfl
   simp[↓aA,fV hi (by omega),h3]
   refine⟨[.keep [1,2,3,9,10,11],.dr 5],?_⟩
   simp[bL,cL,ab,af]
   exact hK _ (by simp[sp])
 ·have hg:sg d.aj d.aj.length=qJ d.aj:=by unfold sg;rw[List.take_length]
  rw[hg]
  simp[↓aA]
  refine aL.with [.keep [2]] [3] ?_
  simp
end Go.Ab
end N1s
noncomputable section S13s
namespace Go.Ab
open Go.Ab
theorem kV.wu {d:bU} {p:oC} (h:kV d p):WU p.ju.nY:=by
 rcases h with⟨_,h⟩|⟨_,rfl⟩
 ·exact h.wi.wu
 ·exact FD.wu (.inl rfl)
def PW (e:dC):Prop:=WU e.ring.p.ju.nY∧WU e.ring.c.ju.nY∧WU e.ring.n.ju.nY
theorem PW.pu {e:dC} (h:PW e):PU e:=by
 intro k hk _
 rcases hk with rfl|rfl|rfl
 ·exact h.1
 ·exact h.2.1
 ·exact h.2.2
theorem qK.pw {d:bU} (h:qK d):∀e∈d.aj,PW e:=by
 intro e he
 obtain⟨_,p0,h0,h1,h2,h3⟩:=h.nY e he
 refine⟨?_,?_,?_⟩
 ·rw[h1.nY];exact h0.rp.wu
 ·rw[h2.nY];exact h0.rc.wu
 ·rw[h3.nY];exact h0.rn.wu
theorem PW.sp {e:dC} (h:PW e):∀s∈sp e,WU s.nY:=by
 intro s hs
 unfold Ab.sp lcs D6 at hs
 obtain⟨p,hp,rfl⟩:=List.mem_map.1 hs
 have:=(List.mem_filter.1 hp).1
 simp only[cJ,List.not_mem_nil,or_false]at this
 rcases this with rfl|rfl|rfl
 ·exact h.1
 ·exact h.2.1
 ·exact h.2.2
theorem RY {l:List dC} (h:∀e∈l,PW e):∀s∈qJ l,WU s.nY:=by
 intro s hs
 unfold qJ at hs
 obtain⟨e,he,hs⟩:=List.mem_flatMap.1 hs
 exact(h e he).sp s hs
theorem Cq (l:List dC):qJ (l.map pe)=qJ l:=by
 induction l with
 |nil=>rfl
 |
  cons e l ih=>
  unfold qJ at*
  rw[List.map_cons,List.flatMap_cons,List.flatMap_cons,ih];rfl
theorem NP (l:List oC):lcs (l.map ov)=(lcs l).map qc:=by
 induction l with
 |nil=>rfl
 |
  cons p l ih=>
  unfold lcs at*
  by_cases h:p.has=true
  ·have h2:(ov p).has=true:=by simp[ov,h]
   have h3:(ov p).ju=qc p.ju:=by simp[ov,h]
   simp only[List.map_cons,List.filter_cons,h,h2,h3,if_true,ih]
  ·have h2:ov p=p:=by simp[ov,h]
   simp only[List.map_cons,List.filter_cons,h2,if_neg h,ih]
theorem RZ (e:dC):Ab.sp (nJ e)=(Ab.sp e).map qc:=by
 have:D6 (nJ e).ring=(D6 e.ring).map ov:=by simp[D6,nJ,mw]
 unfold Ab.sp
 rw[this,NP]
theorem Kv (l:List dC):qJ (l.map nJ)=(qJ l).map qc:=by
 induction l with
 |nil=>rfl
 |
  cons e l ih=>
  unfold qJ at*
  rw[List.map_cons,List.flatMap_cons,List.flatMap_cons,ih,List.map_append,RZ]
def ow (m:Nat) (s:jt):jt:=if m≤1 then s else qc s
theorem Kw (d:bU) (m:Nat):qJ (xU d m).aj=(qJ d.aj).map (ow m):=by
 match m with
 |
  0=>
  have:ow 0=id:=by funext s;simp[ow]
  rw[this,List.map_id];rfl
 |
  1=>
  have:ow 1=id:=by funext s;simp[ow]
  rw[this,List.map_id];exact Cq d.aj
 |
  m+2=>
  have:ow (m+2)=qc:=by funext s;simp[ow]
  rw[this]
  show qJ ((d.aj.map pe).map nJ)=_
  rw[Kv,Cq]
theorem Kx (m:Nat) (s:jt):(ow m s).next=s.next∧(ow m s).send=s.send∧(ow m s).recv=s.recv∧(ow m s).loc=s.loc:=by
 unfold ow;split<;>simp[qc]
end Go.Ab
end S13s
noncomputable section T3s
namespace Go.Ab
open Go.Ab
theorem ag6 {v:Int} (h:1≤v∧v≤3):okV v=0:=if_pos h
theorem ag8 {d:bU} {v:Int} (h:1≤v∧v≤3):loV d v=xU d (3-v).toNat:=by
 rcases(by omega:v=3∨v=2∨v=1)with rfl|rfl|rfl<;>rfl
theorem NQ (d:bU) (m:Nat):(xU d m).aj.length=d.aj.length:=IW d.aj m
theorem NR {s:jt} {w:oM} {c:Int} {m:Nat} (hs:s.nY=ot w) (hw:DE w.top) (hc:DE c):
  ∃nb:Bool,bI Pg I.nK [(ow m s).nY.p,.int .u64 c] (.bl nb)∧(ou w c=false->nb=false)∧(m≤1->nb=ou w c)∧(w.top<c->nb=true):=by
 by_cases hm:m≤1
 ·have e:ow m s=s:=if_pos hm
  rw[e,hs]
  exact⟨_,FH hw hc,id,λ_=>rfl,λh=>DF h⟩
 ·have e:(ow m s).nY=ot (jM w):=by
   rw[ow,if_neg hm]
   show FI s.nY=_
   rw[hs,wO hw]
  have ht:(jM w).top=w.top:=by
   by_cases hu:w.used=true<;>simp[jM,hu]
  rw[e]
  refine⟨_,FH (by rw[ht];exact hw) hc,(Cp hw hc).1,λh=>absurd h hm,(Cp hw hc).2⟩
theorem Hv {a b:List UInt8} (ha:(a.length:Int)≤9223372036854775807) (hb:(b.length:Int)≤9223372036854775807) {vr cr:Int} (hvr:0≤vr∧vr≤255) (hcr:0≤cr∧cr≤65535):
  bI Pg I.ec [eI a,eI b,.int .u8 vr,.int .u16 cr] (.bl true):=by
 refine ah.intro T.ec (by simp[F.ec]) ?_
 simp[F.ec,au,aG]
 refine al.aha (R:=λr=>∃d,qK d∧r=gO d) (ahb ha hb) (by simp) (by simp) (by rintro r ⟨d',_,rfl⟩;simp) ?_
 rintro r ⟨d,hd,rfl⟩
 have w1:IntKind.i64.wrap vr=vr:=wrap_i64 (by omega)
 have w2:vr.tmod 3=vr%3:=Int.tmod_eq_emod_of_nonneg hvr.1
 have w3:IntKind.i64.wrap (1+vr%3)=1+vr%3:=wrap_i64 (by omega)
 obtain⟨v,hv,hv3⟩:∃v,1+vr%3=v∧1≤v∧v≤3:=⟨_,rfl,by omega,by omega⟩
 have w4:IntKind.i64.wrap v=v:=wrap_i64 (by omega)
 simp[w1,w2,w3,hv,w4]
 have hpn:=hd.aj
 have BE:∀p∈d.aj,PU p:=λp hp=>(hd.pw p hp).pu
 have hL:=ahc hd.sml (by omega) BE v
 rw[ag6 hv3,ag8 hv3]at hL
 have hlen:=NQ d (3-v).toNat
 refine al.ret hL (by simp) (by simp) (by simp) ?_
 have hSd:=FG (d:=d) hpn
 have hSx:=FG (d:=xU d (3-v).toNat) (by rw[hlen];exact hpn)
 rw[Kw]at hSx
 simp[hlen]
 refine a8.ret (hSd.gh (bZ sn _)) (by simp) (by simp) (by simp) ?_
 simp
 refine a8.ret (hSx.gh (bZ sn _)) (by simp) (by simp) (by simp) ?_
 have hwu:=RY hd.pw
 have DX:=IV d.aj
 have hvm:(v>1)↔(3-v).toNat≤1:=by omega
 generalize (3-v).toNat=m at*
 generalize xU d m=X at*
 generalize qJ d.aj=S at*
 simp
 have hT:∀i (h:i<S.length),(S.map (eX∘ow m))[i]? =some (eX (ow m S[i])):=λi h=>by simp[h]
 have OT:(S.map (eX∘ow m)).length=S.length:=by simp
 have Tk:aB (S.map (eX∘ow m)):=aB.map (λs=>sn (ow m s)) S
 have Tl:aB (S.map eX):=bZ sn S
 clear hSd hSx hL BE
 generalize S.map (eX∘ow m)=T at*
 have wu:IntKind.u64.wrap cr=cr:=wrap_u64 (by omega)
 have wr:cr.tmod 12=cr%12:=Int.tmod_eq_emod_of_nonneg hcr.1
 refine jx.kl S.length (λ_=>True) [3,8,10,13,14,54,55] (λi=>[(55,.int .i64 i)]) (λi=>[]) [.keep [3,8,10,13,14,54,55],.dr 9,.dr 11] ?_
 simp[bL,cL,ab,af,Tk.refs,Tl.refs]
 refine⟨λi hi K hK=> ?_,λK=> ?_⟩
 ·have hx:S[i]? =some S[i]:=gJ hi
  have OU:=hT i hi
  have wi:=fV hi (by omega)
  obtain⟨w,Pz,hww⟩:=hwu S[i] (List.getElem_mem hi)
  have kX:=Kx m S[i]
  have hck:=λc hc=>NR (c:=c) (m:=m) hww Pz hc
  have hwp:S[i].nY.p=wP w:=by rw[hww];rfl
  generalize S[i]=s at*
  generalize ow m s=t at*
  have hwe:wP w= .st 6 [.bl w.used,.int .u64 w.top,.ar 1 4 [.int .u64 w.w0,.int .u64 w.w1,.int .u64 w.w2,.int .u64 w.w3]]:=rfl
  simp[↓aA,hx,OU,hi,OT,wu,wr,hwp,hwe,av,-getElem?_pos]
  have hvs:∀j:Nat,j<3->∃c:Int,[PV.int .u64 (cr%12),.int .u64 cr,.int .u64 w.top][j]? =some (.int .u64 c)∧DE c:=by
   intro j hj
   rcases(by omega:j=0∨j=1∨j=2)with rfl|rfl|rfl
   ·exact⟨_,rfl,by unfold DE;omega⟩
   ·exact⟨_,rfl,by unfold DE;omega⟩
   ·exact⟨_,rfl,Pz⟩
  have VL:aB [PV.int .u64 (cr%12),.int .u64 cr,.int .u64 w.top]:=by simp
  have Tb:[PV.int .u64 (cr%12),.int .u64 cr,.int .u64 w.top].length=3:=rfl
  generalize [PV.int .u64 (cr%12),.int .u64 cr,.int .u64 w.top]=L3 at*
  refine jx.kl 3 (λ_=>True) [3,8,10,13,14,15,54,55,69,70,71] (λj=>[(71,.int .i64 j)]) (λj=>[]) [.keep [3,8,10,13,14,15,54,55,69,70,71]] ?_
  simp
  refine⟨λj hj K2 sX=> ?_,λK2=> ?_⟩
  ·obtain⟨c,hc,hcu⟩:=hvs j hj
   obtain⟨nb,hn,f1,f2,f3⟩:=hck c hcu
   have wj:IntKind.i64.wrap ((j:Int)+1)=(j:Int)+1:=wrap_i64 (by omega)
   have hj3:(j:Int)<3:=by omega
   have hr:=NS (w:=w) Pz hcu
   rw[←hwp]at hr
   have ht:aQ s.nY.p [.f 1 1]=some (.int .u64 w.top):=by rw[hwp];rfl
   clear hwe hwp
   generalize ou w c=ob at*
   rw[←hvm]at f2
   simp[↓aA,hc,hj,hj3,Tb,hx,OU,hi,OT,-getElem?_pos]
   refine a8.ret hr (by simp) (by simp) (by simp) ?_
   simp[hx,OU,hi,OT,-getElem?_pos]
   refine a8.ret hn (by simp) (by simp) (by simp) ?_
   by_cases vy:v>1
   ·have hnb:=f2 vy
    subst hnb
    have Ga:1<v:=vy
    cases nb
    ·simp[Ga,hx,OU,hi,OT,ht,wj,-getElem?_pos]
     refine⟨[.keep [3,8,10,13,14,15,54,55,69,70,71]],?_⟩
     simp[bL,cL,ab,af,Tk.refs,Tl.refs,VL.refs]
     exact sX _ (by simp)
    ·by_cases D3:w.top<c
     ·simp[Ga,D3,hx,OU,hi,OT,ht,wj,-getElem?_pos]
      refine⟨[.keep [3,8,10,13,14,15,54,55,69,70,71]],?_⟩
      simp[bL,cL,ab,af,Tk.refs,Tl.refs,VL.refs]
      exact sX _ (by simp)
     ·simp[Ga,D3,hx,OU,hi,OT,ht,wj,-getElem?_pos]
      refine⟨[.keep [3,8,10,13,14,15,54,55,69,70,71]],?_⟩
      simp[bL,cL,ab,af,Tk.refs,Tl.refs,VL.refs]
      exact sX _ (by simp)
   ·have Ga:¬1<v:=vy
    cases ob
    ·have:=f1 rfl
     subst this
     simp[Ga,hx,OU,hi,OT,ht,wj,-getElem?_pos]
     refine⟨[.keep [3,8,10,13,14,15,54,55,69,70,71]],?_⟩
     simp[bL,cL,ab,af,Tk.refs,Tl.refs,VL.refs]
     exact sX _ (by simp)
    ·cases nb
     ·have D3:¬w.top<c:=λh=>by have:=f3 h;cases this
      simp[Ga,D3,hx,OU,hi,OT,ht,wj,-getElem?_pos]
      refine⟨[.keep [3,8,10,13,14,15,54,55,69,70,71]],?_⟩
      simp[bL,cL,ab,af,Tk.refs,Tl.refs,VL.refs]
      exact sX _ (by simp)
     ·by_cases D3:w.top<c
      ·simp[Ga,D3,hx,OU,hi,OT,ht,wj,-getElem?_pos]
       refine⟨[.keep [3,8,10,13,14,15,54,55,69,70,71]],?_⟩
       simp[bL,cL,ab,af,Tk.refs,Tl.refs,VL.refs]
       exact sX _ (by simp)
      ·simp[Ga,D3,hx,OU,hi,OT,ht,wj,-getElem?_pos]
       refine⟨[.keep [3,8,10,13,14,15,54,55,69,70,71]],?_⟩
       simp[bL,cL,ab,af,Tk.refs,Tl.refs,VL.refs]
       exact sX _ (by simp)
  ·obtain⟨q1,q2,q3,q4⟩:=kX
   simp[↓aA,hx,OU,hi,OT,q1,q2,q3,q4,wi,-getElem?_pos]
   refine⟨[.keep [3,8,10,13,14,54,55]],?_⟩
   simp[bL,cL,ab,af,Tk.refs,Tl.refs,VL.refs]
   exact hK _ (by simp)
 ·simp[↓aA]
  refine al.ret R0 (by simp) (by simp) (by simp) ?_
  simp
  refine aL.plain [] ?_
  simp
end Go.Ab
end T3s

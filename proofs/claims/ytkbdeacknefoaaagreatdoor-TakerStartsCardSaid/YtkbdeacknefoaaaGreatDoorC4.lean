/- The law TakerStarts. No condition. -/
import Derived.Test.YtkbdeacknefoaaaGreatDoorC3
set_option maxRecDepth 10000
set_option maxHeartbeats 4000000
set_option linter.all false
noncomputable section Z16s
namespace Go.Ab
open Go.Ab
theorem Rx:a8 Pg I.df [.st 2 [.sl 1 [] false,.bl false],.st 2 [.sl 1 [] false,.bl false]] (.bl true):=by
 refine af.intro T.df (by simp[F.df]) ?_
 simp[F.df,ai,aG,ir]
 refine aC.plain [] ?_
 simp
theorem Ry {c:qQ} (h:tp c):a8 Pg I.fL [gC c,gC c] (.bl true):=by
 refine af.intro T.fL (by simp[F.fL]) ?_
 have qU:=h.len
 simp[F.fL,ai,aG]
 refine gR.iw c.aj.length (λ_=>True) [2,3,4,32,33] (λi=>[(33,.int .i64 i)]) (λi=>[]) [.keep [2,3,4,32,33]] ?_
 simp
 refine⟨λi hi K hK=> ?_,λK=> ?_⟩
 ·have hx:c.aj[i]? =some c.aj[i]:=gJ hi
  have pH:=(h.pc _ (List.getElem_mem hi)).len
  have hw:IntKind.i64.wrap ((i:Int)+1)=(i:Int)+1:=wrap_i64 (by omega)
  have nq:(i:Int)<c.aj.length:=by omega
  generalize c.aj[i]=p at*
  have fe:=ml p.ep
  simp[↓an,hx,hi,nq,-getElem?_pos]
  refine oJ.run [6] rfl ?_
  simp[hx,hi,fe,-getElem?_pos]
  refine gR.iw p.allowed.length (λ_=>True) [2,3,4,6,7,32,33,90,91] (λj=>[(91,.int .i64 j)]) (λj=>[]) [.keep [2,3,4,6,7,32,33,90,91]] ?_
  simp
  refine⟨λj hj K2 nn=> ?_,λK2=> ?_⟩
  ·have A1:p.allowed[j]? =some p.allowed[j]:=gJ hj
   have Kx:IntKind.i64.wrap ((j:Int)+1)=(j:Int)+1:=wrap_i64 (by omega)
   have rK:(j:Int)<p.allowed.length:=by omega
   generalize p.allowed[j]=x at*
   have fx:=iL x
   simp[↓an,A1,hj,rK,Kx,fx,-getElem?_pos]
   refine⟨[.keep [2,3,4,6,7,32,33,90,91]],?_⟩
   simp
   exact nn _ (by simp)
  ·simp[↓an,hw]
   refine⟨[.keep [2,3,4,32,33],.dr 6,.dr 7],?_⟩
   simp
   exact hK _ (by simp)
 ·simp[↓an]
  refine aC.plain [] ?_
  simp
theorem T1:Sml Fo:=by
 constructor<;>simp[Fo]
theorem Rz {c:qQ} (h:tp c) (r:nS) (k:Key) (lo hi:Int):a8 Pg I.dQ [mU r c k lo hi,mU r c k lo hi] (.bl true):=by
 refine af.intro T.dQ (by simp[F.dQ]) ?_
 have fr:=Ar r
 simp[F.dQ,ai,aG,mU,av]
 refine al.ret (dm T1) (by simp) (by simp) (by simp) ?_
 simp[fr,av]
 refine al.ret (Ry h) (by simp) (by simp) (by simp) ?_
 simp[av]
 refine al.ret Rx (by simp) (by simp) (by simp) ?_
 have hPz:Pz=aW kZ:=WK.symm
 simp[av,ir,hPz]
 refine aC.plain [] ?_
 simp
theorem W7 {r:nS} (hl:um r.load) (hs:um r.lq) {c:qQ} (h:tp c) (k:Key) (lo hi now:Int):
  a8 Pg I.jv [mU r c k lo hi,.int .i64 now] (.tup [kO (uq r c k now).1,.int .i64 (uq r c k now).2]):=by
 refine af.intro T.jv (by simp[F.jv]) ?_
 simp[F.jv,ai,aG,mU,av]
 refine al.ret (aeo hl hs h k now) (by simp) (by simp) (by simp) ?_
 simp
 refine aC.plain [.keep [4,5]] ?_
 simp[gF]
theorem W8 {r:nS} (hl:um r.load) (hs:um r.lq) {c:qQ} (h:tp c) (k:Key) (lo hi now:Int):
  a8 Pg I.fg [mU r c k lo hi,.int .i64 now] (.tup [kO (uq r c k now).1,.int .i64 (uq r c k now).2]):=by
 refine af.intro T.fg (by simp[F.fg]) ?_
 simp[F.fg,ai,aG,mU,av]
 refine al.ret (aep hl hs h k now) (by simp) (by simp) (by simp) ?_
 simp
 refine aC.plain [.keep [4,5]] ?_
 simp[gF]
theorem vP (a b m n:Int):a8 Pg I.fM [.int .i64 a,.int .i64 b,.int .i64 m,.int .i64 n] (.int .i64 (if max a m≤min b n then min b n else 0)):=by
 refine af.intro T.fM (by simp[F.fM]) ?_
 by_cases h:max a m≤min b n
 ·simp only[h,if_true]
  simp[F.fM,ai,aG,h]
  refine aC.plain [] ?_
  simp
 ·simp only[h,if_false]
  simp[F.fM,ai,aG,h]
  refine aC.plain [] ?_
  simp
theorem Ft (a b m n:Int):a8 Pg I.cT [.int .i64 a,.int .i64 b,.int .i64 m,.int .i64 n] (.int .i64 (if max a m≤min b n then min b n else 0)):=by
 refine af.intro T.cT (by simp[F.cT]) ?_
 by_cases h1:min b n<a
 ·rw[if_neg (by omega)]
  simp[F.cT,ai,aG,h1]
  refine aC.plain [] ?_
  simp
 ·by_cases h2:min b n<m
  ·rw[if_neg (by omega)]
   simp[F.cT,ai,aG,h1,h2]
   refine aC.plain [] ?_
   simp
  ·rw[if_pos (by omega)]
   simp[F.cT,ai,aG,h1,h2]
   refine aC.plain [] ?_
   simp
theorem Dw (x n:Int) (h:0<n): -n<x.tmod n∧x.tmod n<n:=by
 have h1:=Int.tmod_lt_of_pos x h
 have h2:=Int.tmod_lt_of_pos (-x) h
 rw[Int.neg_tmod]at h2
 omega
theorem W9 {x:Int}:∃m:Int,a8 Pg I.eV [.int .i64 x,.int .i64 1099511627778] (.int .i64 m):=by
 obtain⟨a1,a2⟩:=Dw x 1099511627778 (by omega)
 have w1:IntKind.i64.wrap (x.tmod 1099511627778)=x.tmod 1099511627778:=wrap_i64 (by omega)
 have w2:IntKind.i64.wrap (x.tmod 1099511627778+1099511627778)=x.tmod 1099511627778+1099511627778:=wrap_i64 (by omega)
 obtain⟨b1,b2⟩:=Dw (x.tmod 1099511627778+1099511627778) 1099511627778 (by omega)
 have w3:IntKind.i64.wrap ((x.tmod 1099511627778+1099511627778).tmod 1099511627778)=(x.tmod 1099511627778+1099511627778).tmod 1099511627778:=wrap_i64 (by omega)
 refine⟨(x.tmod 1099511627778+1099511627778).tmod 1099511627778,?_⟩
 refine af.intro T.eV (by simp[F.eV]) ?_
 simp[F.eV,ai,aG,w1,w2,w3]
 refine aC.plain [] ?_
 simp
theorem RA (x:Int):∃m:Int,a8 Pg I.eN [.int .i64 x,.int .i64 5] (.int .i64 m):=by
 obtain⟨a1,a2⟩:=Dw x 5 (by omega)
 have w1:IntKind.i64.wrap (x.tmod 5)=x.tmod 5:=wrap_i64 (by omega)
 have w2:IntKind.i64.wrap (x.tmod 5+5)=x.tmod 5+5:=wrap_i64 (by omega)
 obtain⟨b1,b2⟩:=Dw (x.tmod 5+5) 5 (by omega)
 have w3:IntKind.i64.wrap ((x.tmod 5+5).tmod 5)=(x.tmod 5+5).tmod 5:=wrap_i64 (by omega)
 refine⟨(x.tmod 5+5).tmod 5,?_⟩
 refine af.intro T.eN (by simp[F.eN]) ?_
 simp[F.eN,ai,aG,w1,w2,w3]
 refine aC.plain [] ?_
 simp
theorem RB:a8 Pg I.fh [] (.bl true):=by
 refine af.intro T.fh (by simp[F.fh]) ?_
 have h1:=vP 1 2 2 3
 have h2:=vP 1 1 2 3
 rw[show(if max (1:Int) 2≤min 2 3 then min (2:Int) 3 else 0)=2 by decide]at h1
 rw[show(if max (1:Int) 2≤min 1 3 then min (1:Int) 3 else 0)=0 by decide]at h2
 simp[F.fh,ai,aG]
 refine al.ret h1 (by simp) (by simp) (by simp) ?_
 simp
 refine al.ret h2 (by simp) (by simp) (by simp) ?_
 simp
 refine aC.plain [] ?_
 simp
end Go.Ab
end Z16s
noncomputable section Z17s
namespace Go.Ab
open Go.Ab
theorem Xa {ps:List jy} {q:jy} (h:q∈s2 ps):q∈ps:=by
 unfold s2 at h
 split at h
 ·split at h<;>simp_all [or_comm]
 ·exact h
theorem RC {r:nS} {c:qQ} (h:tp c) (k:Key) (now:Int):Sml (uq r c k now).1:=by
 unfold uq
 split
 ·have h1:=h.len
  have h2:=h.ln
  have h3:=(AM _ c.aj rfl).1
  have h4:=Du now (c.aj.map fS)
  rw[List.length_map]at h4
  refine⟨by show(s2 (c.aj.map fS)).length≤_;rw[Ck,List.length_map];omega,by show(Dr c.aj).length≤_;omega,by simp[gk],by show(Bu now (c.aj.map fS)).length≤_;omega,by simp[gk],by simp[gk],λp hp=> ?_⟩
  obtain⟨q,_,rfl⟩:=List.mem_map.1 (Xa hp)
  simp[fS]
 ·exact T1
noncomputable def F.law:aY:=⟨F.bP.nt,F.bP.res,mP F.bP.code [1,1,1]⟩
theorem T.law:kL Pg [] [112,99] I.bP=some F.law.er:=Iq [1,1,1] T.bP
theorem Fu {l:List UInt8} (hl:l.length≤9223372036854775807) (k:Key) {lo hi least most now bad:Int} (Ko:um lo):
  a8 Pg I.bP [eY l,aW k,.int .i64 lo,.int .i64 hi,.int .i64 least,.int .i64 most,.int .i64 now,.int .u8 bad] (.bl true):=by
 refine af.intro T.law (by simp[F.law,F.bP]) ?_
 simp[F.law,F.bP,mP,ai,aG]
 refine al.gen [] [31] [] (aeq hl (n:=200) (by omega)) (by simp[getAll]) (by simp) (by simp) (by simp[ae,ab,bS,idx]) (by simp) (by simp[aO,az,bE,idx]) (by simp) (by simp[ah,ab,ae,eI]) ?_
 have o0:im ⟨l.take 200,0⟩:=⟨by simp only[lJ];omega,by simp⟩
 simp[bB,aM,az,aO,fu]
 refine al.vK 31 (Fb o0) (by simp) (by simp[ae,ab,bS,idx]) (by simp[aO,az,bE,idx]) (by simp) ?_
 rintro⟨ru,c1⟩ ⟨Cq,o1⟩
 simp at Cq o1
 simp
 refine al.vK 31 (Ri o1) (by simp) (by simp[ae,ab,bS,idx]) (by simp[aO,az,bE,idx]) (by simp) ?_
 rintro⟨x,c2⟩ ⟨⟨Uh,n,lf,hn2,AS⟩,o2⟩
 simp only at Uh AS o2
 have hcf:=tp.of Uh hn2 AS
 simp
 obtain⟨M,hM⟩:∃M:St->Prop,∀s',M s'↔∃r:nS,(um r.load∧um r.lq)∧s'=⟨[(2,.int .i64 lo),(3,.int .i64 hi),(4,.int .i64 least),(5,.int .i64 most),(6,.int .i64 now),(9,.pt 9 [] 0),(16,.bl false),(18,.pt 18 [] 0),(19,.pt 19 [] 0)],[(9,.box (aW k)),(18,.box (dE r)),(19,.box (gC x))]⟩:=⟨_,λ_=>Iff.rfl⟩
 have Yc:um ru.load∧um ru.lq:=by unfold AF at Cq;unfold um;omega
 refine N0.of M ?_ ?_
 ·by_cases hb:bad.tmod 4=1
  ·simp[hb]
   refine⟨[.keep [2,3,4,5,6,9,16,18,19],.dr 31],?_⟩
   simp
   exact(hM _).2 ⟨{ru with lq:=lo},⟨Yc.1,Ko⟩,rfl⟩
  ·simp[hb]
   refine⟨[.keep [2,3,4,5,6,9,16,18,19],.dr 31],?_⟩
   simp
   exact(hM _).2 ⟨ru,Yc,rfl⟩
 intro s' pz
 obtain⟨r,⟨DQ,afS⟩,rfl⟩:=(hM _).1 pz
 clear pz hM M Cq Yc
 obtain⟨m,hm⟩:=W9 (x:=now)
 have hsm:=RC (r:=r) hcf k m
 have hf1:=W7 DQ afS hcf k lo hi m
 have hf2:=W8 DQ afS hcf k lo hi m
 obtain⟨m1,DP⟩:=RA lo
 obtain⟨m2,NU⟩:=RA hi
 obtain⟨m3,Yb⟩:=RA least
 obtain⟨m4,hm4⟩:=RA most
 generalize uq r x k m=D at*
 have hD:=dm hsm
 simp
 refine oJ.run [] rfl ?_
 simp
 refine aU.ret (W5 hcf r k lo hi) (by simp) (by simp) (by simp) ?_
 simp
 refine aU.ret (W6 x r k lo hi) (by simp) (by simp) (by simp) ?_
 simp
 refine oJ.run [] rfl ?_
 simp
 refine aU.ret hm (by simp) (by simp) (by simp) ?_
 simp
 refine aU.ret hf1 (by simp) (by simp) (by simp) ?_
 simp
 refine oJ.run [] rfl ?_
 simp
 refine aU.ret hm (by simp) (by simp) (by simp) ?_
 simp
 refine aU.ret hf2 (by simp) (by simp) (by simp) ?_
 simp
 refine al.ret DP (by simp) (by simp) (by simp) ?_
 simp
 refine al.ret NU (by simp) (by simp) (by simp) ?_
 simp
 refine al.ret Yb (by simp) (by simp) (by simp) ?_
 simp
 refine al.ret hm4 (by simp) (by simp) (by simp) ?_
 simp
 refine al.ret (Rz hcf r k lo hi) (by simp) (by simp) (by simp) ?_
 simp
 refine al.ret hD (by simp) (by simp) (by simp) ?_
 simp
 refine al.ret (vP lo hi least most) (by simp) (by simp) (by simp) ?_
 simp
 refine al.ret (Ft lo hi least most) (by simp) (by simp) (by simp) ?_
 simp
 refine al.ret (vP m1 m2 m3 m4) (by simp) (by simp) (by simp) ?_
 simp
 refine al.ret (Ft m1 m2 m3 m4) (by simp) (by simp) (by simp) ?_
 simp
 refine al.ret RB (by simp) (by simp) (by simp) ?_
 simp
 refine aC.plain [.keep [16]] ?_
 simp
end Go.Ab
end Z17s

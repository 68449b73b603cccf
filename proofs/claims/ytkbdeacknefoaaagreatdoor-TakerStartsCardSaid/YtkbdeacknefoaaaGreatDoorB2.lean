/- The ladder of the program and of the document. No condition. -/
import Derived.Test.YtkbdeacknefoaaaGreatDoorB1
set_option maxRecDepth 10000
set_option maxHeartbeats 8000000
set_option linter.all false
noncomputable section Y6s
namespace Go.Ab
open Go.Ab
def pF (k:Key) (i:Nat):Nat:=mC ((k.l.drop (8*i)).take 8) 8
theorem C6 (k:Key) (i:Nat):pF k i<18446744073709551616:=wX _ 8
def qL (k:Key):Fe:=⟨pF k 0%2251799813685248,(pF k 0/2251799813685248+pF k 1*8192)%2251799813685248,(pF k 1/274877906944+pF k 2*67108864)%2251799813685248,(pF k 2/33554432+pF k 3*549755813888)%2251799813685248,pF k 3/4096%2251799813685248⟩
theorem EM (k:Key):(qL k).Le PB:=by
 have hP:PB=2251799813947392:=rfl
 constructor<;>rw[hP]<;>dsimp only[qL]<;>omega
theorem GJ (n d:Nat):(n:Int).fdiv (d:Int)=((n/d:Nat):Int):=by
 rw[Int.fdiv_eq_ediv_of_nonneg _ (Int.natCast_nonneg _),←Int.natCast_ediv]
theorem orM {x y s:Nat} (hs:s≤51) (hx:x<2^s):bits .and .u64 (bits .or .u64 (x:Int) (IntKind.u64.wrap ((y:Int)*((2^s:Nat):Int)))) 2251799813685247=(((x+y*2^s)%2251799813685248:Nat):Int):=by
 have h1:(y:Int)*((2^s:Nat):Int)=((y*2^s:Nat):Int):=by simp
 have hd:2^s∣18446744073709551616:=by
  rw[show 18446744073709551616=2^64 from rfl];exact Nat.pow_dvd_pow 2 (by omega)
 have h2:y*2^s%18446744073709551616%2^s=0:=by
  rw[Nat.mod_mod_of_dvd _ hd];exact Nat.mul_mod_left _ _
 have h5:2^s≤2^51:=Nat.pow_le_pow_right (by decide) hs
 have h6:(2:Nat)^51=2251799813685248:=by decide
 rw[h6]at h5
 have hm:y*2^s%18446744073709551616<18446744073709551616:=Nat.mod_lt _ (by decide)
 rw[h1,wrN,u64_or_nat x _ (by omega) hm,Nat.or_comm,nat_join s _ x h2 hx]
 have h3:y*2^s%18446744073709551616+x<18446744073709551616:=by
  have h4:∃q,18446744073709551616=2^s*q:=hd
  obtain⟨q,hq⟩:=h4
  have h7:y*2^s%18446744073709551616=2^s*(y%q):=by
   rw[hq,Nat.mul_comm y,Nat.mul_mod_mul_left]
  have hq0:0<q:=by rcases Nat.eq_zero_or_pos q with h|h;rw[h]at hq;simp at hq;exact h
  have h8:y%q+1≤q:=Nat.mod_lt _ hq0
  have h9:2^s*(y%q+1)≤2^s*q:=Nat.mul_le_mul_left _ h8
  rw[Nat.mul_add,Nat.mul_one,←hq]at h9
  rw[h7]
  omega
 rw[pS h3]
 congr 1
 omega
theorem iV (k:Key):a8 Pg I.iV [aW k] (iU (qL k)):=by
 refine af.intro T.iV (by simp[F.iV]) ?_
 have z4:zr 4 (PV.int IntKind.u64 0)=[.int .u64 0,.int .u64 0,.int .u64 0,.int .u64 0]:=by rw[iq];rfl
 have oe:=k.h
 have hr:∀i,i<4->a8 Pg I.cI [.sl 1 (((k.l.drop (8*i)).take 8).map u8) false] (.int .u64 (pF k i)):=by
  intro i hi
  have hl:((k.l.drop (8*i)).take 8).length=8:=by rw[lJ,List.length_drop];omega
  have:=cI (l:=(k.l.drop (8*i)).take 8) (by omega)
  rw[hl]at this
  exact this
 have hp:aB (k.l.map u8):=aS (λ_=>by simp[u8]) _
 have hdt:∀i,((k.l.map u8).drop (8*i)).take 8=((k.l.drop (8*i)).take 8).map u8:=λi=>by rw[List.map_take,List.map_drop]
 have qo:∀i,aB (((k.l.drop (8*i)).take 8).map u8):=λi=>aS (λ_=>by simp[u8]) _
 have hlf:qL k=⟨pF k 0%2251799813685248,(pF k 0/2251799813685248+pF k 1*8192)%2251799813685248,(pF k 1/274877906944+pF k 2*67108864)%2251799813685248,(pF k 2/33554432+pF k 3*549755813888)%2251799813685248,pF k 3/4096%2251799813685248⟩:=rfl
 have b0:=C6 k 0
 have b1:=C6 k 1
 have b2:=C6 k 2
 have b3:=C6 k 3
 simp[F.iV,ai,aG,aW,z4,z5]
 refine gR.iw 4 (λ_=>True) [1,2,3,5] (λi=>[(5,.int .i64 i)]) (λi=>[(3,.box (.ar 1 4 (([pF k 0,pF k 1,pF k 2,pF k 3].map λx:Nat=>PV.int .u64 x).take i++[PV.int .u64 0,.int .u64 0,.int .u64 0,.int .u64 0].drop i)))]) [.keep [1,2,3,5]] ?_
 simp
 refine⟨λi hi K hK=> ?_,λK=> ?_⟩
 ·have hd:=hdt i
  have hc:=hr i hi
  have hq:=qo i
  rcases(by omega:i=0∨i=1∨i=2∨i=3)with rfl|rfl|rfl|rfl
  all_goals
   simp[↓an,oe]at hK⊢
   refine al.vw (N:=32) hc (by simp) hp hq (by omega) hd (by simp) rfl ?_
   simp
   refine⟨[.keep [1,2,3,5]],?_⟩
   simp
   exact hK _ (by simp)
 ·have e0:=pS b0
  have s0:=GJ (pF k 0) 2251799813685248
  have s1:=GJ (pF k 1) 274877906944
  have s2:=GJ (pF k 2) 33554432
  have s3:=GJ (pF k 3) 4096
  have o0:=orM (x:=pF k 0/2251799813685248) (y:=pF k 1) (s:=13) (by decide) (by omega)
  have o1:=orM (x:=pF k 1/274877906944) (y:=pF k 2) (s:=26) (by decide) (by omega)
  have o2:=orM (x:=pF k 2/33554432) (y:=pF k 3) (s:=39) (by decide) (by omega)
  have e3:=pS (n:=pF k 3/4096) (by omega)
  rw[hlf]
  clear hlf hr hdt qo
  rw[show((2^13:Nat):Int)=8192 from rfl,show(2^13:Nat)=8192 from rfl]at o0
  rw[show((2^26:Nat):Int)=67108864 from rfl,show(2^26:Nat)=67108864 from rfl]at o1
  rw[show((2^39:Nat):Int)=549755813888 from rfl,show(2^39:Nat)=549755813888 from rfl]at o2
  rw[show((2251799813685248:Nat):Int)=2251799813685248 from rfl]at s0
  rw[show((274877906944:Nat):Int)=274877906944 from rfl]at s1
  rw[show((33554432:Nat):Int)=33554432 from rfl]at s2
  rw[show((4096:Nat):Int)=4096 from rfl]at s3
  generalize (pF k 0/2251799813685248+pF k 1*8192)%2251799813685248=f1 at*
  generalize (pF k 1/274877906944+pF k 2*67108864)%2251799813685248=f2 at*
  generalize (pF k 2/33554432+pF k 3*549755813888)%2251799813685248=f3 at*
  generalize pF k 3/4096%2251799813685248=f4 at*
  generalize pF k 0%2251799813685248=f0 at*
  generalize pF k 0/2251799813685248=g0 at*
  generalize pF k 1/274877906944=g1 at*
  generalize pF k 2/33554432=g2 at*
  generalize pF k 3/4096=g3 at*
  simp[↓an,z5,show IntKind.u64.bits=64 from rfl,e0,s0,s1,s2,s3,o0,o1,o2,e3]
  refine aC.plain [.keep [2],.dr 1,.dr 3] ?_
  simp[iU,Fe.l]
end Go.Ab
end Y6s
noncomputable section Y7s
namespace Go.Ab
open Go.Ab
theorem orT {x y s:Nat} (hs:s≤51) (hx:x<2^s):bits .or .u64 (x:Int) (IntKind.u64.wrap ((y:Int)*((2^s:Nat):Int)))=((x+y*2^s%18446744073709551616:Nat):Int):=by
 have h1:(y:Int)*((2^s:Nat):Int)=((y*2^s:Nat):Int):=by simp
 have hd:2^s∣18446744073709551616:=by
  rw[show 18446744073709551616=2^64 from rfl];exact Nat.pow_dvd_pow 2 (by omega)
 have h2:y*2^s%18446744073709551616%2^s=0:=by
  rw[Nat.mod_mod_of_dvd _ hd];exact Nat.mul_mod_left _ _
 have h5:2^s≤2^51:=Nat.pow_le_pow_right (by decide) hs
 have h6:(2:Nat)^51=2251799813685248:=by decide
 rw[h6]at h5
 have hm:y*2^s%18446744073709551616<18446744073709551616:=Nat.mod_lt _ (by decide)
 rw[h1,wrN,u64_or_nat x _ (by omega) hm,Nat.or_comm,nat_join s _ x h2 hx,Nat.add_comm]
def EN (a:Fe):Nat:=(a.a4+(a.a3+(a.a2+(a.a1+(a.a0+19)/2251799813685248)/2251799813685248)/2251799813685248)/2251799813685248)/2251799813685248
def QB (a:Fe):Nat:=a.a0+19*EN a
def QC (a:Fe):Nat:=a.a1+QB a/2251799813685248
def QD (a:Fe):Nat:=a.a2+QC a/2251799813685248
def QE (a:Fe):Nat:=a.a3+QD a/2251799813685248
def Z7 (a:Fe):Nat:=a.a4+QE a/2251799813685248
def rW (a:Fe):Fe:=⟨QB a%2251799813685248,QC a%2251799813685248,QD a%2251799813685248,QE a%2251799813685248,Z7 a%2251799813685248⟩
def Oj (a:Fe):Nat:=a.a0+a.a1*2251799813685248%18446744073709551616
def Ol (a:Fe):Nat:=a.a1/8192+a.a2*274877906944%18446744073709551616
def QF (a:Fe):Nat:=a.a2/67108864+a.a3*33554432%18446744073709551616
def Tp (a:Fe):Nat:=a.a3/549755813888+a.a4*4096%18446744073709551616
def JM (a:Fe):Key:=⟨js (Oj a) 8++js (Ol a) 8++js (QF a) 8++js (Tp a) 8,by simp[kg]⟩
def zB (n:Nat):List PV:=List.replicate n (PV.int .u8 0)
theorem adw:zr 32 (PV.int IntKind.u8 0)=zB 32:=by rw[iq];rfl
theorem vA (n k:Nat):(zB n).drop k=zB (n-k):=by simp[zB]
@[simp] theorem ahB (n:Nat):aB (zB n):=by unfold zB;exact rO (by simp) n
theorem drp {A:List PV} {n k m:Nat} (hA:A.length=k) (hm:m=k+8):(A++zB n).drop m=zB (n-8):=by
 rw[hm,←List.drop_drop,List.drop_left' hA,vA]
def C7 (a:Fe):Key:=JM (rW (qK a))
theorem QG {a:Fe} (h:a.Le PB):(qK a).Le 4503599627370496:=by
 obtain⟨h0,h1,h2,h3,h4⟩:=h
 have hP:PB=2251799813947392:=rfl
 rw[hP]at h0 h1 h2 h3 h4
 constructor<;>dsimp only[qK]<;>omega
theorem xK {a:Fe} (ha:a.Le PB):a8 Pg I.eZ [iU a] (aW (C7 a)):=by
 refine af.intro T.eZ (by simp[F.eZ]) ?_
 have NL:=tB (ha.mono (by decide))
 have hle:=QG ha
 have hby:C7 a=JM (rW (qK a)):=rfl
 rw[hby]
 clear hby
 have fT:zr 32 (PV.int IntKind.u8 0)=List.replicate 32 (PV.int .u8 0):=by rw[iq]
 have z4:zr 4 (PV.int IntKind.u64 0)=[.int .u64 0,.int .u64 0,.int .u64 0,.int .u64 0]:=by rw[iq];rfl
 simp[F.eZ,ai,aG]
 refine al.ret NL (by simp) (by simp) (by simp) ?_
 generalize qK a=e at*
 clear NL
 obtain⟨a0,a1,a2,a3,a4⟩:=e
 obtain⟨h0,h1,h2,h3,h4⟩:=hle
 dsimp only at h0 h1 h2 h3 h4
 have afA:rW ⟨a0,a1,a2,a3,a4⟩=⟨QB ⟨a0,a1,a2,a3,a4⟩%2251799813685248,QC ⟨a0,a1,a2,a3,a4⟩%2251799813685248,QD ⟨a0,a1,a2,a3,a4⟩%2251799813685248,QE ⟨a0,a1,a2,a3,a4⟩%2251799813685248,Z7 ⟨a0,a1,a2,a3,a4⟩%2251799813685248⟩:=rfl
 rw[afA]
 have k0:QB ⟨a0,a1,a2,a3,a4⟩=a0+19*EN ⟨a0,a1,a2,a3,a4⟩:=rfl
 have k1:QC ⟨a0,a1,a2,a3,a4⟩=a1+QB ⟨a0,a1,a2,a3,a4⟩/2251799813685248:=rfl
 have k2:QD ⟨a0,a1,a2,a3,a4⟩=a2+QC ⟨a0,a1,a2,a3,a4⟩/2251799813685248:=rfl
 have k3:QE ⟨a0,a1,a2,a3,a4⟩=a3+QD ⟨a0,a1,a2,a3,a4⟩/2251799813685248:=rfl
 have k4:Z7 ⟨a0,a1,a2,a3,a4⟩=a4+QE ⟨a0,a1,a2,a3,a4⟩/2251799813685248:=rfl
 have kq:EN ⟨a0,a1,a2,a3,a4⟩=(a4+(a3+(a2+(a1+(a0+19)/2251799813685248)/2251799813685248)/2251799813685248)/2251799813685248)/2251799813685248:=rfl
 obtain⟨c0,hc0⟩:∃c,c=(a0+19)/2251799813685248:=⟨_,rfl⟩
 obtain⟨c1,v8⟩:∃c,c=(a1+c0)/2251799813685248:=⟨_,rfl⟩
 obtain⟨c2,xr⟩:∃c,c=(a2+c1)/2251799813685248:=⟨_,rfl⟩
 obtain⟨c3,hc3⟩:∃c,c=(a3+c2)/2251799813685248:=⟨_,rfl⟩
 obtain⟨c4,hc4⟩:∃c,c=(a4+c3)/2251799813685248:=⟨_,rfl⟩
 rw[←hc0,←v8,←xr,←hc3,←hc4]at kq
 generalize QB ⟨a0,a1,a2,a3,a4⟩=b0 at*
 generalize QC ⟨a0,a1,a2,a3,a4⟩=b1 at*
 generalize QD ⟨a0,a1,a2,a3,a4⟩=b2 at*
 generalize QE ⟨a0,a1,a2,a3,a4⟩=b3 at*
 generalize Z7 ⟨a0,a1,a2,a3,a4⟩=b4 at*
 rw[kq]at k0
 clear afA kq
 have v0:IntKind.u64.wrap ((a0:Int)+19)=((a0+19:Nat):Int):=by rw[wrap_u64 ⟨by omega,by omega⟩];omega
 have v1:IntKind.u64.wrap ((a1:Int)+c0)=((a1+c0:Nat):Int):=by rw[wrap_u64 ⟨by omega,by omega⟩];omega
 have v2:IntKind.u64.wrap ((a2:Int)+c1)=((a2+c1:Nat):Int):=by rw[wrap_u64 ⟨by omega,by omega⟩];omega
 have v3:IntKind.u64.wrap ((a3:Int)+c2)=((a3+c2:Nat):Int):=by rw[wrap_u64 ⟨by omega,by omega⟩];omega
 have v4:IntKind.u64.wrap ((a4:Int)+c3)=((a4+c3:Nat):Int):=by rw[wrap_u64 ⟨by omega,by omega⟩];omega
 have t0:=pg (a0+19)
 have t1:=pg (a1+c0)
 have t2:=pg (a2+c1)
 have t3:=pg (a3+c2)
 have t4:=pg (a4+c3)
 rw[←hc0]at t0
 rw[←v8]at t1
 rw[←xr]at t2
 rw[←hc3]at t3
 rw[←hc4]at t4
 simp[iU,Fe.l,v0,t0,show IntKind.u64.bits=64 from rfl,-Int.natCast_add]
 refine gR.iw 4 (λ_=>True) [1,2,3,4] (λi=>[(3,.int .u64 (([c0,c1,c2,c3,c4].getD i 0:Nat):Int)),(4,.int .i64 ((i+1:Nat):Int))]) (λi=>[]) [.keep [1,2,3,4]] ?_
 simp
 refine⟨λi hi K hK=> ?_,λK=> ?_⟩
 ·rcases(by omega:i=0∨i=1∨i=2∨i=3)with rfl|rfl|rfl|rfl
  all_goals
   simp[↓an,v1,v2,v3,v4,t1,t2,t3,t4,show IntKind.u64.bits=64 from rfl,-Int.natCast_add]at hK⊢
   refine⟨[.keep [1,2,3,4]],?_⟩
   simp
   exact hK _ (by simp)
 ·have q0:c0≤4:=by omega
  have q1:c1≤4:=by omega
  have q2:c2≤4:=by omega
  have q3:c3≤4:=by omega
  have q4:c4≤4:=by omega
  clear v0 v1 v2 v3 v4 t0 t1 t2 t3 t4 hc0 v8 xr hc3 hc4
  have w19:IntKind.u64.wrap (19*(c4:Int))=((19*c4:Nat):Int):=by rw[wrap_u64 ⟨by omega,by omega⟩];omega
  have x0:IntKind.u64.wrap ((a0:Int)+((19*c4:Nat):Int))=(b0:Int):=by rw[wrap_u64 ⟨by omega,by omega⟩];omega
  have j0:b0≤4503599627370600:=by omega
  have y1:IntKind.u64.wrap ((a1:Int)+((b0/2251799813685248:Nat):Int))=(b1:Int):=by rw[wrap_u64 ⟨by omega,by omega⟩];omega
  have j1:b1≤4503599627370600:=by omega
  have y2:IntKind.u64.wrap ((a2:Int)+((b1/2251799813685248:Nat):Int))=(b2:Int):=by rw[wrap_u64 ⟨by omega,by omega⟩];omega
  have j2:b2≤4503599627370600:=by omega
  have y3:IntKind.u64.wrap ((a3:Int)+((b2/2251799813685248:Nat):Int))=(b3:Int):=by rw[wrap_u64 ⟨by omega,by omega⟩];omega
  have j3:b3≤4503599627370600:=by omega
  have y4:IntKind.u64.wrap ((a4:Int)+((b3/2251799813685248:Nat):Int))=(b4:Int):=by rw[wrap_u64 ⟨by omega,by omega⟩];omega
  have j4:b4≤4503599627370600:=by omega
  have g0:=pg b0
  have g1:=pg b1
  have g2:=pg b2
  have g3:=pg b3
  have m0:=pS (n:=b0) (by omega)
  have m1:=pS (n:=b1) (by omega)
  have m2:=pS (n:=b2) (by omega)
  have m3:=pS (n:=b3) (by omega)
  have m4:=pS (n:=b4) (by omega)
  have r0:b0%2251799813685248<2^51:=Nat.mod_lt _ (by decide)
  have r1:b1%2251799813685248<2^51:=Nat.mod_lt _ (by decide)
  have r2:b2%2251799813685248<2^51:=Nat.mod_lt _ (by decide)
  have r3:b3%2251799813685248<2^51:=Nat.mod_lt _ (by decide)
  generalize b0/2251799813685248=e0 at*
  generalize b1/2251799813685248=e1 at*
  generalize b2/2251799813685248=e2 at*
  generalize b3/2251799813685248=e3 at*
  generalize b0%2251799813685248=d0 at*
  generalize b1%2251799813685248=d1 at*
  generalize b2%2251799813685248=d2 at*
  generalize b3%2251799813685248=d3 at*
  generalize b4%2251799813685248=d4 at*
  generalize 19*c4=c19 at*
  clear k0 k1 k2 k3 k4 j0 j1 j2 j3 j4
  simp[↓an,w19,x0]
  refine gR.iw 4 (λ_=>True) [1,2,5] (λi=>[(5,.int .i64 i)]) (λi=>[(1,.box (.ar 1 5 (([[b0,a1,a2,a3,a4],[d0,b1,a2,a3,a4],[d0,d1,b2,a3,a4],[d0,d1,d2,b3,a4],[d0,d1,d2,d3,b4]].getD i []).map λx:Nat=>PV.int .u64 x)))]) [.keep [1,2,5]] ?_
  simp
  refine⟨λi hi K hK=> ?_,λK=> ?_⟩
  ·rcases(by omega:i=0∨i=1∨i=2∨i=3)with rfl|rfl|rfl|rfl
   all_goals
    simp[↓an,y1,y2,y3,y4,g0,g1,g2,g3,m0,m1,m2,m3,show IntKind.u64.bits=64 from rfl]at hK⊢
    refine⟨[.keep [1,2,5]],?_⟩
    simp
    exact hK _ (by simp)
  ·have f0:Oj ⟨d0,d1,d2,d3,d4⟩=d0+d1*2251799813685248%18446744073709551616:=rfl
   have f1:Ol ⟨d0,d1,d2,d3,d4⟩=d1/8192+d2*274877906944%18446744073709551616:=rfl
   have f2:QF ⟨d0,d1,d2,d3,d4⟩=d2/67108864+d3*33554432%18446744073709551616:=rfl
   have f3:Tp ⟨d0,d1,d2,d3,d4⟩=d3/549755813888+d4*4096%18446744073709551616:=rfl
   have o0:=orT (x:=d0) (y:=d1) (s:=51) (by decide) r0
   have o1:=orT (x:=d1/8192) (y:=d2) (s:=38) (by decide) (by omega)
   have o2:=orT (x:=d2/67108864) (y:=d3) (s:=25) (by decide) (by omega)
   have o3:=orT (x:=d3/549755813888) (y:=d4) (s:=12) (by decide) (by omega)
   rw[show((2^51:Nat):Int)=2251799813685248 from rfl,show(2^51:Nat)=2251799813685248 from rfl,←f0]at o0
   rw[show((2^38:Nat):Int)=274877906944 from rfl,show(2^38:Nat)=274877906944 from rfl,←f1]at o1
   rw[show((2^25:Nat):Int)=33554432 from rfl,show(2^25:Nat)=33554432 from rfl,←f2]at o2
   rw[show((2^12:Nat):Int)=4096 from rfl,show(2^12:Nat)=4096 from rfl,←f3]at o3
   have s1:=GJ d1 8192
   have s2:=GJ d2 67108864
   have s3:=GJ d3 549755813888
   rw[show((8192:Nat):Int)=8192 from rfl]at s1
   rw[show((67108864:Nat):Int)=67108864 from rfl]at s2
   rw[show((549755813888:Nat):Int)=549755813888 from rfl]at s3
   have hk:aW (JM ⟨d0,d1,d2,d3,d4⟩)= .ar 1 32 ((js (Oj ⟨d0,d1,d2,d3,d4⟩) 8++js (Ol ⟨d0,d1,d2,d3,d4⟩) 8++js (QF ⟨d0,d1,d2,d3,d4⟩) 8++js (Tp ⟨d0,d1,d2,d3,d4⟩) 8).map u8):=rfl
   rw[hk]
   clear hk f0 f1 f2 f3
   generalize Oj ⟨d0,d1,d2,d3,d4⟩=W0 at*
   generalize Ol ⟨d0,d1,d2,d3,d4⟩=W1 at*
   generalize QF ⟨d0,d1,d2,d3,d4⟩=W2 at*
   generalize Tp ⟨d0,d1,d2,d3,d4⟩=W3 at*
   generalize d1/8192=p1 at*
   generalize d2/67108864=p2 at*
   generalize d3/549755813888=p3 at*
   have L0:=dY (n:=W0) (k:=8) (by omega) (by omega)
   have L1:=dY (n:=W1) (k:=8) (by omega) (by omega)
   have L2:=dY (n:=W2) (k:=8) (by omega) (by omega)
   have L3:=dY (n:=W3) (k:=8) (by omega) (by omega)
   have l0:=kg W0 8
   have l1:=kg W1 8
   have l2:=kg W2 8
   have l3:=kg W3 8
   generalize js W0 8=B0 at*
   generalize js W1 8=B1 at*
   generalize js W2 8=B2 at*
   generalize js W3 8=B3 at*
   have p0:aB (B0.map u8):=aS (λ_=>by simp[u8]) B0
   have p1:aB (B1.map u8):=aS (λ_=>by simp[u8]) B1
   have p2:aB (B2.map u8):=aS (λ_=>by simp[u8]) B2
   have p3:aB (B3.map u8):=aS (λ_=>by simp[u8]) B3
   unfold eY at L0 L1 L2 L3
   rw[List.map_append,List.map_append,List.map_append]
   have l0:(B0.map u8).length=8:=by rw[List.length_map,l0]
   have l1:(B1.map u8).length=8:=by rw[List.length_map,l1]
   have l2:(B2.map u8).length=8:=by rw[List.length_map,l2]
   have l3:(B3.map u8).length=8:=by rw[List.length_map,l3]
   generalize B0.map u8=P0 at*
   generalize B1.map u8=P1 at*
   generalize B2.map u8=P2 at*
   generalize B3.map u8=P3 at*
   have t0:P0.take 8=P0:=tJ (by omega)
   have t1:P1.take 8=P1:=tJ (by omega)
   have t2:P2.take 8=P2:=tJ (by omega)
   have t3:P3.take 8=P3:=tJ (by omega)
   have r1:(P0++zB 24).drop 16=zB 16:=drp l0 rfl
   have r2:(P0++(P1++zB 16)).drop 24=zB 8:=by rw[←List.append_assoc];exact drp (by simp[l0,l1]) rfl
   have r3:(P0++(P1++(P2++zB 8))).drop 32=[]:=by rw[←List.append_assoc,←List.append_assoc,drp (k:=24) (by simp[l0,l1,l2]) rfl];rfl
   have k2:(P0++(P1++zB 16)).take 16=P0++P1:=by rw[←List.append_assoc];exact List.take_left' (by simp[l0,l1])
   have k3:(P0++(P1++(P2++zB 8))).take 24=P0++(P1++P2):=by rw[←List.append_assoc,←List.append_assoc,List.take_left' (by simp[l0,l1,l2]),List.append_assoc]
   simp[↓an,z4,adw,m4,s1,s2,s3,o0,o1,o2,o3,show IntKind.u64.bits=64 from rfl]
   refine gR.iw 4 (λ_=>True) [1,2,6,7,84,85] (λi=>[(85,.int .i64 i)]) (λi=>[(7,.box (.ar 1 32 ([zB 32,P0++zB 24,P0++P1++zB 16,P0++P1++P2++zB 8,P0++P1++P2++P3].getD i [])))]) [.keep [1,2,6,7,84,85]] ?_
   simp
   refine⟨λi hi K hK=> ?_,λK=> ?_⟩
   ·rcases(by omega:i=0∨i=1∨i=2∨i=3)with rfl|rfl|rfl|rfl
    ·simp[↓an]at hK⊢
     refine aU.ret L0 (by simp) (by simp) (by simp[p0]) ?_
     simp[l0,t0,vA]
     refine⟨[.keep [1,2,6,7,84,85]],?_⟩
     simp[p0]
     exact hK _ (by simp)
    ·simp[↓an]at hK⊢
     refine aU.ret L1 (by simp) (by simp) (by simp[p1]) ?_
     simp[l0,l1,l2,l3,t1,vA,r1,r2,r3,k2,k3]
     refine⟨[.keep [1,2,6,7,84,85]],?_⟩
     simp[p0,p1,p2,p3]
     exact hK _ (by simp)
    ·simp[↓an]at hK⊢
     refine aU.ret L2 (by simp) (by simp) (by simp[p2]) ?_
     simp[l0,l1,l2,l3,t2,vA,r1,r2,r3,k2,k3]
     refine⟨[.keep [1,2,6,7,84,85]],?_⟩
     simp[p0,p1,p2,p3]
     exact hK _ (by simp)
    ·simp[↓an]at hK⊢
     refine aU.ret L3 (by simp) (by simp) (by simp[p3]) ?_
     simp[l0,l1,l2,l3,t3,vA,r1,r2,r3,k2,k3]
     refine⟨[.keep [1,2,6,7,84,85]],?_⟩
     simp[p0,p1,p2,p3]
     exact hK _ (by simp)
   ·have hP:aB (P0++(P1++(P2++P3))):=by simp[p0,p1,p2,p3]
    simp[↓an]
    refine aC.plain [.keep [2],.dr 1,.dr 6,.dr 7] ?_
    simp[ab,hP.refs,p0,p1,p2,p3]
end Go.Ab
end Y7s
noncomputable section Y8s
namespace Go.Ab
open Go.Ab
def xL (k:Key):Key:=⟨(k.l.set 0 (k.l.getD 0 0&&&248)).set 31 (k.l.getD 31 0&&&127|||64),by rw[List.length_set,List.length_set];exact k.h⟩
theorem ik (k:Key):a8 Pg I.ik [aW k] (aW (xL k)):=by
 refine af.intro T.ik (by simp[F.ik]) ?_
 have hl:=k.h
 have h0:k.l[0]? =some (k.l.getD 0 0):=by rw[List.getD_eq_getElem?_getD,gJ (by omega)];rfl
 have h31:k.l[31]? =some (k.l.getD 31 0):=by rw[List.getD_eq_getElem?_getD,gJ (by omega)];rfl
 have hc:aW (xL k)= .ar 1 32 (((k.l.map u8).set 0 (u8 (k.l.getD 0 0&&&248))).set 31 (u8 (k.l.getD 31 0&&&127|||64))):=by simp[aW,xL,List.map_set]
 rw[hc]
 generalize k.l.getD 0 0=x at*
 generalize k.l.getD 31 0=y at*
 have b0:=u8_and_nat x.toNat 248 x.toNat_lt (by decide)
 have b1:=u8_and_nat y.toNat 127 y.toNat_lt (by decide)
 have hy:y.toNat&&&127<256:=Nat.lt_of_le_of_lt Nat.and_le_right (by decide)
 have b2:=u8_or_nat (y.toNat&&&127) 64 hy (by decide)
 rw[←b1]at b2
 have e0:u8 (x&&&248)= .int .u8 (bits .and .u8 (x.toNat:Int) 248):=by rw[show(248:Int)=((248:Nat):Int) from rfl,b0];rfl
 have e1:u8 (y&&&127|||64)= .int .u8 (bits .or .u8 (bits .and .u8 (y.toNat:Int) 127) 64):=by rw[show(127:Int)=((127:Nat):Int) from rfl,show(64:Int)=((64:Nat):Int) from rfl,b2];rfl
 have hp:aB (k.l.map u8):=aS (λ_=>by simp[u8]) _
 rw[e0,e1]
 simp[F.ik,ai,aG,aW,hl,h0,h31,u8,-getElem?_pos]
 have hPV:∀X Y:PV,Pure X->Pure Y->aB (((k.l.map u8).set 0 X).set 31 Y):=λX Y hX hY=>aB.mk' λq hq=>by
  rcases List.mem_or_eq_of_mem_set hq with hq|rfl
  ·rcases List.mem_or_eq_of_mem_set hq with hq|rfl
   ·obtain⟨b,_,rfl⟩:=List.mem_map.1 hq
    simp[u8]
   ·exact hX
  ·exact hY
 have hV:=hPV (PV.int IntKind.u8 (bits BinOp.and IntKind.u8 (↑x.toNat) 248)) (PV.int IntKind.u8 (bits BinOp.or IntKind.u8 (bits BinOp.and IntKind.u8 (↑y.toNat) 127) 64)) (by simp) (by simp)
 generalize (((k.l.map u8).set 0 (PV.int IntKind.u8 (bits BinOp.and IntKind.u8 (↑x.toNat) 248))).set 31 (PV.int IntKind.u8 (bits BinOp.or IntKind.u8 (bits BinOp.and IntKind.u8 (↑y.toNat) 127) 64)))=V at*
 refine aC.plain [.keep [2],.dr 1] ?_
 simp[ab,hV.refs]
 exact hV
def EO:Fe:=⟨0,0,0,0,0⟩
def cF:Fe:=⟨121665,0,0,0,0⟩
structure Lad where
 x2:Fe
 z2:Fe
 x3:Fe
 z3:Fe
 last:Int
structure Lad.Ok (L:Lad):Prop where
 BK:L.x2.Le PB
 EP:L.z2.Le PB
 Tq:L.x3.Le PB
 Tr:L.z3.Le PB
def Bp (x1 x2 z2 x3 z3:Fe) (bit:Int):Lad:=
 let a:=pE x2 z2
 let b:=pe x2 z2
 let aa:=iE a a
 let bb:=iE b b
 let e:=pe aa bb
 let da:=iE (pe x3 z3) a
 let cb:=iE (pE x3 z3) b
 let s:=pE da cb
 let d:=pe da cb
 ⟨iE aa bb,iE (pE (iE e cF) aa) e,iE s s,iE (iE d d) x1,bit⟩
def qM (n:Key) (t:Nat):Int:=bits .and .u8 (((n.l.getD (t/8) 0).toNat:Int).fdiv (2^min (t%8) 8)) 1
def iM (n:Key) (x1:Fe):Nat->Lad
 |0=>⟨uf,EO,x1,uf,0⟩
 |i+1=>if qM n (254-i)=(iM n x1 i).last then Bp x1 (iM n x1 i).x2 (iM n x1 i).z2 (iM n x1 i).x3 (iM n x1 i).z3 (qM n (254-i))else Bp x1 (iM n x1 i).x3 (iM n x1 i).z3 (iM n x1 i).x2 (iM n x1 i).z2 (qM n (254-i))
theorem ER:cF.Le PB:=by constructor<;>decide
theorem Mm:EO.Le PB:=by constructor<;>decide
theorem HX {x1 x2 z2 x3 z3:Fe} (h1:x1.Le PB) (a2:x2.Le PB) (b2:z2.Le PB) (a3:x3.Le PB) (b3:z3.Le PB) (bit:Int):(Bp x1 x2 z2 x3 z3 bit).Ok:=by
 have ha:=kt a2 b2
 have hb:=ld (b:=z2) a2
 have yw:=eP ha ha
 have BD:=eP hb hb
 have he:=ld (b:=iE (pe x2 z2) (pe x2 z2)) yw
 have Ba:=eP (ld (b:=z3) a3) ha
 have DL:=eP (kt a3 b3) hb
 have hs:=kt Ba DL
 have hd:=ld (b:=iE (pE x3 z3) (pe x2 z2)) Ba
 exact⟨eP (yw.mono jF) (BD.mono jF),eP (kt (eP he (ER.mono jF)) yw) he,eP hs hs,eP ((eP hd hd).mono jF) (h1.mono jF)⟩
theorem yJ (n:Key) {x1:Fe} (h1:x1.Le PB) (i:Nat):(iM n x1 i).Ok:=by
 induction i with
 |zero=>exact⟨C5,Mm,h1,C5⟩
 |
  succ i ih=>
  unfold iM
  split
  ·exact HX h1 ih.BK ih.EP ih.Tq ih.Tr _
  ·exact HX h1 ih.Tq ih.Tr ih.BK ih.EP _
def JN (scalar point:Key):Key:=
 let L:=iM (xL scalar) (qL point) 255
 if L.last=1 then C7 (iE L.x3 (nD L.z3 255))else C7 (iE L.x2 (nD L.z2 255))
theorem jS (scalar point:Key):a8 Pg I.jS [aW scalar,aW point] (aW (JN scalar point)):=by
 refine af.intro T.jS (by simp[F.jS]) ?_
 have h1:=EM point
 have qV:=ik scalar
 have hld:=iV point
 have hm:JN scalar point=if(iM (xL scalar) (qL point) 255).last=1 then C7 (iE (iM (xL scalar) (qL point) 255).x3 (nD (iM (xL scalar) (qL point) 255).z3 255))else C7 (iE (iM (xL scalar) (qL point) 255).x2 (nD (iM (xL scalar) (qL point) 255).z2 255)):=rfl
 rw[hm]
 clear hm
 generalize xL scalar=n at*
 generalize qL point=x1 at*
 have zer:PV.ar 1 5 [.int .u64 0,.int .u64 0,.int .u64 0,.int .u64 0,.int .u64 0]=iU EO:=rfl
 simp[F.jS,ai,aG,adw]
 refine al.ret qV (by simp) (by simp) (by simp) ?_
 simp
 refine al.ret hld (by simp) (by simp) (by simp) ?_
 simp[z5]
 refine oJ.run [7,8,9,10] rfl ?_
 simp[z5]
 simp only[Mk,zer]
 refine gR.iw 255 (λ_=>True) [2,3,4,5,6,7,8,9,10,11,12] (λi=>[(11,.int .u8 (iM n x1 i).last),(12,.int .i64 (254-(i:Int)))]) (λi=>[(7,.box (iU (iM n x1 i).x2)),(8,.box (iU (iM n x1 i).z2)),(9,.box (iU (iM n x1 i).x3)),(10,.box (iU (iM n x1 i).z3))]) [.keep [2,3,4,5,6,7,8,9,10,11,12]] ?_
 simp[show iM n x1 0=⟨uf,EO,x1,uf,0⟩ from rfl]
 refine⟨λi hi K hK=> ?_,λK=> ?_⟩
 ·have cY:=yJ n h1 i
  have rT:iM n x1 (i+1)=if qM n (254-i)=(iM n x1 i).last then Bp x1 (iM n x1 i).x2 (iM n x1 i).z2 (iM n x1 i).x3 (iM n x1 i).z3 (qM n (254-i))else Bp x1 (iM n x1 i).x3 (iM n x1 i).z3 (iM n x1 i).x2 (iM n x1 i).z2 (qM n (254-i)):=rfl
  rw[rT]at hK
  clear rT
  generalize iM n x1 i=L at*
  obtain⟨x2,z2,x3,z3,last⟩:=L
  obtain⟨a2,b2,a3,b3⟩:=cY
  dsimp only at a2 b2 a3 b3 hK⊢
  have h0:(i:Int)≤254:=by omega
  have hw:IntKind.i64.wrap (254-(i:Int)-1)=254-((i:Int)+1):=by rw[wrap_i64 (by omega)];omega
  have ht:(254:Int)-i=((254-i:Nat):Int):=by omega
  have FU:254-i<256:=by omega
  have hq:((254:Int)-i).tdiv 8=(((254-i)/8:Nat):Int):=by rw[ht];rfl
  have hr:((254:Int)-i).tmod 8=(((254-i)%8:Nat):Int):=by rw[ht];rfl
  have Ku:qM n (254-i)=bits .and .u8 (((n.l.getD ((254-i)/8) 0).toNat:Int).fdiv (2^min ((254-i)%8) 8)) 1:=rfl
  have xY:=n.h
  have hx:n.l[(254-i)/8]? =some (n.l.getD ((254-i)/8) 0):=by rw[List.getD_eq_getElem?_getD,gJ (by omega)];rfl
  have XU:(254-i)/8<32:=by omega
  generalize qM n (254-i)=bit at*
  generalize (254-i)/8=q at*
  generalize (254-i)%8=r at*
  generalize n.l.getD q 0=y at*
  have NM:(q:Int)<32:=by omega
  have hqw:IntKind.i64.wrap (q:Int)=q:=wrap_i64 (by omega)
  clear ht FU
  simp[↓an,h0,hq,hr,hqw,hx,XU,NM,aW,u8,←Ku,show IntKind.u8.bits=8 from rfl,-getElem?_pos]
  refine⟨λqS=> ?_,λqS=> ?_⟩
  ·rw[if_neg qS]at hK
   refine oJ.run [7,9] rfl ?_
   simp
   have ha:=kt a3 b3
   have hb:=ld (b:=z3) a3
   have k1:=EJ a3 b3
   have k2:=EK a3 b3
   have k3:=EJ a2 b2
   have k4:=EK a2 b2
   have hp:=kt a2 b2
   have hm:=ld (b:=z2) a2
   simp only[Bp]at hK
   generalize pE x3 z3=A at*
   generalize pe x3 z3=B at*
   generalize pE x2 z2=P at*
   generalize pe x2 z2=M at*
   have yw:=eP ha ha
   have BD:=eP hb hb
   have k5:=dW ha ha
   have k6:=dW hb hb
   have k7:=dW hm ha
   have k8:=dW hp hb
   have Ba:=eP hm ha
   have DL:=eP hp hb
   generalize iE A A=AA at*
   generalize iE B B=BB at*
   generalize iE M A=DA at*
   generalize iE P B=CB at*
   have k9:=EK yw BD
   have he:=ld (b:=BB) yw
   have k10:=EJ Ba DL
   have k11:=EK Ba DL
   have hs:=kt Ba DL
   have hd:=ld (b:=CB) Ba
   generalize pe AA BB=E at*
   generalize pE DA CB=S at*
   generalize pe DA CB=D at*
   have k12:=dW hs hs
   have k13:=dW hd hd
   have DF:=eP hd hd
   have k14:=dW (DF.mono jF) (h1.mono jF)
   have k15:=dW (yw.mono jF) (BD.mono jF)
   have k16:=dW he (ER.mono jF)
   have hec:=eP he (ER.mono jF)
   have k17:=EJ hec yw
   have hea:=kt hec yw
   have k18:=dW hea he
   refine oJ.run [14,15] rfl ?_
   simp[z5]
   refine aU.ret k1 (by simp) (by simp) (by simp) ?_
   simp
   refine aU.ret k2 (by simp) (by simp) (by simp) ?_
   simp
   refine oJ.run [16,17] rfl ?_
   simp[z5]
   refine aU.ret k5 (by simp) (by simp) (by simp) ?_
   simp
   refine aU.ret k6 (by simp) (by simp) (by simp) ?_
   simp
   refine al.ret k9 (by simp) (by simp) (by simp) ?_
   simp[z5]
   refine oJ.run [19,20] rfl ?_
   simp[z5]
   refine aU.ret k4 (by simp) (by simp) (by simp) ?_
   simp
   refine aU.ret k7 (by simp) (by simp) (by simp) ?_
   simp
   refine aU.ret k3 (by simp) (by simp) (by simp) ?_
   simp
   refine aU.ret k8 (by simp) (by simp) (by simp) ?_
   simp
   refine aU.ret k10 (by simp) (by simp) (by simp) ?_
   simp
   refine aU.ret k11 (by simp) (by simp) (by simp) ?_
   simp
   refine aU.ret k12 (by simp) (by simp) (by simp) ?_
   simp
   refine aU.ret k13 (by simp) (by simp) (by simp) ?_
   simp
   refine aU.ret k14 (by simp) (by simp) (by simp) ?_
   simp
   refine aU.ret k15 (by simp) (by simp) (by simp) ?_
   simp[z5]
   refine aU.ret k16 (by simp;rfl) (by simp) (by simp) ?_
   simp
   refine aU.ret k17 (by simp) (by simp) (by simp) ?_
   simp
   refine aU.ret k18 (by simp) (by simp) (by simp) ?_
   simp[hw]
   refine⟨[.keep [2,3,4,5,6,7,8,9,10,11,12],.dr 14,.dr 15,.dr 16,.dr 17,.dr 18,.dr 19,.dr 20],?_⟩
   simp
   exact hK _ (by simp[aW,u8])
  ·rw[if_pos qS]at hK
   have ha:=kt a2 b2
   have hb:=ld (b:=z2) a2
   have k1:=EJ a2 b2
   have k2:=EK a2 b2
   have k3:=EJ a3 b3
   have k4:=EK a3 b3
   have hp:=kt a3 b3
   have hm:=ld (b:=z3) a3
   simp only[Bp]at hK
   generalize pE x2 z2=A at*
   generalize pe x2 z2=B at*
   generalize pE x3 z3=P at*
   generalize pe x3 z3=M at*
   have yw:=eP ha ha
   have BD:=eP hb hb
   have k5:=dW ha ha
   have k6:=dW hb hb
   have k7:=dW hm ha
   have k8:=dW hp hb
   have Ba:=eP hm ha
   have DL:=eP hp hb
   generalize iE A A=AA at*
   generalize iE B B=BB at*
   generalize iE M A=DA at*
   generalize iE P B=CB at*
   have k9:=EK yw BD
   have he:=ld (b:=BB) yw
   have k10:=EJ Ba DL
   have k11:=EK Ba DL
   have hs:=kt Ba DL
   have hd:=ld (b:=CB) Ba
   generalize pe AA BB=E at*
   generalize pE DA CB=S at*
   generalize pe DA CB=D at*
   have k12:=dW hs hs
   have k13:=dW hd hd
   have DF:=eP hd hd
   have k14:=dW (DF.mono jF) (h1.mono jF)
   have k15:=dW (yw.mono jF) (BD.mono jF)
   have k16:=dW he (ER.mono jF)
   have hec:=eP he (ER.mono jF)
   have k17:=EJ hec yw
   have hea:=kt hec yw
   have k18:=dW hea he
   refine oJ.run [14,15] rfl ?_
   simp[z5]
   refine aU.ret k1 (by simp) (by simp) (by simp) ?_
   simp
   refine aU.ret k2 (by simp) (by simp) (by simp) ?_
   simp
   refine oJ.run [16,17] rfl ?_
   simp[z5]
   refine aU.ret k5 (by simp) (by simp) (by simp) ?_
   simp
   refine aU.ret k6 (by simp) (by simp) (by simp) ?_
   simp
   refine al.ret k9 (by simp) (by simp) (by simp) ?_
   simp[z5]
   refine oJ.run [19,20] rfl ?_
   simp[z5]
   refine aU.ret k4 (by simp) (by simp) (by simp) ?_
   simp
   refine aU.ret k7 (by simp) (by simp) (by simp) ?_
   simp
   refine aU.ret k3 (by simp) (by simp) (by simp) ?_
   simp
   refine aU.ret k8 (by simp) (by simp) (by simp) ?_
   simp
   refine aU.ret k10 (by simp) (by simp) (by simp) ?_
   simp
   refine aU.ret k11 (by simp) (by simp) (by simp) ?_
   simp
   refine aU.ret k12 (by simp) (by simp) (by simp) ?_
   simp
   refine aU.ret k13 (by simp) (by simp) (by simp) ?_
   simp
   refine aU.ret k14 (by simp) (by simp) (by simp) ?_
   simp
   refine aU.ret k15 (by simp) (by simp) (by simp) ?_
   simp[z5]
   refine aU.ret k16 (by simp;rfl) (by simp) (by simp) ?_
   simp
   refine aU.ret k17 (by simp) (by simp) (by simp) ?_
   simp
   refine aU.ret k18 (by simp) (by simp) (by simp) ?_
   simp[hw]
   refine⟨[.keep [2,3,4,5,6,7,8,9,10,11,12],.dr 14,.dr 15,.dr 16,.dr 17,.dr 18,.dr 19,.dr 20],?_⟩
   simp
   exact hK _ (by simp[aW,u8])
 ·have cY:=yJ n h1 255
  generalize iM n x1 255=L at*
  obtain⟨x2,z2,x3,z3,last⟩:=L
  obtain⟨a2,b2,a3,b3⟩:=cY
  dsimp only at a2 b2 a3 b3⊢
  have k1:=sB (b2.mono jF)
  have k2:=dW (a2.mono jF) ((s9 (b2.mono jF) 255).mono jF)
  have k3:=xK (eP (a2.mono jF) ((s9 (b2.mono jF) 255).mono jF))
  have k4:=sB (b3.mono jF)
  have k5:=dW (a3.mono jF) ((s9 (b3.mono jF) 255).mono jF)
  have k6:=xK (eP (a3.mono jF) ((s9 (b3.mono jF) 255).mono jF))
  simp[↓an]
  refine⟨λqS=> ?_,λqS=> ?_⟩
  ·refine oJ.run [7] rfl ?_
   simp[qS]
   refine aU.ret k4 (by simp) (by simp) (by simp) ?_
   simp
   refine aU.ret k5 (by simp) (by simp) (by simp) ?_
   simp
   refine aU.ret k6 (by simp) (by simp) (by simp) ?_
   simp
   refine aC.plain [.keep [4],.dr 1] ?_
   simp[qS]
  ·simp[qS]
   refine aU.ret k1 (by simp) (by simp) (by simp) ?_
   simp
   refine aU.ret k2 (by simp) (by simp) (by simp) ?_
   simp
   refine aU.ret k3 (by simp) (by simp) (by simp) ?_
   simp
   refine aC.plain [.keep [4],.dr 1] ?_
   simp[qS]
end Go.Ab
end Y8s
noncomputable section Y9s
namespace Go.Ab
open Go.Ab
def iW (n:Nat) (f:Nat->Int):List PV:=(List.range n).map λi=> .int .i64 (f i)
@[simp] theorem aj2 (n:Nat) (f:Nat->Int):(iW n f).length=n:=by simp[iW]
theorem gy {n:Nat} (f:Nat->Int) {i:Nat} (h:i<n):(iW n f)[i]? =some (.int .i64 (f i)):=by simp[iW,h]
def oj (f:Nat->Int) (i:Nat) (x:Int):Nat->Int:=λj=>if j=i then x else f j
theorem gS {n:Nat} {f g:Nat->Int} (h:∀i,i<n->f i=g i):iW n f=iW n g:=by
 unfold iW
 exact List.map_congr_left λi hi=>by rw[h i (List.mem_range.1 hi)]
theorem kP (n:Nat) (f:Nat->Int) (i:Nat) (x:Int):(iW n f).set i (.int .i64 x)=iW n (oj f i x):=by
 apply List.ext_getElem?
 intro j
 by_cases hj:j<n
 ·rw[gy _ hj,List.getElem?_set]
  by_cases h:i=j
  ·simp[h,hj,oj]
  ·rw[if_neg h,gy _ hj,oj,if_neg (Ne.symm h)]
 ·rw[List.getElem?_eq_none (by simp;omega),List.getElem?_eq_none (by simp;omega)]
@[simp] theorem QH (n:Nat) (f:Nat->Int):aB (iW n f):=aS (λ_=>by simp) _
@[simp] theorem amT (n:Nat) (f:Nat->Int):jE (iW n f)=iW n f:=rv (λ_=>by simp) _
theorem FN:zr 16 (PV.int IntKind.i64 0)=iW 16 λ_=>0:=by rw[iq];rfl
def di (f:Nat->Int):PV:= .ar 1 16 (iW 16 f)
@[simp] theorem Wa (f:Nat->Int):Pure (di f):=by simp[di]
@[simp] theorem ady (f:Nat->Int):wk (di f)=di f:=by simp[di]
@[simp] theorem Ts (f:Nat->Int):(di f).width=16:=_root_.id rfl
@[simp] theorem Z8 (f:Nat->Int):(di f).isAgg=true:=_root_.id rfl
@[simp] theorem Wb (f:Nat->Int):(di f).bG=true:=_root_.id rfl
@[simp] theorem Wc (f:Nat->Int):(di f).flat=true:=_root_.id rfl
@[simp↓] theorem Z9 (g:Bool) (f:Nat->Int) (K:PV->Prop):iv g (di f) K=K (di f):=_root_.id rfl
def oA (f:Nat->Int) (b:Int):Prop:=∀i,i<16-> -b≤f i∧f i≤b
theorem GK {a b:Nat->Int} (ha:oA a 4611686018427387903) (hb:oA b 4611686018427387903):a8 Pg I.dj [di a,di b] (di λj=>a j+b j):=by
 refine af.intro T.dj (by simp[F.dj]) ?_
 simp[F.dj,ai,aG,di]
 refine gR.iw 16 (λ_=>True) [2,3,4,6] (λi=>[(6,.int .i64 i)]) (λi=>[(2,.box (.ar 1 16 (iW 16 λj=>if j<i then a j+b j else a j)))]) [.keep [2,3,4,6]] ?_
 simp
 refine⟨λi hi K hK=> ?_,λK=> ?_⟩
 ·have hs:iW 16 (oj (λj=>if j<i then a j+b j else a j) i (a i+b i))=iW 16 λj=>if j<i+1 then a j+b j else a j:=gS λj hj=>by
   simp only[oj]
   rcases Nat.lt_trichotomy j i with h|h|h
   ·rw[if_neg (by omega),if_pos h,if_pos (by omega)]
   ·subst h;simp
   ·rw[if_neg (by omega),if_neg (by omega),if_neg (by omega)]
  have h1:=gy (n:=16) (λj=>if j<i then a j+b j else a j) hi
  have h2:=gy (n:=16) b hi
  simp only[Nat.lt_irrefl,if_false]at h1
  have jf:(i:Int)<16:=by omega
  have w1:IntKind.i64.wrap ((i:Int)+1)=i+1:=wrap_i64 (by omega)
  have:=ha i hi
  have:=hb i hi
  have w2:IntKind.i64.wrap (a i+b i)=a i+b i:=wrap_i64 (by omega)
  rw[←hs,←kP]at hK
  simp[↓an,hi,jf,h1,h2,w1,w2,-getElem?_pos]
  refine⟨[.keep [2,3,4,6]],?_⟩
  simp
  exact hK _ (by simp)
 ·simp[↓an]
  refine aC.plain [.keep [4],.dr 2,.dr 3] ?_
  simp
  exact gS λj hj=>by rw[if_pos hj]
theorem ES {a b:Nat->Int} (ha:oA a 4611686018427387903) (hb:oA b 4611686018427387903):a8 Pg I.cK [di a,di b] (di λj=>a j-b j):=by
 refine af.intro T.cK (by simp[F.cK]) ?_
 simp[F.cK,ai,aG,di]
 refine gR.iw 16 (λ_=>True) [2,3,4,6] (λi=>[(6,.int .i64 i)]) (λi=>[(2,.box (.ar 1 16 (iW 16 λj=>if j<i then a j-b j else a j)))]) [.keep [2,3,4,6]] ?_
 simp
 refine⟨λi hi K hK=> ?_,λK=> ?_⟩
 ·have hs:iW 16 (oj (λj=>if j<i then a j-b j else a j) i (a i-b i))=iW 16 λj=>if j<i+1 then a j-b j else a j:=gS λj hj=>by
   simp only[oj]
   rcases Nat.lt_trichotomy j i with h|h|h
   ·rw[if_neg (by omega),if_pos h,if_pos (by omega)]
   ·subst h;simp
   ·rw[if_neg (by omega),if_neg (by omega),if_neg (by omega)]
  have h1:=gy (n:=16) (λj=>if j<i then a j-b j else a j) hi
  have h2:=gy (n:=16) b hi
  simp only[Nat.lt_irrefl,if_false]at h1
  have jf:(i:Int)<16:=by omega
  have w1:IntKind.i64.wrap ((i:Int)+1)=i+1:=wrap_i64 (by omega)
  have:=ha i hi
  have:=hb i hi
  have w2:IntKind.i64.wrap (a i-b i)=a i-b i:=wrap_i64 (by omega)
  rw[←hs,←kP]at hK
  simp[↓an,hi,jf,h1,h2,w1,w2,-getElem?_pos]
  refine⟨[.keep [2,3,4,6]],?_⟩
  simp
  exact hK _ (by simp)
 ·simp[↓an]
  refine aC.plain [.keep [4],.dr 2,.dr 3] ?_
  simp
  exact gS λj hj=>by rw[if_pos hj]
end Go.Ab
end Y9s
noncomputable section Y10s
namespace Go.Ab
open Go.Ab
def cX (f:Nat->Int):Nat->Int
 |0=>f 0
 |i+1=>f (i+1)+cX f i/65536
def jX (f:Nat->Int):Nat->Int:=λj=>if j=0 then f 0%65536+38*(cX f 15/65536)else cX f j%65536
def rX (f:Nat->Int) (i:Nat):Nat->Int:=λj=>if i=16 then jX f j else if j<i then cX f j%65536 else if j=i then cX f j else f j
theorem EU {f:Nat->Int} {b:Int} (hf:oA f b) (hb:2≤b):∀i,i<16-> -(b+b)≤cX f i∧cX f i≤b+b
 |0,h=>by have:=hf 0 h;simp only[cX];omega
 |
  i+1,h=>by
  have h1:=EU hf hb i (by omega)
  have:=hf (i+1) h
  simp only[cX]
  omega
theorem QI (x:Int):x.fdiv 65536=x/65536:=Int.fdiv_eq_ediv_of_nonneg _ (by decide)
theorem nI {f:Nat->Int} {b:Int} (hf:oA f b) (hb:2≤b) (BC:b≤1152921504606846976):a8 Pg I.b9 [di f] (di (jX f)):=by
 refine af.intro T.b9 (by simp[F.b9]) ?_
 simp[F.b9,ai,aG,di]
 refine gR.iw 16 (λ_=>True) [1,2,3] (λi=>[(3,.int .i64 i)]) (λi=>[(1,.box (.ar 1 16 (iW 16 (rX f i))))]) [.keep [1,2,3]] ?_
 have h0:iW 16 (rX f 0)=iW 16 f:=gS λj hj=>by
  simp only[rX]
  rw[if_neg (by decide),if_neg (by omega)]
  by_cases h:j=0
  ·subst h;rfl
  ·rw[if_neg h]
 simp[h0]
 refine⟨λi hi K hK=> ?_,λK=> ?_⟩
 ·have jf:(i:Int)<16:=by omega
  have w1:IntKind.i64.wrap ((i:Int)+1)=i+1:=wrap_i64 (by omega)
  have hx:=EU hf hb i hi
  have e1:rX f i i=cX f i:=by simp only[rX];rw[if_neg (by omega),if_neg (by omega),if_pos trivial]
  have h1:=gy (n:=16) (rX f i) hi
  rw[e1]at h1
  have w2:IntKind.i64.wrap (cX f i/65536*65536)=cX f i/65536*65536:=wrap_i64 (by omega)
  have w3:IntKind.i64.wrap (cX f i-cX f i/65536*65536)=cX f i%65536:=by rw[wrap_i64 (by omega)];omega
  by_cases h15:i=15
  ·subst h15
   have hs:iW 16 (oj (oj (rX f 15) 15 (cX f 15%65536)) 0 (f 0%65536+38*(cX f 15/65536)))=iW 16 (rX f (15+1)):=gS λj hj=>by
    simp only[oj,rX,jX]
    rw[if_pos trivial]
    by_cases h:j=0
    ·rw[if_pos h,if_pos h]
    ·rw[if_neg h,if_neg h]
     by_cases h':j=15
     ·rw[if_pos h',h']
     ·rw[if_neg h',if_neg (show¬(15:Nat)=16 by decide),if_pos (by omega)]
   have h2:(iW 16 (oj (rX f 15) 15 (cX f 15%65536)))[0]? =some (.int .i64 (f 0%65536)):=by
    rw[gy _ (by decide)];rfl
   have w4:IntKind.i64.wrap (38*(cX f 15/65536))=38*(cX f 15/65536):=wrap_i64 (by omega)
   have w5:IntKind.i64.wrap (f 0%65536+38*(cX f 15/65536))=f 0%65536+38*(cX f 15/65536):=wrap_i64 (by omega)
   rw[←hs,←kP]at hK
   rw[←kP]at h2 hK
   generalize cX f 15=x at*
   generalize rX f 15=g at*
   simp[↓an,h1,h2,w2,w3,w4,w5,QI,show IntKind.i64.bits=64 from rfl,-getElem?_pos]
   refine⟨[.keep [1,2,3]],?_⟩
   simp
   exact hK _ (by simp)
  ·have hs:iW 16 (oj (oj (rX f i) i (cX f i%65536)) (i+1) (f (i+1)+cX f i/65536))=iW 16 (rX f (i+1)):=gS λj hj=>by
    simp only[oj,rX]
    rw[if_neg (show¬i+1=16 by omega),if_neg (show¬i=16 by omega)]
    by_cases h:j=i+1
    ·subst h
     rw[if_pos rfl,if_neg (by omega),if_pos rfl];rfl
    ·rw[if_neg h]
     by_cases h':j=i
     ·rw[if_pos h',h',if_pos (by omega)]
     ·rw[if_neg h',if_neg h',if_neg h]
      by_cases h2:j<i
      ·rw[if_pos h2,if_pos (by omega)]
      ·rw[if_neg h2,if_neg (by omega)]
   have h2:(iW 16 (oj (rX f i) i (cX f i%65536)))[i+1]? =some (.int .i64 (f (i+1))):=by
    rw[gy _ (by omega)]
    simp only[oj,rX]
    rw[if_neg (by omega),if_neg (by omega),if_neg (by omega),if_neg (by omega)]
   have hx1:=EU hf hb (i+1) (by omega)
   simp only[cX]at hx1
   have w5:IntKind.i64.wrap (f (i+1)+cX f i/65536)=f (i+1)+cX f i/65536:=wrap_i64 (by omega)
   have alE:(i:Int)<15:=by omega
   have NN:(i:Int)+1<16:=by omega
   have alF:0≤(i:Int)+1:=by omega
   have hn:((i:Int)+1).toNat=i+1:=by omega
   rw[←hs,←kP]at hK
   rw[←kP]at h2 hK
   generalize f (i+1)=y at*
   generalize cX f i=x at*
   generalize rX f i=g at*
   simp[↓an,hi,jf,alE,NN,alF,hn,w1,h1,h2,w2,w3,w5,QI,show IntKind.i64.bits=64 from rfl,-getElem?_pos]
   refine⟨[.keep [1,2,3]],?_⟩
   simp
   exact hK _ (by simp)
 ·simp[↓an]
  refine aC.plain [.keep [2],.dr 1] ?_
  simp
  exact gS λj hj=>by simp[rX]
end Go.Ab
end Y10s
noncomputable section Y11s
namespace Go.Ab
open Go.Ab
def tC (t:Nat->Int) (x:Int) (b:Nat->Int) (i j:Nat):Nat->Int:=λk=>if i≤k∧k<i+j then t k+x*b (k-i)else t k
def tR (a b:Nat->Int):Nat->Nat->Int
 |0=>λ_=>0
 |i+1=>tC (tR a b i) (a i) b i 16
def tO (a b:Nat->Int):Nat->Int:=λk=>if k<15 then tR a b 16 k+38*tR a b 16 (k+16)else tR a b 16 k
def ko (a b:Nat->Int):Nat->Int:=jX (jX (tO a b))
theorem Mn {x y b c:Int} (h1: -b≤x) (h2:x≤b) (h3: -c≤y) (h4:y≤c): -(b*c)≤x*y∧x*y≤b*c:=by
 have e1:0≤(b-x)*(c-y):=Int.mul_nonneg (by omega) (by omega)
 have e2:0≤(b+x)*(c-y):=Int.mul_nonneg (by omega) (by omega)
 have e3:0≤(b-x)*(c+y):=Int.mul_nonneg (by omega) (by omega)
 have e4:0≤(b+x)*(c+y):=Int.mul_nonneg (by omega) (by omega)
 simp only[Int.sub_mul,Int.mul_sub,Int.add_mul,Int.mul_add]at e1 e2 e3 e4
 omega
theorem EV {a b:Nat->Int} (ha:oA a 262144) (hb:oA b 262144):∀i:Nat,i≤16->∀k,-((i:Int)*68719476736)≤tR a b i k∧tR a b i k≤(i:Int)*68719476736
 |0,_,k=>by simp[tR]
 |
  i+1,hi,k=>by
  have h:=EV ha hb i (by omega) k
  have he:tR a b (i+1) k=if i≤k∧k<i+16 then tR a b i k+a i*b (k-i)else tR a b i k:=rfl
  rw[he]
  split
  ·rename_i hk
   obtain⟨p1,p2⟩:=ha i (by omega)
   obtain⟨p3,p4⟩:=hb (k-i) (by omega)
   have:=Mn p1 p2 p3 p4
   omega
  ·omega
theorem Tt {a b:Nat->Int} (ha:oA a 262144) (hb:oA b 262144):oA (tO a b) 42880953483264:=by
 intro k hk
 have h1:=EV ha hb 16 (by omega) k
 have h2:=EV ha hb 16 (by omega) (k+16)
 unfold tO
 split<;>omega
theorem QJ {f:Nat->Int} {b:Int} (hf:oA f b) (hb:2≤b):oA (jX f) (65536+39*b):=by
 intro j hj
 have:=EU hf hb 15 (by decide)
 have:=hf 0 (by decide)
 simp only[jX]
 split<;>omega
theorem fP {a b:Nat->Int} (ha:oA a 262144) (hb:oA b 262144):a8 Pg I.bm [di a,di b] (di (ko a b)):=by
 refine af.intro T.bm (by simp[F.bm]) ?_
 have hob:=Tt ha hb
 have c1:=nI hob (by decide) (by decide)
 have c2:=nI (QJ hob (by decide)) (by decide) (by decide)
 have hz:zr 31 (PV.int IntKind.i64 0)=iW 31 (tR a b 0):=by rw[iq];rfl
 simp[F.bm,ai,aG,di,hz]
 refine gR.iw 16 (λ_=>True) [2,3,4,5,10] (λi=>[(10,.int .i64 i)]) (λi=>[(5,.box (.ar 1 31 (iW 31 (tR a b i))))]) [.keep [2,3,4,5,10]] ?_
 simp
 refine⟨λi hi K hK=> ?_,λK=> ?_⟩
 ·have jf:(i:Int)<16:=by omega
  have w1:IntKind.i64.wrap ((i:Int)+1)=i+1:=wrap_i64 (by omega)
  have h1:=gy (n:=16) a hi
  have ht0:tC (tR a b i) (a i) b i 0=tR a b i:=by funext k;simp only[tC];rw[if_neg (by omega)]
  simp[↓an,hi,jf]
  refine gR.iw 16 (λ_=>True) [2,3,4,5,6,10,13] (λj=>[(13,.int .i64 j)]) (λj=>[(5,.box (.ar 1 31 (iW 31 (tC (tR a b i) (a i) b i j))))]) [.keep [2,3,4,5,6,10,13]] ?_
  simp[ht0]
  refine⟨λj hj K2 nn=> ?_,λK2=> ?_⟩
  ·have hj':(j:Int)<16:=by omega
   have w2:IntKind.i64.wrap ((j:Int)+1)=j+1:=wrap_i64 (by omega)
   have w3:IntKind.i64.wrap ((i:Int)+j)=((i+j:Nat):Int):=by rw[wrap_i64 (by omega)];omega
   have Co:i+j<31:=by omega
   have XV:((i+j:Nat):Int)<31:=by omega
   have h2:=gy (n:=16) b hj
   have h3:=gy (n:=31) (tC (tR a b i) (a i) b i j) Co
   have e3:tC (tR a b i) (a i) b i j (i+j)=tR a b i (i+j):=by simp only[tC];rw[if_neg (by omega)]
   have IM:=EV ha hb i (by omega) (i+j)
   obtain⟨p1,p2⟩:=ha i (by omega)
   obtain⟨p3,p4⟩:=hb j (by omega)
   have hm:=Mn p1 p2 p3 p4
   have w4:IntKind.i64.wrap (a i*b j)=a i*b j:=wrap_i64 (by omega)
   have w5:IntKind.i64.wrap (tR a b i (i+j)+a i*b j)=tR a b i (i+j)+a i*b j:=wrap_i64 (by omega)
   have hs:iW 31 (oj (tC (tR a b i) (a i) b i j) (i+j) (tR a b i (i+j)+a i*b j))=iW 31 (tC (tR a b i) (a i) b i (j+1)):=gS λk hk=>by
    simp only[oj,tC]
    by_cases h:k=i+j
    ·subst h
     rw[if_pos rfl,if_pos (by omega),show i+j-i=j by omega]
    ·rw[if_neg h]
     by_cases h':i≤k∧k<i+j
     ·rw[if_pos h',if_pos (by omega)]
     ·rw[if_neg h',if_neg (by omega)]
   rw[←hs,←kP]at nn
   rw[e3]at h3
   clear hs ht0 hK e3
   generalize tC (tR a b i) (a i) b i j=T at*
   generalize tR a b i (i+j)=y at*
   generalize hn:i+j=n at*
   simp[↓an,hi,jf,hj,hj',Co,XV,h1,h2,h3,w2,w3,w4,w5,-getElem?_pos,-Int.natCast_add]
   refine⟨[.keep [2,3,4,5,6,10,13]],?_⟩
   simp
   exact nn _ (by simp)
  ·simp[↓an,w1]
   refine⟨[.keep [2,3,4,5,10]],?_⟩
   simp
   exact hK _ (by simp[tR])
 ·simp[↓an,FN]
  refine gR.iw 16 (λ_=>True) [4,5,8,32] (λi=>[(32,.int .i64 i)]) (λi=>[(8,.box (.ar 1 16 (iW 16 (λk=>if k<i then tO a b k else 0))))]) [.keep [4,5,8,32]] ?_
  simp
  refine⟨λi hi K hK=> ?_,λK=> ?_⟩
  ·have jf:(i:Int)<16:=by omega
   have w1:IntKind.i64.wrap ((i:Int)+1)=i+1:=wrap_i64 (by omega)
   have h1:=gy (n:=31) (tR a b 16) (i:=i) (by omega)
   have h31:i<31:=by omega
   have alH:(i:Int)<31:=by omega
   have hs:iW 16 (oj (λk=>if k<i then tO a b k else 0) i (tO a b i))=iW 16 (λk=>if k<i+1 then tO a b k else 0):=gS λk hk=>by
    simp only[oj]
    by_cases h:k=i
    ·rw[if_pos h,if_pos (by omega),h]
    ·rw[if_neg h]
     by_cases h':k<i
     ·rw[if_pos h',if_pos (by omega)]
     ·rw[if_neg h',if_neg (by omega)]
   rw[←hs]at hK
   have alI:=hob i hi
   by_cases h15:i=15
   ·subst h15
    have e:tO a b 15=tR a b 16 15:=rfl
    rw[e,←kP]at hK
    simp[↓an,h1,-getElem?_pos]
    refine⟨[.keep [4,5,8,32]],?_⟩
    simp
    exact hK _ (by simp)
   ·have alJ:(i:Int)<15:=by omega
    have h2:=gy (n:=31) (tR a b 16) (i:=i+16) (by omega)
    have e:tO a b i=tR a b 16 i+38*tR a b 16 (i+16):=by simp only[tO];rw[if_pos (by omega)]
    rw[e]at alI
    have w2:IntKind.i64.wrap ((i:Int)+16)=((i+16:Nat):Int):=by rw[wrap_i64 (by omega)];omega
    have Co:i+16<31:=by omega
    have XV:((i+16:Nat):Int)<31:=by omega
    have BC:=EV ha hb 16 (by omega) (i+16)
    have w4:IntKind.i64.wrap (38*tR a b 16 (i+16))=38*tR a b 16 (i+16):=wrap_i64 (by omega)
    have w5:IntKind.i64.wrap (tR a b 16 i+38*tR a b 16 (i+16))=tR a b 16 i+38*tR a b 16 (i+16):=wrap_i64 (by omega)
    have h3:=gy (n:=16) (oj (λk=>if k<i then tO a b k else 0) i (tR a b 16 i)) hi
    have e3:oj (λk=>if k<i then tO a b k else 0) i (tR a b 16 i) i=tR a b 16 i:=by simp only[oj];rw[if_pos trivial]
    have xX:iW 16 (oj (λk=>if k<i then tO a b k else 0) i (tO a b i))=iW 16 (oj (oj (λk=>if k<i then tO a b k else 0) i (tR a b 16 i)) i (tO a b i)):=gS λk hk=>by
     simp only[oj]
     by_cases h:k=i
     ·rw[if_pos h,if_pos h]
     ·rw[if_neg h,if_neg h,if_neg h]
    rw[xX,e,←kP,←kP]at hK
    rw[e3,←kP]at h3
    clear hs xX e e3
    generalize tR a b 16 (i+16)=z at*
    generalize tR a b 16 i=y at*
    generalize iW 31 (tR a b 16)=R at*
    generalize hn:i+16=n at*
    have hT:=gy (n:=16) (λk=>if k<i then tO a b k else 0) hi
    simp only[Nat.lt_irrefl,if_false]at hT
    generalize iW 16 (λk=>if k<i then tO a b k else 0)=T at*
    simp[↓an,hi,jf,alJ,h31,alH,Co,XV,h1,h2,h3,hT,w1,w2,w4,w5,-getElem?_pos,-Int.natCast_add]
    refine⟨[.keep [4,5,8,32]],?_⟩
    simp
    exact hK _ (by simp)
  ·have he:iW 16 (λk=>if k<16 then tO a b k else 0)=iW 16 (tO a b):=gS λk hk=>by rw[if_pos hk]
   have e1:PV.ar 1 16 (iW 16 (tO a b))=di (tO a b):=rfl
   simp[↓an]
   rw[he,e1]
   refine al.ret c1 (by simp) (by simp) (by simp) ?_
   simp
   refine al.ret c2 (by simp) (by simp) (by simp) ?_
   simp
   refine aC.plain [.keep [4],.dr 1] ?_
   simp
   rfl
end Go.Ab
end Y11s
noncomputable section Y12s
namespace Go.Ab
open Go.Ab
theorem EW (a b:Nat) (ha:a<9223372036854775808) (hb:b<9223372036854775808):bits .or .i64 (a:Int) (b:Int)=((a|||b:Nat):Int):=by
 have hx:a|||b<2^63:=Nat.or_lt_two_pow (by omega) (by omega)
 show IntKind.i64.wrap ((BitVec.ofInt 64 (a:Int)|||BitVec.ofInt 64 (b:Int)).toNat:Int)=_
 rw[BitVec.toNat_or,ofInt_u64 a (by omega),ofInt_u64 b (by omega),wrap_i64 (by omega)]
theorem EX (n:Int):bits .and .i64 n 1=n%2:=by
 have NO:(BitVec.ofInt 64 1).toNat=2^1-1:=by decide
 have key:(BitVec.ofInt 64 n&&&BitVec.ofInt 64 1).toNat=(n%((2^64:Nat):Int)).toNat%2^1:=by
  rw[BitVec.toNat_and,BitVec.toNat_ofInt,NO,Nat.and_two_pow_sub_one_eq_mod]
 show IntKind.i64.wrap ((BitVec.ofInt 64 n&&&BitVec.ofInt 64 1).toNat:Nat)=n%2
 rw[key,wrap_i64 (by omega)]
 omega
theorem JO (n:Int):bits .and .i64 n 32767=n%32768:=by
 have NO:(BitVec.ofInt 64 32767).toNat=2^15-1:=by decide
 have key:(BitVec.ofInt 64 n&&&BitVec.ofInt 64 32767).toNat=(n%((2^64:Nat):Int)).toNat%2^15:=by
  rw[BitVec.toNat_and,BitVec.toNat_ofInt,NO,Nat.and_two_pow_sub_one_eq_mod]
 show IntKind.i64.wrap ((BitVec.ofInt 64 n&&&BitVec.ofInt 64 32767).toNat:Nat)=n%32768
 rw[key,wrap_i64 (by omega)]
 omega
theorem Ca (n:Int):bits .and .i64 n 65535=n%65536:=by
 have NO:(BitVec.ofInt 64 65535).toNat=2^16-1:=by decide
 have key:(BitVec.ofInt 64 n&&&BitVec.ofInt 64 65535).toNat=(n%((2^64:Nat):Int)).toNat%2^16:=by
  rw[BitVec.toNat_and,BitVec.toNat_ofInt,NO,Nat.and_two_pow_sub_one_eq_mod]
 show IntKind.i64.wrap ((BitVec.ofInt 64 n&&&BitVec.ofInt 64 65535).toNat:Nat)=n%65536
 rw[key,wrap_i64 (by omega)]
 omega
def byK (k:Key) (i:Nat):Nat:=(k.l.getD i 0).toNat
theorem C8 (k:Key) (i:Nat):byK k i<256:=(k.l.getD i 0).toNat_lt
def GL (k:Key):Nat->Int:=λi=>(byK k (2*i)+256*byK k (2*i+1):Nat)
def ug (k:Key):Nat->Int:=λi=>if i=15 then GL k 15%32768 else GL k i
theorem Mo (k:Key) (i:Nat):0≤GL k i∧GL k i≤65535:=by
 have:=C8 k (2*i)
 have:=C8 k (2*i+1)
 unfold GL
 omega
theorem GM (k:Key):a8 Pg I.fI [aW k] (di (ug k)):=by
 refine af.intro T.fI (by simp[F.fI]) ?_
 simp[F.fI,ai,aG,aW,FN]
 refine gR.iw 16 (λ_=>True) [1,2,3,5] (λi=>[(5,.int .i64 i)]) (λi=>[(3,.box (.ar 1 16 (iW 16 λj=>if j<i then GL k j else 0)))]) [.keep [1,2,3,5]] ?_
 simp
 refine⟨λi hi K hK=> ?_,λK=> ?_⟩
 ·have hs:iW 16 (oj (λj=>if j<i then GL k j else 0) i (GL k i))=iW 16 λj=>if j<i+1 then GL k j else 0:=gS λj hj=>by
   simp only[oj]
   by_cases h:j=i
   ·rw[if_pos h,if_pos (by omega),h]
   ·rw[if_neg h]
    by_cases h':j<i
    ·rw[if_pos h',if_pos (by omega)]
    ·rw[if_neg h',if_neg (by omega)]
  have oe:=k.h
  have hx:k.l[2*i]? =some (k.l.getD (2*i) 0):=by rw[List.getD_eq_getElem?_getD,gJ (by omega)];rfl
  have hy:k.l[2*i+1]? =some (k.l.getD (2*i+1) 0):=by rw[List.getD_eq_getElem?_getD,gJ (by omega)];rfl
  have bx:=C8 k (2*i)
  have by':=C8 k (2*i+1)
  rw[←hs,←kP]at hK
  have hrd:GL k i=((byK k (2*i)+256*byK k (2*i+1):Nat):Int):=rfl
  rw[hrd]at hK
  clear hs hrd
  have hT:=gy (n:=16) (λj=>if j<i then GL k j else 0) hi
  simp only[Nat.lt_irrefl,if_false]at hT
  generalize iW 16 (λj=>if j<i then GL k j else 0)=T at*
  unfold byK at*
  generalize k.l.getD (2*i) 0=x at*
  generalize k.l.getD (2*i+1) 0=y at*
  have jf:(i:Int)<16:=by omega
  have w1:IntKind.i64.wrap ((i:Int)+1)=i+1:=wrap_i64 (by omega)
  have w2:IntKind.i64.wrap (2*(i:Int))=((2*i:Nat):Int):=by rw[wrap_i64 (by omega)];omega
  have w3:IntKind.i64.wrap (((2*i:Nat):Int)+1)=((2*i+1:Nat):Int):=by rw[wrap_i64 (by omega)];omega
  have w4:IntKind.i64.wrap (x.toNat:Int)=x.toNat:=wrap_i64 (by omega)
  have w5:IntKind.i64.wrap (y.toNat:Int)=y.toNat:=wrap_i64 (by omega)
  have w6:IntKind.i64.wrap ((y.toNat:Int)*256)=((256*y.toNat:Nat):Int):=by rw[wrap_i64 (by omega)];omega
  have w7:bits .or .i64 (x.toNat:Int) ((256*y.toNat:Nat):Int)=((x.toNat+256*y.toNat:Nat):Int):=by
   rw[EW _ _ (by omega) (by omega),Nat.or_comm,nat_join 8 _ _ (Nat.mul_mod_right _ _) bx,Nat.add_comm]
  have l1:2*i<32:=by omega
  have l2:2*i+1<32:=by omega
  have l1':((2*i:Nat):Int)<32:=by omega
  have l2':((2*i+1:Nat):Int)<32:=by omega
  generalize 2*i+1=m at*
  generalize 2*i=n at*
  simp[↓an,hi,jf,hT,oe,hx,hy,u8,l1,l2,l1',l2',w1,w2,w3,w4,w5,w6,w7,show IntKind.i64.bits=64 from rfl,-getElem?_pos,-Int.natCast_add,-Int.natCast_mul]
  refine⟨[.keep [1,2,3,5]],?_⟩
  simp
  exact hK _ (by simp[aW,u8])
 ·have hs:iW 16 (oj (λj=>if j<16 then GL k j else 0) 15 (GL k 15%32768))=iW 16 (ug k):=gS λj hj=>by
   simp only[oj,ug]
   by_cases h:j=15
   ·rw[if_pos h,if_pos h]
   ·rw[if_neg h,if_neg h,if_pos hj]
  have h1:=gy (n:=16) (λj=>if j<16 then GL k j else 0) (i:=15) (by decide)
  rw[if_pos (by decide)]at h1
  simp[↓an,h1,JO,kP,-getElem?_pos]
  refine aC.plain [.keep [2],.dr 1] ?_
  simp[di]
  exact hs
end Go.Ab
end Y12s
noncomputable section Y13s
namespace Go.Ab
open Go.Ab
def WN (f:Nat->Int):Prop:=∀i,i<16->0≤f i∧f i≤65535
def yX (f:Nat->Int):Nat->Int
 |0=>f 0-65517
 |i+1=>f (i+1)-65535+yX f i/65536
def A3 (f:Nat->Int):Int:=f 15-32767+yX f 14/65536
def xM (f:Nat->Int) (i:Nat):Nat->Int:=λj=>if j<i then yX f j%65536 else if j=i then yX f j else f j
def FO (f:Nat->Int):Nat->Int:=λj=>if j<15 then yX f j%65536 else A3 f
def rD (f:Nat->Int):Nat->Int:=if A3 f<0 then f else FO f
theorem EY {f:Nat->Int} (hf:WN f):∀i,i<15-> -65536≤yX f i∧yX f i≤65535
 |0,h=>by have:=hf 0 (by omega);simp only[yX];omega
 |
  i+1,h=>by
  have:=EY hf i (by omega)
  have:=hf (i+1) (by omega)
  simp only[yX]
  omega
theorem GN {f:Nat->Int} (hf:WN f): -32768≤A3 f∧A3 f≤32768:=by
 have:=EY hf 14 (by omega)
 have:=hf 15 (by omega)
 unfold A3
 omega
theorem Au {f:Nat->Int} (hf:WN f):a8 Pg I.eS [di f] (di (rD f)):=by
 refine af.intro T.eS (by simp[F.eS]) ?_
 have g0:=gy (n:=16) f (i:=0) (by decide)
 have b0:=hf 0 (by decide)
 have v0:IntKind.i64.wrap (f 0-65517)=yX f 0:=by rw[wrap_i64 (by omega)];rfl
 have h0:iW 16 (oj f 0 (yX f 0))=iW 16 (xM f 0):=gS λj hj=>by
  simp only[oj,xM]
  by_cases h:j=0
  ·rw[if_pos h,if_neg (by omega),if_pos h,h]
  ·rw[if_neg h,if_neg (by omega),if_neg h]
 simp[F.eS,ai,aG,di,g0,v0,kP,h0,-getElem?_pos]
 refine gR.iw 14 (λ_=>True) [1,2,3,4] (λi=>[(4,.int .i64 ((i+1:Nat):Int))]) (λi=>[(3,.box (.ar 1 16 (iW 16 (xM f i))))]) [.keep [1,2,3,4]] ?_
 simp
 refine⟨λi hi K hK=> ?_,λK=> ?_⟩
 ·have hb:=EY hf i (by omega)
  have IM:=EY hf (i+1) (by omega)
  have yr:=hf (i+1) (by omega)
  have hy:yX f (i+1)=f (i+1)-65535+yX f i/65536:=rfl
  have e1:=gy (n:=16) (xM f i) (i:=i) (by omega)
  rw[show xM f i i=yX f i by simp only[xM];rw[if_neg (by omega),if_pos trivial]]at e1
  have e2:=gy (n:=16) (xM f i) (i:=i+1) (by omega)
  rw[show xM f i (i+1)=f (i+1) by simp only[xM];rw[if_neg (by omega),if_neg (by omega)]]at e2
  have e3:=gy (n:=16) (oj (xM f i) (i+1) (yX f (i+1))) (i:=i) (by omega)
  rw[show oj (xM f i) (i+1) (yX f (i+1)) i=yX f i by simp only[oj,xM];rw[if_neg (by omega),if_neg (by omega),if_pos trivial]]at e3
  have hs:iW 16 (oj (oj (xM f i) (i+1) (yX f (i+1))) i (yX f i%65536))=iW 16 (xM f (i+1)):=gS λj hj=>by
   simp only[oj,xM]
   by_cases h:j=i
   ·rw[if_pos h,if_pos (by omega),h]
   ·rw[if_neg h]
    by_cases h1:j=i+1
    ·rw[if_pos h1,if_neg (by omega),if_pos h1,h1]
    ·rw[if_neg h1,if_neg h,if_neg h1]
     by_cases h2:j<i
     ·rw[if_pos h2,if_pos (by omega)]
     ·rw[if_neg h2,if_neg (by omega)]
  rw[←hs]at hK
  rw[←kP]at hK e3
  rw[←kP]at hK
  clear hs
  have w0:IntKind.i64.wrap (i:Int)=i:=wrap_i64 (by omega)
  have w1:IntKind.i64.wrap ((i:Int)+1+1)=i+1+1:=wrap_i64 (by omega)
  have w2:IntKind.i64.wrap (65535+yX f i/65536%2)=65535+yX f i/65536%2:=wrap_i64 (by omega)
  have w3:IntKind.i64.wrap (f (i+1)-(65535+yX f i/65536%2))=yX f (i+1):=by rw[hy,wrap_i64 (by omega)];omega
  have l1:(i:Int)+1<15:=by omega
  have l2:(i:Int)+1<16:=by omega
  have l3:(i:Int)<16:=by omega
  have l4:0≤(i:Int)+1:=by omega
  have hn:((i:Int)+1).toNat=i+1:=by omega
  have l5:i<16:=by omega
  clear hy
  generalize yX f (i+1)=z at*
  generalize yX f i=y at*
  generalize f (i+1)=x at*
  generalize iW 16 (xM f i)=T at*
  simp[↓an,l1,l2,l3,l4,l5,hn,e1,e2,e3,w0,w1,w2,w3,QI,EX,Ca,show IntKind.i64.bits=64 from rfl,-getElem?_pos]
  refine⟨[.keep [1,2,3,4]],?_⟩
  simp
  exact hK _ (by simp)
 ·have hb:=EY hf 14 (by omega)
  have IM:=GN hf
  have yr:=hf 15 (by omega)
  have hy:A3 f=f 15-32767+yX f 14/65536:=rfl
  have e1:=gy (n:=16) (xM f 14) (i:=14) (by decide)
  rw[show xM f 14 14=yX f 14 from rfl]at e1
  have e2:=gy (n:=16) (xM f 14) (i:=15) (by decide)
  rw[show xM f 14 15=f 15 from rfl]at e2
  have e3:=gy (n:=16) (oj (xM f 14) 15 (A3 f)) (i:=14) (by decide)
  rw[show oj (xM f 14) 15 (A3 f) 14=yX f 14 from rfl]at e3
  have e4:=gy (n:=16) (oj (xM f 14) 15 (A3 f)) (i:=15) (by decide)
  rw[show oj (xM f 14) 15 (A3 f) 15=A3 f from rfl]at e4
  have hs:iW 16 (oj (oj (xM f 14) 15 (A3 f)) 14 (yX f 14%65536))=iW 16 (FO f):=gS λj hj=>by
   simp only[oj,xM,FO]
   by_cases h:j=14
   ·rw[if_pos h,if_pos (by omega),h]
   ·rw[if_neg h]
    by_cases h1:j=15
    ·rw[if_pos h1,if_neg (by omega)]
    ·rw[if_neg h1,if_pos (by omega),if_pos (by omega)]
  have w2:IntKind.i64.wrap (32767+yX f 14/65536%2)=32767+yX f 14/65536%2:=wrap_i64 (by omega)
  have w3:IntKind.i64.wrap (f 15-(32767+yX f 14/65536%2))=A3 f:=by rw[hy,wrap_i64 (by omega)];omega
  simp[↓an,e1,e2,e3,e4,w2,w3,kP,QI,EX,Ca,show IntKind.i64.bits=64 from rfl,-getElem?_pos]
  refine⟨λhn=> ?_,λhn=> ?_⟩
  ·refine aC.plain [.keep [2],.dr 1] ?_
   simp[di,rD]
   rw[if_pos (by omega)]
  ·refine aC.plain [.keep [2],.dr 1] ?_
   simp[di,rD]
   rw[if_neg (by omega)]
   exact hs
end Go.Ab
end Y13s
noncomputable section Y14s
namespace Go.Ab
open Go.Ab
structure WS (f:Nat->Int):Prop where
 h0: -38≤f 0∧f 0≤65573
 hi:∀i,i<16->i≠0->0≤f i∧f i≤65535
theorem WS.le {f:Nat->Int} (h:WS f):oA f 65573:=λi hi=>by
 by_cases h0:i=0
 ·subst h0;have:=h.h0;omega
 ·have:=h.hi i hi h0;omega
theorem WN.ws {f:Nat->Int} (h:WN f):WS f:=⟨by have:=h 0 (by decide);omega,λi hi _=>h i hi⟩
theorem Tu {f:Nat->Int} (h0: -140737488355328≤f 0∧f 0≤140737488355328) (h:∀i,i<16->i≠0->0≤f i∧f i≤65535):∀i,i+2<16-> -1≤cX f (i+2)/65536∧cX f (i+2)/65536≤1
 |
  0,_=>by
  have:=h 1 (by decide) (by decide)
  have:=h 2 (by decide) (by decide)
  have e:cX f (0+2)=f 2+(f 1+f 0/65536)/65536:=rfl
  rw[e]
  omega
 |
  i+1,hi=>by
  have:=Tu h0 h i (by omega)
  have:=h (i+1+2) hi (by omega)
  have e:cX f (i+1+2)=f (i+1+2)+cX f (i+2)/65536:=rfl
  rw[e]
  omega
theorem yK {a b:Nat->Int} (ha:oA a 262144) (hb:oA b 262144):WS (ko a b):=by
 have ho:=Tt ha hb
 have hx:=EU ho (by decide) 15 (by decide)
 have h0:=ho 0 (by decide)
 have g0: -140737488355328≤jX (tO a b) 0∧jX (tO a b) 0≤140737488355328:=by simp only[jX];rw[if_pos trivial];omega
 have gi:∀i,i<16->i≠0->0≤jX (tO a b) i∧jX (tO a b) i≤65535:=λi _ hn=>by simp only[jX];rw[if_neg hn];omega
 have hc: -1≤cX (jX (tO a b)) 15/65536∧cX (jX (tO a b)) 15/65536≤1:=Tu g0 gi 13 (by decide)
 unfold ko
 generalize jX (tO a b)=f at*
 refine⟨?_,λi hi hn=> ?_⟩
 ·simp only[jX];rw[if_pos trivial];omega
 ·simp only[jX];rw[if_neg hn];omega
theorem adz {f:Nat->Int} (h:WS f):∀i,i<16->(-1≤cX f i/65536∧cX f i/65536≤1)∧(cX f i/65536=1->65536≤f 0)∧(cX f i/65536= -1->f 0<0)
 |0,_=>by have:=h.h0;simp only[cX];omega
 |
  i+1,hi=>by
  obtain⟨h1,h2,h3⟩:=adz h i (by omega)
  have:=h.hi (i+1) hi (by omega)
  simp only[cX]
  refine⟨by omega,λe=>h2 (by omega),λe=>h3 (by omega)⟩
theorem HY {f:Nat->Int} (h:WS f):WN (jX f):=by
 obtain⟨h1,h2,h3⟩:=adz h 15 (by decide)
 have:=h.h0
 intro i _
 simp only[jX]
 split
 ·omega
 ·omega
theorem Wd {f:Nat->Int} (h:WN f):∀i,i<16->cX f i=f i
 |0,_=>rfl
 |
  i+1,hi=>by
  have:=Wd h i (by omega)
  have:=h i (by omega)
  simp only[cX]
  omega
theorem QK {f:Nat->Int} (h:WN f):∀i,i<16->jX f i=f i:=λi hi=>by
 have:=Wd h 15 (by decide)
 have:=Wd h i hi
 have:=h 15 (by decide)
 have:=h i hi
 simp only[jX]
 split
 ·rename_i h0;subst h0;omega
 ·omega
theorem EZ {f g:Nat->Int} (h:∀i,i<16->f i=g i):di f=di g:=by rw[di,di,gS h]
theorem yL {f:Nat->Int} (h:WN f):WN (rD f):=by
 unfold rD
 split
 ·exact h
 ·intro i hi
  have:=GN h
  simp only[FO]
  split<;>omega
def iB (n:Nat) (g:Nat->UInt8):List PV:=(List.range n).map λi=>u8 (g i)
@[simp] theorem We (n:Nat) (f:Nat->UInt8):(iB n f).length=n:=by simp[iB]
theorem wY {n:Nat} (f:Nat->UInt8) {i:Nat} (h:i<n):(iB n f)[i]? =some (u8 (f i)):=by simp[iB,h]
def QL (f:Nat->UInt8) (i:Nat) (x:UInt8):Nat->UInt8:=λj=>if j=i then x else f j
theorem vB {n:Nat} {f g:Nat->UInt8} (h:∀i,i<n->f i=g i):iB n f=iB n g:=by
 unfold iB
 exact List.map_congr_left λi hi=>by rw[h i (List.mem_range.1 hi)]
theorem GO (n:Nat) (f:Nat->UInt8) (i:Nat) (x:UInt8):(iB n f).set i (u8 x)=iB n (QL f i x):=by
 apply List.ext_getElem?
 intro j
 by_cases hj:j<n
 ·rw[wY _ hj,List.getElem?_set]
  by_cases h:i=j
  ·simp[h,hj,QL]
  ·rw[if_neg h,wY _ hj,QL,if_neg (Ne.symm h)]
 ·rw[List.getElem?_eq_none (by simp;omega),List.getElem?_eq_none (by simp;omega)]
@[simp] theorem ahC (n:Nat) (f:Nat->UInt8):aB (iB n f):=aS (λ_=>by simp[u8]) _
def Mp (g:Nat->UInt8):Key:=⟨(List.range 32).map g,by simp⟩
theorem QM (g:Nat->UInt8):aW (Mp g)= .ar 1 32 (iB 32 g):=by simp[aW,Mp,iB]
theorem fT:zr 32 (PV.int IntKind.u8 0)=iB 32 λ_=>0:=by rw[iq];rfl
def tc (f:Nat->Int) (j:Nat):UInt8:=UInt8.ofNat ((f (j/2)).toNat/256^(j%2)%256)
def GP (f:Nat->Int):Key:=Mp (tc (rD (rD (jX f))))
theorem xN {f:Nat->Int} (hf:WS f):a8 Pg I.e9 [di f] (aW (GP f)):=by
 refine af.intro T.e9 (by simp[F.e9]) ?_
 have c1:=nI hf.le (by decide) (by decide)
 have h1:=HY hf
 have c2:=nI h1.ws.le (by decide) (by decide)
 rw[EZ (QK h1)]at c2
 have c4:=Au h1
 have h4:=yL h1
 have c5:=Au h4
 have h5:=yL h4
 have hw:aW (GP f)= .ar 1 32 (iB 32 (tc (rD (rD (jX f))))):=QM _
 rw[hw]
 clear hw
 generalize rD (rD (jX f))=g at*
 simp[F.e9,ai,aG]
 refine al.ret c1 (by simp) (by simp) (by simp) ?_
 simp
 refine al.ret c2 (by simp) (by simp) (by simp) ?_
 simp
 refine al.ret c2 (by simp) (by simp) (by simp) ?_
 simp
 refine al.ret c4 (by simp) (by simp) (by simp) ?_
 simp
 refine al.ret c5 (by simp) (by simp) (by simp) ?_
 simp[fT]
 refine gR.iw 16 (λ_=>True) [1,2,3,11] (λi=>[(11,.int .i64 i)]) (λi=>[(3,.box (.ar 1 32 (iB 32 λj=>if j<2*i then tc g j else 0)))]) [.keep [1,2,3,11]] ?_
 simp
 refine⟨λi hi K hK=> ?_,λK=> ?_⟩
 ·have hs:iB 32 (QL (QL (λj=>if j<2*i then tc g j else 0) (2*i) (tc g (2*i))) (2*i+1) (tc g (2*i+1)))=iB 32 λj=>if j<2*(i+1)then tc g j else 0:=vB λj hj=>by
   simp only[QL]
   by_cases h:j=2*i+1
   ·rw[if_pos h,if_pos (by omega),h]
   ·rw[if_neg h]
    by_cases h':j=2*i
    ·rw[if_pos h',if_pos (by omega),h']
    ·rw[if_neg h']
     by_cases h2:j<2*i
     ·rw[if_pos h2,if_pos (by omega)]
     ·rw[if_neg h2,if_neg (by omega)]
  have hx:=gy (n:=16) g hi
  have hg:=h5 i hi
  have jf:(i:Int)<16:=by omega
  have w1:IntKind.i64.wrap ((i:Int)+1)=i+1:=wrap_i64 (by omega)
  have w2:IntKind.i64.wrap (2*(i:Int))=((2*i:Nat):Int):=by rw[wrap_i64 (by omega)];omega
  have w3:IntKind.i64.wrap (((2*i:Nat):Int)+1)=((2*i+1:Nat):Int):=by rw[wrap_i64 (by omega)];omega
  have w4:IntKind.u8.wrap (g i)=((tc g (2*i)).toNat:Int):=by
   rw[IntKind.wrap_u8',tc,show 2*i/2=i by omega,show 2*i%2=0 by omega,UInt8.toNat_ofNat']
   simp
   omega
  have w5:IntKind.u8.wrap ((g i).fdiv 256)=((tc g (2*i+1)).toNat:Int):=by
   rw[IntKind.wrap_u8',tc,show(2*i+1)/2=i by omega,show(2*i+1)%2=1 by omega,UInt8.toNat_ofNat',Int.fdiv_eq_ediv_of_nonneg _ (by decide)]
   simp
   omega
  have e1:=wY (n:=32) (λj=>if j<2*i then tc g j else 0) (i:=2*i) (by omega)
  have e2:=wY (n:=32) (QL (λj=>if j<2*i then tc g j else 0) (2*i) (tc g (2*i))) (i:=2*i+1) (by omega)
  have l1:2*i<32:=by omega
  have l2:2*i+1<32:=by omega
  have l1':((2*i:Nat):Int)<32:=by omega
  have l2':((2*i+1:Nat):Int)<32:=by omega
  rw[←hs]at hK
  rw[←GO]at e2 hK
  rw[←GO]at hK
  clear hs
  generalize (if 2*i<2*i then tc g (2*i)else 0)=z1 at*
  generalize QL (λj=>if j<2*i then tc g j else 0) (2*i) (tc g (2*i)) (2*i+1)=z2 at*
  generalize iB 32 (λj=>if j<2*i then tc g j else 0)=T at*
  generalize tc g (2*i+1)=q at*
  generalize tc g (2*i)=p at*
  generalize 2*i+1=m at*
  generalize 2*i=n at*
  simp only[u8]at*
  simp[↓an,hi,jf,di]
  refine oJ.run [3] rfl ?_
  simp[hx,hi,jf,e1,e2,l1,l2,l1',l2',w1,w2,w3,w4,w5,show IntKind.i64.bits=64 from rfl,-getElem?_pos,-Int.natCast_add,-Int.natCast_mul]
  refine⟨[.keep [1,2,3,11]],?_⟩
  simp
  exact hK _ (by simp[di])
 ·have he:iB 32 (λj=>if j<2*16 then tc g j else 0)=iB 32 (tc g):=vB λj hj=>by rw[if_pos (by omega)]
  simp[↓an]
  refine aC.plain [.keep [2],.dr 1] ?_
  simp
  exact he
end Go.Ab
end Y14s
noncomputable section Y15s
namespace Go.Ab
open Go.Ab
def HZ (a b:Nat->Int):Nat->Int:=λj=>a j+b j
def H0 (a b:Nat->Int):Nat->Int:=λj=>a j-b j
theorem sC {a b:Nat->Int} (ha:oA a 65573) (hb:oA b 65573):oA (HZ a b) 262144:=λi hi=>by
 have:=ha i hi
 have:=hb i hi
 simp only[HZ];omega
theorem sD {a b:Nat->Int} (ha:oA a 65573) (hb:oA b 65573):oA (H0 a b) 262144:=λi hi=>by
 have:=ha i hi
 have:=hb i hi
 simp only[H0];omega
theorem oA.mono {a:Nat->Int} {b c:Int} (h:oA a b) (hc:b≤c):oA a c:=λi hi=>by have:=h i hi;omega
theorem rPl {a b:Nat->Int} (ha:oA a 65573) (hb:oA b 65573):a8 Pg I.dj [di a,di b] (di (HZ a b)):=GK (ha.mono (by decide)) (hb.mono (by decide))
theorem rMi {a b:Nat->Int} (ha:oA a 65573) (hb:oA b 65573):a8 Pg I.cK [di a,di b] (di (H0 a b)):=ES (ha.mono (by decide)) (hb.mono (by decide))
theorem iF {a b:Nat->Int} (ha:oA a 262144) (hb:oA b 262144):oA (ko a b) 65573:=(yK ha hb).le
theorem W2:(65573:Int)≤262144:=by decide
def nb (a:Nat->Int):Nat->(Nat->Int)
 |0=>a
 |i+1=>if i=251∨i=249 then ko (nb a i) (nb a i)else ko (ko (nb a i) (nb a i)) a
theorem vC {a:Nat->Int} (ha:oA a 65573):∀i,oA (nb a i) 65573
 |0=>ha
 |
  i+1=>by
  have h:=vC ha i
  have h1:=iF (h.mono W2) (h.mono W2)
  unfold nb
  split
  ·exact h1
  ·exact iF (h1.mono W2) (ha.mono W2)
theorem tD {a:Nat->Int} (ha:oA a 65573):a8 Pg I.dZ [di a] (di (nb a 254)):=by
 refine af.intro T.dZ (by simp[F.dZ]) ?_
 simp[F.dZ,ai,aG]
 refine gR.iw 254 (λ_=>True) [1,2,3,4] (λi=>[(4,.int .i64 (253-(i:Int)))]) (λi=>[(3,.box (di (nb a i)))]) [.keep [1,2,3,4]] ?_
 simp[show nb a 0=a from rfl]
 refine⟨λi hi K hK=> ?_,λK=> ?_⟩
 ·have h:=vC ha i
  have h1:=iF (h.mono W2) (h.mono W2)
  have c1:=fP (h.mono W2) (h.mono W2)
  have c2:=fP (h1.mono W2) (ha.mono W2)
  have hs:nb a (i+1)=if i=251∨i=249 then ko (nb a i) (nb a i)else ko (ko (nb a i) (nb a i)) a:=rfl
  rw[hs]at hK
  clear hs
  generalize ko (ko (nb a i) (nb a i)) a=o2 at*
  generalize ko (nb a i) (nb a i)=o1 at*
  generalize nb a i=o at*
  have h0:(i:Int)≤253:=by omega
  have hw:IntKind.i64.wrap (253-(i:Int)-1)=253-((i:Int)+1):=by rw[wrap_i64 (by omega)];omega
  simp[↓an,h0]
  refine al.ret c1 (by simp) (by simp) (by simp) ?_
  simp
  by_cases e1:i=251
  ·subst e1
   simp[hw]
   refine⟨[.keep [1,2,3,4]],?_⟩
   simp
   exact hK _ (by simp)
  ·by_cases e2:i=249
   ·subst e2
    simp[hw]
    refine⟨[.keep [1,2,3,4]],?_⟩
    simp
    exact hK _ (by simp)
   ·have n1:¬(253:Int)-i=2:=by omega
    have n2:¬(253:Int)-i=4:=by omega
    simp[n1,n2]
    refine al.ret c2 (by simp) (by simp) (by simp) ?_
    simp[hw]
    refine⟨[.keep [1,2,3,4]],?_⟩
    simp
    exact hK _ (by simp[e1,e2])
 ·simp[↓an]
  refine aC.plain [.keep [2],.dr 1] ?_
  simp
structure nT where
 x2:Nat->Int
 z2:Nat->Int
 x3:Nat->Int
 z3:Nat->Int
structure nT.Ok (L:nT):Prop where
 BK:oA L.x2 65573
 EP:oA L.z2 65573
 Tq:oA L.x3 65573
 Tr:oA L.z3 65573
def lv (L:nT):PV:= .st 64 [di L.x2,di L.z2,di L.x3,di L.z3]
def nT.sw (L:nT):nT:=⟨L.x3,L.z3,L.x2,L.z2⟩
theorem QN:zr 16 (PV.int IntKind.i64 0)=[.int .i64 0,.int .i64 0,.int .i64 0,.int .i64 0,.int .i64 0,.int .i64 0,.int .i64 0,.int .i64 0,.int .i64 0,.int .i64 0,.int .i64 0,.int .i64 0,.int .i64 0,.int .i64 0,.int .i64 0,.int .i64 0]:=by rw[iq];rfl
def cW:Nat->Int:=λj=>if j=0 then 56129 else if j=1 then 1 else 0
theorem Mq:oA cW 65573:=λi _=>by simp only[cW];split;omega;split<;>omega
def nT.st (L:nT) (x1:Nat->Int):nT:=
 let a:=HZ L.x2 L.z2
 let b:=H0 L.x2 L.z2
 let aa:=ko a a
 let bb:=ko b b
 let e:=H0 aa bb
 let da:=ko (H0 L.x3 L.z3) a
 let cb:=ko (HZ L.x3 L.z3) b
 let s:=HZ da cb
 let t:=H0 da cb
 ⟨ko aa bb,ko e (HZ aa (ko cW e)),ko s s,ko x1 (ko t t)⟩
theorem nT.Ok.st {L:nT} (h:L.Ok) {x1:Nat->Int} (h1:oA x1 65573):(L.st x1).Ok:=by
 obtain⟨a2,b2,a3,b3⟩:=h
 have ha:=sC a2 b2
 have hb:=sD a2 b2
 have yw:=iF ha ha
 have BD:=iF hb hb
 have he:=sD yw BD
 have Ba:=iF (sD a3 b3) ha
 have DL:=iF (sC a3 b3) hb
 have hs:=sC Ba DL
 have ht:=sD Ba DL
 exact⟨iF (yw.mono W2) (BD.mono W2),iF he (sC yw (iF (Mq.mono W2) he)),iF hs hs,iF (h1.mono W2) ((iF ht ht).mono W2)⟩
@[simp] theorem Wf (L:nT):Pure (lv L):=by simp[lv]
@[simp] theorem adA (L:nT):wk (lv L)=lv L:=by simp[lv]
@[simp] theorem Tv (L:nT):(lv L).width=64:=_root_.id rfl
@[simp] theorem aab (L:nT):(lv L).isAgg=true:=_root_.id rfl
@[simp] theorem Wg (L:nT):(lv L).bG=true:=_root_.id rfl
@[simp↓] theorem aac (g:Bool) (L:nT) (K:PV->Prop):iv g (lv L) K=K (lv L):=_root_.id rfl
theorem tE (L:nT):a8 Pg I.dA [lv L] (lv L.sw):=by
 refine af.intro T.dA (by simp[F.dA]) ?_
 simp[F.dA,ai,aG,lv,av]
 refine aC.plain [.keep [2],.dr 1] ?_
 simp[lv,nT.sw]
theorem tF {L:nT} (h:L.Ok) {x1:Nat->Int} (h1:oA x1 65573):a8 Pg I.ec [lv L,di x1] (lv (L.st x1)):=by
 refine af.intro T.ec (by simp[F.ec]) ?_
 obtain⟨x2,z2,x3,z3⟩:=L
 obtain⟨a2,b2,a3,b3⟩:=h
 dsimp only at a2 b2 a3 b3
 have hz:PV.ar 1 16 [.int .i64 56129,.int .i64 1,.int .i64 0,.int .i64 0,.int .i64 0,.int .i64 0,.int .i64 0,.int .i64 0,.int .i64 0,.int .i64 0,.int .i64 0,.int .i64 0,.int .i64 0,.int .i64 0,.int .i64 0,.int .i64 0]=di cW:=rfl
 have k1:=rPl a2 b2
 have k2:=rMi a2 b2
 have k3:=rPl a3 b3
 have k4:=rMi a3 b3
 have ha:=sC a2 b2
 have hb:=sD a2 b2
 have hc:=sC a3 b3
 have hd:=sD a3 b3
 simp only[nT.st]
 generalize HZ x2 z2=A at*
 generalize H0 x2 z2=B at*
 generalize HZ x3 z3=C at*
 generalize H0 x3 z3=D at*
 have k5:=fP ha ha
 have k6:=fP hb hb
 have k7:=fP hd ha
 have k8:=fP hc hb
 have yw:=iF ha ha
 have BD:=iF hb hb
 have Ba:=iF hd ha
 have DL:=iF hc hb
 generalize ko A A=AA at*
 generalize ko B B=BB at*
 generalize ko D A=DA at*
 generalize ko C B=CB at*
 have k9:=rMi yw BD
 have he:=sD yw BD
 have k10:=rPl Ba DL
 have k11:=rMi Ba DL
 have hs:=sC Ba DL
 have ht:=sD Ba DL
 generalize H0 AA BB=E at*
 generalize HZ DA CB=S at*
 generalize H0 DA CB=T at*
 have k12:=fP (yw.mono W2) (BD.mono W2)
 have k13:=fP (Mq.mono W2) he
 have hce:=iF (Mq.mono W2) he
 have k14:=rPl yw hce
 have hp:=sC yw hce
 have k15:=fP he hp
 have k16:=fP hs hs
 have k17:=fP ht ht
 have htt:=iF ht ht
 have k18:=fP (h1.mono W2) (htt.mono W2)
 simp[F.ec,ai,aG,lv,av]
 refine oJ.run [5,6] rfl ?_
 simp[av]
 refine aU.ret k1 (by simp) (by simp) (by simp) ?_
 simp[av]
 refine aU.ret k2 (by simp) (by simp) (by simp) ?_
 simp[av]
 refine oJ.run [7,8] rfl ?_
 simp
 refine aU.ret k5 (by simp) (by simp) (by simp) ?_
 simp
 refine aU.ret k6 (by simp) (by simp) (by simp) ?_
 simp
 refine al.ret k9 (by simp) (by simp) (by simp) ?_
 simp
 refine oJ.run [10,11] rfl ?_
 simp[av]
 refine aU.ret k3 (by simp) (by simp) (by simp) ?_
 simp[av]
 refine aU.ret k4 (by simp) (by simp) (by simp) ?_
 simp
 refine oJ.run [12,13] rfl ?_
 simp
 refine aU.ret k7 (by simp) (by simp) (by simp) ?_
 simp
 refine aU.ret k8 (by simp) (by simp) (by simp) ?_
 simp
 refine oJ.run [14,15] rfl ?_
 simp
 refine aU.ret k10 (by simp) (by simp) (by simp) ?_
 simp
 refine aU.ret k11 (by simp) (by simp) (by simp) ?_
 simp
 refine aU.ret k12 (by simp) (by simp) (by simp) ?_
 simp[QN,hz]
 refine aU.ret k13 (by simp) (by simp) (by simp) ?_
 simp
 refine aU.ret k14 (by simp) (by simp) (by simp) ?_
 simp
 refine aU.ret k15 (by simp) (by simp) (by simp) ?_
 simp
 refine aU.ret k16 (by simp) (by simp) (by simp) ?_
 simp
 refine aU.ret k17 (by simp) (by simp) (by simp) ?_
 simp
 refine aU.ret k18 (by simp) (by simp) (by simp) ?_
 simp[av]
 refine aC.plain [.keep [4],.dr 2,.dr 3,.dr 5,.dr 6,.dr 7,.dr 8,.dr 9,.dr 10,.dr 11,.dr 12,.dr 13,.dr 14,.dr 15] ?_
 simp[lv]
end Go.Ab
end Y15s

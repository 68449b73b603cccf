/- Made configurations pass both validations; routes. No condition. -/
import Derived.Test.YtkbdeacknefoaaaGreatDoorC1
set_option maxRecDepth 10000
set_option maxHeartbeats 4000000
set_option linter.all false
noncomputable section Z5s
namespace Go.Ab
open Go.Ab
noncomputable def F.JZ:aY:=
 ⟨79,[.load true 34 (.t 4)],.seq (.region [⟨(some 4),none,false,.alloc (.st 34 [(.ar 1 32 (zr 32 (.int .u8 0))),(.int .i64 0),(.sl 85 [] true)])⟩]) (.seq (.region [⟨(some 10),none,true,.mv (.t 0)⟩,⟨(some 11),none,false,.call (.c (.fn (.func I.cg) [] [])) [(.t 10)]⟩,⟨(some 12),none,true,.mv (.t 0)⟩,⟨(some 13),none,false,.call (.c (.fn (.func I.bY) [] [])) [(.t 12),(.c (.int .i64 65536))]⟩,⟨(some 14),none,false,.build (.st 34 [(.ar 1 32 (zr 32 (.int .u8 0))),(.int .i64 0),(.sl 85 [] true)]) [(0,(.t 11)),(1,(.t 13))]⟩,⟨(some 5),none,false,.alloc (.st 34 [(.ar 1 32 (zr 32 (.int .u8 0))),(.int .i64 0),(.sl 85 [] true)])⟩,⟨none,none,false,.store 34 (.t 5) (.t 14)⟩]) (.seq (.region [⟨(some 15),none,true,.mv (.t 0)⟩,⟨(some 16),none,false,.call (.c (.fn (.func I.bX) [] [])) [(.t 15),(.c (.int .i64 6))]⟩,⟨(some 6),none,true,.mv (.t 16)⟩]) (.seq (.seq (.region [⟨(some 17),none,true,.mv (.t 0)⟩,⟨(some 18),none,true,.mv (.t 1)⟩,⟨(some 19),none,true,.bin .add .no (.t 18) (.c (.int .i64 1))⟩,⟨(some 20),none,false,.call (.c (.fn (.func I.au) [] [])) [(.t 17),(.t 19)]⟩,⟨(some 7),none,true,.mv (.t 20)⟩]) (.block 0 (.loop (lk (.seq (.seq (.region [⟨(some 21),none,true,.mv (.t 7)⟩,⟨(some 22),none,true,.bin .gtr .no (.t 21) (.c (.int .i64 0))⟩]) (.cond (.t 22) (.skip) (.exit 0))) (.seq (.block 1 (.seq (.region [⟨(some 25),none,true,.mv (.t 7)⟩,⟨(some 26),none,true,.bin .mul .no (.c (.int .i64 10)) (.t 25)⟩,⟨(some 27),none,true,.convI .u8 (.t 26)⟩,⟨(some 28),none,true,.mv (.t 0)⟩,⟨(some 29),none,false,.call (.c (.fn (.func I.au) [] [])) [(.t 28),(.c (.int .i64 256))]⟩,⟨(some 30),none,true,.convI .u8 (.t 29)⟩,⟨(some 31),none,false,.build (.ar 1 32 (zr 32 (.int .u8 0))) [(0,(.t 27)),(1,(.t 30))]⟩,⟨(some 32),none,false,.build (.st 85 [(.ar 1 32 (zr 32 (.int .u8 0))),(.ar 1 32 (zr 32 (.int .u8 0))),(.bl false),(.st 18 [(.st 17 [(.bl false),(.ar 1 16 (zr 16 (.int .u8 0)))]),(.int .i64 0)]),(.int .i64 0),(.sl 18 [] true)]) [(0,(.t 31))]⟩,⟨(some 8),none,false,.alloc (.st 85 [(.ar 1 32 (zr 32 (.int .u8 0))),(.ar 1 32 (zr 32 (.int .u8 0))),(.bl false),(.st 18 [(.st 17 [(.bl false),(.ar 1 16 (zr 16 (.int .u8 0)))]),(.int .i64 0)]),(.int .i64 0),(.sl 18 [] true)])⟩,⟨none,none,false,.store 85 (.t 8) (.t 32)⟩]) (.seqm (.seq (.region [⟨(some 33),none,true,.mv (.t 0)⟩,⟨(some 34),none,false,.call (.c (.fn (.func I.bZ) [] [])) [(.t 33)]⟩]) (.cond (.t 34) (.region [⟨(some 35),none,true,.mv (.t 0)⟩,⟨(some 36),none,false,.call (.c (.fn (.func I.cg) [] [])) [(.t 35)]⟩,⟨(some 37),none,true,.fieldA 1 32 (.t 8)⟩,⟨none,none,false,.store 32 (.t 37) (.t 36)⟩]) (.skip))) (.seqm (.seq (.region [⟨(some 38),none,true,.mv (.t 0)⟩,⟨(some 39),none,false,.call (.c (.fn (.func I.bZ) [] [])) [(.t 38)]⟩]) (.cond (.t 39) (.region [⟨(some 40),none,true,.mv (.t 0)⟩,⟨(some 41),none,false,.call (.c (.fn (.func I.bW) [] [])) [(.t 40)]⟩,⟨(some 42),none,true,.fieldA 2 64 (.t 8)⟩,⟨none,none,false,.store 1 (.t 42) (.c (.bl true))⟩,⟨(some 43),none,true,.fieldA 3 65 (.t 8)⟩,⟨none,none,false,.store 18 (.t 43) (.t 41)⟩]) (.skip))) (.seqm (.seq (.region [⟨(some 44),none,true,.mv (.t 0)⟩,⟨(some 45),none,false,.call (.c (.fn (.func I.au) [] [])) [(.t 44),(.c (.int .i64 3))]⟩,⟨(some 46),none,true,.bin .eql .no (.t 45) (.c (.int .i64 1))⟩]) (.cond (.t 46) (.region [⟨(some 47),none,true,.mv (.t 0)⟩,⟨(some 48),none,false,.call (.c (.fn (.func I.bY) [] [])) [(.t 47),(.c (.int .i64 30000))]⟩,⟨(some 49),none,true,.bin .add .no (.c (.int .i64 1000)) (.t 48)⟩,⟨(some 50),none,true,.fieldA 4 83 (.t 8)⟩,⟨none,none,false,.store 1 (.t 50) (.t 49)⟩]) (.skip))) (.seq (.seq (.region [⟨(some 51),none,true,.mv (.t 0)⟩,⟨(some 52),none,false,.call (.c (.fn (.func I.au) [] [])) [(.t 51),(.c (.int .i64 3))]⟩,⟨(some 9),none,true,.mv (.t 52)⟩]) (.block 2 (.loop (lk (.seq (.seq (.region [⟨(some 53),none,true,.mv (.t 9)⟩,⟨(some 54),none,true,.bin .gtr .no (.t 53) (.c (.int .i64 0))⟩,⟨(some 55),none,true,.mv (.t 54)⟩,⟨(some 56),(some (55,true)),true,.mv (.t 6)⟩,⟨(some 57),(some (55,true)),true,.len (.t 56)⟩,⟨(some 58),(some (55,true)),true,.bin .gtr .no (.t 57) (.c (.int .i64 0))⟩,⟨(some 59),none,true,.pick (.t 55) (.t 58) (.c (.bl false))⟩]) (.cond (.t 59) (.skip) (.exit 2))) (.seq (.block 3 (.regionD [⟨(some 62),none,true,.fieldA 5 84 (.t 8)⟩,⟨(some 63),none,true,.load false 1 (.t 62)⟩,⟨(some 64),none,true,.mv (.t 6)⟩,⟨(some 65),none,false,.indexA (.sl 18) (.t 64) (.c (.int .i64 0))⟩,⟨(some 66),none,true,.load true 18 (.t 65)⟩,⟨(some 67),none,false,.buildSlice false 18 (.st 18 [(.st 17 [(.bl false),(.ar 1 16 (zr 16 (.int .u8 0)))]),(.int .i64 0)]) 1 [(0,(.t 66))]⟩,⟨(some 68),none,false,.append 18 32 false (.t 63) (.t 67)⟩,⟨(some 69),none,true,.mv (.t 6)⟩,⟨(some 70),none,false,.slice (.sl 18) (.t 69) (some (.c (.int .i64 1))) none none⟩,⟨(some 71),none,true,.fieldA 5 84 (.t 8)⟩,⟨none,none,false,.store 1 (.t 71) (.t 68)⟩,⟨(some 6),none,true,.mv (.t 70)⟩] [0,1,2,3,4,5,7,8,6,9,10,11] [8,6,10])) (.region [⟨(some 60),none,true,.mv (.t 9)⟩,⟨(some 61),none,true,.bin .sub .no (.t 60) (.c (.int .i64 1))⟩,⟨(some 9),none,true,.mv (.t 61)⟩]))))))) (lk (.region [⟨(some 72),none,true,.fieldA 2 33 (.t 5)⟩,⟨(some 73),none,true,.load false 1 (.t 72)⟩,⟨(some 74),none,true,.load true 85 (.t 8)⟩,⟨(some 75),none,false,.buildSlice false 85 (.st 85 [(.ar 1 32 (zr 32 (.int .u8 0))),(.ar 1 32 (zr 32 (.int .u8 0))),(.bl false),(.st 18 [(.st 17 [(.bl false),(.ar 1 16 (zr 16 (.int .u8 0)))]),(.int .i64 0)]),(.int .i64 0),(.sl 18 [] true)]) 1 [(0,(.t 74))]⟩,⟨(some 76),none,false,.append 85 136 false (.t 73) (.t 75)⟩,⟨(some 77),none,true,.fieldA 2 33 (.t 5)⟩,⟨none,none,false,.store 1 (.t 77) (.t 76)⟩])))))))) (lk (.region [⟨(some 23),none,true,.mv (.t 7)⟩,⟨(some 24),none,true,.bin .sub .no (.t 23) (.c (.int .i64 1))⟩,⟨(some 7),none,true,.mv (.t 24)⟩])))))))) (lk (.seq (.region [⟨(some 78),none,true,.load true 34 (.t 5)⟩,⟨none,none,false,.store 34 (.t 4) (.t 78)⟩]) (.ret))))))⟩
theorem T.JZ:kL Pg [] [] I.cM=some F.JZ.er:=by
 rw[T.cM]
 simp only[F.JZ,F.cM,aY.er,erase,Lx]
def kZ:Key:=⟨List.replicate 32 0,rfl⟩
theorem WK:aW kZ= .ar 1 32 (zr 32 (.int .u8 0)):=by rw[iq];rfl
structure MU (p:nd):Prop where
 ep:p.nm=true∧MS p.ep=true∨p.nm=false∧p.ep=Br
 kY:p.kY=0∨1000≤p.kY∧p.kY<31000
 len:p.allowed.length≤2
def lF (ps:List nd):List lr:=(ps.map nd.allowed).flatten
structure Rh (n i:Nat) (ps:List nd) (l:List lr):Prop where
 pc:∀p∈ps,MU p
 len:ps.length=i
 eK:∀(j:Nat) (h:j<ps.length),ps[j].eK.l.getD 0 0=UInt8.ofNat (10*(n-j))
 px:Bt (lF ps++l)
 ln:(lF ps++l).length≤6
theorem aki {n i:Nat} {p:PV} (h:i<(zr n p).length):(zr n p)[i]=p:=by
 have:∀l:List PV,l=List.replicate n p->∀h:i<l.length,l[i]=p:=by rintro _ rfl h;simp
 exact this _ (by rw[iq]) h
theorem akj (a b:Int):∃k:Key,PV.ar 1 32 (((zr 32 (.int .u8 0)).set 0 (PV.int .u8 (IntKind.u8.wrap a))).set 1 (PV.int .u8 (IntKind.u8.wrap b)))=aW k∧k.l.getD 0 0=UInt8.ofNat (IntKind.u8.wrap a).toNat:=by
 have hx:∀x:Int,PV.int .u8 (IntKind.u8.wrap x)=u8 (UInt8.ofNat (IntKind.u8.wrap x).toNat):=λx=>by
  have h:0≤IntKind.u8.wrap x∧IntKind.u8.wrap x<256:=by
   simp only[IntKind.wrap,IntKind.bits,IntKind.signed];simp;omega
  simp only[u8,PV.int.injEq,true_and]
  rw[UInt8.toNat_ofNat']
  omega
 refine⟨⟨[UInt8.ofNat (IntKind.u8.wrap a).toNat,UInt8.ofNat (IntKind.u8.wrap b).toNat]++List.replicate 30 0,rfl⟩,?_,rfl⟩
 rw[hx a,hx b,iq]
 rfl
theorem Ri {c:qk} (h:im c):af Pg I.cM [.pt KB [] 0,.int .i64 2] [.box (hH c)] (λr fp=>∃w:qQ×qk,(((0≤w.1.port∧w.1.port≤65535)∧∃n l,n≤2∧Rh n n w.1.aj l)∧im w.2)∧r=gC w.1∧fp=[.box (hH w.2)]):=by
 refine af.intro T.JZ (by simp[F.JZ]) ?_
 simp[F.JZ,ai,aG]
 refine al.vK KB (Cc h) (by simp) (by simp[ae,ab,bS,idx]) (by simp[aO,az,bE,idx]) (by simp) ?_
 rintro⟨k1,c1⟩ o1
 simp at o1
 simp
 refine al.vK KB ((xd o1 65536 (by omega) (by omega)).mono (R':=λr fp=>∃w:Nat×qk,(im w.2∧w.1<65536)∧r= .int .i64 w.1∧fp=[.box (hH w.2)]) ?_) (by simp) (by simp[ae,ab,bS,idx]) (by simp[aO,az,bE,idx]) (by simp) ?_
 ·rintro r fp ⟨m,c',a,b,e,f⟩;exact⟨⟨m,c'⟩,⟨a,b⟩,e,f⟩
 rintro⟨po,c2⟩ ⟨o2,Uh⟩
 simp at o2 Uh
 simp
 refine al.vK KB (JY o2 (n:=6) (by omega)) (by simp) (by simp[ae,ab,bS,idx]) (by simp[aO,az,bE,idx]) (by simp) ?_
 rintro⟨l0,c3⟩ ⟨hp0,IF,o3⟩
 simp at hp0 IF o3
 simp
 refine al.vZ KB (cD o3 3 (by omega)) (by simp) (by simp[ae,ab,bS,idx]) (by simp[aO,az,bE,idx]) (by simp) ?_
 have q0:=iZ c3 (n:=3) (by omega)
 have o4:=gX o3 3
 generalize rP c3 3=x at*
 simp
 refine gR.acO x.1 (([],l0,x.2):List nd×List lr×qk) (λi y=>Rh x.1 i y.1 y.2.1∧im y.2.2) [0,1,4,5,6,7] (λi y=>[(6,jt y.2.1),(7,.int .i64 ((x.1-i:Nat):Int))]) (λi y=>[(5,.box (.st 34 [aW k1,.int .i64 po,.rs 91 [] 0 y.1.length y.1.length 85 .tip])),(91,.arr 85 (y.1.map dT)),(KB,.box (hH y.2.2))]) [.keep [0,1,4,5,6,7],.vb 5 [.f 2 33] 91 85] ?_
 simp
 refine⟨⟨?_,o4⟩,λi ps l cc hi hI hC K hK=> ?_,λps l cc hI hC K=> ?_⟩
 ·exact⟨by simp,rfl,by simp,by simpa[lF]using hp0,by simpa[lF]using IF⟩
 ·have uG:0<x.1-i:=by omega
  have hw:IntKind.i64.wrap (((x.1-i:Nat):Int)-1)=((x.1-(i+1):Nat):Int):=by rw[wrap_i64 (by omega)];omega
  simp[↓an,uG]
  refine al.vZ KB (cD hC 256 (by omega)) (by simp) (by simp[ae,ab,bS,idx]) (by simp[aO,az,bE,idx]) (by simp) ?_
  have q1:=iZ cc (n:=256) (by omega)
  have o5:=gX hC 256
  generalize rP cc 256=y1 at*
  simp[aki]
  obtain⟨pk,hpk,hpb⟩:=akj (IntKind.i64.wrap (10*((x.1-i:Nat):Int))) y1.1
  simp only[hpk]
  obtain⟨M1,hM1⟩:∃M:St->Prop,∀s',M s'↔∃(sh:Key) (he:Bool) (ep:Bo) (kY:Int) (c':qk),((he=false∧ep=Br)∧kY=0∧im c')∧s'=⟨[(0,.pt KB [] 0),(1,.int .i64 2),(4,.pt 4 [] 0),(5,.pt 5 [] 0),(6,jt l),(7,.int .i64 ((x.1-i:Nat):Int)),(8,.pt 8 [] 0)],[(4,.box (.st 34 [.ar 1 32 (zr 32 (.int .u8 0)),.int .i64 0,.sl 85 [] true])),(5,.box (.st 34 [aW k1,.int .i64 po,.rs 91 [] 0 ps.length ps.length 85 .tip])),(8,.box (.st 85 [aW pk,aW sh,.bl he,jR ep,.int .i64 kY,.sl 18 [] true])),(91,.arr 85 (ps.map dT)),(KB,.box (hH c'))]⟩:=⟨_,λ_=>Iff.rfl⟩
  refine N0.of M1 ?_ ?_
  ·simp
   refine al.vZ KB (AE o5) (by simp) (by simp[ae,ab,bS,idx]) (by simp[aO,az,bE,idx]) (by simp) ?_
   have o6:im (bool y1.2).2:=gX o5 2
   generalize bool y1.2=y2 at*
   cases hb:y2.1
   ·simp[hb]
    refine⟨[.keep [0,1,4,5,6,7,8]],?_⟩
    simp
    exact(hM1 _).2 ⟨kZ,_,_,_,y2.2,⟨⟨rfl,rfl⟩,rfl,o6⟩,by simp only[WK,xe]⟩
   ·simp[hb]
    refine al.vK KB (Cc o6) (by simp) (by simp[ae,ab,bS,idx]) (by simp[aO,az,bE,idx]) (by simp) ?_
    rintro⟨k2,c7⟩ o7
    simp at o7
    simp
    refine⟨[.keep [0,1,4,5,6,7,8]],?_⟩
    simp
    exact(hM1 _).2 ⟨k2,_,_,_,c7,⟨⟨rfl,rfl⟩,rfl,o7⟩,by simp only[WK,xe]⟩
  intro s' pz
  obtain⟨sh,he,ep,kY,c7,⟨⟨rfl,rfl⟩,rfl,o7⟩,rfl⟩:=(hM1 _).1 pz
  clear pz hM1
  simp
  obtain⟨M2,hM2⟩:∃M:St->Prop,∀s',M s'↔∃(sh:Key) (he:Bool) (ep:Bo) (kY:Int) (c':qk),((he=true∧MS ep=true∨he=false∧ep=Br)∧kY=0∧im c')∧s'=⟨[(0,.pt KB [] 0),(1,.int .i64 2),(4,.pt 4 [] 0),(5,.pt 5 [] 0),(6,jt l),(7,.int .i64 ((x.1-i:Nat):Int)),(8,.pt 8 [] 0)],[(4,.box (.st 34 [.ar 1 32 (zr 32 (.int .u8 0)),.int .i64 0,.sl 85 [] true])),(5,.box (.st 34 [aW k1,.int .i64 po,.rs 91 [] 0 ps.length ps.length 85 .tip])),(8,.box (.st 85 [aW pk,aW sh,.bl he,jR ep,.int .i64 kY,.sl 18 [] true])),(91,.arr 85 (ps.map dT)),(KB,.box (hH c'))]⟩:=⟨_,λ_=>Iff.rfl⟩
  refine N0.of M2 ?_ ?_
  ·simp
   refine al.vZ KB (AE o7) (by simp) (by simp[ae,ab,bS,idx]) (by simp[aO,az,bE,idx]) (by simp) ?_
   have o8:im (bool c7).2:=gX o7 2
   generalize bool c7=y2 at*
   cases hb:y2.1
   ·simp[hb]
    refine⟨[.keep [0,1,4,5,6,7,8]],?_⟩
    simp
    exact(hM2 _).2 ⟨sh,_,_,_,y2.2,⟨.inr ⟨rfl,rfl⟩,rfl,o8⟩,rfl⟩
   ·simp[hb]
    refine al.vK KB (JX o8) (by simp) (by simp[ae,ab,bS,idx]) (by simp[aO,az,bE,idx]) (by simp) ?_
    rintro⟨ep,c9⟩ ⟨Ho,o9⟩
    simp at Ho o9
    simp
    refine⟨[.keep [0,1,4,5,6,7,8]],?_⟩
    simp
    exact(hM2 _).2 ⟨sh,_,ep,_,c9,⟨.inl ⟨rfl,Ho⟩,rfl,o9⟩,rfl⟩
  intro s' pz
  obtain⟨sh,he,ep,kY,c9,⟨Ho,rfl,o9⟩,rfl⟩:=(hM2 _).1 pz
  clear pz hM2
  simp
  obtain⟨M3,hM3⟩:∃M:St->Prop,∀s',M s'↔∃(kY:Int) (c':qk),((kY=0∨1000≤kY∧kY<31000)∧im c')∧s'=⟨[(0,.pt KB [] 0),(1,.int .i64 2),(4,.pt 4 [] 0),(5,.pt 5 [] 0),(6,jt l),(7,.int .i64 ((x.1-i:Nat):Int)),(8,.pt 8 [] 0)],[(4,.box (.st 34 [.ar 1 32 (zr 32 (.int .u8 0)),.int .i64 0,.sl 85 [] true])),(5,.box (.st 34 [aW k1,.int .i64 po,.rs 91 [] 0 ps.length ps.length 85 .tip])),(8,.box (.st 85 [aW pk,aW sh,.bl he,jR ep,.int .i64 kY,.sl 18 [] true])),(91,.arr 85 (ps.map dT)),(KB,.box (hH c'))]⟩:=⟨_,λ_=>Iff.rfl⟩
  refine N0.of M3 ?_ ?_
  ·simp
   refine al.vZ KB (cD o9 3 (by omega)) (by simp) (by simp[ae,ab,bS,idx]) (by simp[aO,az,bE,idx]) (by simp) ?_
   have o10:im (rP c9 3).2:=gX o9 3
   generalize rP c9 3=y2 at*
   by_cases hb:(y2.1:Int)=1
   ·simp[hb]
    refine al.vK KB ((xd o10 30000 (by omega) (by omega)).mono (R':=λr fp=>∃w:Nat×qk,(im w.2∧w.1<30000)∧r= .int .i64 w.1∧fp=[.box (hH w.2)]) ?_) (by simp) (by simp[ae,ab,bS,idx]) (by simp[aO,az,bE,idx]) (by simp) ?_
    ·rintro r fp ⟨m,c',a,b,e,f⟩;exact⟨⟨m,c'⟩,⟨a,b⟩,e,f⟩
    rintro⟨kl,c11⟩ ⟨o11,oe⟩
    simp at o11 oe
    have wk:IntKind.i64.wrap (1000+(kl:Int))=1000+(kl:Int):=wrap_i64 (by omega)
    simp[wk]
    refine⟨[.keep [0,1,4,5,6,7,8]],?_⟩
    simp
    exact(hM3 _).2 ⟨1000+(kl:Int),c11,⟨.inr ⟨by omega,by omega⟩,o11⟩,rfl⟩
   ·simp[hb]
    refine⟨[.keep [0,1,4,5,6,7,8]],?_⟩
    simp
    exact(hM3 _).2 ⟨0,y2.2,⟨.inl rfl,o10⟩,rfl⟩
  intro s' pz
  obtain⟨kY,c11,⟨al8,o11⟩,rfl⟩:=(hM3 _).1 pz
  clear pz hM3 M1 M2 M3
  simp
  refine al.vZ KB (cD o11 3 (by omega)) (by simp) (by simp[ae,ab,bS,idx]) (by simp[aO,az,bE,idx]) (by simp) ?_
  have q12:=iZ c11 (n:=3) (by omega)
  have o12:im (rP c11 3).2:=gX o11 3
  generalize rP c11 3=z at*
  simp
  have hln:=hI.ln
  obtain⟨L,hL⟩:∃L,L=l.map dX:=⟨_,rfl⟩
  have hLl:L.length=l.length:=by rw[hL,List.length_map]
  have DS:aB L:=by rw[hL];exact vy l
  have hL0:jt l= .sl 18 L false:=by rw[hL];rfl
  rw[hL0]
  refine gR.acN (min z.1 l.length) (λ_=>True) [0,1,4,5,6,7,8,9] (λj=>[(6,.sl 18 (L.drop j) false),(9,.int .i64 ((z.1-j:Nat):Int))]) (λj=>[(8,.box (.st 85 [aW pk,aW sh,.bl he,jR ep,.int .i64 kY,.rs 92 [] 0 j j 18 .tip])),(92,.arr 18 (L.take j))]) [.keep [0,1,4,5,6,7,8,9],.vb 8 [.f 5 84] 92 18] [.fz 92] ?_
  simp
  refine⟨λj hj K2 nn=> ?_,?_⟩
  ·have rK:j<l.length:=by omega
   have hj3:0<z.1-j:=by omega
   have hjL:j<L.length:=by omega
   have ht:L.take (j+1)=L.take j++[L[j]]:=List.take_succ_eq_append_getElem hjL
   have eu:(L.take j).length=j:=by rw[lJ];omega
   have hd0:(L.drop j)[0]? =some L[j]:=by simp
   have xu:(L[j]).width=18:=by simp[hL]
   have Kg:Pure L[j]:=DS.forget _ (List.getElem_mem hjL)
   have hdl:0<L.length-j:=by omega
   have hwz:IntKind.i64.wrap (((z.1-j:Nat):Int)-1)=((z.1-(j+1):Nat):Int):=by rw[wrap_i64 (by omega)];omega
   rw[ht]at nn
   have hd1:(L.drop j).tail=L.drop (j+1):=by rw[List.tail_drop]
   have Xs:List.take (l.length-j) (L.drop j)=L.drop j:=tJ (by rw[List.length_drop];omega)
   obtain⟨r,hr⟩:∃r,L[j]=dX r:=⟨l[j],by simp[hL]⟩
   rw[hr]at nn hd0
   clear xu Kg ht hr
   simp[↓an,hj3,hdl]
   refine oJ.run [8,92] rfl ?_
   simp[hd0,eu,hdl,hd1,Xs,hLl,hwz]
   have hl6:l.length≤6:=by rw[List.length_append]at hln;omega
   refine⟨by omega,by omega,⟨by omega,by omega⟩,[.keep [0,1,4,5,6,7,8,9]],?_⟩
   simp
   exact nn _ (by simp)
  ·have hc:min z.1 l.length=min z.1 (min l.length L.length):=by omega
   have hle:min z.1 l.length≤min z.1 (min l.length L.length):=by omega
   refine⟨(DS.take _).refs _,λK3=> ?_⟩
   have rT:List.take (min z.1 l.length) (List.take (min z.1 l.length) L)=(l.take (min z.1 l.length)).map dX:=by rw[List.take_take,Nat.min_self,hL,List.map_take]
   rw[if_pos ⟨hc,hle⟩,rT,(DS.drop _).jI]
   have hsd:L.drop (min z.1 l.length)=(l.drop (min z.1 l.length)).map dX:=by rw[hL,List.map_drop]
   rw[hsd]
   obtain⟨m,hm⟩:∃m,m=min z.1 l.length:=⟨_,rfl⟩
   rw[←hm]
   have nX:¬(0<z.1-m∧0<l.length-m):=by omega
   clear hc hle rT hsd
   obtain⟨q,hq⟩:∃q:nd,q=⟨pk,sh,he,ep,kY,l.take m⟩:=⟨_,rfl⟩
   have e1:PV.st 85 [aW pk,aW sh,PV.bl he,jR ep,PV.int IntKind.i64 kY,PV.sl 18 (List.take m (List.map dX l)) false]=dT q:=by rw[hq,←List.map_take];rfl
   have e2:PV.sl 18 (List.drop m (List.map dX l)) false=jt (l.drop m):=by rw[←List.map_drop];rfl
   have BA:=hI.len
   have hw8:(IntKind.u8.wrap (IntKind.i64.wrap (10*((x.1-i:Nat):Int)))).toNat=10*(x.1-i):=by
    rw[wrap_i64 (by omega),wrap_u8 (by omega)];omega
   rw[hw8]at hpb
   have vV:Rh x.1 (i+1) (ps++[q]) (l.drop m):=by
    have Oy:lF (ps++[q])++l.drop m=lF ps++l:=by
     simp only[lF,List.map_append,List.flatten_append,List.map_cons,List.map_nil,List.flatten_cons,List.flatten_nil,List.append_nil,hq,List.append_assoc,List.take_append_drop]
    refine⟨λp hp=> ?_,by simp[BA],λj hj=> ?_,by rw[Oy];exact hI.px,by rw[Oy];exact hI.ln⟩
    ·rcases List.mem_append.1 hp with hp|hp
     ·exact hI.pc p hp
     ·rw[List.mem_singleton.1 hp,hq]
      exact⟨Ho,al8,by simp only[lJ];omega⟩
    ·by_cases rK:j<ps.length
     ·rw[List.getElem_append_left rK];exact hI.eK j rK
     ·have A9:j=i:=by rw[List.length_append]at hj;simp at hj;omega
      rw[List.getElem_append_right (by omega)]
      simp only[hq,show j-ps.length=0 by omega,List.getElem_cons_zero]
      rw[A9];exact hpb
   by_cases h0:0<z.1-m
   ·have h1:l.length-m=0:=by omega
    have h1':¬m<l.length:=by omega
    simp[↓an,h0,h1,h1',hw]
    refine⟨⟨by omega,by omega⟩,[.keep [0,1,4,5,6,7],.dr 8],?_⟩
    simp[e1,e2]
    exact hK (ps++[q]) (l.drop m) z.2 _ (by simp) vV o12
   ·have h1:z.1-m=0:=by omega
    simp[↓an,h0,h1,hw]
    refine⟨⟨by omega,by omega⟩,[.keep [0,1,4,5,6,7],.dr 8],?_⟩
    simp[e1,e2]
    exact hK (ps++[q]) (l.drop m) z.2 _ (by simp) vV o12
 ·simp[↓an]
  refine aC.with [.keep [4],.fz 91] [KB] ?_
  simp[ah,(bO _).refs,aM,(bO _).az]
  exact⟨⟨k1,po,ps⟩,cc,⟨⟨⟨by simp,by simp;omega⟩,x.1,by omega,l,hI⟩,hC⟩,rfl,rfl⟩
end Go.Ab
end Z5s
noncomputable section Z6s
namespace Go.Ab
open Go.Ab
structure tp (c:qQ):Prop where
 port:0≤c.port∧c.port≤65535
 len:c.aj.length≤2
 pc:∀p∈c.aj,MU p
 dis:∀(i j:Nat) (hi:i<c.aj.length) (hj:j<c.aj.length),i≠j->c.aj[i].eK≠c.aj[j].eK
 px:Bt (lF c.aj)
 ln:(lF c.aj).length≤6
theorem tp.of {c:qQ} (h0:0≤c.port∧c.port≤65535) {n:Nat} {l:List lr} (hn:n≤2) (h:Rh n n c.aj l):tp c:=by
 have hl:=h.ln
 rw[List.length_append]at hl
 refine⟨h0,by rw[h.len];exact hn,h.pc,λi j hi hj dF he=> ?_,⟨λp hp=>h.px.val p (by simp[hp]),(List.nodup_append.1 h.px.Om).1⟩,by omega⟩
 have h1:=h.eK i hi
 have h2:=h.eK j hj
 have II:=h.len
 rw[he,h2]at h1
 have e1:=congrArg UInt8.toNat h1
 rw[UInt8.toNat_ofNat',UInt8.toNat_ofNat']at e1
 omega
theorem WL {l:List lr} (h:l.length≤1048576):Els 18 true dX l:=⟨h,λx=>⟨⟨rfl,rfl⟩,by simp,by simp,λK=>by simp⟩⟩
theorem MV {l:List nd} (h:l.length≤1048576):Els 85 true dT l:=⟨h,λx=>⟨⟨rfl,rfl⟩,by simp,by simp,λK=>by simp⟩⟩
theorem MW (p:lr):a8 Pg I.fD [dX p] (.bl (!nh p)):=by
 refine af.intro T.fD (by simp[F.fD]) ?_
 simp[F.fD,ai,aG]
 refine al.ret (Dm p) (by simp) (by simp) (by simp) ?_
 simp
 refine aC.plain [] ?_
 simp
theorem Rj {p:nd} (h:MU p) (ha:∀x∈p.allowed,nh x=true):a8 Pg I.fR [dT p] (.bl true):=by
 refine af.intro T.fR (by simp[F.fR]) ?_
 have hlen:=h.len
 have hc:=adU (f:=I.bu) (ix:=I.bH) T.bu T.bH (WL (l:=p.allowed) (by omega)) (g:=I.fD) (p:=λx=> !nh x) (λx _=>MW x)
 have Kh:(p.allowed.any λx=> !nh x)=false:=by
  rw[List.any_eq_false];intro x hx;simp[ha x hx]
 rw[Kh]at hc
 obtain⟨tx,ht1,A2⟩:=ym p.ep
 have fe:=ml p.ep
 have fz:=ml Br
 have hk:¬(p.kY≠0∧(p.kY<1000∨1073741824<p.kY)):=by have:=h.kY;omega
 rcases h.ep with⟨he,Ho⟩|⟨he,Ho⟩
 ·have htx:tx≠[]:=λe=>by rw[ht1.1 e]at Ho;cases Ho
  simp[F.fR,ai,aG,he]
  refine al.ret A2 (by simp) (by simp) (by simp) ?_
  rcases h.kY with oq|pr
  ·simp[htx,oq]
   refine al.ret hc (by simp;rfl) (by simp) (by simp) ?_
   simp
   refine aC.plain [] ?_
   simp
  ·have k1:¬p.kY=0:=by omega
   have k2:¬p.kY<1000:=by omega
   have k3:¬1073741824<p.kY:=by omega
   simp[htx,k1,k2,k3]
   refine al.ret hc (by simp;rfl) (by simp) (by simp) ?_
   simp
   refine aC.plain [] ?_
   simp
 ·have hz:PV.beq (jR Br) (.st 18 [(.st 17 [(.bl false),(.ar 1 16 (zr 16 (.int .u8 0)))]),(.int .i64 0)])=true:=by rw[←xe];exact EG _
  have EP:fits shE (.st 18 [(.st 17 [(.bl false),(.ar 1 16 (zr 16 (.int .u8 0)))]),(.int .i64 0)])=true:=by rw[←xe];exact ml _
  rcases h.kY with oq|pr
  ·simp[F.fR,ai,aG,he,Ho,hz,EP,fz,oq]
   refine al.ret hc (by simp;rfl) (by simp) (by simp) ?_
   simp
   refine aC.plain [] ?_
   simp
  ·have k1:¬p.kY=0:=by omega
   have k2:¬p.kY<1000:=by omega
   have k3:¬1073741824<p.kY:=by omega
   simp[F.fR,ai,aG,he,Ho,hz,EP,fz,k1,k2,k3]
   refine al.ret hc (by simp;rfl) (by simp) (by simp) ?_
   simp
   refine aC.plain [] ?_
   simp
theorem Rk {p:nd} (h:MU p) (ha:∀x∈p.allowed,nh x=true):a8 Pg I.ef [dT p] (.bl false):=by
 refine af.intro T.ef (by simp[F.ef]) ?_
 simp[F.ef,ai,aG]
 refine al.ret (Rj h ha) (by simp) (by simp) (by simp) ?_
 simp
 refine aC.plain [] ?_
 simp
theorem Rm (p q:nd):af Pg I.eg [dT q,.pt KB [] 0] [.box (dT p)] (λr fp=>r= .bl (decide (q.eK=p.eK))∧fp=[.box (dT p)]):=by
 refine af.intro T.eg (by simp[F.eg]) ?_
 simp[F.eg,ai,aG,tH]
 refine aC.with [] [KB] ?_
 simp[ah,(ma p).refs,aM,(ma p).az]
theorem Rn {l:List lr} (hl:l.length≤1000) {x:lr} (h:x∉l):a8 Pg I.bp [.sl 18 (l.map dX) false,dX x] (.int .i64 (-1)):=by
 refine af.intro T.bp (by simp[F.bp]) ?_
 have hb:∀y∈l,PV.beq (dX x) (dX y)=false:=λy hy=>by
  cases e:PV.beq (dX x) (dX y)
  ·rfl
  ·exact absurd (by rw[Fj.1 e];exact hy) h
 simp[F.bp,ai,aG]
 refine gR.iw l.length (λ_=>True) [0,3,4,7,8] (λi=>[(8,.int .i64 i)]) (λi=>[]) [.keep [0,3,4,7,8]] ?_
 simp
 refine⟨λi hi K hK=> ?_,λK=> ?_⟩
 ·have hx:l[i]? =some l[i]:=gJ hi
  have hy:=hb _ (List.getElem_mem hi)
  have hw:IntKind.i64.wrap ((i:Int)+1)=(i:Int)+1:=wrap_i64 (by omega)
  have nq:(i:Int)<l.length:=by omega
  generalize l[i]=y at*
  have fx:=iL x
  have fy:=iL y
  simp[↓an,hx,hi,nq,hy,hw,fx,fy,-getElem?_pos]
  refine⟨[.keep [0,3,4,7,8]],?_⟩
  simp
  exact hK _ (by simp)
 ·simp[↓an]
  refine aC.plain [] ?_
  simp
theorem WM {l:List lr} (hl:l.length≤1000) {x:lr} (h:x∉l):a8 Pg I.bc [.sl 18 (l.map dX) false,dX x] (.bl false):=by
 refine af.intro T.bc (by simp[F.bc]) ?_
 simp[F.bc,ai,aG]
 refine al.ret (Rn hl h) (by simp) (by simp) (by simp) ?_
 simp
 refine aC.plain [] ?_
 simp
theorem al.vs [gK] {f:FuncId} {s:St} {dst:Option Nat} {K:St->Prop} {tg:Tg K} {k n sz:Nat} {L:List PV} {X v:PV} (hA:a8 Pg f [.sl sz L false,X] v)
  (hk:get s.bx k=some (.arr sz L)) (hn:L.length=n) (hL:aB L) (hX:Pure X) (hXw:wk X=X) (hv:Pure v) (mD:lN v=true) (iA:0<sz)
  (h:K ({s with bx:=put s.bx k (.arr sz L)}.put dst v)):al Pg s dst f [.rs k [] 0 n n sz .tip,X] K tg:=by
 refine al.view [k] [] [.arr sz L] (gI:=[.rs KB [] 0 n n sz .tip,X]) (args0:=[.sl sz L false,X]) (iK:=[.arr sz L]) hA (by simp[getAll,hk]) (by simp) (by simp) (by simp[ae,ab,bS,idx,hX.refs]) (by simp[ah,hL.refs]) (by simp[aO,az,bE,idx,hX.az,hXw]) (by simp[aM,hL.az]) ?_ ?_ ?_
 ·refine⟨.inl (.inr ⟨KB,[],0,n,n,sz,.tip,L,rfl,?_,hL.refs _,by omega,rfl⟩),.inl (.inl ⟨rfl,hX.refs _⟩),trivial⟩
  simp[content,aG,hn]
  rw[←hn,List.take_length]
 ·rintro r new ⟨rfl,rfl⟩
  exact⟨⟨mD,by simp⟩,rfl⟩
 ·rintro r new ⟨rfl,rfl⟩
  simp[hv.az,hv.refs,ah,ab,hL.refs,aM,az,hL.az,bB]
  exact h
theorem mT {ps:List nd} {i:Nat} (h:i<ps.length):lF (ps.take (i+1))=lF (ps.take i)++ps[i].allowed:=by
 rw[List.take_succ_eq_append_getElem h]
 simp only[lF,List.map_append,List.flatten_append,List.map_cons,List.map_nil,List.flatten_cons,List.flatten_nil,List.append_nil]
theorem AL (ps:List nd) (i:Nat):(lF (ps.take i)).length≤(lF ps).length:=by
 have:lF ps=lF (ps.take i)++lF (ps.drop i):=by
  simp only[lF];rw[←List.flatten_append,←List.map_append,List.take_append_drop]
 rw[this,List.length_append];omega
theorem J0 {c:qQ} (h:tp c):a8 Pg I.fW [gC c] (.int .i64 0):=by
 refine af.intro T.fW (by simp[F.fW]) ?_
 have qU:=h.len
 have hl6:=h.ln
 have R4:=h.port.1
 have qo:=h.port.2
 have hpv:∀p∈c.aj,∀x∈p.allowed,nh x=true:=λp hp x hx=>h.px.val x (by simp only[lF,List.mem_flatten,List.mem_map];exact⟨_,⟨p,hp,rfl⟩,hx⟩)
 simp[F.fW,ai,aG]
 refine gR.iw c.aj.length (λ_=>True) [1,2,3,12,13,14] (λi=>[(3,.int .i64 (lF (c.aj.take i)).length),(14,.int .i64 i)]) (λi=>[]) [.keep [1,2,3,12,13,14]] ?_
 simp
 refine⟨rfl,λi hi K hK=> ?_,λK=> ?_⟩
 ·have hx:c.aj[i]? =some c.aj[i]:=gJ hi
  have hle:=AL c.aj (i+1)
  rw[mT hi,List.length_append]at hle
  rw[mT hi]at hK
  have hw:IntKind.i64.wrap ((i:Int)+1)=(i:Int)+1:=wrap_i64 (by omega)
  have nq:(i:Int)<c.aj.length:=by omega
  generalize c.aj[i]=p at*
  have FC:IntKind.i64.wrap (((lF (c.aj.take i)).length:Int)+(p.allowed.length:Int))=((lF (c.aj.take i)++p.allowed).length:Int):=by rw[wrap_i64 (by omega)];simp
  simp[↓an,hx,hi,nq,hw,-getElem?_pos]
  refine⟨[.keep [1,2,3,12,13,14],.dr 5],?_⟩
  simp
  exact hK _ (by simp[FC])
 ·have k1:¬(8:Int)<c.aj.length:=by omega
  have k2:¬(16:Int)<(lF c.aj).length:=by omega
  have k3:¬c.port<0:=by omega
  have k4:¬(65535:Int)<c.port:=by omega
  have k5:¬8<c.aj.length:=by omega
  have k6:¬16<(lF c.aj).length:=by omega
  have hc0:=adU (f:=I.aH) (ix:=I.aP) T.aH T.aP (MV (l:=c.aj) (by omega)) (g:=I.ef) (p:=λ_=>false) (λx hx=>Rk (h.pc x hx) (hpv x hx))
  have Kh:(c.aj.any λ_=>false)=false:=by rw[List.any_eq_false];simp
  rw[Kh]at hc0
  simp[↓an,k1,k2,k3,k4,k5,k6]
  refine al.ret hc0 (by simp;rfl) (by simp) (by simp) ?_
  simp
  refine gR.iw c.aj.length (λ_=>True) [1,2,6,46,47,48] (λi=>[(6,.rs 93 [] 0 (lF (c.aj.take i)).length (lF (c.aj.take i)).length 18 .tip),(48,.int .i64 i)]) (λi=>[(93,.arr 18 ((lF (c.aj.take i)).map dX))]) [.keep [1,2,6,46,47,48],.vt 6 93 18] ?_
  simp
  refine⟨rfl,λi hi K hK=> ?_,λK=> ?_⟩
  ·have hx:c.aj[i]? =some c.aj[i]:=gJ hi
   have hle:=AL c.aj (i+1)
   have uC:(lF (c.aj.take i)++c.aj[i].allowed).Nodup:=by
    have e:lF c.aj=lF (c.aj.take (i+1))++lF (c.aj.drop (i+1)):=by
     simp only[lF];rw[←List.flatten_append,←List.map_append,List.take_append_drop]
    have:=h.px.Om
    rw[e,mT hi]at this
    exact(List.nodup_append.1 this).1
   have Ki:∀q∈c.aj.take i,decide (q.eK=c.aj[i].eK)=false:=λq hq=>by
    obtain⟨j,hj,rfl⟩:=List.mem_iff_getElem.1 hq
    rw[lJ]at hj
    rw[List.getElem_take]
    exact decide_eq_false (h.dis j i (by omega) hi (by omega))
   rw[mT hi,List.length_append]at hle
   rw[mT hi]at hK
   have hw:IntKind.i64.wrap ((i:Int)+1)=(i:Int)+1:=wrap_i64 (by omega)
   have nq:(i:Int)<c.aj.length:=by omega
   have Hk:(i:Int)≤c.aj.length:=by omega
   have v8:=akf (f:=I.aH) (ix:=I.aP) T.aH T.aP (MV (l:=c.aj.take i) (by rw[lJ];omega)) (g:=I.eg) (v:=dT c.aj[i]) (by simp) (p:=λq=>decide (q.eK=c.aj[i].eK)) (λx hx=>Rm _ x)
   have Kh:((c.aj.take i).any λq=>decide (q.eK=c.aj[i].eK))=false:=by rw[List.any_eq_false];intro q hq;rw[Ki q hq];simp
   rw[Kh,List.map_take]at v8
   clear Kh Ki
   generalize c.aj[i]=p at*
   have lS:aB (c.aj.map dT):=Fi _
   have Kq:jE ((c.aj.map dT).take i)=(c.aj.map dT).take i:=by rw[←List.map_take];exact MO _
   simp[↓an,hx,hi,nq,Hk,hw,jA,-getElem?_pos]
   refine al.gen [8] [] [.box (dT p)] v8 (by simp[getAll]) (by simp) (by simp) (by simp[ae,ab,bS,idx,(lS.take _).refs]) (by simp[ah,(ma p).refs]) (by simp[aO,az,bE,idx,(lS.take _).az,Kq]) (by simp[aM,(ma p).az]) (by simp[ah,ab,(ma p).refs]) ?_
   simp[bB,aM,az,fu,(ma p).az]
   obtain⟨A,hA⟩:∃A,A=lF (c.aj.take i):=⟨_,rfl⟩
   rw[←hA]at hK hle uC⊢
   obtain⟨F,hF⟩:∃F:Nat->List lr,∀j,F j=A++p.allowed.take j:=⟨_,λ_=>rfl⟩
   have hF0:F 0=A:=by rw[hF];simp
   have hFn:F p.allowed.length=A++p.allowed:=by rw[hF,List.take_length]
   refine gR.iw p.allowed.length (λ_=>True) [1,2,6,7,8,46,47,48,60,61,62] (λj=>[(6,.rs 93 [] 0 (F j).length (F j).length 18 .tip),(62,.int .i64 j)]) (λj=>[(93,.arr 18 ((F j).map dX))]) [.keep [1,2,6,7,8,46,47,48,60,61,62]] ?_
   simp[hF0]
   refine⟨λj hj K2 nn=> ?_,λK2=> ?_⟩
   ·have A1:p.allowed[j]? =some p.allowed[j]:=gJ hj
    have NI:F (j+1)=F j++[p.allowed[j]]:=by rw[hF,hF,List.take_succ_eq_append_getElem hj,List.append_assoc]
    have hFl:(F j).length≤6:=by rw[hF,List.length_append,lJ];omega
    have Ya:p.allowed[j]∉F j:=by
     have e:A++p.allowed=(F j++[p.allowed[j]])++p.allowed.drop (j+1):=by rw[←NI,hF,List.append_assoc,List.take_append_drop]
     rw[e]at uC
     have h3:=(List.nodup_append.1 (List.nodup_append.1 uC).1).2.2
     exact λhm=>h3 _ hm _ (by simp) rfl
    have R8:IntKind.i64.wrap ((j:Int)+1)=(j:Int)+1:=wrap_i64 (by omega)
    have rK:(j:Int)<p.allowed.length:=by omega
    rw[NI]at nn
    generalize p.allowed[j]=x at*
    generalize F j=G at*
    simp[↓an,A1,hj,rK,R8,-getElem?_pos]
    refine al.vs (WM (l:=G) (by omega) Ya) (by simp) (by simp) (vy G) (by simp) (by simp) (by simp) (by simp[lN,oz]) (by omega) ?_
    simp[R8]
    refine⟨⟨by omega,by omega⟩,[.keep [1,2,6,7,8,46,47,48,60,61,62],.dr 10],?_⟩
    simp
    exact nn _ (by simp)
   ·simp[↓an,hFn,hw]
    refine⟨[.keep [1,2,6,46,47,48],.dr 8],?_⟩
    simp
    exact hK _ (by simp[jA])
  ·simp[↓an]
   refine aC.plain [] ?_
   simp
end Go.Ab
end Z6s
noncomputable section Z7s
namespace Go.Ab
open Go.Ab
theorem WO {p:nd} (h:MU p) (ha:∀x∈p.allowed,nh x=true):a8 Pg I.eh [dT p] (.bl true):=by
 refine af.intro T.eh (by simp[F.eh]) ?_
 have hlen:=h.len
 obtain⟨tx,ht1,A2⟩:=yn p.ep
 have fe:=ml p.ep
 have fz:=ml Br
 have hz:PV.beq (jR Br) (.st 18 [(.st 17 [(.bl false),(.ar 1 16 (zr 16 (.int .u8 0)))]),(.int .i64 0)])=true:=by rw[←xe];exact EG _
 have EP:fits shE (.st 18 [(.st 17 [(.bl false),(.ar 1 16 (zr 16 (.int .u8 0)))]),(.int .i64 0)])=true:=by rw[←xe];exact ml _
 have Oq:G1 p.kY=true:=by
  unfold G1 qm
  rcases h.kY with hk|hk
  ·simp[hk]
  ·simp only[Bool.or_eq_true,aJ,decide_eq_true_eq];omega
 have hT:=WQ p.kY
 rw[Oq]at hT
 have key:∀(e:List (Nat×PV)) (K:St->Prop),True:=λ_ _=>trivial
 rcases h.ep with⟨he,Ho⟩|⟨he,Ho⟩
 ·have htx:tx≠[]:=λe=>by rw[ht1.1 e]at Ho;cases Ho
  simp[F.eh,ai,aG,he]
  refine al.ret A2 (by simp) (by simp) (by simp) ?_
  simp[htx,he]
  refine al.ret hT (by simp) (by simp) (by simp) ?_
  simp
  refine gR.iw p.allowed.length (λ_=>True) [1,2,31,32,33] (λi=>[(33,.int .i64 i)]) (λi=>[]) [.keep [1,2,31,32,33]] ?_
  simp
  refine⟨λi hi K hK=> ?_,λK=> ?_⟩
  ·have hx:p.allowed[i]? =some p.allowed[i]:=gJ hi
   have hv:=G2 p.allowed[i]
   rw[ha _ (List.getElem_mem hi)]at hv
   have hw:IntKind.i64.wrap ((i:Int)+1)=(i:Int)+1:=wrap_i64 (by omega)
   have nq:(i:Int)<p.allowed.length:=by omega
   generalize p.allowed[i]=x at*
   simp[↓an,hx,hi,nq,-getElem?_pos]
   refine al.ret hv (by simp) (by simp) (by simp) ?_
   simp[hw]
   refine⟨[.keep [1,2,31,32,33],.dr 4],?_⟩
   simp
   exact hK _ (by simp)
  ·simp[↓an]
   refine aC.plain [] ?_
   simp
 ·simp[F.eh,ai,aG,he,Ho,hz,EP,fz]
  refine al.ret hT (by simp) (by simp) (by simp) ?_
  simp
  refine gR.iw p.allowed.length (λ_=>True) [1,2,31,32,33] (λi=>[(33,.int .i64 i)]) (λi=>[]) [.keep [1,2,31,32,33]] ?_
  simp
  refine⟨λi hi K hK=> ?_,λK=> ?_⟩
  ·have hx:p.allowed[i]? =some p.allowed[i]:=gJ hi
   have hv:=G2 p.allowed[i]
   rw[ha _ (List.getElem_mem hi)]at hv
   have hw:IntKind.i64.wrap ((i:Int)+1)=(i:Int)+1:=wrap_i64 (by omega)
   have nq:(i:Int)<p.allowed.length:=by omega
   generalize p.allowed[i]=x at*
   simp[↓an,hx,hi,nq,-getElem?_pos]
   refine al.ret hv (by simp) (by simp) (by simp) ?_
   simp[hw]
   refine⟨[.keep [1,2,31,32,33],.dr 4],?_⟩
   simp
   exact hK _ (by simp)
  ·simp[↓an]
   refine aC.plain [] ?_
   simp
theorem J1 {c:qQ} (h:tp c):a8 Pg I.dO [gC c] (.int .i64 0):=by
 refine af.intro T.dO (by simp[F.dO]) ?_
 have qU:=h.len
 have hl6:=h.ln
 have R4:=h.port.1
 have qo:=h.port.2
 have hpv:∀p∈c.aj,∀x∈p.allowed,nh x=true:=λp hp x hx=>h.px.val x (by simp only[lF,List.mem_flatten,List.mem_map];exact⟨_,⟨p,hp,rfl⟩,hx⟩)
 obtain⟨Fl,hF⟩:∃Fl:Nat->List lr,∀i,Fl i=lF (c.aj.take i):=⟨_,λ_=>rfl⟩
 have hF0:Fl 0=[]:=by rw[hF];rfl
 have hFn:Fl c.aj.length=lF c.aj:=by rw[hF,List.take_length]
 simp[F.dO,ai,aG]
 refine gR.acN c.aj.length (λ_=>True) [1,2,3,17,18,19] (λi=>[(3,.rs 93 [] 0 (Fl i).length (Fl i).length 18 .tip),(19,.int .i64 i)]) (λi=>[(93,.arr 18 ((Fl i).map dX))]) [.keep [1,2,3,17,18,19],.vt 3 93 18] [.fz 93] ?_
 simp[hF0]
 refine⟨λi hi K hK=> ?_,?_⟩
 ·have hx:c.aj[i]? =some c.aj[i]:=gJ hi
  have hle:=AL c.aj (i+1)
  have NI:Fl (i+1)=Fl i++c.aj[i].allowed:=by rw[hF,hF,mT hi]
  rw[mT hi,List.length_append,←hF]at hle
  rw[NI]at hK
  have hw:IntKind.i64.wrap ((i:Int)+1)=(i:Int)+1:=wrap_i64 (by omega)
  have nq:(i:Int)<c.aj.length:=by omega
  generalize c.aj[i]=p at*
  generalize Fl i=G at*
  simp[↓an,hx,hi,nq,hw,jt,-getElem?_pos]
  refine⟨⟨by omega,by omega⟩,[.keep [1,2,3,17,18,19],.dr 5],?_⟩
  simp
  exact hK _ (by simp)
 ·have hc:(lF c.aj).length≤1000:=by omega
  have k1:¬(8:Int)<c.aj.length:=by omega
  have k2:¬(16:Int)<(lF c.aj).length:=by omega
  have k3:¬c.port<0:=by omega
  have k4:¬(65535:Int)<c.port:=by omega
  have k5:¬8<c.aj.length:=by omega
  have k6:¬16<(lF c.aj).length:=by omega
  simp[hFn,(vy (lF c.aj)).refs]
  intro K1
  simp[↓an,k1,k2,k3,k4,k5,k6]
  refine gR.iw c.aj.length (λ_=>True) [1,2,3,46,47,48] (λi=>[(48,.int .i64 i)]) (λi=>[]) [.keep [1,2,3,46,47,48]] ?_
  simp
  refine⟨λi hi K hK=> ?_,λK=> ?_⟩
  ·have hx:c.aj[i]? =some c.aj[i]:=gJ hi
   have hr:=WO (h.pc _ (List.getElem_mem hi)) (hpv _ (List.getElem_mem hi))
   have hw:IntKind.i64.wrap ((i:Int)+1)=(i:Int)+1:=wrap_i64 (by omega)
   have nq:(i:Int)<c.aj.length:=by omega
   generalize c.aj[i]=p at*
   simp[↓an,hx,hi,nq,-getElem?_pos]
   refine al.ret hr (by simp) (by simp) (by simp) ?_
   simp[hw]
   refine⟨[.keep [1,2,3,46,47,48],.dr 7],?_⟩
   simp
   exact hK _ (by simp)
  simp[↓an]
  refine gR.iw c.aj.length (λ_=>True) [1,2,3,57,58,59] (λi=>[(59,.int .i64 i)]) (λi=>[]) [.keep [1,2,3,57,58,59]] ?_
  simp
  refine⟨λi hi K hK=> ?_,λK=> ?_⟩
  ·have hx:c.aj[i]? =some c.aj[i]:=gJ hi
   have Ki:∀(j:Nat) (hj:j<c.aj.length),j<i->PV.beq (aW c.aj[i].eK) (aW c.aj[j].eK)=false:=λj hj A9=>by
    rw[tH];exact decide_eq_false (h.dis i j hi hj (by omega))
   have hw:IntKind.i64.wrap ((i:Int)+1)=(i:Int)+1:=wrap_i64 (by omega)
   have nq:(i:Int)<c.aj.length:=by omega
   have Hk:(i:Int)≤c.aj.length:=by omega
   generalize c.aj[i]=p at*
   simp[↓an,hx,hi,nq,Hk,jA,-getElem?_pos]
   have pv:min i c.aj.length=i:=by omega
   simp[pv]
   refine gR.iw i (λ_=>True) [1,2,3,8,9,57,58,59,67,68,69] (λj=>[(69,.int .i64 j)]) (λj=>[]) [.keep [1,2,3,8,9,57,58,59,67,68,69]] ?_
   simp
   refine⟨λj hj K2 nn=> ?_,λK2=> ?_⟩
   ·have sL:j<c.aj.length:=by omega
    have A1:((c.aj.map dT).take i)[j]? =some (dT c.aj[j]):=by rw[List.getElem?_take,if_pos hj];simp[gJ sL]
    have R8:IntKind.i64.wrap ((j:Int)+1)=(j:Int)+1:=wrap_i64 (by omega)
    have rK:(j:Int)<i:=by omega
    have hb:=Ki j sL hj
    generalize c.aj[j]=q at*
    simp[↓an,A1,hj,rK,R8,hb,pv,-getElem?_pos]
    refine⟨[.keep [1,2,3,8,9,57,58,59,67,68,69],.dr 11],?_⟩
    simp
    exact nn _ (by simp)
   ·simp[↓an,hw]
    refine⟨[.keep [1,2,3,57,58,59],.dr 9],?_⟩
    simp
    exact hK _ (by simp[jA])
  simp[↓an]
  obtain⟨A,hA⟩:∃A,A=lF c.aj:=⟨_,rfl⟩
  have uC:=h.px.Om
  rw[←hA]at hl6 uC hc⊢
  refine gR.iw A.length (λ_=>True) [1,2,3,80,81,82] (λi=>[(82,.int .i64 i)]) (λi=>[]) [.keep [1,2,3,80,81,82]] ?_
  simp
  refine⟨λi hi K hK=> ?_,λK=> ?_⟩
  ·have hx:(A.map dX)[i]? =some (dX A[i]):=by simp[gJ hi]
   have Ki:∀(j:Nat) (hj:j<A.length),j<i->PV.beq (dX A[i]) (dX A[j])=false:=λj hj A9=>by
    cases e:PV.beq (dX A[i]) (dX A[j])
    ·rfl
    ·exact absurd (Fj.1 e).symm (List.pairwise_iff_getElem.1 uC j i hj hi A9)
   have hw:IntKind.i64.wrap ((i:Int)+1)=(i:Int)+1:=wrap_i64 (by omega)
   have nq:(i:Int)<A.length:=by omega
   have Hk:(i:Int)≤A.length:=by omega
   have pv:min i A.length=i:=by omega
   generalize A[i]=x at*
   simp[↓an,hx,hi,nq,Hk,pv,-getElem?_pos]
   refine gR.iw i (λ_=>True) [1,2,3,12,13,80,81,82,89,90,91] (λj=>[(91,.int .i64 j)]) (λj=>[]) [.keep [1,2,3,12,13,80,81,82,89,90,91]] ?_
   simp
   refine⟨λj hj K2 nn=> ?_,λK2=> ?_⟩
   ·have sL:j<A.length:=by omega
    have A1:((A.map dX).take i)[j]? =some (dX A[j]):=by rw[List.getElem?_take,if_pos hj];simp[gJ sL]
    have R8:IntKind.i64.wrap ((j:Int)+1)=(j:Int)+1:=wrap_i64 (by omega)
    have rK:(j:Int)<i:=by omega
    have hb:=Ki j sL hj
    generalize A[j]=y at*
    have fx:=iL x
    have fy:=iL y
    simp[↓an,A1,hj,rK,R8,hb,pv,fx,fy,-getElem?_pos]
    refine⟨[.keep [1,2,3,12,13,80,81,82,89,90,91],.dr 15],?_⟩
    simp
    exact nn _ (by simp)
   ·simp[↓an,hw]
    refine⟨[.keep [1,2,3,80,81,82],.dr 13],?_⟩
    simp
    exact hK _ (by simp)
  simp[↓an]
  refine aC.plain [] ?_
  simp
end Go.Ab
end Z7s
noncomputable section Z8s
namespace Go.Ab
open Go.Ab
def oE (L:List kX) (i:Nat) (t:kX):List kX:=L.take i++t::L.drop i
theorem xS {L:List kX} {i:Nat} (t:kX) (_:Unit) (hi:i≤L.length):(oE L i t).length=L.length+1:=by
 simp only[oE,List.length_append,List.length_cons,lJ,List.length_drop];omega
theorem TY {L:List kX} {J:List PV} {c:iC} (hl:L.length≤1048576) (hJ:aB J) {g:FuncId} {q:kX->Bool} {v:PV} (hv:Pure v) (hq:∀x∈L,(af Pg g [bN x,.pt KB [] 0] [br.box v] (λr fp=>r= .bl (q x)∧fp=[br.box v]))):
  af Pg I.aV [.rs KB [] 0 L.length (L.length+J.length) 50 c,.fn (.func g) [] [.pt (KB+1) [] 0]] [.arr 50 (L.map bN++J),.box v] (λr fp=>r= .int .i64 (rQ q L)∧fp=[.arr 50 (L.map bN++J),.box v]):=by
 refine af.intro T.aV (by simp[F.aV]) ?_
 have lS:aB (L.map bN++J):=(aS bM L).append hJ
 have Kq:L.length=(L.map bN).length:=by simp
 have hx:∀i,(h:i<L.length)->(L.map bN++J)[i]? =some (bN L[i]):=λi h=>by rw[List.getElem?_append_left (by simpa using h)];simp[h]
 have hlen:(L.map bN++J).length=L.length+J.length:=by simp
 generalize L.map bN++J=B at*
 simp[F.aV,ai,aG,hlen]
 refine gR.iw L.length (λi=>∀x∈L.take i,q x=false) [0,1,4,6,7,8] (λi=>[(8,.int .i64 i)]) (λ_=>[]) [.keep [0,1,4,6,7,8]] ?_
 simp only[List.take_zero]
 simp
 refine⟨λi hi hI K hK=> ?_,λhI K=> ?_⟩
 ·have hc:=hq L[i] (List.getElem_mem hi)
  have hx:=hx i hi
  have wi:IntKind.i64.wrap ((i:Int)+1)=(i:Int)+1:=wrap_i64 (by omega)
  have hle:i<L.length+J.length:=by omega
  generalize Oz:L[i]=x at*
  simp[↓an,hx,hi,hlen,hle,-getElem?_pos]
  refine al.gen [KB+1] [] [br.box v] hc (by simp[getAll]) (by simp) (by simp) (by simp[ae,ab,bS,idx,(bM x).refs]) (by simp[ah,ab,hv.refs]) (by simp[aO,az,bE,idx,(bM x).az]) (by simp[aM,az,hv.az]) (by simp[ah,ab,hv.refs]) ?_
  simp[bB,aM,az,fu,hv.az]
  by_cases hb:q x=true
  ·simp[hb]
   refine aC.with [] [KB,KB+1] ?_
   simp[ah,ab,ae,aM,az,aO,eI,lS.refs,lS.az,hv.refs,hv.az]
   exact(xk hi hI (by rw[Oz];exact hb)).symm
  ·have hb:q x=false:=by simpa using hb
   simp[hb,wi]
   refine⟨[.keep [0,1,4,6,7,8]],?_⟩
   simp
   refine hK _ (by simp) ?_
   rw[List.take_succ_eq_append_getElem hi,Oz]
   intro y hy
   rcases List.mem_append.1 hy with h|h
   ·exact hI y h
   ·simp at h;subst h;exact hb
 ·simp[↓an]
  refine aC.with [] [KB,KB+1] ?_
  simp[ah,ab,ae,aM,az,aO,eI,lS.refs,lS.az,hv.refs,hv.az]
  exact(xj hI).symm
theorem WR {x:PV} {B:List PV} {off len:Nat} {c:iC} (ho:0<B.length) (hl:1≤len):af Pg I.jk [.rs KB [] 0 1 1 50 .tip,.rs (KB+1) [] off len B.length 50 c] [.arr 50 [x],.arr 50 B] (λr fp=>r= .bl false∧fp=[.arr 50 [x],.arr 50 B]):=by
 intro Γ w vs hw hm lj hA
 match vs,hA with
 |
  [v1,v2],hA=>
  obtain⟨h1,h2,_⟩:=hA
  have g1:get Γ.bx KB=some (.arr 50 [x]):=by rw[lj];rfl
  have g2:get Γ.bx (KB+1)=some (.arr 50 B):=by rw[lj];rfl
  obtain⟨a1,c1,e1,k1⟩:=h1.rs g1 (by simp[br.aK])
  obtain⟨a2,c2,e2,k2⟩:=h2.rs g2 (by simp[br.aK])
  obtain⟨_,_,r1⟩:=hm.blk _ _ g1
  obtain⟨r2w,_,r2⟩:=hm.blk _ _ g2
  unfold jo at k1 k2
  cases i1:Γ.ι KB with
  |none=>rw[i1]at k1;exact absurd k1.1 (by omega)
  |
   some b1=>
   cases i2:Γ.ι (KB+1)with
   |none=>rw[i2]at k2;exact absurd k2.1 (by omega)
   |
    some b2=>
    rw[i1]at k1 r1;rw[i2]at k2 r2
    obtain⟨p1,p2,_⟩:=k1
    obtain⟨q1,q2,_⟩:=k2
    rcases p2 with p2|rfl
    ·omega
    rcases q2 with q2|rfl
    ·omega
    obtain⟨cc1,ce1,cs1,afH,u1,u2,u3,_⟩:=r1
    obtain⟨cc2,ce2,cs2,NT,w1,w2,w3,_⟩:=r2
    have dF:b1≠b2:=λe=>by
     have:=hm.inj KB (KB+1) b1 (by rw[g1];rfl) (by rw[g2];rfl) i1 (by rw[i2,e])
     omega
    rw[←hw]at u1 w1
    have xX:cc2.size≠0:=by
     have e1:cs2.length=B.length*50:=by rw[w3.length,bF r2w]
     have e2:cc2.size=cs2.length+NT.length:=by rw[←Array.length_toList,w2];simp
     omega
    have ja:=Go.Lib.run_overlaps_apart (P:=Pg) w 36 4 123 (by kernel_rfl) 50 (λw=>run_sizeOf (by kernel_rfl)) ⟨b1,cG []+0*50,none⟩ ⟨b2,cG []+off*50,none⟩ 1 c1 len c2 dF ce1 ce2 cc1.size cc2.size (by simp[World.shape?,u1]) (by simp[World.shape?,w1]) xX (by simp[World.frozen?,u1]) (by simp[World.frozen?,u1])
    rw[e1,e2]
    refine .inr ⟨.bool false,w,?_,_,_,[.arr 50 [x],.arr 50 B],Γ,rfl,⟨rfl,rfl⟩,hw,hm,lj,jH,Le.refl Γ,WF.refl w⟩
    rw[run_callFunc_extern (fn:=(Pg.funcs[I.jk]?).getD default) (by kernel_rfl) (by kernel_rfl) (by kernel_rfl) (by kernel_rfl) (e:=Extern.SlicesOverlaps.overlaps #[36,36] #[4]) (by kernel_rfl)]
    rw[ja]
    rfl
theorem aea {L:List kX} {J:List PV} {c i:Nat} (hl:L.length≤1048576) (hJ:aB J) (hc:L.length+1≤c∧c≤L.length+J.length) (hi:i≤L.length) (t:kX):
  af Pg I.aI [.rs KB [] 0 L.length (L.length+J.length) 50 (.full c),.int .i64 i,.rs (KB+1) [] 0 1 1 50 .tip] [.arr 50 (L.map bN++J),.arr 50 [bN t]] (λr fp=>∃B,(aB B∧B.length=L.length+J.length∧B.take (L.length+1)=(oE L i t).map bN)∧r= .rs KB [] 0 (L.length+1) (L.length+J.length) 50 (.full c)∧fp=[.arr 50 B,.arr 50 [bN t]]):=by
 refine af.intro T.aI (by simp[F.aI]) ?_
 have py:∀l:List kX,aB (l.map bN):=λl=>aS bM l
 have pH:(L.map bN++J).length=L.length+J.length:=by simp
 have pB:∀k,k≤L.length->(L.map bN++J).take k=(L.take k).map bN:=λk hk=>by rw[List.take_append_of_le_length (by simpa using hk),List.map_take]
 have gn:aB (L.map bN++J):=(py _).append hJ
 generalize L.map bN++J=B at*
 by_cases X7:i=L.length
 ·subst X7
  simp(disch:=omega) [F.aI,ai,aG,pH]
  refine⟨⟨by omega,hc.2,by omega,by omega⟩,λuw=> ?_,λuw=>by omega⟩
  obtain⟨B2,X8,qo,qU,A2⟩:∃B2,List.take L.length B++bN t::List.drop (L.length+1) B=B2∧aB B2∧B2.length=L.length+J.length∧B2.take (L.length+1)=(oE L L.length t).map bN:=by
   have h0:(B.take L.length).length=L.length:=by rw[lJ,pH];omega
   refine⟨_,rfl,(gn.take _).append (aB.mk' λx hx=> ?_),?_,?_⟩
   ·rcases List.mem_cons.1 hx with rfl|hx
    ·simp
    ·exact(gn.drop _).forget x hx
   ·simp only[List.length_append,List.length_cons,List.length_drop,h0,pH];omega
   ·rw[List.take_append,tJ (by omega),h0,show L.length+1-L.length=1 by omega,pB _ (Nat.le_refl _)]
    simp[oE]
  rw[X8]
  refine aC.with [.keep [6]] [KB,KB+1] ?_
  simp[ah,ab,ae,aM,az,aO,eI,qo.refs,qo.az,(bM t).refs,(bM t).az]
  exact⟨qo,qU,A2⟩
 ·have eu:i<L.length:=by omega
  have Hn:¬(i:Int)=L.length:=by omega
  have h1:¬(c:Int)<(L.length:Int)+1:=by omega
  have h2:c≤L.length+J.length∧L.length≤c:=by omega
  have h3:L.length+1≤L.length+J.length:=by omega
  have RT:=WR (x:=bN t) (B:=B) (off:=i+1) (len:=L.length-i) (c:= .full (c-(i+1))) (by omega) (by omega)
  rw[pH]at RT
  simp(disch:=omega) [F.aI,ai,aG,pH,Hn,hi,h1,h2,hc.1]
  refine⟨⟨by omega,by omega⟩,by omega,?_⟩
  refine al.gen [KB+1,KB] [] [.arr 50 [bN t],.arr 50 B] RT (by simp[getAll]) (by simp) (by simp) (by simp[ae,ab,bS,idx]) (by simp[ah,ab,ae,gn.refs,(bM t).refs]) (by simp[aO,az,bE,idx]) (by simp[aM,az,aO,gn.az,(bM t).az]) (by simp[ah,ab,ae,gn.refs,(bM t).refs]) ?_
  have hw:IntKind.i64.wrap ((i:Int)+1)=(i:Int)+1:=wrap_i64 (by omega)
  have m1:min (L.length+1-i) (L.length+J.length-i)=L.length+1-i:=by omega
  simp(disch:=omega) [bB,aM,az,aO,fu,gn.az,(bM t).az,pH,hw,m1,-List.length_append]
  obtain⟨B1,hB1,Hh,qU,A2⟩:=Fh pH eu (by omega) (bN t)
  rw[pB _ (Nat.le_refl _),pB _ hi]at A2
  have R4:aB B1:=by rw[←hB1];exact(gn.take _).append ((((gn.drop _).take _).take _).append (gn.drop _))
  have qo:aB (List.take i B1++bN t::List.drop (i+1) B1):=(R4.take _).append (aB.mk' λx hx=>by
   rcases List.mem_cons.1 hx with rfl|hx
   ·simp
   ·exact(R4.drop _).forget x hx)
  rw[hB1]
  generalize List.take i B1++bN t::List.drop (i+1) B1=B2 at*
  refine⟨⟨by omega,hi⟩,by omega,by omega,by omega,by rw[Hh],by omega,⟨by rw[Hh],by rw[Hh];omega⟩,?_⟩
  refine aC.with [.keep [6]] [KB,KB+1] ?_
  simp[ah,ab,ae,aM,az,aO,eI,qo.refs,qo.az,(bM t).refs,(bM t).az]
  exact⟨qo,qU,by rw[A2];simp[oE,List.map_drop,List.map_take]⟩
theorem aeb {L:List kX} {J:List PV} {i:Nat} (hl:L.length≤1048576) (hJ:aB J) (hi:i≤L.length) (t:kX):
  af Pg I.aI [.rs KB [] 0 L.length (L.length+J.length) 50 (.full L.length),.int .i64 i,.rs (KB+1) [] 0 1 1 50 .tip] [.arr 50 (L.map bN++J),.arr 50 [bN t]] (λr fp=>r= .rs (KB+2) [] 0 (L.length+1) (L.length+1) 50 .tip∧fp=[.arr 50 (L.map bN++J),.arr 50 [bN t],.arr 50 ((oE L i t).map bN)]):=by
 refine af.intro T.aI (by simp[F.aI]) ?_
 have py:∀l:List kX,aB (l.map bN):=λl=>aS bM l
 have pH:(L.map bN++J).length=L.length+J.length:=by simp
 have pB:∀k,k≤L.length->(L.map bN++J).take k=(L.take k).map bN:=λk hk=>by rw[List.take_append_of_le_length (by simpa using hk),List.map_take]
 have gn:aB (L.map bN++J):=(py _).append hJ
 generalize L.map bN++J=B at*
 by_cases X7:i=L.length
 ·subst X7
  simp(disch:=omega) [F.aI,ai,aG,pH]
  refine⟨⟨by omega,by omega⟩,λuw=>by omega,?_⟩
  have X8:List.take L.length B++[bN t]=(oE L L.length t).map bN:=by rw[pB _ (Nat.le_refl _)];simp[oE]
  rw[X8]
  refine aC.with [.keep [6]] [KB,KB+1,25] ?_
  have Hi:=py (oE L L.length t)
  generalize (oE L L.length t).map bN=B2 at*
  simp[ah,ab,ae,aM,az,aO,eI,Hi.refs,Hi.az,gn.refs,gn.az,(bM t).refs,(bM t).az]
 ·have eu:i<L.length:=by omega
  have Hn:¬(i:Int)=L.length:=by omega
  have h1:(L.length:Int)<(L.length:Int)+1:=by omega
  have h2:(i:Int)<(L.length:Int)+1:=by omega
  have h3:(i:Int)≤(L.length:Int)+1:=by omega
  have h4:(L.length+1)*64≤140737488355328:=by omega
  have h5:L.length≤9223372036854775806:=by omega
  simp(disch:=omega) [F.aI,ai,aG,pH,Hn,hi,h1,h2,h3,h4,h5]
  refine⟨by omega,by omega,⟨by omega,by omega⟩,?_⟩
  rw[Ch (by rw[pH];omega) eu (by simp) (bN t),pB _ (Nat.le_refl _),pB _ hi]
  have hI:(List.take i L).map bN++bN t::List.drop i ((List.take L.length L).map bN)=(oE L i t).map bN:=by simp[oE,List.map_drop,List.map_take]
  rw[hI]
  have Hi:=py (oE L i t)
  generalize (oE L i t).map bN=B2 at*
  refine aC.with [.keep [6]] [KB,KB+1,40] ?_
  simp[ah,ab,ae,aM,az,aO,eI,Hi.refs,Hi.az,gn.refs,gn.az,(bM t).refs,(bM t).az]
end Go.Ab
end Z8s
noncomputable section Z9s
namespace Go.Ab
open Go.Ab
noncomputable def F.MX:aY:=⟨F.xT.nt,F.xT.res,mP F.xT.code [1,1,1]⟩
theorem T.MX:kL Pg [43] [] I.nK=some F.MX.er:=Iq [1,1,1] T.xT
def j9 (p:lr) (l:List kX):Nat:=l.findIdx λr=>oo p r.s6
theorem Dn (p:lr) (l:List kX):j9 p l≤l.length:=List.findIdx_le_length
theorem Ro {p:lr} {l:List kX} {i:Nat} (h:i<l.length) (hi:i<j9 p l):oo p l[i].s6=false:=by
 have:=List.not_of_lt_findIdx hi
 simpa using this
theorem Rp {p:lr} {l:List kX} (h:j9 p l<l.length):oo p l[j9 p l].s6=true:=List.findIdx_getElem (w:=h)
theorem xm {p:lr} {l:List kX} (h:∀x∈l,oo p x.s6=false):j9 p l=l.length:=by
 unfold j9
 rw[List.findIdx_eq_length]
 exact h
theorem xn {p:lr} {l:List kX} {i:Nat} (hi:i<l.length) (h:∀x∈l.take i,oo p x.s6=false) (hq:oo p l[i].s6=true):j9 p l=i:=by
 unfold j9
 rw[List.findIdx_eq hi]
 refine⟨hq,λj hj=> ?_⟩
 exact h _ (List.mem_take_iff_getElem.2 ⟨j,by omega,rfl⟩)
def n9 (l:List kX) (p:lr) (k:Key):List kX:=oE l (j9 p l) ⟨p,k⟩
theorem sF (l:List kX) (p:lr) (k:Key):(n9 l p k).length=l.length+1:=xS _ () (Dn p l)
theorem aec (r:kX) (p:lr):af Pg I.fE [bN r,.pt KB [] 0] [.box (dX p)] (λx fp=>x= .bl (MT r.s6 p)∧fp=[.box (dX p)]):=by
 refine af.intro T.fE (by simp[F.fE]) ?_
 have f1:=iL p
 have f2:=iL r.s6
 simp[F.fE,ai,aG,f1,f2]
 refine aC.with [] [KB] ?_
 simp[ah,(gW p).refs,aM,(gW p).az,MT]
theorem aed (r:kX) (p:lr):af Pg I.fF [bN r,.pt KB [] 0] [.box (dX p)] (λx fp=>x= .bl (oo p r.s6)∧fp=[.box (dX p)]):=by
 refine af.intro T.fF (by simp[F.fF]) ?_
 simp[F.fF,ai,aG]
 refine al.ret (aee p r.s6) (by simp) (by simp) (by simp) ?_
 simp
 refine aC.with [] [KB] ?_
 simp[ah,(gW p).refs,aM,(gW p).az]
theorem Rq {l:List kX} (hl:l.length<16) {p:lr} (hp:nh p=true) (hn:∀r∈l,r.s6≠p) (k:Key):a8 Pg I.nK [fZ l,dX p,aW k] (.tup [fZ (n9 l p k),.int .i64 0]):=by
 refine af.intro T.MX (by simp[F.MX,F.xT]) ?_
 have py:∀l:List kX,aB (l.map bN):=λl=>aS bM l
 have hv:=Dm p
 rw[hp]at hv
 have qV:Bm Pg I.b7 [.sl 50 (l.map bN) false] 50 (l.map bN):=uj (bytes:=64) T.b7 (by omega) (py l) (by simp;omega) (by omega)
 simp[F.MX,F.xT,mP,ai,aG,fZ]
 refine al.ret hv (by simp) (by simp) (by simp) ?_
 simp
 have Oz:PV.st 50 [dX p,aW k]=bN ⟨p,k⟩:=rfl
 rw[Oz]
 obtain⟨M,hM⟩:∃M:St->Prop,∀s',M s'↔∃(J:List PV) (c:Nat),(aB J∧l.length≤c∧c≤l.length+J.length)∧s'=⟨[(0,.sl 50 (l.map bN) false),(4,.pt 4 [] 0),(5,.pt 5 [] 0),(6,.sl 50 [] true),(7,.int .i64 0),(8,.pt 8 [] 0),(9,.rs 19 [] 0 l.length (l.length+J.length) 50 (.full c))],[(4,.box (dX p)),(5,.box (aW k)),(8,.box (bN ⟨p,k⟩)),(19,.arr 50 (l.map bN++J))]⟩:=⟨_,λ_=>Iff.rfl⟩
 refine N0.of M ?_ ?_
 ·simp
  refine al.own 19 qV (by simp) (by simp[py]) (py l) (by simp) ?_
  simp
  refine⟨[.keep [0,4,5,6,7,8,9],.mt 9],?_⟩
  simp
  intro c j hcj
  exact(hM _).2 ⟨List.replicate j (Gc 50),c,⟨nE 50 j,by rcases hcj with h|⟨_,_,h⟩<;>simp_all,by rw[List.length_replicate];rcases hcj with h|⟨_,_,h⟩<;>simp_all⟩,by simp⟩
 intro s' pz
 obtain⟨J,c,⟨hJ,h1,h2⟩,rfl⟩:=(hM _).1 pz
 clear pz hM M
 have gn:aB (l.map bN++J):=(py _).append hJ
 have pH:(l.map bN++J).length=l.length+J.length:=by simp
 have uG:=TY (L:=l) (J:=J) (c:= .full c) (by omega) hJ (g:=I.fE) (q:=λr=>MT r.s6 p) (v:=dX p) (by simp) (λx _=>aec x p)
 have nq:=TY (L:=l) (J:=J) (c:= .full c) (by omega) hJ (g:=I.fF) (q:=λr=>oo p r.s6) (v:=dX p) (by simp) (λx _=>aed x p)
 have DG:rQ (λr:kX=>MT r.s6 p) l= -1:=by
  rcases rE (λr:kX=>MT r.s6 p) l with⟨he,_⟩|⟨i,hi,_,_,hq⟩
  ·exact he
  ·exact absurd (Fj.1 hq) (hn _ (List.getElem_mem hi))
 rw[DG]at uG
 have lS:=Dn p l
 have hA:=λhc:l.length+1≤c=>aea (L:=l) (J:=J) (c:=c) (i:=j9 p l) (by omega) hJ ⟨hc,h2⟩ lS ⟨p,k⟩
 have hB:=aeb (L:=l) (J:=J) (i:=j9 p l) (by omega) hJ lS ⟨p,k⟩
 have hR:fZ (n9 l p k)= .sl 50 ((oE l (j9 p l) ⟨p,k⟩).map bN) false:=rfl
 have XW:¬(16:Int)≤l.length:=by omega
 have amd:¬16≤l.length:=by omega
 have FR:=xS (L:=l) ⟨p,k⟩ () lS
 generalize hBd:l.map bN++J=B at*
 simp
 refine al.gen [19,4] [] [.arr 50 B,.box (dX p)] uG (by simp[getAll]) (by simp) (by simp) (by simp[ae,ab,bS,idx]) (by simp[ah,ab,gn.refs,(gW p).refs]) (by simp[aO,az,bE,idx]) (by simp[aM,az,gn.az,(gW p).az]) (by simp[ah,ab,gn.refs,(gW p).refs]) ?_
 simp[bB,aM,az,fu,gn.az,(gW p).az,XW,amd]
 refine al.gen [19,4] [] [.arr 50 B,.box (dX p)] nq (by simp[getAll]) (by simp) (by simp) (by simp[ae,ab,bS,idx]) (by simp[ah,ab,gn.refs,(gW p).refs]) (by simp[aO,az,bE,idx]) (by simp[aM,az,gn.az,(gW p).az]) (by simp[ah,ab,gn.refs,(gW p).refs]) ?_
 simp[bB,aM,az,fu,gn.az,(gW p).az]
 clear hR
 rcases rE (λr:kX=>oo p r.s6) l with⟨he,eO⟩|⟨i,hi,he,Hm,hq⟩
 ·rw[xm eO]at hA hB FR lS
  refine⟨λ_=>⟨pH.symm,?_⟩,λh=>by omega⟩
  by_cases X9:l.length+1≤c
  ·refine al.GI [19,43] [] [.arr 50 B,.arr 50 [bN ⟨p,k⟩]] (hA X9) (by simp[getAll]) (by simp) (by simp) (by simp[ae,ab,bS,idx]) (by simp[ah,ab,ae,gn.refs,(bM ⟨p,k⟩).refs]) (by simp[aO,az,bE,idx]) (by simp[aM,az,aO,gn.az,(bM ⟨p,k⟩).az]) ?_
   rintro r fp ⟨B2,⟨qo,qU,A2⟩,rfl,rfl⟩
   refine⟨by simp[ah,ab,ae,eI,qo.refs,(bM ⟨p,k⟩).refs],?_⟩
   simp[bB,aM,az,aO,fu,qo.az,(bM ⟨p,k⟩).az]
   refine aC.plain [.keep [6,7],.fz 19] ?_
   have hle:l.length+1≤B2.length:=by omega
   simp[qo.refs,gF]
   rw[if_pos ⟨qU.symm,hle⟩,A2]
   simp[n9,xm eO]
  ·obtain rfl:c=l.length:=by omega
   refine al.gen [19,43] [44] [.arr 50 B,.arr 50 [bN ⟨p,k⟩]] hB (by simp[getAll]) (by simp) (by simp) (by simp[ae,ab,bS,idx]) (by simp[ah,ab,ae,gn.refs,(bM ⟨p,k⟩).refs]) (by simp[aO,az,bE,idx]) (by simp[aM,az,aO,gn.az,(bM ⟨p,k⟩).az]) (by simp[ah,ab,ae,gn.refs,(bM ⟨p,k⟩).refs,eI,(py (oE l (l.length) ⟨p,k⟩)).refs]) ?_
   simp[bB,aM,az,aO,fu,gn.az,(bM ⟨p,k⟩).az,(py (oE l (l.length) ⟨p,k⟩)).az]
   refine aC.plain [.keep [6,7],.fz 44] ?_
   simp[gF]
   rw[if_pos (by rw[FR];omega),tJ (by rw[List.length_map,FR];omega)]
   simp[n9,xm eO]
 ·rw[xn hi Hm hq]at hA hB FR lS
  refine⟨λh=>by omega,λ_=> ?_⟩
  rw[he]
  by_cases X9:l.length+1≤c
  ·refine al.GI [19,43] [] [.arr 50 B,.arr 50 [bN ⟨p,k⟩]] (hA X9) (by simp[getAll]) (by simp) (by simp) (by simp[ae,ab,bS,idx]) (by simp[ah,ab,ae,gn.refs,(bM ⟨p,k⟩).refs]) (by simp[aO,az,bE,idx]) (by simp[aM,az,aO,gn.az,(bM ⟨p,k⟩).az]) ?_
   rintro r fp ⟨B2,⟨qo,qU,A2⟩,rfl,rfl⟩
   refine⟨by simp[ah,ab,ae,eI,qo.refs,(bM ⟨p,k⟩).refs],?_⟩
   simp[bB,aM,az,aO,fu,qo.az,(bM ⟨p,k⟩).az]
   refine aC.plain [.keep [6,7],.fz 19] ?_
   have hle:l.length+1≤B2.length:=by omega
   simp[qo.refs,gF]
   rw[if_pos ⟨qU.symm,hle⟩,A2]
   simp[n9,xn hi Hm hq]
  ·obtain rfl:c=l.length:=by omega
   refine al.gen [19,43] [44] [.arr 50 B,.arr 50 [bN ⟨p,k⟩]] hB (by simp[getAll]) (by simp) (by simp) (by simp[ae,ab,bS,idx]) (by simp[ah,ab,ae,gn.refs,(bM ⟨p,k⟩).refs]) (by simp[aO,az,bE,idx]) (by simp[aM,az,aO,gn.az,(bM ⟨p,k⟩).az]) (by simp[ah,ab,ae,gn.refs,(bM ⟨p,k⟩).refs,eI,(py (oE l (i) ⟨p,k⟩)).refs]) ?_
   simp[bB,aM,az,aO,fu,gn.az,(bM ⟨p,k⟩).az,(py (oE l (i) ⟨p,k⟩)).az]
   refine aC.plain [.keep [6,7],.fz 44] ?_
   simp[gF]
   rw[if_pos (by rw[FR];omega),tJ (by rw[List.length_map,FR];omega)]
   simp[n9,xn hi Hm hq]
theorem Ir {l:List kX} (hl:l.length<16) {p:lr} (hp:nh p=true) (hn:∀r∈l,r.s6≠p) (k:Key):a8 Pg I.cN [fZ l,dX p,aW k] (.tup [fZ (n9 l p k),.int .i64 0]):=by
 refine af.intro T.cN (by simp[F.cN]) ?_
 have hv:=G2 p
 rw[hp]at hv
 have fp:=iL p
 simp[F.cN,ai,aG]
 refine al.ret hv (by simp) (by simp) (by simp) ?_
 simp(disch:=omega) [fZ]
 refine⟨⟨by omega,by omega⟩,?_⟩
 refine gR.iw l.length (λ_=>True) [0,4,5,6,7,8,17,18] (λi=>[(18,.int .i64 i)]) (λi=>[]) [.keep [0,4,5,6,7,8,17,18]] ?_
 simp
 refine⟨λi hi K hK=> ?_,λK=> ?_⟩
 ·have hx:l[i]? =some l[i]:=gJ hi
  have dF:=hn _ (List.getElem_mem hi)
  have hw:IntKind.i64.wrap ((i:Int)+1)=(i:Int)+1:=wrap_i64 (by omega)
  generalize l[i]=r at*
  have hb:PV.beq (dX r.s6) (dX p)=false:=by
   cases e:PV.beq (dX r.s6) (dX p)
   ·rfl
   ·exact absurd (Fj.1 e) dF
  have fr:=iL r.s6
  simp[↓an,hx,hi,hb,hw,fp,fr,-getElem?_pos]
  refine⟨[.keep [0,4,5,6,7,8,17,18]],?_⟩
  simp
  exact hK _ (by simp)
 ·have DQ:¬(16:Int)≤l.length:=by omega
  have qU:¬16≤l.length:=by omega
  have lS:=Dn p l
  simp[↓an,DQ,qU]
  refine gR.iw (j9 p l) (λ_=>True) [0,4,5,6,7,8,10] (λi=>[(10,.int .i64 i)]) (λi=>[]) [.keep [0,4,5,6,7,8,10]] ?_
  simp
  refine⟨λi hi K hK=> ?_,λK=> ?_⟩
  ·have FR:i<l.length:=by omega
   have hx:l[i]? =some l[i]:=gJ FR
   have hq:=Ro FR hi
   have hw:IntKind.i64.wrap ((i:Int)+1)=(i:Int)+1:=wrap_i64 (by omega)
   have hb:=Is p l[i].s6
   rw[hq]at hb
   generalize l[i]=r at*
   simp[↓an,hx,FR,hw,-getElem?_pos]
   refine aU.ret hb (by simp) (by simp) (by simp) ?_
   simp[hw]
   refine⟨[.keep [0,4,5,6,7,8,10]],?_⟩
   simp
   exact hK _ (by simp)
  ·by_cases R9:j9 p l<l.length
   ·have hx:l[j9 p l]? =some l[j9 p l]:=gJ R9
    have hb:=Is p l[j9 p l].s6
    rw[Rp R9]at hb
    simp[↓an,hx,R9]
    refine aU.ret hb (by simp) (by simp) (by simp) ?_
    simp[↓an]
    refine oJ.run [61,66] rfl ?_
    simp[lS]
    have pv:min (1+(l.length-j9 p l)) (l.length-j9 p l+1)=1+(l.length-j9 p l):=by omega
    rw[pv]
    refine⟨⟨by omega,by omega⟩,⟨by omega,by omega⟩,⟨by omega,by omega⟩,?_⟩
    refine aC.plain [.keep [6,7],.dr 61,.dr 15,.fz 66,.wk 6] ?_
    have h1:min (j9 p l) l.length=j9 p l:=by omega
    have h2:l.length-j9 p l+1=1+(l.length-j9 p l):=by omega
    have e:List.take (j9 p l) (l.map bN)++bN ⟨p,k⟩::List.drop (j9 p l) (l.map bN)=(n9 l p k).map bN:=by simp[n9,oE,List.map_drop,List.map_take]
    have e0:PV.st 50 [dX p,aW k]=bN ⟨p,k⟩:=rfl
    have h3:=sF l p k
    have h4:j9 p l+(1+(l.length-j9 p l))=(n9 l p k).length:=by omega
    simp[jq,kG,ab,ah,ae,h1,h2,tJ,e0,e]
    rw[h4,if_pos ⟨rfl,Nat.le_refl _⟩,tJ (by simp)]
    simp
   ·simp[↓an,R9]
    refine oJ.run [61,66] rfl ?_
    simp[lS]
    have pv:min (1+(l.length-j9 p l)) (l.length-j9 p l+1)=1+(l.length-j9 p l):=by omega
    rw[pv]
    refine⟨⟨by omega,by omega⟩,⟨by omega,by omega⟩,⟨by omega,by omega⟩,?_⟩
    refine aC.plain [.keep [6,7],.dr 61,.dr 15,.fz 66,.wk 6] ?_
    have h1:min (j9 p l) l.length=j9 p l:=by omega
    have h2:l.length-j9 p l+1=1+(l.length-j9 p l):=by omega
    have e:List.take (j9 p l) (l.map bN)++bN ⟨p,k⟩::List.drop (j9 p l) (l.map bN)=(n9 l p k).map bN:=by simp[n9,oE,List.map_drop,List.map_take]
    have e0:PV.st 50 [dX p,aW k]=bN ⟨p,k⟩:=rfl
    have h3:=sF l p k
    have h4:j9 p l+(1+(l.length-j9 p l))=(n9 l p k).length:=by omega
    simp[jq,kG,ab,ah,ae,h1,h2,tJ,e0,e]
    rw[h4,if_pos ⟨rfl,Nat.le_refl _⟩,tJ (by simp)]
    simp
end Go.Ab
end Z9s
noncomputable section Z10s
namespace Go.Ab
open Go.Ab
def Fk (now:Int) (l:List gZ) (p:jy):List gZ:=if p.kY=0 then l else ql l ⟨IntKind.i64.wrap (now+p.kY),p.eK,4⟩
theorem aef {d:gU} (ht:d.timers.length≤1048575) {m:Nat} {L:List PV} (hL:aB L) {o:PV} (ho:Pure o) {V:PV} (hV:Pure V) {pb:Key} (h0:aX V [.f 0 0]=some (aW pb)) (k n:Int):
  af Pg I.eF [.pt KB [] 0,.pt (KB+2) [] 0,.int .i64 k,.int .i64 n] [.box (qp d (.rs (KB+1) [] 0 m m 464 .tip) o),.arr 464 L,.box V]
   (λr fp=>r= .tup []∧fp=[.box (qp (QY d (ql d.timers ⟨n,pb,k⟩)) (.rs (KB+1) [] 0 m m 464 .tip) o),.arr 464 L,.box V]):=by
 refine af.intro T.eF (by simp[F.eF]) ?_
 have e:PV.st 34 [.int .i64 n,aW pb,.int .i64 k]=bT ⟨n,pb,k⟩:=rfl
 simp[F.eF,ai,aG,e,h0]
 refine aU.ret (akh (l:=d.timers) ht ⟨n,pb,k⟩) (by simp) (by simp) (by simp) ?_
 simp
 refine aC.with [] [KB,KB+1,KB+2] ?_
 simp[gF,QY,hL.refs,hL.az,ho.refs,ho.az,ah,ab,aM,az,hV.refs,hV.az,eI]
theorem WT {d:gU} (ht:d.timers.length≤1048575) {m:Nat} {L:List PV} (hL:aB L) {o:PV} (ho:Pure o) (x:jy) {V:PV} (hV:Pure V) (h0:aX V [.f 0 0]=some (aW x.eK)) (h4:aX V [.f 4 83]=some (.int .i64 x.kY)):
  af Pg I.cq [.pt KB [] 0,.pt (KB+2) [] 0] [.box (qp d (.rs (KB+1) [] 0 m m 464 .tip) o),.arr 464 L,.box V]
   (λr fp=>r= .tup []∧fp=[.box (qp (QY d (Fk d.now d.timers x)) (.rs (KB+1) [] 0 m m 464 .tip) o),.arr 464 L,.box V]):=by
 refine af.intro T.cq (by simp[F.cq]) ?_
 by_cases h:x.kY=0
 ·simp[F.cq,ai,aG,h,h4]
  refine aC.with [] [KB,KB+1,KB+2] ?_
  simp[gF,QY,Fk,h,hL.refs,hL.az,ho.refs,ho.az,ah,ab,aM,az,hV.refs,hV.az,eI]
 ·have hs:=aef (d:=d) ht (m:=m) hL ho hV h0 4 (IntKind.i64.wrap (d.now+x.kY))
  simp[F.cq,ai,aG,h,h4]
  refine al.gen [KB,KB+1,KB+2] [] [.box (qp d (.rs (KB+1) [] 0 m m 464 .tip) o),.arr 464 L,.box V] hs (by simp[getAll]) (by simp) (by simp) (by simp[ae,ab,bS,idx]) (by simp[ah,ab,bS,idx,hL.refs,ho.refs,hV.refs]) (by simp[aO,az,bE,idx]) (by simp[aM,az,bE,idx,hL.az,ho.az,hV.az]) (by simp[ah,ab,ae,eI,hL.refs,ho.refs,hV.refs]) ?_
  simp[bB,aM,az,aO,fu,hL.az,ho.az,hV.az]
  refine aC.with [] [KB,KB+1,KB+2] ?_
  simp[gF,Fk,h,hL.refs,hL.az,ho.refs,ho.az,ah,ab,aM,az,hV.refs,hV.az,eI]
theorem aeg {d:gU} (ht:d.timers.length≤1048575) {i:Nat} (hi:i<d.aj.length) {o:PV} (ho:Pure o) (k n:Int):
  af Pg I.cP [.pt KB [] 0,.int .i64 i,.int .i64 k,.int .i64 n] [.box (qp d (gh d.aj) o)]
   (λr fp=>r= .tup []∧fp=[.box (qp (QY d (ql d.timers ⟨IntKind.i64.wrap (d.now+n),d.aj[i].eK,k⟩)) (gh d.aj) o)]):=by
 refine af.intro T.cP (by simp[F.cP]) ?_
 have hx:d.aj[i]? =some d.aj[i]:=gJ hi
 have e:PV.st 34 [.int .i64 (IntKind.i64.wrap (d.now+n)),aW d.aj[i].eK,.int .i64 k]=bT ⟨IntKind.i64.wrap (d.now+n),d.aj[i].eK,k⟩:=rfl
 simp[F.cP,ai,aG,hx,hi,e]
 refine aU.ret (eM (l:=d.timers) ht ⟨IntKind.i64.wrap (d.now+n),d.aj[i].eK,k⟩) (by simp) (by simp) (by simp) ?_
 simp
 refine aC.with [] [KB] ?_
 simp[gF,QY,ho.refs,ho.az,ah,aM,(pR d.aj).refs,(pR d.aj).az]
theorem WU {d:gU} (ht:d.timers.length≤1048575) {i:Nat} (hi:i<d.aj.length) {o:PV} (ho:Pure o):
  af Pg I.bw [.pt KB [] 0,.int .i64 i] [.box (qp d (gh d.aj) o)]
   (λr fp=>r= .tup []∧fp=[.box (qp (QY d (Fk d.now d.timers d.aj[i])) (gh d.aj) o)]):=by
 refine af.intro T.bw (by simp[F.bw]) ?_
 have hx:d.aj[i]? =some d.aj[i]:=gJ hi
 have hs:=aeg (d:=d) ht hi ho 4 d.aj[i].kY
 generalize d.aj[i]=x at*
 have Bb:=pR d.aj
 by_cases h:x.kY=0
 ·simp[F.bw,ai,aG,hx,hi,h,-getElem?_pos]
  refine aC.with [] [KB] ?_
  simp[gF,QY,Fk,h,ho.refs,ho.az,ah,aM,Bb.refs,Bb.az]
 ·simp[F.bw,ai,aG,hx,hi,h,-getElem?_pos]
  refine al.gen [KB] [] [.box (qp d (gh d.aj) o)] hs (by simp[getAll]) (by simp) (by simp) (by simp[ae,ab,bS,idx]) (by simp[ah,ab,ho.refs,Bb.refs]) (by simp[aO,az,bE,idx]) (by simp[aM,az,ho.az,Bb.az]) (by simp[ah,ab,ae,eI,ho.refs,Bb.refs]) ?_
  simp[bB,aM,az,aO,fu,ho.az,Bb.az]
  refine aC.with [] [KB] ?_
  simp[gF,Fk,h,ho.refs,ho.az,ah,aM,Bb.refs,Bb.az]
end Go.Ab
end Z10s

/- The types of a daemon that comes in. No condition. -/
import Derived.Test.YtjkfnhhekobfgaaGreatDoorW8
import Derived.Test.YtjkfnhhekobfgaaGreatDoorA6
set_option maxRecDepth 100000
set_option linter.all false
noncomputable section
namespace Go.Ab
open Go.Ab Go.Proofs
theorem KO {t e:TypeId} {k n c:Nat} {p:PV} (ht:Pg.underlying t=some (.array k e)) (hc:Pg.cellsOf e=c) (h:mh Pg (n+1) t p):∃l,p= .ar c k l∧l.length=k∧∀x∈l,mh Pg n e x:=by
 rw[mh,ht]at h
 obtain⟨l,rfl,h1,h2⟩:=h
 exact⟨l,by rw[hc],h1,h2⟩
theorem KP {t:TypeId} {k n:Nat} {p:PV} (ht:Pg.underlying t=some (.array k 5)) (h:mh Pg (n+2) t p):∃b:List UInt8,p= .ar 1 k (b.map u8)∧b.length=k:=by
 obtain⟨l,rfl,hl,h⟩:=KO ht (c:=1) (by kernel_rfl) h
 obtain⟨b,rfl,_⟩:=jA (enc:=u8) (Q:=λ_=>True) (l:=l) (λx hx=>by
  obtain⟨m,rfl,h1,h2⟩:=eu Tryz.underlying5 (h x hx)
  have uu:0≤m:=h1
  have h2':m≤255:=h2
  refine⟨UInt8.ofNat m.toNat,?_,trivial⟩
  simp only[u8]
  congr 1
  rw[UInt8.toNat_ofNat']
  omega)
 exact⟨b,rfl,by simpa using hl⟩
theorem BO {n:Nat} {p:PV} (h:mh Pg (n+2) 27 p):∃k:Key,p=dU k:=by
 obtain⟨b,rfl,hb⟩:=KP Tryz.underlying27 h
 exact⟨⟨b,hb⟩,rfl⟩
theorem UC {n:Nat} {p:PV} (h:mh Pg (n+4) 56 p):∃e:sF,p=wP e:=by
 obtain⟨l,rfl,h,s8⟩:=gh (c:=6) (ts:=[4,23,54]) Tryz.underlying56 rfl (by kernel_rfl) h
 obtain⟨p1,l,rfl,h1,h⟩:=aI h
 obtain⟨p2,l,rfl,h2,h⟩:=aI h
 obtain⟨p3,l,rfl,h3,h⟩:=aI h
 obtain rfl:=iY h
 obtain⟨a1,rfl⟩:=mX Tryz.underlying4 h1
 obtain⟨a2,rfl,u2,v2⟩:=eu Tryz.underlying23 h2
 obtain⟨w,rfl,wl,hw⟩:=KO Tryz.underlying54 (c:=1) (by kernel_rfl) h3
 obtain⟨m,rfl,_⟩:=jA (enc:=λx:Int=>PV.int .u64 x) (Q:=λ_=>True) (l:=w) (λx hx=>by
  obtain⟨y,rfl,_⟩:=eu Tryz.underlying23 (hw x hx)
  exact⟨y,rfl,trivial⟩)
 match m,wl with
 |[w0,w1,w2,w3],_=>exact⟨⟨a1,a2,w0,w1,w2,w3⟩,rfl⟩
theorem UD {n:Nat} {p:PV} (h:mh Pg (n+6) 58 p):∃e:lq,p=gH e∧uf e∧Lo e.loc:=by
 obtain⟨l,rfl,h,s8⟩:=gh (c:=76) (ts:=[53,53,27,27,23,23,56,2,4]) Tryz.underlying58 rfl (by kernel_rfl) h
 obtain⟨p1,l,rfl,h1,h⟩:=aI h
 obtain⟨p2,l,rfl,h2,h⟩:=aI h
 obtain⟨p3,l,rfl,h3,h⟩:=aI h
 obtain⟨p4,l,rfl,h4,h⟩:=aI h
 obtain⟨p5,l,rfl,h5,h⟩:=aI h
 obtain⟨p6,l,rfl,h6,h⟩:=aI h
 obtain⟨p7,l,rfl,h7,h⟩:=aI h
 obtain⟨p8,l,rfl,h8,h⟩:=aI h
 obtain⟨p9,l,rfl,h9,h⟩:=aI h
 obtain rfl:=iY h
 obtain⟨a1,rfl,u1,v1⟩:=eu Tryz.underlying53 h1
 obtain⟨a2,rfl,u2,v2⟩:=eu Tryz.underlying53 h2
 have f3:=kJ (P:=Pg) 10 _ 27 nR p3 (by kernel_rfl) h3
 have f4:=kJ (P:=Pg) 10 _ 27 nR p4 (by kernel_rfl) h4
 obtain⟨a5,rfl,u5,v5⟩:=eu Tryz.underlying23 h5
 obtain⟨a6,rfl,u6,v6⟩:=eu Tryz.underlying23 h6
 obtain⟨w,rfl⟩:=UC h7
 have k1:Lo a1:=⟨u1,by have h:a1≤4294967295:=v1;omega⟩
 obtain⟨a8,rfl,u8,v8⟩:=eu Tryz.underlying2 h8
 obtain⟨a9,rfl⟩:=mX Tryz.underlying4 h9
 exact⟨⟨a1,a2,⟨p3,f3⟩,⟨p4,f4⟩,a5,a6,tV w,a8,a9⟩,rfl,⟨w,rfl⟩,k1⟩
theorem Ff {n:Nat} {p:PV} (h:mh Pg (n+7) 77 p):∃e:rl,p=iD e∧uf e.pk∧Lo e.pk.loc:=by
 obtain⟨l,rfl,h,s8⟩:=gh (c:=77) (ts:=[4,58]) Tryz.underlying77 rfl (by kernel_rfl) h
 obtain⟨p1,l,rfl,h1,h⟩:=aI h
 obtain⟨p2,l,rfl,h2,h⟩:=aI h
 obtain rfl:=iY h
 obtain⟨a1,rfl⟩:=mX Tryz.underlying4 h1
 obtain⟨a2,rfl,q2⟩:=UD h2
 exact⟨⟨a1,a2⟩,rfl,q2⟩
theorem UE {n:Nat} {p:PV} (h:mh Pg (n+8) 79 p):∃e:nO,p=gi e∧(uf e.p.pk∧Lo e.p.pk.loc)∧(uf e.c.pk∧Lo e.c.pk.loc)∧(uf e.n.pk∧Lo e.n.pk.loc):=by
 obtain⟨l,rfl,h,s8⟩:=gh (c:=231) (ts:=[77,77,77]) Tryz.underlying79 rfl (by kernel_rfl) h
 obtain⟨p1,l,rfl,h1,h⟩:=aI h
 obtain⟨p2,l,rfl,h2,h⟩:=aI h
 obtain⟨p3,l,rfl,h3,h⟩:=aI h
 obtain rfl:=iY h
 obtain⟨a1,rfl,q1⟩:=Ff h1
 obtain⟨a2,rfl,q2⟩:=Ff h2
 obtain⟨a3,rfl,q3⟩:=Ff h3
 exact⟨⟨a1,a2,a3⟩,rfl,q1,q2,q3⟩
theorem UF {n:Nat} {p:PV} (h:mh Pg (n+3) 25 p):∃e:vS,p=fa e∧Cn e.load∧Cn e.gC:=by
 obtain⟨l,rfl,h,s8⟩:=gh (c:=10) (ts:=[23,23,2,2,2,2,2,2,3,3]) Tryz.underlying25 rfl (by kernel_rfl) h
 obtain⟨p1,l,rfl,h1,h⟩:=aI h
 obtain⟨p2,l,rfl,h2,h⟩:=aI h
 obtain⟨p3,l,rfl,h3,h⟩:=aI h
 obtain⟨p4,l,rfl,h4,h⟩:=aI h
 obtain⟨p5,l,rfl,h5,h⟩:=aI h
 obtain⟨p6,l,rfl,h6,h⟩:=aI h
 obtain⟨p7,l,rfl,h7,h⟩:=aI h
 obtain⟨p8,l,rfl,h8,h⟩:=aI h
 obtain⟨p9,l,rfl,h9,h⟩:=aI h
 obtain⟨p10,l,rfl,Ci,h⟩:=aI h
 obtain rfl:=iY h
 obtain⟨a1,rfl,u1,v1⟩:=eu Tryz.underlying23 h1
 obtain⟨a2,rfl,u2,v2⟩:=eu Tryz.underlying23 h2
 obtain⟨a3,rfl,u3,v3⟩:=eu Tryz.underlying2 h3
 obtain⟨a4,rfl,u4,v4⟩:=eu Tryz.underlying2 h4
 obtain⟨a5,rfl,u5,v5⟩:=eu Tryz.underlying2 h5
 obtain⟨a6,rfl,u6,v6⟩:=eu Tryz.underlying2 h6
 obtain⟨a7,rfl,u7,v7⟩:=eu Tryz.underlying2 h7
 obtain⟨a8,rfl,u8,v8⟩:=eu Tryz.underlying2 h8
 obtain⟨a9,rfl,u9,v9⟩:=eu Tryz.underlying3 h9
 obtain⟨a10,rfl,u10,v10⟩:=eu Tryz.underlying3 Ci
 exact⟨⟨a1,a2,a3,a4,a5,a6,a7,a8,a9,a10⟩,rfl,⟨u9,v9⟩,⟨u10,v10⟩⟩
theorem Fg {n:Nat} {p:PV} (h:mh Pg (n+4) 66 p):∃e:im,p=dN e:=by
 obtain⟨l,rfl,h,s8⟩:=gh (c:=17) (ts:=[4,64]) Tryz.underlying66 rfl (by kernel_rfl) h
 obtain⟨p1,l,rfl,h1,h⟩:=aI h
 obtain⟨p2,l,rfl,h2,h⟩:=aI h
 obtain rfl:=iY h
 obtain⟨a1,rfl⟩:=mX Tryz.underlying4 h1
 obtain⟨b,rfl,hb⟩:=KP Tryz.underlying64 h2
 exact⟨⟨a1,b,hb⟩,rfl⟩
theorem UG {n:Nat} {p:PV} (h:mh Pg (n+5) 68 p):∃e:Cl,p=gZ e:=by
 obtain⟨l,rfl,h,s8⟩:=gh (c:=18) (ts:=[66,3]) Tryz.underlying68 rfl (by kernel_rfl) h
 obtain⟨p1,l,rfl,h1,h⟩:=aI h
 obtain⟨p2,l,rfl,h2,h⟩:=aI h
 obtain rfl:=iY h
 obtain⟨a1,rfl⟩:=Fg h1
 obtain⟨a2,rfl,u2,v2⟩:=eu Tryz.underlying3 h2
 exact⟨⟨a1,a2⟩,rfl⟩
theorem UH {n:Nat} {p:PV} (h:mh Pg (n+5) 91 p):∃e:Aq,p=iE e:=by
 obtain⟨l,rfl,h,s8⟩:=gh (c:=18) (ts:=[66,3]) Tryz.underlying91 rfl (by kernel_rfl) h
 obtain⟨p1,l,rfl,h1,h⟩:=aI h
 obtain⟨p2,l,rfl,h2,h⟩:=aI h
 obtain rfl:=iY h
 obtain⟨a1,rfl⟩:=Fg h1
 obtain⟨a2,rfl,u2,v2⟩:=eu Tryz.underlying3 h2
 exact⟨⟨a1,a2⟩,rfl⟩
theorem UI {n:Nat} {p:PV} (h:mh Pg (n+6) 101 p):∃e:pn,p=iQ e:=by
 obtain⟨l,rfl,h,s8⟩:=gh (c:=50) (ts:=[91,27]) Tryz.underlying101 rfl (by kernel_rfl) h
 obtain⟨p1,l,rfl,h1,h⟩:=aI h
 obtain⟨p2,l,rfl,h2,h⟩:=aI h
 obtain rfl:=iY h
 obtain⟨a1,rfl⟩:=UH h1
 obtain⟨a2,rfl⟩:=BO h2
 exact⟨⟨a1,a2⟩,rfl⟩
theorem UJ {n:Nat} {p:PV} (h:mh Pg (n+4) 103 p):∃e:cS,p=aM e:=by
 obtain⟨l,rfl,h,s8⟩:=gh (c:=34) (ts:=[53,27,4]) Tryz.underlying103 rfl (by kernel_rfl) h
 obtain⟨p1,l,rfl,h1,h⟩:=aI h
 obtain⟨p2,l,rfl,h2,h⟩:=aI h
 obtain⟨p3,l,rfl,h3,h⟩:=aI h
 obtain rfl:=iY h
 obtain⟨a1,rfl,u1,v1⟩:=eu Tryz.underlying53 h1
 obtain⟨a2,rfl⟩:=BO h2
 obtain⟨a3,rfl⟩:=mX Tryz.underlying4 h3
 exact⟨⟨a1,a2,a3⟩,rfl⟩
theorem UK {n:Nat} {p:PV} (h:mh Pg (n+4) 86 p):∃e:iR,p=iv e:=by
 obtain⟨l,rfl,h,s8⟩:=gh (c:=34) (ts:=[2,27,3]) Tryz.underlying86 rfl (by kernel_rfl) h
 obtain⟨p1,l,rfl,h1,h⟩:=aI h
 obtain⟨p2,l,rfl,h2,h⟩:=aI h
 obtain⟨p3,l,rfl,h3,h⟩:=aI h
 obtain rfl:=iY h
 obtain⟨a1,rfl,u1,v1⟩:=eu Tryz.underlying2 h1
 obtain⟨a2,rfl⟩:=BO h2
 obtain⟨a3,rfl,u3,v3⟩:=eu Tryz.underlying3 h3
 exact⟨⟨a1,a2,a3⟩,rfl⟩
theorem UL {n:Nat} {p:PV} (h:mh Pg (n+5) 105 p):∃e:tR,p=jK e:=by
 obtain⟨l,rfl,h,s8⟩:=gh (c:=19) (ts:=[66,2,2]) Tryz.underlying105 rfl (by kernel_rfl) h
 obtain⟨p1,l,rfl,h1,h⟩:=aI h
 obtain⟨p2,l,rfl,h2,h⟩:=aI h
 obtain⟨p3,l,rfl,h3,h⟩:=aI h
 obtain rfl:=iY h
 obtain⟨a1,rfl⟩:=Fg h1
 obtain⟨a2,rfl,u2,v2⟩:=eu Tryz.underlying2 h2
 obtain⟨a3,rfl,u3,v3⟩:=eu Tryz.underlying2 h3
 exact⟨⟨a1,a2,a3⟩,rfl⟩
theorem UM {n:Nat} {p:PV} (h:mh Pg (n+4) 74 p):∃e:Cm,p=iU e∧Lo e.loc:=by
 obtain⟨l,rfl,h,s8⟩:=gh (c:=100) (ts:=[4,53,27,72,2,2]) Tryz.underlying74 rfl (by kernel_rfl) h
 obtain⟨p1,l,rfl,h1,h⟩:=aI h
 obtain⟨p2,l,rfl,h2,h⟩:=aI h
 obtain⟨p3,l,rfl,h3,h⟩:=aI h
 obtain⟨p4,l,rfl,h4,h⟩:=aI h
 obtain⟨p5,l,rfl,h5,h⟩:=aI h
 obtain⟨p6,l,rfl,h6,h⟩:=aI h
 obtain rfl:=iY h
 obtain⟨a1,rfl⟩:=mX Tryz.underlying4 h1
 obtain⟨a2,rfl,u2,v2⟩:=eu Tryz.underlying53 h2
 have f3:=kJ (P:=Pg) 10 _ 27 nR p3 (by kernel_rfl) h3
 have f4:=kJ (P:=Pg) 10 _ 72 Ki p4 (by kernel_rfl) h4
 obtain⟨a5,rfl,u5,v5⟩:=eu Tryz.underlying2 h5
 obtain⟨a6,rfl,u6,v6⟩:=eu Tryz.underlying2 h6
 exact⟨⟨a1,a2,⟨p3,f3⟩,⟨p4,f4⟩,a5,a6⟩,rfl,u2,by have h:a2≤4294967295:=v2;exact Int.lt_of_le_of_lt h (by omega)⟩
theorem UN {n:Nat} {p:PV} (h:mh Pg (n+9) 82 p) (hb:nJ p≤1048576):∃e:fg,p=br e∧(qd e∧Yw e)∧e.bD.length≤1048576∧∀b∈e.bD,b.length≤1048576:=by
 obtain⟨l,rfl,h,s8⟩:=gh (c:=464) (ts:=[27,27,4,68,2,70,4,2,74,4,75,2,75,79,80]) Tryz.underlying82 rfl (by kernel_rfl) h
 obtain⟨p1,l,rfl,h1,h⟩:=aI h
 obtain⟨p2,l,rfl,h2,h⟩:=aI h
 obtain⟨p3,l,rfl,h3,h⟩:=aI h
 obtain⟨p4,l,rfl,h4,h⟩:=aI h
 obtain⟨p5,l,rfl,h5,h⟩:=aI h
 obtain⟨p6,l,rfl,h6,h⟩:=aI h
 obtain⟨p7,l,rfl,h7,h⟩:=aI h
 obtain⟨p8,l,rfl,h8,h⟩:=aI h
 obtain⟨p9,l,rfl,h9,h⟩:=aI h
 obtain⟨p10,l,rfl,Ci,h⟩:=aI h
 obtain⟨p11,l,rfl,Ee,h⟩:=aI h
 obtain⟨p12,l,rfl,FM,h⟩:=aI h
 obtain⟨p13,l,rfl,YR,h⟩:=aI h
 obtain⟨p14,l,rfl,YS,h⟩:=aI h
 obtain⟨p15,l,rfl,YT,h⟩:=aI h
 obtain rfl:=iY h
 simp only[iP]at s8
 obtain⟨a1,rfl⟩:=BO h1
 have f2:=kJ (P:=Pg) 10 _ 27 nR p2 (by kernel_rfl) h2
 obtain⟨a3,rfl⟩:=mX Tryz.underlying4 h3
 obtain⟨a4,rfl⟩:=UG h4
 obtain⟨a5,rfl,u5,v5⟩:=eu Tryz.underlying2 h5
 have f6:=kJ (P:=Pg) 10 _ 70 Kj p6 (by kernel_rfl) h6
 obtain⟨a7,rfl⟩:=mX Tryz.underlying4 h7
 obtain⟨a8,rfl,u8,v8⟩:=eu Tryz.underlying2 h8
 obtain⟨a9,rfl,q9⟩:=UM h9
 obtain⟨a10,rfl⟩:=mX Tryz.underlying4 Ci
 have f11:=kJ (P:=Pg) 10 _ 75 EY p11 (by kernel_rfl) Ee
 obtain⟨a12,rfl,u12,v12⟩:=eu Tryz.underlying2 FM
 have f13:=kJ (P:=Pg) 10 _ 75 EY p13 (by kernel_rfl) YR
 obtain⟨a14,rfl,q14⟩:=UE YS
 obtain⟨l,rfl,hl,VA,_⟩:=mi Tryz.underlying80 YT
 have kF:Tryz.prog.cellsOf 22=1:=by kernel_rfl
 obtain⟨m,rfl,hm⟩:=jA (enc:=fV) (Q:=λb:List UInt8=>b.length≤1048576) (l:=l) (λx hx=>by
  obtain⟨b,rfl,oA,_⟩:=Dd Tryz.underlying22 Tryz.underlying5 (by kernel_rfl) (hl x hx).1
  exact⟨b,rfl,by have:=(hl _ hx).2;omega⟩)
 rw[kF]
 exact⟨⟨a1,⟨p2,f2⟩,a3,a4,a5,⟨p6,f6⟩,a7,a8,a9,a10,⟨p11,f11⟩,a12,⟨p13,f13⟩,a14,m⟩,rfl,⟨⟨q14.1.1,q14.2.1.1,q14.2.2.1⟩,⟨q9,q14.1.2,q14.2.1.2,q14.2.2.2⟩⟩,(by show m.length≤1048576;simp at VA;omega),hm⟩
theorem UB {n:Nat} {p:PV} (h:mh Pg (n+12) 35 p) (hb:nJ p≤1048576):∃e:cK,p=bE e∧zb e 1048576:=by
 obtain⟨l,rfl,h,s8⟩:=gh (c:=148) (ts:=[25,27,27,3,27,2,28,29,30,31,27,2,32,33,3]) Tryz.underlying35 rfl (by kernel_rfl) h
 obtain⟨p1,l,rfl,h1,h⟩:=aI h
 obtain⟨p2,l,rfl,h2,h⟩:=aI h
 obtain⟨p3,l,rfl,h3,h⟩:=aI h
 obtain⟨p4,l,rfl,h4,h⟩:=aI h
 obtain⟨p5,l,rfl,h5,h⟩:=aI h
 obtain⟨p6,l,rfl,h6,h⟩:=aI h
 obtain⟨p7,l,rfl,h7,h⟩:=aI h
 obtain⟨p8,l,rfl,h8,h⟩:=aI h
 obtain⟨p9,l,rfl,h9,h⟩:=aI h
 obtain⟨p10,l,rfl,Ci,h⟩:=aI h
 obtain⟨p11,l,rfl,Ee,h⟩:=aI h
 obtain⟨p12,l,rfl,FM,h⟩:=aI h
 obtain⟨p13,l,rfl,YR,h⟩:=aI h
 obtain⟨p14,l,rfl,YS,h⟩:=aI h
 obtain⟨p15,l,rfl,YT,h⟩:=aI h
 obtain rfl:=iY h
 simp only[iP]at s8
 obtain⟨a1,rfl,q1⟩:=UF h1
 have f2:=kJ (P:=Pg) 10 _ 27 nR p2 (by kernel_rfl) h2
 have f3:=kJ (P:=Pg) 10 _ 27 nR p3 (by kernel_rfl) h3
 obtain⟨a4,rfl,u4,v4⟩:=eu Tryz.underlying3 h4
 have f5:=kJ (P:=Pg) 10 _ 27 nR p5 (by kernel_rfl) h5
 obtain⟨a6,rfl,u6,v6⟩:=eu Tryz.underlying2 h6
 obtain⟨l7,rfl,hl7,ai4,_⟩:=mi Tryz.underlying28 h7
 have hc7:Tryz.prog.cellsOf 82=464:=by kernel_rfl
 obtain⟨m7,rfl,hm7⟩:=jA (enc:=br) (Q:=λe:fg=>(qd e∧Yw e)∧e.bD.length≤1048576∧∀b∈e.bD,b.length≤1048576) (l:=l7) (λx hx=>by
  obtain⟨y,rfl,hy⟩:=UN (hl7 x hx).1 (by have:=(hl7 x hx).2;omega)
  exact⟨y,rfl,hy⟩)
 have g7:m7.length≤1048576:=by simp at ai4;omega
 rw[hc7]
 obtain⟨l8,rfl,V7,ai6,_⟩:=mi Tryz.underlying29 h8
 have hc8:Tryz.prog.cellsOf 101=50:=by kernel_rfl
 obtain⟨m8,rfl,hm8⟩:=jA (enc:=iQ) (Q:=λ_=>True) (l:=l8) (λx hx=>by
  obtain⟨y,rfl⟩:=UI (V7 x hx).1
  exact⟨y,rfl,trivial⟩)
 have g8:m8.length≤1048576:=by simp at ai6;omega
 rw[hc8]
 obtain⟨l9,rfl,hl9,ai7,_⟩:=mi Tryz.underlying30 h9
 have hc9:Tryz.prog.cellsOf 103=34:=by kernel_rfl
 obtain⟨m9,rfl,hm9⟩:=jA (enc:=aM) (Q:=λ_=>True) (l:=l9) (λx hx=>by
  obtain⟨y,rfl⟩:=UJ (hl9 x hx).1
  exact⟨y,rfl,trivial⟩)
 have g9:m9.length≤1048576:=by simp at ai7;omega
 rw[hc9]
 obtain⟨l10,rfl,ai8,adC,_⟩:=mi Tryz.underlying31 Ci
 have ai9:Tryz.prog.cellsOf 86=34:=by kernel_rfl
 obtain⟨m10,rfl,amu⟩:=jA (enc:=iv) (Q:=λ_=>True) (l:=l10) (λx hx=>by
  obtain⟨y,rfl⟩:=UK (ai8 x hx).1
  exact⟨y,rfl,trivial⟩)
 have g10:m10.length≤1048576:=by simp at adC;omega
 rw[ai9]
 have f11:=kJ (P:=Pg) 10 _ 27 nR p11 (by kernel_rfl) Ee
 obtain⟨a12,rfl,u12,v12⟩:=eu Tryz.underlying2 FM
 obtain⟨l13,rfl,aja,adD,_⟩:=mi Tryz.underlying32 YR
 have ajb:Tryz.prog.cellsOf 2=1:=by kernel_rfl
 obtain⟨m13,rfl,amv⟩:=jA (enc:=(λn:Int=>PV.int .i64 n)) (Q:=λ_=>True) (l:=l13) (λx hx=>by
  obtain⟨y,rfl,_⟩:=eu Tryz.underlying2 (aja x hx).1
  exact⟨y,rfl,trivial⟩)
 have g13:m13.length≤1048576:=by simp at adD;omega
 rw[ajb]
 obtain⟨l14,rfl,ajc,adE,_⟩:=mi Tryz.underlying33 YS
 have ajd:Tryz.prog.cellsOf 105=19:=by kernel_rfl
 obtain⟨m14,rfl,amw⟩:=jA (enc:=jK) (Q:=λ_=>True) (l:=l14) (λx hx=>by
  obtain⟨y,rfl⟩:=UL (ajc x hx).1
  exact⟨y,rfl,trivial⟩)
 have g14:m14.length≤1048576:=by simp at adE;omega
 rw[ajd]
 obtain⟨a15,rfl,u15,v15⟩:=eu Tryz.underlying3 YT
 exact⟨⟨a1,⟨p2,f2⟩,⟨p3,f3⟩,a4,⟨p5,f5⟩,a6,m7,m8,m9,m10,⟨p11,f11⟩,a12,m13,m14,a15⟩,rfl,⟨g7,g8,g9,g10,g13,g14,λp hp=>(hm7 p hp).2,λp hp=>(hm7 p hp).1.1,λp hp=>(hm7 p hp).1.2,q1.1,q1.2,⟨u15,v15⟩⟩⟩
end Go.Ab

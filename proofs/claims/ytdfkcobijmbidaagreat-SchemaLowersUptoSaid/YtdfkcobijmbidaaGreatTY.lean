/- The types of a daemon that comes in. No condition. -/
import Derived.Test.YtdfkcobijmbidaaGreatL1
import Derived.Test.YtdfkcobijmbidaaGreatA6
set_option maxRecDepth 100000
set_option linter.all false
noncomputable section
namespace Go.Ab
open Go.Ab Go.Proofs Tryz
theorem cJ3 {f:TypeId->PV->Prop} {a b c:TypeId} {t:List TypeId} {l:List PV} (h:Ny f (a::b::c::t) l):∃p q r s,l=p::q::r::s∧f a p∧f b q∧f c r∧Ny f t s:=by
 obtain⟨p,l,rfl,i,h⟩:=aK h
 obtain⟨q,l,rfl,j,h⟩:=aK h
 obtain⟨r,l,rfl,k,h⟩:=aK h
 exact⟨p,q,r,l,rfl,i,j,k,h⟩
theorem Pb {t e:TypeId} {k n c:Nat} {p:PV} (ht:Pg.underlying t=some (.array k e)) (hc:Pg.cellsOf e=c) (h:nB Pg (n+1) t p):∃l,p= .ar c k l∧l.length=k∧∀x∈l,nB Pg n e x:=by
 rw[nB,ht]at h
 obtain⟨l,rfl,h1,h2⟩:=h
 exact⟨l,by rw[hc],h1,h2⟩
theorem Pc {t:TypeId} {k n:Nat} {p:PV} (ht:Pg.underlying t=some (.array k 5)) (h:nB Pg (n+2) t p):∃b:List UInt8,p= .ar 1 k (b.map u8)∧b.length=k:=by
 obtain⟨l,rfl,hl,h⟩:=Pb ht (c:=1) (by kernel_rfl) h
 obtain⟨b,rfl,_⟩:=kj (enc:=u8) (Q:=λ_=>True) (l:=l) (λx hx=>by
  obtain⟨m,rfl,h1,h2⟩:=fm underlying5 (h x hx)
  have Qu:0≤m:=h1
  have h2':m≤255:=h2
  refine⟨UInt8.ofNat m.toNat,?_,trivial⟩
  simp only[u8]
  congr 1
  rw[UInt8.toNat_ofNat']
  omega)
 exact⟨b,rfl,by simpa using hl⟩
theorem EJ {n:Nat} {p:PV} (h:nB Pg (n+2) 25 p):∃k:Key,p=eF k:=by
 obtain⟨b,rfl,hb⟩:=Pc underlying25 h
 exact⟨⟨b,hb⟩,rfl⟩
theorem ZN {n:Nat} {p:PV} (h:nB Pg (n+4) 75 p):∃e:sy,p=wP e∧Wl e.top:=by
 obtain⟨l,rfl,h,tM⟩:=ia (c:=6) (ts:=[4,26,73]) underlying75 rfl (by kernel_rfl) h
 obtain⟨p1,p2,p3,l,rfl,h1,h2,h3,h⟩:=cJ3 h
 obtain rfl:=jK h
 obtain⟨a1,rfl⟩:=oi underlying4 h1
 obtain⟨a2,rfl,u2,v2⟩:=fm underlying26 h2
 obtain⟨w,rfl,wl,hw⟩:=Pb underlying73 (c:=1) (by kernel_rfl) h3
 obtain⟨m,rfl,_⟩:=kj (enc:=λx:Int=>PV.int .u64 x) (Q:=λ_=>True) (l:=w) (λx hx=>by
  obtain⟨y,rfl,_⟩:=fm underlying26 (hw x hx)
  exact⟨y,rfl,trivial⟩)
 match m,wl with
 |[w0,w1,w2,w3],_=>exact⟨⟨a1,a2,w0,w1,w2,w3⟩,rfl,u2,v2⟩
theorem ZO {n:Nat} {p:PV} (h:nB Pg (n+6) 78 p):∃e:j9,p=fO e∧WU e.py:=by
 obtain⟨l,rfl,h,tM⟩:=ia (c:=76) (ts:=[76,76,25,25,26,26,75,2,4]) underlying78 rfl (by kernel_rfl) h
 obtain⟨p1,p2,p3,l,rfl,h1,h2,h3,h⟩:=cJ3 h
 obtain⟨p4,p5,p6,l,rfl,h4,h5,h6,h⟩:=cJ3 h
 obtain⟨p7,p8,p9,l,rfl,h7,h8,h9,h⟩:=cJ3 h
 obtain rfl:=jK h
 obtain⟨a1,rfl,u1,v1⟩:=fm underlying76 h1
 obtain⟨a2,rfl,u2,v2⟩:=fm underlying76 h2
 have f3:=lM (P:=Pg) 10 _ 25 ja p3 (by kernel_rfl) h3
 have f4:=lM (P:=Pg) 10 _ 25 ja p4 (by kernel_rfl) h4
 obtain⟨a5,rfl,u5,v5⟩:=fm underlying26 h5
 obtain⟨a6,rfl,u6,v6⟩:=fm underlying26 h6
 obtain⟨w,rfl,hw⟩:=ZN h7
 obtain⟨a8,rfl,u8,v8⟩:=fm underlying2 h8
 obtain⟨a9,rfl⟩:=oi underlying4 h9
 exact⟨⟨a1,a2,⟨p3,f3⟩,⟨p4,f4⟩,a5,a6,pr w,a8,a9⟩,rfl,w,hw,rfl⟩
theorem IA {n:Nat} {p:PV} (h:nB Pg (n+7) 113 p):∃e:pq,p=gP e∧WU e.iO.py:=by
 obtain⟨l,rfl,h,tM⟩:=ia (c:=77) (ts:=[4,78]) underlying113 rfl (by kernel_rfl) h
 obtain⟨p1,l,rfl,h1,h⟩:=aK h
 obtain⟨p2,l,rfl,h2,h⟩:=aK h
 obtain rfl:=jK h
 obtain⟨a1,rfl⟩:=oi underlying4 h1
 obtain⟨a2,rfl,q2⟩:=ZO h2
 exact⟨⟨a1,a2⟩,rfl,q2⟩
theorem ZP {n:Nat} {p:PV} (h:nB Pg (n+8) 115 p):∃e:kN,p=ee e∧WU e.p.iO.py∧WU e.c.iO.py∧WU e.n.iO.py:=by
 obtain⟨l,rfl,h,tM⟩:=ia (c:=231) (ts:=[113,113,113]) underlying115 rfl (by kernel_rfl) h
 obtain⟨p1,p2,p3,l,rfl,h1,h2,h3,h⟩:=cJ3 h
 obtain rfl:=jK h
 obtain⟨a1,rfl,q1⟩:=IA h1
 obtain⟨a2,rfl,q2⟩:=IA h2
 obtain⟨a3,rfl,q3⟩:=IA h3
 exact⟨⟨a1,a2,a3⟩,rfl,q1,q2,q3⟩
theorem ZQ {n:Nat} {p:PV} (h:nB Pg (n+3) 37 p):∃e:xv,p=dU e:=by
 obtain⟨l,rfl,h,tM⟩:=ia (c:=10) (ts:=[26,26,2,2,2,2,2,2,3,3]) underlying37 rfl (by kernel_rfl) h
 obtain⟨p1,p2,p3,l,rfl,h1,h2,h3,h⟩:=cJ3 h
 obtain⟨p4,p5,p6,l,rfl,h4,h5,h6,h⟩:=cJ3 h
 obtain⟨p7,p8,p9,l,rfl,h7,h8,h9,h⟩:=cJ3 h
 obtain⟨p10,l,rfl,Mh,h⟩:=aK h
 obtain rfl:=jK h
 obtain⟨a1,rfl,u1,v1⟩:=fm underlying26 h1
 obtain⟨a2,rfl,u2,v2⟩:=fm underlying26 h2
 obtain⟨a3,rfl,u3,v3⟩:=fm underlying2 h3
 obtain⟨a4,rfl,u4,v4⟩:=fm underlying2 h4
 obtain⟨a5,rfl,u5,v5⟩:=fm underlying2 h5
 obtain⟨a6,rfl,u6,v6⟩:=fm underlying2 h6
 obtain⟨a7,rfl,u7,v7⟩:=fm underlying2 h7
 obtain⟨a8,rfl,u8,v8⟩:=fm underlying2 h8
 obtain⟨a9,rfl,u9,v9⟩:=fm underlying3 h9
 obtain⟨a10,rfl,u10,v10⟩:=fm underlying3 Mh
 exact⟨⟨a1,a2,a3,a4,a5,a6,a7,a8,a9,a10⟩,rfl⟩
theorem IB {n:Nat} {p:PV} (h:nB Pg (n+4) 30 p):∃e:tm,p=jF e:=by
 obtain⟨l,rfl,h,tM⟩:=ia (c:=17) (ts:=[4,28]) underlying30 rfl (by kernel_rfl) h
 obtain⟨p1,l,rfl,h1,h⟩:=aK h
 obtain⟨p2,l,rfl,h2,h⟩:=aK h
 obtain rfl:=jK h
 obtain⟨a1,rfl⟩:=oi underlying4 h1
 obtain⟨b,rfl,hb⟩:=Pc underlying28 h2
 exact⟨⟨a1,b,hb⟩,rfl⟩
theorem ZR {n:Nat} {p:PV} (h:nB Pg (n+5) 32 p):∃e:H0,p=ji e:=by
 obtain⟨l,rfl,h,tM⟩:=ia (c:=18) (ts:=[30,3]) underlying32 rfl (by kernel_rfl) h
 obtain⟨p1,l,rfl,h1,h⟩:=aK h
 obtain⟨p2,l,rfl,h2,h⟩:=aK h
 obtain rfl:=jK h
 obtain⟨a1,rfl⟩:=IB h1
 obtain⟨a2,rfl,u2,v2⟩:=fm underlying3 h2
 exact⟨⟨a1,a2⟩,rfl⟩
theorem ZS {n:Nat} {p:PV} (h:nB Pg (n+5) 126 p):∃e:K5,p=kq e:=by
 obtain⟨l,rfl,h,tM⟩:=ia (c:=18) (ts:=[30,3]) underlying126 rfl (by kernel_rfl) h
 obtain⟨p1,l,rfl,h1,h⟩:=aK h
 obtain⟨p2,l,rfl,h2,h⟩:=aK h
 obtain rfl:=jK h
 obtain⟨a1,rfl⟩:=IB h1
 obtain⟨a2,rfl,u2,v2⟩:=fm underlying3 h2
 exact⟨⟨a1,a2⟩,rfl⟩
theorem ZT {n:Nat} {p:PV} (h:nB Pg (n+6) 173 p):∃e:uk,p=jI e:=by
 obtain⟨l,rfl,h,tM⟩:=ia (c:=50) (ts:=[126,25]) underlying173 rfl (by kernel_rfl) h
 obtain⟨p1,l,rfl,h1,h⟩:=aK h
 obtain⟨p2,l,rfl,h2,h⟩:=aK h
 obtain rfl:=jK h
 obtain⟨a1,rfl⟩:=ZS h1
 obtain⟨a2,rfl⟩:=EJ h2
 exact⟨⟨a1,a2⟩,rfl⟩
theorem ZU {n:Nat} {p:PV} (h:nB Pg (n+4) 178 p):∃e:iK,p=cy e:=by
 obtain⟨l,rfl,h,tM⟩:=ia (c:=34) (ts:=[76,25,4]) underlying178 rfl (by kernel_rfl) h
 obtain⟨p1,p2,p3,l,rfl,h1,h2,h3,h⟩:=cJ3 h
 obtain rfl:=jK h
 obtain⟨a1,rfl,u1,v1⟩:=fm underlying76 h1
 obtain⟨a2,rfl⟩:=EJ h2
 obtain⟨a3,rfl⟩:=oi underlying4 h3
 exact⟨⟨a1,a2,a3⟩,rfl⟩
theorem ZV {n:Nat} {p:PV} (h:nB Pg (n+4) 122 p):∃e:fX,p=bU e:=by
 obtain⟨l,rfl,h,tM⟩:=ia (c:=34) (ts:=[2,25,3]) underlying122 rfl (by kernel_rfl) h
 obtain⟨p1,p2,p3,l,rfl,h1,h2,h3,h⟩:=cJ3 h
 obtain rfl:=jK h
 obtain⟨a1,rfl,u1,v1⟩:=fm underlying2 h1
 obtain⟨a2,rfl⟩:=EJ h2
 obtain⟨a3,rfl,u3,v3⟩:=fm underlying3 h3
 exact⟨⟨a1,a2,a3⟩,rfl⟩
theorem ZW {n:Nat} {p:PV} (h:nB Pg (n+5) 146 p):∃e:BV,p=mB e:=by
 obtain⟨l,rfl,h,tM⟩:=ia (c:=19) (ts:=[30,2,2]) underlying146 rfl (by kernel_rfl) h
 obtain⟨p1,p2,p3,l,rfl,h1,h2,h3,h⟩:=cJ3 h
 obtain rfl:=jK h
 obtain⟨a1,rfl⟩:=IB h1
 obtain⟨a2,rfl,u2,v2⟩:=fm underlying2 h2
 obtain⟨a3,rfl,u3,v3⟩:=fm underlying2 h3
 exact⟨⟨a1,a2,a3⟩,rfl⟩
theorem ZX {n:Nat} {p:PV} (h:nB Pg (n+4) 110 p):∃e:Gk,p=jV e:=by
 obtain⟨l,rfl,h,tM⟩:=ia (c:=100) (ts:=[4,76,25,108,2,2]) underlying110 rfl (by kernel_rfl) h
 obtain⟨p1,p2,p3,l,rfl,h1,h2,h3,h⟩:=cJ3 h
 obtain⟨p4,p5,p6,l,rfl,h4,h5,h6,h⟩:=cJ3 h
 obtain rfl:=jK h
 obtain⟨a1,rfl⟩:=oi underlying4 h1
 obtain⟨a2,rfl,u2,v2⟩:=fm underlying76 h2
 have f3:=lM (P:=Pg) 10 _ 25 ja p3 (by kernel_rfl) h3
 have f4:=lM (P:=Pg) 10 _ 108 HZ p4 (by kernel_rfl) h4
 obtain⟨a5,rfl,u5,v5⟩:=fm underlying2 h5
 obtain⟨a6,rfl,u6,v6⟩:=fm underlying2 h6
 exact⟨⟨a1,a2,⟨p3,f3⟩,⟨p4,f4⟩,a5,a6⟩,rfl⟩
theorem ZY {n:Nat} {p:PV} (h:nB Pg (n+9) 118 p) (hb:oT p≤1048576):∃e:dC,p=aC e∧PW e∧e.aW.length≤1048576∧∀b∈e.aW,b.length≤1048576:=by
 obtain⟨l,rfl,h,tM⟩:=ia (c:=464) (ts:=[25,25,4,32,2,106,4,2,110,4,111,2,111,115,116]) underlying118 rfl (by kernel_rfl) h
 obtain⟨p1,p2,p3,l,rfl,h1,h2,h3,h⟩:=cJ3 h
 obtain⟨p4,p5,p6,l,rfl,h4,h5,h6,h⟩:=cJ3 h
 obtain⟨p7,p8,p9,l,rfl,h7,h8,h9,h⟩:=cJ3 h
 obtain⟨p10,l,rfl,Mh,h⟩:=aK h
 obtain⟨p11,l,rfl,T5,h⟩:=aK h
 obtain⟨p12,l,rfl,QE,h⟩:=aK h
 obtain⟨p13,p14,p15,l,rfl,h13,h14,h15,h⟩:=cJ3 h
 obtain rfl:=jK h
 simp only[jH]at tM
 obtain⟨a1,rfl⟩:=EJ h1
 have f2:=lM (P:=Pg) 10 _ 25 ja p2 (by kernel_rfl) h2
 obtain⟨a3,rfl⟩:=oi underlying4 h3
 obtain⟨a4,rfl⟩:=ZR h4
 obtain⟨a5,rfl,u5,v5⟩:=fm underlying2 h5
 have f6:=lM (P:=Pg) 10 _ 106 N9 p6 (by kernel_rfl) h6
 obtain⟨a7,rfl⟩:=oi underlying4 h7
 obtain⟨a8,rfl,u8,v8⟩:=fm underlying2 h8
 obtain⟨a9,rfl⟩:=ZX h9
 obtain⟨a10,rfl⟩:=oi underlying4 Mh
 have f11:=lM (P:=Pg) 10 _ 111 vR p11 (by kernel_rfl) T5
 obtain⟨a12,rfl,u12,v12⟩:=fm underlying2 QE
 have f13:=lM (P:=Pg) 10 _ 111 vR p13 (by kernel_rfl) h13
 obtain⟨a14,rfl,q14⟩:=ZP h14
 obtain⟨l,rfl,hl,EO,_⟩:=nC underlying116 h15
 have lH:Tryz.prog.cellsOf 23=1:=by kernel_rfl
 obtain⟨m,rfl,hm⟩:=kj (enc:=eN) (Q:=λb:List UInt8=>b.length≤1048576) (l:=l) (λx hx=>by
  obtain⟨b,rfl,WA,_⟩:=A4 underlying23 underlying5 (by kernel_rfl) (hl x hx).1
  exact⟨b,rfl,by have:=(hl _ hx).2;omega⟩)
 rw[lH]
 exact⟨⟨a1,⟨p2,f2⟩,a3,a4,a5,⟨p6,f6⟩,a7,a8,a9,a10,⟨p11,f11⟩,a12,⟨p13,f13⟩,a14,m⟩,rfl,q14,(by show m.length≤1048576;simp at EO;omega),hm⟩
theorem Zi {n:Nat} {p:PV} (h:nB Pg (n+12) 45 p) (hb:oT p≤1048576):∃e:bK,p=dY e∧uo e∧∀x∈e.aj,PW x:=by
 obtain⟨l,rfl,h,tM⟩:=ia (c:=148) (ts:=[37,25,25,3,25,2,38,39,40,41,25,2,42,43,3]) underlying45 rfl (by kernel_rfl) h
 obtain⟨p1,p2,p3,l,rfl,h1,h2,h3,h⟩:=cJ3 h
 obtain⟨p4,p5,p6,l,rfl,h4,h5,h6,h⟩:=cJ3 h
 obtain⟨p7,p8,p9,l,rfl,h7,h8,h9,h⟩:=cJ3 h
 obtain⟨p10,l,rfl,Mh,h⟩:=aK h
 obtain⟨p11,l,rfl,T5,h⟩:=aK h
 obtain⟨p12,l,rfl,QE,h⟩:=aK h
 obtain⟨p13,p14,p15,l,rfl,h13,h14,h15,h⟩:=cJ3 h
 obtain rfl:=jK h
 simp only[jH]at tM
 obtain⟨a1,rfl⟩:=ZQ h1
 have f2:=lM (P:=Pg) 10 _ 25 ja p2 (by kernel_rfl) h2
 have f3:=lM (P:=Pg) 10 _ 25 ja p3 (by kernel_rfl) h3
 obtain⟨a4,rfl,u4,v4⟩:=fm underlying3 h4
 have f5:=lM (P:=Pg) 10 _ 25 ja p5 (by kernel_rfl) h5
 obtain⟨a6,rfl,u6,v6⟩:=fm underlying2 h6
 obtain⟨l7,rfl,hl7,aw4,_⟩:=nC underlying38 h7
 have hc7:Tryz.prog.cellsOf 118=464:=by kernel_rfl
 obtain⟨m7,rfl,hm7⟩:=kj (enc:=aC) (Q:=λe:dC=>PW e∧e.aW.length≤1048576∧∀b∈e.aW,b.length≤1048576) (l:=l7) (λx hx=>by
  obtain⟨y,rfl,hy⟩:=ZY (hl7 x hx).1 (by have:=(hl7 x hx).2;omega)
  exact⟨y,rfl,hy⟩)
 have g7:m7.length≤1048576:=by simp at aw4;omega
 rw[hc7]
 obtain⟨l8,rfl,hl8,aw5,_⟩:=nC underlying39 h8
 have hc8:Tryz.prog.cellsOf 173=50:=by kernel_rfl
 obtain⟨m8,rfl,hm8⟩:=kj (enc:=jI) (Q:=λ_=>True) (l:=l8) (λx hx=>by
  obtain⟨y,rfl⟩:=ZT (hl8 x hx).1
  exact⟨y,rfl,trivial⟩)
 have g8:m8.length≤1048576:=by simp at aw5;omega
 rw[hc8]
 obtain⟨l9,rfl,hl9,aw6,_⟩:=nC underlying40 h9
 have hc9:Tryz.prog.cellsOf 178=34:=by kernel_rfl
 obtain⟨m9,rfl,hm9⟩:=kj (enc:=cy) (Q:=λ_=>True) (l:=l9) (λx hx=>by
  obtain⟨y,rfl⟩:=ZU (hl9 x hx).1
  exact⟨y,rfl,trivial⟩)
 have g9:m9.length≤1048576:=by simp at aw6;omega
 rw[hc9]
 obtain⟨l10,rfl,aw7,anA,_⟩:=nC underlying41 Mh
 have aw8:Tryz.prog.cellsOf 122=34:=by kernel_rfl
 obtain⟨m10,rfl,aDS⟩:=kj (enc:=bU) (Q:=λ_=>True) (l:=l10) (λx hx=>by
  obtain⟨y,rfl⟩:=ZV (aw7 x hx).1
  exact⟨y,rfl,trivial⟩)
 have g10:m10.length≤1048576:=by simp at anA;omega
 rw[aw8]
 have f11:=lM (P:=Pg) 10 _ 25 ja p11 (by kernel_rfl) T5
 obtain⟨a12,rfl,u12,v12⟩:=fm underlying2 QE
 obtain⟨l13,rfl,aw9,anB,_⟩:=nC underlying42 h13
 have axa:Tryz.prog.cellsOf 2=1:=by kernel_rfl
 obtain⟨m13,rfl,aDT⟩:=kj (enc:=(λn:Int=>PV.int .i64 n)) (Q:=λ_=>True) (l:=l13) (λx hx=>by
  obtain⟨y,rfl,_⟩:=fm underlying2 (aw9 x hx).1
  exact⟨y,rfl,trivial⟩)
 have g13:m13.length≤1048576:=by simp at anB;omega
 rw[axa]
 obtain⟨l14,rfl,axb,anC,_⟩:=nC underlying43 h14
 have axc:Tryz.prog.cellsOf 146=19:=by kernel_rfl
 obtain⟨m14,rfl,aDU⟩:=kj (enc:=mB) (Q:=λ_=>True) (l:=l14) (λx hx=>by
  obtain⟨y,rfl⟩:=ZW (axb x hx).1
  exact⟨y,rfl,trivial⟩)
 have g14:m14.length≤1048576:=by simp at anC;omega
 rw[axc]
 obtain⟨a15,rfl,u15,v15⟩:=fm underlying3 h15
 exact⟨⟨a1,⟨p2,f2⟩,⟨p3,f3⟩,a4,⟨p5,f5⟩,a6,m7,m8,m9,m10,⟨p11,f11⟩,a12,m13,m14,a15⟩,rfl,⟨g7,g8,g9,g10,g13,g14,λp hp=>(hm7 p hp).2⟩,λp hp=>(hm7 p hp).1⟩
end Go.Ab

/- Functions of the program and of the document, as the abstract reading walks them, part 3. No condition. -/
import Derived.Test.YtlcojgogfjlceaaGreatDoorB2
set_option maxRecDepth 10000
set_option maxHeartbeats 4000000
set_option linter.all false
noncomputable section
namespace Go.Ab
def Wv (a b:Nat->Int):Nat->Int:=λj=>a j+b j
def Ww (a b:Nat->Int):Nat->Int:=λj=>a j-b j
theorem GD {a b:Nat->Int} (ha:Ag a 65573) (hb:Ag b 65573):Ag (Wv a b) 262144:=λi hi=>by
 have:=ha i hi;have:=hb i hi;simp only[Wv];omega
theorem GF {a b:Nat->Int} (ha:Ag a 65573) (hb:Ag b 65573):Ag (Ww a b) 262144:=λi hi=>by
 have:=ha i hi;have:=hb i hi;simp only[Ww];omega
theorem Ag.mono {a:Nat->Int} {b c:Int} (h:Ag a b) (hc:b≤c):Ag a c:=λi hi=>by have:=h i hi;omega
theorem ov {a b:Nat->Int} (ha:Ag a 262144) (hb:Ag b 262144):Ag (qY a b) 65573:=(Wu ha hb).le
theorem W2:(65573:Int)≤262144:=by decide
def Ek (a:Nat->Int):Nat->(Nat->Int)
 |0=>a
 |i+1=>if i=251∨i=249 then qY (Ek a i) (Ek a i)else qY (qY (Ek a i) (Ek a i)) a
structure Iz where
 x2:Nat->Int
 z2:Nat->Int
 x3:Nat->Int
 z3:Nat->Int
structure Iz.Ok (L:Iz):Prop where
 D0:Ag L.x2 65573
 hz2:Ag L.z2 65573
 hx3:Ag L.x3 65573
 hz3:Ag L.z3 65573
theorem auy:zr 16 (PV.int IntKind.i64 0)=[.int .i64 0,.int .i64 0,.int .i64 0,.int .i64 0,.int .i64 0,.int .i64 0,.int .i64 0,.int .i64 0,.int .i64 0,.int .i64 0,.int .i64 0,.int .i64 0,.int .i64 0,.int .i64 0,.int .i64 0,.int .i64 0]:=by rw[cg];rfl
def cW:Nat->Int:=λj=>if j=0 then 56129 else if j=1 then 1 else 0
theorem amO:Ag cW 65573:=λi _=>by simp only[cW];split;omega;split<;>omega
def Iz.st (L:Iz) (x1:Nat->Int):Iz:=
 let a:=Wv L.x2 L.z2
 let b:=Ww L.x2 L.z2
 let aa:=qY a a
 let bb:=qY b b
 let e:=Ww aa bb
 let da:=qY (Ww L.x3 L.z3) a
 let cb:=qY (Wv L.x3 L.z3) b
 let s:=Wv da cb
 let t:=Ww da cb
 ⟨qY aa bb,qY e (Wv aa (qY cW e)),qY s s,qY x1 (qY t t)⟩
theorem Iz.Ok.st {L:Iz} (h:L.Ok) {x1:Nat->Int} (h1:Ag x1 65573):(L.st x1).Ok:=by
 obtain⟨a2,b2,a3,b3⟩:=h;have ha:=GD a2 b2;have hb:=GF a2 b2;have G3:=ov ha ha;have Ft:=ov hb hb;have he:=GF G3 Ft;have KW:=ov (GF a3 b3) ha;have Mp:=ov (GD a3 b3) hb;have hs:=GD KW Mp;have ht:=GF KW Mp;exact⟨ov (G3.mono W2) (Ft.mono W2),ov he (GD G3 (ov (amO.mono W2) he)),ov hs hs,ov (h1.mono W2) ((ov ht ht).mono W2)⟩
def iZ:Key:=⟨9::List.replicate 31 0,rfl⟩
theorem auz:zr 32 (PV.int IntKind.u8 0)=[.int .u8 0,.int .u8 0,.int .u8 0,.int .u8 0,.int .u8 0,.int .u8 0,.int .u8 0,.int .u8 0,.int .u8 0,.int .u8 0,.int .u8 0,.int .u8 0,.int .u8 0,.int .u8 0,.int .u8 0,.int .u8 0,.int .u8 0,.int .u8 0,.int .u8 0,.int .u8 0,.int .u8 0,.int .u8 0,.int .u8 0,.int .u8 0,.int .u8 0,.int .u8 0,.int .u8 0,.int .u8 0,.int .u8 0,.int .u8 0,.int .u8 0,.int .u8 0]:=by rw[cg];rfl
theorem Wx:PV.ar 1 32 [.int .u8 9,.int .u8 0,.int .u8 0,.int .u8 0,.int .u8 0,.int .u8 0,.int .u8 0,.int .u8 0,.int .u8 0,.int .u8 0,.int .u8 0,.int .u8 0,.int .u8 0,.int .u8 0,.int .u8 0,.int .u8 0,.int .u8 0,.int .u8 0,.int .u8 0,.int .u8 0,.int .u8 0,.int .u8 0,.int .u8 0,.int .u8 0,.int .u8 0,.int .u8 0,.int .u8 0,.int .u8 0,.int .u8 0,.int .u8 0,.int .u8 0,.int .u8 0]=aG iZ:=rfl
theorem jo (k:Key):aK Pg 83 [aG k] (aG (kV k iZ)):=by
 refine ae.intro (aC R.jo.2) (by simp[R.jo]) ?_;simp[R.jo,aj,av,auz,Wx];refine ai.rA (mG k iZ) ?_;simp;refine aA.plain [.keep [2],.dr 1] ?_;simp
def Bp:Int:=57896044618658097711785492504343953926634992332820282019728792003956564819949
def vF (a:Fe):Int:=a.a0+a.a1*2251799813685248+a.a2*5070602400912917605986812821504+a.a3*11417981541647679048466287755595961091061972992+a.a4*25711008708143844408671393477458601640355247900524685364822016
theorem QQ (a b:Fe):vF (qW a b)=vF a+vF b:=by
 simp only[vF,qW];omega
theorem Re (a:Fe):vF a=vF (sU a)+((a.a4/2251799813685248:Nat):Int)*Bp:=by
 simp only[vF,sU,Bp];omega
theorem QR {a b:Fe} (hb:b.Le 4503599627370458):vF (pJ a b)=vF a-vF b+2*Bp:=by
 obtain⟨h0,h1,h2,h3,h4⟩:=hb;simp only[vF,pJ,Bp];omega
theorem adt (s0 s1 s2 s3 s4:Nat):vF (Gy [s0,s1,s2,s3,s4])=s0+s1*2251799813685248+s2*5070602400912917605986812821504+s3*11417981541647679048466287755595961091061972992+s4*25711008708143844408671393477458601640355247900524685364822016-((s4/2251799813685248:Nat):Int)*Bp:=by
 simp only[vF,Gy,Bp,List.getD_cons_zero,List.getD_cons_succ];omega
theorem Kc (a b:Fe):∃k:Int,vF (gj a b)=vF a*vF b+k*Bp:=by
 have h1:=Re (Gy (wI a b 5));rw[show sU (Gy (wI a b 5))=gj a b from rfl,Q9,adt]at h1;obtain⟨a0,a1,a2,a3,a4⟩:=a;obtain⟨b0,b1,b2,b3,b4⟩:=b;dsimp only at h1;generalize vF (gj ⟨a0,a1,a2,a3,a4⟩ ⟨b0,b1,b2,b3,b4⟩)=v at*;simp only[vF];generalize (Gy _).a4/2251799813685248=q1 at*;generalize (0+a0*b4+a1*b3+a2*b2+a3*b1+a4*b0)/2251799813685248=q2 at*;simp only[Int.natCast_add,JqZ,Int.cast_ofNat_Int]at h1;refine⟨-(q1:Int)-q2-((a1:Int)*b4+a2*b3+a3*b2+a4*b1)-((a2:Int)*b4+a3*b3+a4*b2)*2251799813685248-((a3:Int)*b4+a4*b3)*5070602400912917605986812821504-(a4:Int)*b4*11417981541647679048466287755595961091061972992,?_⟩;rw[show v=(a0:Int)*b0+19*a1*b4+19*a2*b3+19*a3*b2+19*a4*b1+((a0:Int)*b1+a1*b0+19*a2*b4+19*a3*b3+19*a4*b2)*2251799813685248+((a0:Int)*b2+a1*b1+a2*b0+19*a3*b4+19*a4*b3)*5070602400912917605986812821504+((a0:Int)*b3+a1*b2+a2*b1+a3*b0+19*a4*b4)*11417981541647679048466287755595961091061972992+((a0:Int)*b4+a1*b3+a2*b2+a3*b1+a4*b0)*25711008708143844408671393477458601640355247900524685364822016-q2*Bp-q1*Bp by omega,show Bp=2251799813685248*25711008708143844408671393477458601640355247900524685364822016-19 by decide];clear h1;grind
def fm (f:Nat->Int):Nat->Int
 |0=>0
 |n+1=>fm f n+f n*65536^n
def vW (f:Nat->Int):Int:=fm f 16
theorem IA (a b:Nat->Int):∀n,fm (Wv a b) n=fm a n+fm b n
 |0=>rfl
 |n+1=>by have:=IA a b n;simp only[fm,this,Wv];grind
theorem IB (a b:Nat->Int):∀n,fm (Ww a b) n=fm a n-fm b n
 |0=>rfl
 |n+1=>by have:=IB a b n;simp only[fm,this,Ww];grind
theorem IC (f:Nat->Int) (k:Nat) (d:Int):∀n,fm (upW f k (f k+d)) n=fm f n+if k<n then d*65536^k else 0
 |0=>by simp[fm]
 |
  n+1=>by
  have h:=IC f k d n
  simp only[fm,h,upW]
  by_cases e:n=k
  ·subst e
   rw[if_neg (JtV _),if_pos rfl,if_pos (by omega)]
   grind
  ·rw[if_neg e]
   by_cases h1:k<n
   ·rw[if_pos h1,if_pos (by omega)]
    omega
   ·rw[if_neg h1,if_neg (by omega)]
    omega
theorem Wy (t:Nat->Int) (x:Int) (b:Nat->Int) (i j:Nat):tC t x b i (j+1)=upW (tC t x b i j) (i+j) (tC t x b i j (i+j)+x*b j):=by
 funext k;simp only[tC,upW];by_cases h:k=i+j
 ·subst h;rw[if_pos (by omega),if_pos rfl,if_neg (by omega),show i+j-i=j by omega]
 ·rw[if_neg h];by_cases h1:i≤k∧k<i+j
  ·rw[if_pos (by omega),if_pos h1]
  ·rw[if_neg (by omega),if_neg h1]
theorem LN (t:Nat->Int) (x:Int) (b:Nat->Int) (i:Nat):∀j,i+j≤31->fm (tC t x b i j) 31=fm t 31+x*65536^i*fm b j
 |
  0,_=>by
  have:tC t x b i 0=t:=by funext k;simp only[tC];rw[if_neg (by omega)]
  rw[this];simp[fm]
 |
  j+1,h=>by
  rw[Wy,IC,if_pos (by omega),LN t x b i j (by omega),Int.pow_add]
  simp only[fm]
  generalize (65536:Int)^i=p
  generalize (65536:Int)^j=q
  grind
theorem LO (a b:Nat->Int):∀i,i≤16->fm (tR a b i) 31=fm a i*vW b
 |0,_=>by simp only[fm];rw[Int.zero_mul];rfl
 |
  i+1,h=>by
  have e:tR a b (i+1)=tC (tR a b i) (a i) b i 16:=rfl
  rw[e,LN _ _ _ _ _ (by omega),LO a b i (by omega),vW]
  simp only[show fm a (i+1)=fm a i+a i*65536^i from rfl]
  grind
theorem DE (t:Nat->Int) (m:Nat):∀n,fm t (m+n)=fm t m+65536^m*fm (λk=>t (k+m)) n
 |0=>by simp[fm]
 |
  n+1=>by
  have h:=DE t m n
  rw[show m+(n+1)=m+n+1 from rfl]
  simp only[fm,h,Int.pow_add]
  rw[Nat.add_comm n m]
  generalize (65536:Int)^m=p
  generalize (65536:Int)^n=q
  grind
theorem LP (a b:Nat->Int):∀n,n≤15->fm (tO a b) n=fm (tR a b 16) n+38*fm (λk=>tR a b 16 (k+16)) n
 |0,_=>by simp[fm]
 |
  n+1,h=>by
  have ih:=LP a b n (by omega)
  simp only[fm,ih,tO]
  rw[if_pos (by omega)]
  grind
theorem amP (a b:Nat->Int):vW (tO a b)=vW a*vW b-2*fm (λk=>tR a b 16 (k+16)) 15*Bp:=by
 have h1:=LP a b 15 (by decide);have h2:=LO a b 16 (by decide);have h3:=DE (tR a b 16) 16 15;have h4:vW (tO a b)=fm (tO a b) 15+tO a b 15*65536^15:=rfl;have h5:fm (tR a b 16) 16=fm (tR a b 16) 15+tR a b 16 15*65536^15:=rfl;have h6:tO a b 15=tR a b 16 15:=rfl;rw[show(16+15:Nat)=31 from rfl,h2,h5]at h3;rw[h4,h1,h6,show Bp=2^255-19 by decide];change vW a*vW b=_ at h3;rw[h3];generalize fm (λk=>tR a b 16 (k+16)) 15=s;grind
theorem ID (f:Nat->Int):∀n,fm f (n+1)=fm (λj=>cX f j%65536) (n+1)+(cX f n/65536)*65536^(n+1)
 |0=>by simp only[fm,cX];omega
 |
  n+1=>by
  have h:=ID f n
  have e:cX f (n+1)=f (n+1)+cX f n/65536:=rfl
  have e2:=Int.mul_ediv_add_emod (cX f (n+1)) 65536
  rw[fm,h,show fm (λj=>cX f j%65536) (n+1+1)=fm (λj=>cX f j%65536) (n+1)+cX f (n+1)%65536*65536^(n+1) from rfl,Int.pow_succ _ (n+1)]
  generalize (65536:Int)^(n+1)=p at*
  generalize cX f (n+1)%65536=r at*
  generalize cX f (n+1)/65536=q at*
  generalize cX f n/65536=q' at*
  generalize cX f (n+1)=c at*
  generalize f (n+1)=x at*
  generalize fm (λj=>cX f j%65536) (n+1)=s at*
  rw[show x=65536*q+r-q' by omega]
  grind
theorem Rf (f g:Nat->Int) (h:∀i,i≠0->f i=g i):∀n,fm f (n+1)=fm g (n+1)+(f 0-g 0)
 |0=>by simp only[fm];omega
 |
  n+1=>by
  have:=Rf f g h n
  rw[fm,this,fm,fm,h (n+1) (by omega),fm]
  omega
theorem Rg (f:Nat->Int):vW f=vW (sc f)+2*(cX f 15/65536)*Bp:=by
 have h1:=ID f 15;have h2:=Rf (sc f) (λj=>cX f j%65536) (λi hi=>by simp only[sc];rw[if_neg hi]) 15
 have e0:sc f 0-cX f 0%65536=38*(cX f 15/65536):=by
  have:sc f 0=f 0%65536+38*(cX f 15/65536):=rfl;rw[this,show cX f 0=f 0 from rfl];omega
 rw[e0]at h2;change vW f=_ at h1;change vW (sc f)=_ at h2;rw[h1,h2,show Bp=2^255-19 by decide];change _=(fm (λj=>cX f j%65536) (15+1)+_)+_;generalize fm (λj=>cX f j%65536) (15+1)=s;generalize cX f 15/65536=c;grind
theorem adu (a b:Nat->Int):∃k:Int,vW (qY a b)=vW a*vW b+k*Bp:=by
 have h1:=amP a b;have h2:=Rg (tO a b);have h3:=Rg (sc (tO a b));unfold qY;refine⟨-2*fm (λk=>tR a b 16 (k+16)) 15-2*(cX (tO a b) 15/65536)-2*(cX (sc (tO a b)) 15/65536),?_⟩;grind
def Rl (a:Fe) (f:Nat->Int):Prop:=vF a%Bp=vW f%Bp
theorem Rl.mul {a b:Fe} {f g:Nat->Int} (h1:Rl a f) (h2:Rl b g):Rl (gj a b) (qY f g):=by
 obtain⟨k,hk⟩:=Kc a b;obtain⟨l,hl⟩:=adu f g;unfold Rl at*;rw[hk,hl,JjX,JjX,Int.mul_emod,h1,h2,←Int.mul_emod]
theorem Rl.add {a b:Fe} {f g:Nat->Int} (h1:Rl a f) (h2:Rl b g):Rl (qW a b) (Wv f g):=by
 unfold Rl at*;rw[QQ,vW,IA];change _=(vW f+vW g)%Bp;rw[Int.add_emod,h1,h2,←Int.add_emod]
theorem Rl.sub {a b:Fe} {f g:Nat->Int} (h1:Rl a f) (h2:Rl b g) (hb:b.Le PB):Rl (pJ a b) (Ww f g):=by
 unfold Rl at*;rw[QR (hb.mono (by decide)),vW,IB,JjX];change _=(vW f-vW g)%Bp;rw[Int.sub_emod,h1,h2,←Int.sub_emod]
theorem Rl.inv {a:Fe} {f:Nat->Int} (h:Rl a f):∀i,Rl (mR a (i+1)) (Ek f i)
 |
  0=>by
  have e:mR a 1=gj (gj xy xy) a:=rfl
  obtain⟨k,hk⟩:=Kc (gj xy xy) a
  have e1:vF (gj xy xy)=1:=by decide
  unfold Rl at*
  rw[e,hk,e1,Int.one_mul,JjX,h]
  rfl
 |
  i+1=>by
  have ih:=Rl.inv h i
  have e1:mR a (i+1+1)=if i+1=252∨i+1=250 then gj (mR a (i+1)) (mR a (i+1))else gj (gj (mR a (i+1)) (mR a (i+1))) a:=rfl
  have e2:Ek f (i+1)=if i=251∨i=249 then qY (Ek f i) (Ek f i)else qY (qY (Ek f i) (Ek f i)) f:=rfl
  rw[e1,e2]
  by_cases hi:i=251∨i=249
  ·rw[if_pos hi,if_pos (by omega)]
   exact ih.mul ih
  ·rw[if_neg hi,if_neg (by omega)]
   exact(ih.mul ih).mul h
structure RlL (L:Lad) (M:Iz):Prop where
 x2:Rl L.x2 M.x2
 z2:Rl L.z2 M.z2
 x3:Rl L.x3 M.x3
 z3:Rl L.z3 M.z3
theorem BU (A B:List UInt8):∀m,te (A++B) (A.length+m)=te A A.length+256^A.length*te B m
 |
  0=>by
  have:∀n,n≤A.length->te (A++B) n=te A n:=λn=>by
   induction n with
   |zero=>intro _;rfl
   |
    succ n ih=>
    intro hn
    rw[te,te,ih (by omega),JaV,JaV,List.getElem?_append_left (by omega)]
  rw[JnQ,this _ (JaQ _)]
  simp[te]
 |
  m+1=>by
  have ih:=BU A B m
  have e:te (A++B) (A.length+(m+1))=te (A++B) (A.length+m)+((A++B).getD (A.length+m) 0).toNat*256^(A.length+m):=rfl
  have e2:(A++B).getD (A.length+m) 0=B.getD m 0:=by
   rw[JaV,JaV,List.getElem?_append_right (by omega),JqJ]
  rw[e,ih,e2,Nat.pow_add,te]
  generalize 256^A.length=p
  generalize 256^m=q
  generalize (B.getD m 0).toNat=x
  grind
theorem LQ (n K:Nat):∀k,k≤K->te (cD n K) k=n%256^k
 |0,_=>by simp[te,Nat.mod_one]
 |
  k+1,h=>by
  have ih:=LQ n K k (by omega)
  have e:(cD n K).getD k 0=S9 n k:=by
   rw[JaV,cD,List.getElem?_map,List.getElem?_range (by omega)];rfl
  have e2:(S9 n k).toNat=n/256^k%256:=by rw[S9,JnW];simp
  rw[te,ih,e,e2,Nat.pow_succ,Nat.mod_mul,Nat.mul_comm (256^k)]
theorem Wz (a:Fe):te (NM a).l 32=Tc a%18446744073709551616+18446744073709551616*(Td a%18446744073709551616)+340282366920938463463374607431768211456*(Wq a%18446744073709551616)+6277101735386680763835789423207666416102355444464034512896*(ZU a%18446744073709551616):=by
 have e:(NM a).l=cD (Tc a) 8++cD (Td a) 8++cD (Wq a) 8++cD (ZU a) 8:=rfl;have h:=λn=>db n 8;have h3:=BU (cD (Tc a) 8++cD (Td a) 8++cD (Wq a) 8) (cD (ZU a) 8) 8;have h2:=BU (cD (Tc a) 8++cD (Td a) 8) (cD (Wq a) 8) 8;have h1:=BU (cD (Tc a) 8) (cD (Td a) 8) 8;simp only[JaJ,h]at h1 h2 h3;rw[show 8+8=16 from rfl]at h1 h2 h3;rw[show 16+8=24 from rfl]at h2 h3;rw[show 24+8=32 from rfl]at h3;have p8:(256:Nat)^8=18446744073709551616:=by decide
 have l:=λn=>LQ n 8 8 (by decide);rw[e,h3,h2,h1,l,l,l,l,p8,show(256:Nat)^16=340282366920938463463374607431768211456 by decide,show(256:Nat)^24=6277101735386680763835789423207666416102355444464034512896 by decide]
theorem amQ {c:Fe} (hc:c.Le 2251799813685247):((te (NM c).l 32:Nat):Int)=vF c:=by
 obtain⟨h0,h1,h2,h3,h4⟩:=hc;rw[Wz];simp only[Tc,Td,Wq,ZU,vF];obtain⟨a0,a1,a2,a3,a4⟩:=c;dsimp only at*;have e0:a0+a1*2251799813685248%18446744073709551616=a0+(a1%8192)*2251799813685248:=by omega
 have e1:a1/8192+a2*274877906944%18446744073709551616=a1/8192+(a2%67108864)*274877906944:=by omega
 have e2:a2/67108864+a3*33554432%18446744073709551616=a2/67108864+(a3%549755813888)*33554432:=by omega
 have e3:a3/549755813888+a4*4096%18446744073709551616=a3/549755813888+a4*4096:=by omega
 have l0:a0+(a1%8192)*2251799813685248<18446744073709551616:=by omega
 have l1:a1/8192+(a2%67108864)*274877906944<18446744073709551616:=by omega
 have l2:a2/67108864+(a3%549755813888)*33554432<18446744073709551616:=by omega
 have l3:a3/549755813888+a4*4096<18446744073709551616:=by omega
 rw[e0,e1,e2,e3,JiJ l0,JiJ l1,JiJ l2,JiJ l3];clear l0 l1 l2 l3;clear e0 e1 e2 e3;have q1:=Nat.div_add_mod a1 8192;have q2:=Nat.div_add_mod a2 67108864;have q3:=Nat.div_add_mod a3 549755813888;generalize a1/8192=u1 at*;generalize a1%8192=v1 at*;generalize a2/67108864=u2 at*;generalize a2%67108864=v2 at*;generalize a3/549755813888=u3 at*;generalize a3%549755813888=v3 at*;omega
theorem NN {a:Fe} (h:a.Le PB):(sU a).a0≤2251799813685266∧(sU a).a1≤2251799813685248∧(sU a).a2≤2251799813685248∧(sU a).a3≤2251799813685248∧(sU a).a4≤2251799813685248:=by
 obtain⟨h0,h1,h2,h3,h4⟩:=h;unfold PB at*;simp only[sU];omega
theorem amR {b:Fe} (h0:b.a0≤2251799813685266) (h1:b.a1≤2251799813685248) (h2:b.a2≤2251799813685248) (h3:b.a3≤2251799813685248) (h4:b.a4≤2251799813685248):vF (uI b)=vF b%Bp:=by
 obtain⟨a0,a1,a2,a3,a4⟩:=b;dsimp only at h0 h1 h2 h3 h4
 have hq:∃t1 t2 t3 t4 r0 r1 r2 r3 r4:Nat,a0+19=t1*2251799813685248+r0∧a1+t1=t2*2251799813685248+r1∧a2+t2=t3*2251799813685248+r2∧a3+t3=t4*2251799813685248+r3∧a4+t4=Iw ⟨a0,a1,a2,a3,a4⟩*2251799813685248+r4∧r0<2251799813685248∧r1<2251799813685248∧r2<2251799813685248∧r3<2251799813685248∧r4<2251799813685248:=by
  refine⟨(a0+19)/2251799813685248,(a1+(a0+19)/2251799813685248)/2251799813685248,(a2+(a1+(a0+19)/2251799813685248)/2251799813685248)/2251799813685248,(a3+(a2+(a1+(a0+19)/2251799813685248)/2251799813685248)/2251799813685248)/2251799813685248,(a0+19)%2251799813685248,(a1+(a0+19)/2251799813685248)%2251799813685248,(a2+(a1+(a0+19)/2251799813685248)/2251799813685248)%2251799813685248,(a3+(a2+(a1+(a0+19)/2251799813685248)/2251799813685248)/2251799813685248)%2251799813685248,(a4+(a3+(a2+(a1+(a0+19)/2251799813685248)/2251799813685248)/2251799813685248)/2251799813685248)%2251799813685248,?_⟩;simp only[Iw];omega
 have hb:∃s0 s1 s2 s3 s4:Nat,a0+19*Iw ⟨a0,a1,a2,a3,a4⟩=s0*2251799813685248+(uI ⟨a0,a1,a2,a3,a4⟩).a0∧a1+s0=s1*2251799813685248+(uI ⟨a0,a1,a2,a3,a4⟩).a1∧a2+s1=s2*2251799813685248+(uI ⟨a0,a1,a2,a3,a4⟩).a2∧a3+s2=s3*2251799813685248+(uI ⟨a0,a1,a2,a3,a4⟩).a3∧a4+s3=s4*2251799813685248+(uI ⟨a0,a1,a2,a3,a4⟩).a4∧(uI ⟨a0,a1,a2,a3,a4⟩).a0<2251799813685248∧(uI ⟨a0,a1,a2,a3,a4⟩).a1<2251799813685248∧(uI ⟨a0,a1,a2,a3,a4⟩).a2<2251799813685248∧(uI ⟨a0,a1,a2,a3,a4⟩).a3<2251799813685248∧(uI ⟨a0,a1,a2,a3,a4⟩).a4<2251799813685248:=by
  refine⟨Wm ⟨a0,a1,a2,a3,a4⟩/2251799813685248,Wn ⟨a0,a1,a2,a3,a4⟩/2251799813685248,Wo ⟨a0,a1,a2,a3,a4⟩/2251799813685248,Wp ⟨a0,a1,a2,a3,a4⟩/2251799813685248,b4F ⟨a0,a1,a2,a3,a4⟩/2251799813685248,?_⟩;have x0:Wm ⟨a0,a1,a2,a3,a4⟩=a0+19*Iw ⟨a0,a1,a2,a3,a4⟩:=rfl;have x1:Wn ⟨a0,a1,a2,a3,a4⟩=a1+Wm ⟨a0,a1,a2,a3,a4⟩/2251799813685248:=rfl;have x2:Wo ⟨a0,a1,a2,a3,a4⟩=a2+Wn ⟨a0,a1,a2,a3,a4⟩/2251799813685248:=rfl;have x3:Wp ⟨a0,a1,a2,a3,a4⟩=a3+Wo ⟨a0,a1,a2,a3,a4⟩/2251799813685248:=rfl;have x4:b4F ⟨a0,a1,a2,a3,a4⟩=a4+Wp ⟨a0,a1,a2,a3,a4⟩/2251799813685248:=rfl;simp only[uI];rw[←x0,←x1,←x2,←x3,←x4];omega
 generalize uI ⟨a0,a1,a2,a3,a4⟩=c at*;generalize Iw ⟨a0,a1,a2,a3,a4⟩=q at*;obtain⟨c0,c1,c2,c3,c4⟩:=c;dsimp only at hb;obtain⟨t1,t2,t3,t4,r0,r1,r2,r3,r4,u0,u1,u2,u3,u4,b0,b1,b2,b3,b4⟩:=hq;obtain⟨s0,s1,s2,s3,s4,v0,v1,v2,v3,v4,d0,d1,d2,d3,d4⟩:=hb;have q2:q≤1:=by omega
 have hU:(a0:Int)+a1*2251799813685248+a2*5070602400912917605986812821504+a3*11417981541647679048466287755595961091061972992+a4*25711008708143844408671393477458601640355247900524685364822016+19=q*57896044618658097711785492504343953926634992332820282019728792003956564819968+(r0+r1*2251799813685248+r2*5070602400912917605986812821504+r3*11417981541647679048466287755595961091061972992+r4*25711008708143844408671393477458601640355247900524685364822016):=by omega
 have hV:(a0:Int)+a1*2251799813685248+a2*5070602400912917605986812821504+a3*11417981541647679048466287755595961091061972992+a4*25711008708143844408671393477458601640355247900524685364822016+19*q=s4*57896044618658097711785492504343953926634992332820282019728792003956564819968+(c0+c1*2251799813685248+c2*5070602400912917605986812821504+c3*11417981541647679048466287755595961091061972992+c4*25711008708143844408671393477458601640355247900524685364822016):=by omega
 have hR:(r0:Int)+r1*2251799813685248+r2*5070602400912917605986812821504+r3*11417981541647679048466287755595961091061972992+r4*25711008708143844408671393477458601640355247900524685364822016<57896044618658097711785492504343953926634992332820282019728792003956564819968:=by omega
 have hC:(c0:Int)+c1*2251799813685248+c2*5070602400912917605986812821504+c3*11417981541647679048466287755595961091061972992+c4*25711008708143844408671393477458601640355247900524685364822016<57896044618658097711785492504343953926634992332820282019728792003956564819968:=by omega
 have hR0:0≤(r0:Int)+r1*2251799813685248+r2*5070602400912917605986812821504+r3*11417981541647679048466287755595961091061972992+r4*25711008708143844408671393477458601640355247900524685364822016:=by omega
 have hC0:0≤(c0:Int)+c1*2251799813685248+c2*5070602400912917605986812821504+c3*11417981541647679048466287755595961091061972992+c4*25711008708143844408671393477458601640355247900524685364822016:=by omega
 have hv0:0≤(a0:Int)+a1*2251799813685248+a2*5070602400912917605986812821504+a3*11417981541647679048466287755595961091061972992+a4*25711008708143844408671393477458601640355247900524685364822016:=by omega
 have xK:(a0:Int)+a1*2251799813685248+a2*5070602400912917605986812821504+a3*11417981541647679048466287755595961091061972992+a4*25711008708143844408671393477458601640355247900524685364822016<2*57896044618658097711785492504343953926634992332820282019728792003956564819949:=by omega
 simp only[vF];generalize (a0:Int)+a1*2251799813685248+a2*5070602400912917605986812821504+a3*11417981541647679048466287755595961091061972992+a4*25711008708143844408671393477458601640355247900524685364822016=v at*;generalize (c0:Int)+c1*2251799813685248+c2*5070602400912917605986812821504+c3*11417981541647679048466287755595961091061972992+c4*25711008708143844408671393477458601640355247900524685364822016=w at*;generalize (r0:Int)+r1*2251799813685248+r2*5070602400912917605986812821504+r3*11417981541647679048466287755595961091061972992+r4*25711008708143844408671393477458601640355247900524685364822016=r at*;clear u0 u1 u2 u3 u4 v0 v1 v2 v3 v4 h0 h1 h2 h3 h4 d0 d1 d2 d3 d4 b0 b1 b2 b3 b4;unfold Bp;rcases(by omega:q=0∨q=1)with rfl|rfl<;>omega
theorem ZQ {a:Fe} (ha:a.Le PB):((te (Ej a).l 32:Nat):Int)=vF a%Bp:=by
 obtain⟨t0,t1,t2,t3,t4⟩:=NN ha;have hv:=amR t0 t1 t2 t3 t4;have hc:(uI (sU a)).Le 2251799813685247:=by constructor<;>(simp only[uI];omega)
 have h:=Re a;unfold Ej;rw[amQ hc,hv,h,JjX]
def nU (x:UInt32):Int:=(x.toNat:Int)
def uW (n:Nat) (f:Nat->UInt32):List PV:=(List.range n).map λi=> .int .u32 (nU (f i))
@[simp] theorem auA (n:Nat) (f:Nat->UInt32):(uW n f).length=n:=by simp[uW]
theorem dA {n:Nat} (f:Nat->UInt32) {i:Nat} (h:i<n):(uW n f)[i]? =some (.int .u32 (nU (f i))):=by simp[uW,h]
def oD (f:Nat->UInt32) (i:Nat) (x:UInt32):Nat->UInt32:=λj=>if j=i then x else f j
theorem lU {n:Nat} {f g:Nat->UInt32} (h:∀i,i<n->f i=g i):uW n f=uW n g:=by
 unfold uW;exact JpW λi hi=>by rw[h i (JiX.1 hi)]
theorem ky (n:Nat) (f:Nat->UInt32) (i:Nat) (x:UInt32):(uW n f).set i (.int .u32 (nU x))=uW n (oD f i x):=by
 apply JjW;intro j;by_cases hj:j<n
 ·rw[dA _ hj,List.getElem?_set];by_cases h:i=j
  ·simp[h,hj,oD]
  ·rw[if_neg h,dA _ hj,oD,if_neg (Ne.symm h)]
 ·rw[List.getElem?_eq_none (by simp;omega),List.getElem?_eq_none (by simp;omega)]
@[simp] theorem GG (n:Nat) (f:Nat->UInt32):an (uW n f):=aF (λ_=>by simp) _
@[simp] theorem ZX (n:Nat) (f:Nat->UInt32):fI (uW n f)=uW n f:=nm (λ_=>by simp) _
theorem sd (x y:UInt32):IntKind.u32.wrap (nU x+nU y)=nU (x+y):=by
 rw[IntKind.wrap_u32',nU,nU,nU,UInt32.toNat_add];omega
theorem nq (x y:UInt32):bits .xor .u32 (nU x) (nU y)=nU (x^^^y):=by
 rw[nU,nU,nU,u32_xor_nat _ _ x.toNat_lt y.toNat_lt,UInt32.toNat_xor]
def ro (x:UInt32) (k:Nat):UInt32:=UInt32.ofNat (x.toNat/2^k|||x.toNat*2^(32-k)%4294967296)
theorem IE (x:UInt32) (k:Nat) (s:Int) (hk:k<32) (hs:s=((2^(32-k):Nat):Int)) (r:Int) (hr:r=((2^k:Nat):Int)):bits .or .u32 ((nU x).fdiv r) (IntKind.u32.wrap (nU x*s))=nU (ro x k):=by
 have hx:=x.toNat_lt;subst hs hr
 have e1:(nU x).fdiv ((2^k:Nat):Int)=((x.toNat/2^k:Nat):Int):=by
  rw[nU,JgZ _ (JkV _),←JlV]
 have e2:IntKind.u32.wrap (nU x*((2^(32-k):Nat):Int))=((x.toNat*2^(32-k)%4294967296:Nat):Int):=by
  rw[IntKind.wrap_u32',nU,←JqZ];omega
 have l1:x.toNat/2^k<4294967296:=JfV (Nat.div_le_self _ _) hx;have l2:x.toNat*2^(32-k)%4294967296<4294967296:=JdZ _ (by decide);have l3:x.toNat/2^k|||x.toNat*2^(32-k)%4294967296<2^32:=JoV (n:=32) l1 l2;have e3:(ro x k).toNat=x.toNat/2^k|||x.toNat*2^(32-k)%4294967296:=by rw[ro,JpV,JiJ l3]
 rw[e1,e2,u32_or_nat _ _ l1 l2,nU,e3]
theorem oL (a b:Int):bits .or .u32 a b=bits .or .u32 b a:=by simp only[bits,BitVec.or_comm]
theorem WA {x:UInt32} {k:Nat} (hk:k=16∨k=12∨k=8∨k=7):aK Pg 383 [.int .u32 (nU x),.int .i64 (-(k:Int))] (.int .u32 (nU (ro x k))):=by
 refine ae.intro (aC R.br.2) (by simp[R.br]) ?_;have OJ:bits .and .u64 18446744073709551600 31=16:=by decide+kernel
 have Hh:bits .and .u64 18446744073709551604 31=20:=by decide+kernel
 have h8:bits .and .u64 18446744073709551608 31=24:=by decide+kernel
 have h7:bits .and .u64 18446744073709551609 31=25:=by decide+kernel
 have w16:IntKind.u64.wrap (-16)=18446744073709551600:=by decide+kernel
 have w12:IntKind.u64.wrap (-12)=18446744073709551604:=by decide+kernel
 have w8:IntKind.u64.wrap (-8)=18446744073709551608:=by decide+kernel
 have w7:IntKind.u64.wrap (-7)=18446744073709551609:=by decide+kernel
 rcases hk with rfl|rfl|rfl|rfl
 ·have h:=IE x 16 65536 (by decide) rfl 65536 rfl;rw[oL]at h;simp[R.br,aj,av,OJ,w16,show IntKind.u32.bits=32 from rfl,show IntKind.u64.wrap 16=16 from rfl,h];refine aA.plain [] ?_;simp
 ·have h:=IE x 12 1048576 (by decide) rfl 4096 rfl;rw[oL]at h;simp[R.br,aj,av,Hh,w12,show IntKind.u32.bits=32 from rfl,show IntKind.u64.wrap 12=12 from rfl,h];refine aA.plain [] ?_;simp
 ·have h:=IE x 8 16777216 (by decide) rfl 256 rfl;rw[oL]at h;simp[R.br,aj,av,h8,w8,show IntKind.u32.bits=32 from rfl,show IntKind.u64.wrap 8=8 from rfl,h];refine aA.plain [] ?_;simp
 ·have h:=IE x 7 33554432 (by decide) rfl 128 rfl;rw[oL]at h;simp[R.br,aj,av,h7,w7,show IntKind.u32.bits=32 from rfl,show IntKind.u64.wrap 7=7 from rfl,h];refine aA.plain [] ?_;simp
def mxA (v:Nat->UInt32) (a b:Nat) (x:UInt32):Nat->UInt32:=oD v a (v a+v b+x)
def S8 (v:Nat->UInt32) (d a k:Nat):Nat->UInt32:=oD v d (ro (v d^^^v a) k)
def mxC (v:Nat->UInt32) (c d:Nat):Nat->UInt32:=oD v c (v c+v d)
def Dy (v:Nat->UInt32) (a b c d:Nat) (x y:UInt32):Nat->UInt32:=S8 (mxC (S8 (mxA (S8 (mxC (S8 (mxA v a b x) d a 16) c d) b c 12) a b y) d a 8) c d) b c 7
theorem amS (x y z:UInt32):x+(y+z)=x+y+z:=(UInt32.add_assoc _ _ _).symm
theorem oa (v:Nat->UInt32) {a b c d:Nat} (ha:a<16) (hb:b<16) (hc:c<16) (hd:d<16) (x y:UInt32):
  ae Pg 360 [.pt KB [.i a 1] 0,.pt KB [.i b 1] 0,.pt KB [.i c 1] 0,.pt KB [.i d 1] 0,.int .u32 (nU x),.int .u32 (nU y)] [.box (.ar 1 16 (uW 16 v))] (λr fp=>r= .tup []∧fp=[.box (.ar 1 16 (uW 16 (Dy v a b c d x y)))]):=by
 refine ae.intro T.oa (by simp[F.oa]) ?_;have r16:∀z,aK Pg 383 [.int .u32 (nU z),.int .i64 (-16)] (.int .u32 (nU (ro z 16))):=λz=>WA (x:=z) (k:=16) (by simp);have r12:∀z,aK Pg 383 [.int .u32 (nU z),.int .i64 (-12)] (.int .u32 (nU (ro z 12))):=λz=>WA (x:=z) (k:=12) (by simp);have r8:∀z,aK Pg 383 [.int .u32 (nU z),.int .i64 (-8)] (.int .u32 (nU (ro z 8))):=λz=>WA (x:=z) (k:=8) (by simp);have r7:∀z,aK Pg 383 [.int .u32 (nU z),.int .i64 (-7)] (.int .u32 (nU (ro z 7))):=λz=>WA (x:=z) (k:=7) (by simp);have g:=λ(f:Nat->UInt32)=>dA (n:=16) f ha;have g1:=λ(f:Nat->UInt32)=>dA (n:=16) f hb;have g2:=λ(f:Nat->UInt32)=>dA (n:=16) f hc;have g3:=λ(f:Nat->UInt32)=>dA (n:=16) f hd;have eA:∀(v:Nat->UInt32) (x:UInt32),oD v a (v a+v b+x)=mxA v a b x:=λ_ _=>rfl;have eD:∀(v:Nat->UInt32) (k:Nat),oD v d (ro (v d^^^v a) k)=S8 v d a k:=λ_ _=>rfl;have eC:∀(v:Nat->UInt32),oD v c (v c+v d)=mxC v c d:=λ_=>rfl;have eB:∀(v:Nat->UInt32) (k:Nat),oD v b (ro (v b^^^v c) k)=S8 v b c k:=λ_ _=>rfl;simp[F.oa,aj,av,g,g1,g3,sd,nq,amS,ky,eA,-getElem?_pos];generalize xK:mxA v a b x=v1 at*;refine aN.rA (r16 (v1 d^^^v1 a)) ?_;simp[g1,g2,g3,sd,nq,ky,eD,eC,-getElem?_pos];generalize nL:mxC (S8 v1 d a 16) c d=v2 at*;refine aN.rA (r12 (v2 b^^^v2 c)) ?_;simp[g,g1,g3,sd,nq,amS,ky,eA,eB,-getElem?_pos];generalize hv3:mxA (S8 v2 b c 12) a b y=v3 at*;refine aN.rA (r8 (v3 d^^^v3 a)) ?_;simp[g1,g2,g3,sd,nq,ky,eD,eC,-getElem?_pos];generalize hv4:mxC (S8 v3 d a 8) c d=v4 at*;refine aN.rA (r7 (v4 b^^^v4 c)) ?_;simp[g1,ky,eB,-getElem?_pos];refine aA.with [] [KB] ?_;simp[dj,Dy,xK,nL,hv3,hv4,ab,af,az,aE]
def sgT:List (List Nat):=[[0,1,2,3,4,5,6,7,8,9,10,11,12,13,14,15],[14,10,4,8,9,15,13,6,1,12,0,2,11,7,5,3],[11,8,12,0,5,2,15,13,10,14,3,6,7,1,9,4],[7,9,3,1,13,12,11,14,2,6,5,10,4,0,15,8],[9,0,5,7,2,4,10,15,14,1,11,12,6,8,3,13],[2,12,6,10,0,11,8,3,4,13,7,5,15,14,1,9],[12,5,1,15,14,13,4,10,0,7,6,3,9,2,8,11],[13,11,7,14,12,1,3,9,5,0,15,4,8,6,2,10],[6,15,14,9,11,3,0,8,12,2,13,7,1,4,10,5],[10,2,8,4,7,6,1,5,15,11,9,14,3,12,13,0]]
def sg (r k:Nat):Nat:=(sgT.getD r []).getD k 0
theorem Dz:∀r,r<10->∀k,k<16->sg r k<16:=by decide
def WB (r:Nat):List PV:=iW 16 λk=>(sg r k:Int)
@[simp] theorem ahI (r:Nat):an (WB r):=Ws _ _
def IF:List PV:=(List.range 10).map λr=>PV.ar 1 16 (WB r)
@[simp] theorem adv:an IF:=aF (λr=>by simp) _
theorem Fb {r:Nat} (h:r<10):IF[r]? =some (PV.ar 1 16 (WB r)):=by simp[IF,h]
def ivT:List UInt32:=[1779033703,3144134277,1013904242,2773480762,1359893119,2600822924,528734635,1541459225]
def Ls (i:Nat):UInt32:=ivT.getD i 0
theorem iz:aK Pg 326 [] (.ar 1 8 (uW 8 Ls)):=by
 refine ae.intro (aC R.iz.2) (by simp[R.iz]) ?_;have hz:zr 8 (PV.int IntKind.u32 0)=[.int .u32 0,.int .u32 0,.int .u32 0,.int .u32 0,.int .u32 0,.int .u32 0,.int .u32 0,.int .u32 0]:=by rw[cg];rfl
 have he:PV.ar 1 8 [.int .u32 1779033703,.int .u32 3144134277,.int .u32 1013904242,.int .u32 2773480762,.int .u32 1359893119,.int .u32 2600822924,.int .u32 528734635,.int .u32 1541459225]=PV.ar 1 8 (uW 8 Ls):=rfl;simp[R.iz,aj,av,hz,he];refine aA.plain [] ?_;simp
theorem z10 (x:PV):zr 10 x=[x,x,x,x,x,x,x,x,x,x]:=by rw[cg];rfl
theorem adw:PV.ar 16 10 [PV.ar 1 16 [.int .i64 0,.int .i64 1,.int .i64 2,.int .i64 3,.int .i64 4,.int .i64 5,.int .i64 6,.int .i64 7,.int .i64 8,.int .i64 9,.int .i64 10,.int .i64 11,.int .i64 12,.int .i64 13,.int .i64 14,.int .i64 15],PV.ar 1 16 [.int .i64 14,.int .i64 10,.int .i64 4,.int .i64 8,.int .i64 9,.int .i64 15,.int .i64 13,.int .i64 6,.int .i64 1,.int .i64 12,.int .i64 0,.int .i64 2,.int .i64 11,.int .i64 7,.int .i64 5,.int .i64 3],PV.ar 1 16 [.int .i64 11,.int .i64 8,.int .i64 12,.int .i64 0,.int .i64 5,.int .i64 2,.int .i64 15,.int .i64 13,.int .i64 10,.int .i64 14,.int .i64 3,.int .i64 6,.int .i64 7,.int .i64 1,.int .i64 9,.int .i64 4],PV.ar 1 16 [.int .i64 7,.int .i64 9,.int .i64 3,.int .i64 1,.int .i64 13,.int .i64 12,.int .i64 11,.int .i64 14,.int .i64 2,.int .i64 6,.int .i64 5,.int .i64 10,.int .i64 4,.int .i64 0,.int .i64 15,.int .i64 8],PV.ar 1 16 [.int .i64 9,.int .i64 0,.int .i64 5,.int .i64 7,.int .i64 2,.int .i64 4,.int .i64 10,.int .i64 15,.int .i64 14,.int .i64 1,.int .i64 11,.int .i64 12,.int .i64 6,.int .i64 8,.int .i64 3,.int .i64 13],PV.ar 1 16 [.int .i64 2,.int .i64 12,.int .i64 6,.int .i64 10,.int .i64 0,.int .i64 11,.int .i64 8,.int .i64 3,.int .i64 4,.int .i64 13,.int .i64 7,.int .i64 5,.int .i64 15,.int .i64 14,.int .i64 1,.int .i64 9],PV.ar 1 16 [.int .i64 12,.int .i64 5,.int .i64 1,.int .i64 15,.int .i64 14,.int .i64 13,.int .i64 4,.int .i64 10,.int .i64 0,.int .i64 7,.int .i64 6,.int .i64 3,.int .i64 9,.int .i64 2,.int .i64 8,.int .i64 11],PV.ar 1 16 [.int .i64 13,.int .i64 11,.int .i64 7,.int .i64 14,.int .i64 12,.int .i64 1,.int .i64 3,.int .i64 9,.int .i64 5,.int .i64 0,.int .i64 15,.int .i64 4,.int .i64 8,.int .i64 6,.int .i64 2,.int .i64 10],PV.ar 1 16 [.int .i64 6,.int .i64 15,.int .i64 14,.int .i64 9,.int .i64 11,.int .i64 3,.int .i64 0,.int .i64 8,.int .i64 12,.int .i64 2,.int .i64 13,.int .i64 7,.int .i64 1,.int .i64 4,.int .i64 10,.int .i64 5],PV.ar 1 16 [.int .i64 10,.int .i64 2,.int .i64 8,.int .i64 4,.int .i64 7,.int .i64 6,.int .i64 1,.int .i64 5,.int .i64 15,.int .i64 11,.int .i64 9,.int .i64 14,.int .i64 3,.int .i64 12,.int .i64 13,.int .i64 0]]=PV.ar 16 10 IF:=rfl
theorem fw:aK Pg 359 [] (.ar 16 10 IF):=by
 refine ae.intro (aC R.fw.2) (by simp[R.fw]) ?_;simp[R.fw,aj,av,auy,z10,adw];refine aA.plain [] ?_;simp
theorem adx [eJ] {s:St} (d:Option Nat) (sz:Nat) (p:PV) (K:St->Prop) (k off len aO sz2:Nat) (pth:List Step) (c:fB):Yn s d sz p K (.rs k pth off len aO sz2 c)=zL s (λbP ys=>(ys=[]∨bP=sz)∧SM s d sz ys K p) (.rs k pth off len aO sz2 c):=_root_.id rfl
theorem ZY [eJ] {s:St} {d:Option Nat} {K:St->Prop} {k k2 n n2 off len off2 len2:Nat} {L L2 L':List PV} {c c2:fB} (hk:get s.bx k=some (.box (.ar 1 n L))) (za:get s.bx k2=some (.box (.ar 1 n2 L2))) (h1:off+len≤n) (h2:off2+len2≤n2)
  (h2':((L2.drop off2).take len2).length=len2) (hL:L.take off++((L2.drop off2).take len2).take (min len2 len)++L.drop (off+min len2 len)=L') (h:K ({s with bx:=put s.bx k (.box (.ar 1 n L'))}.put d (.int .i64 (min len2 len:Nat)))):Yn s d 1 (.rs k [] off len 0 1 c) K (.rs k2 [] off2 len2 0 1 c2):=by
 rw[adx,Un,za];refine⟨⟨rfl,rfl,h2⟩,.inr rfl,?_⟩;rw[JU,hk];show bF (bT (PV.ar 1 n L) [] (PV.ar 1 n _)) _;rw[show∀X,bT (PV.ar 1 n L) [] (PV.ar 1 n X)=some (PV.ar 1 n X) from λX=>if_pos rfl];refine⟨⟨rfl,rfl,rfl,h1⟩,?_⟩;rw[h2',hL];exact h
def tG (b:List UInt8) (i:Nat):UInt32:=UInt32.ofNat (te ((b.drop (4*i)).take 4) 4)
def uG (h:Nat->UInt32):Nat->UInt32:=λi=>if i<8 then h i else Ls (i-8)
def Gt (h:Nat->UInt32) (t:Nat):Nat->UInt32:=oD (oD (uG h) 12 (uG h 12^^^UInt32.ofNat t)) 13 (uG h 13^^^UInt32.ofNat (t/4294967296))
def Eh (h:Nat->UInt32) (t:Nat) (last:Bool):Nat->UInt32:=if last=true then oD (Gt h t) 14 (~~~Gt h t 14)else Gt h t
def qV (m:Nat->UInt32) (s:Nat->Nat) (v:Nat->UInt32):Nat->(Nat->UInt32)
 |0=>v
 |i+1=>Dy (qV m s v i) i (4+i) (8+i) (12+i) (m (s (2*i))) (m (s (2*i+1)))
def wH (m:Nat->UInt32) (s:Nat->Nat) (v:Nat->UInt32):Nat->(Nat->UInt32)
 |0=>v
 |i+1=>Dy (wH m s v i) i (4+(i+1)%4) (8+(i+2)%4) (12+(i+3)%4) (m (s (8+2*i))) (m (s (9+2*i)))
def uF (m:Nat->UInt32) (v:Nat->UInt32):Nat->(Nat->UInt32)
 |0=>v
 |r+1=>wH m (sg r) (qV m (sg r) (uF m v r) 4) 4
def vn (h:Nat->UInt32) (m:Nat->UInt32) (t:Nat) (last:Bool):Nat->UInt32:=λi=>h i^^^(uF m (Eh h t last) 10 i^^^uF m (Eh h t last) 10 (i+8))
theorem yU (n:Nat):IntKind.u32.wrap (n:Int)=nU (UInt32.ofNat n):=by
 rw[IntKind.wrap_u32',nU,JpV];omega
theorem ady (x:UInt32):bits .xor .u32 4294967295 (nU x)=nU (~~~x):=by
 have h:(4294967295:Int)=nU (~~~(0:UInt32)):=by decide
 have e: ~~~(0:UInt32)^^^x= ~~~x:=UInt32.toBitVec_inj.1 (by simp);rw[h,nq,e]
theorem ai.mix [eJ] {s:St} {dst:Option Nat} {K:St->Prop} {tg:Tg K} {k:Nat} {v:Nat->UInt32} {a b c d:Nat} (ha:a<16) (hb:b<16) (hc:c<16) (hd:d<16) {x y:UInt32} (hk:get s.bx k=some (.box (.ar 1 16 (uW 16 v))))
  (h:K ({s with bx:=put s.bx k (.box (.ar 1 16 (uW 16 (Dy v a b c d x y))))}.put dst (.tup []))):ai Pg s dst 360 [.pt k [.i a 1] 0,.pt k [.i b 1] 0,.pt k [.i c 1] 0,.pt k [.i d 1] 0,.int .u32 (nU x),.int .u32 (nU y)] K tg:=by
 refine ai.gen [k] [] [.box (.ar 1 16 (uW 16 v))] (oa v ha hb hc hd x y) (by simp[getAll,hk]) (by simp) (by simp) (by simp[ah,af,bR,idx]) (by simp[ab,af]) (by simp[aR,aE,bz,idx]) (by simp[az,aE]) (by simp[ab,af,ah]) ?_;simpa[aI,az,aE,aR,(GG 16 _).aE]using h
theorem zU (n:Nat):zr n (PV.int IntKind.u32 0)=uW n λ_=>0:=by rw[cg];exact JjW λi=>by by_cases h:i<n<;>simp[uW,nU,h]
theorem dP (h:Nat->UInt32) {b:List UInt8} (hb:b.length=64) {t:Nat} (ht:t<9223372036854775808) (last:Bool):
  aK Pg 327 [.ar 1 8 (uW 8 h),aP b,.int .u64 t,.bl last] (.ar 1 8 (uW 8 (vn h (tG b) t last))):=by
 refine ae.intro T.dP (by simp[F.dP]) ?_;simp[F.dP,aj,av,aP,zU];refine eW.fD 16 (λ_=>True) [1,2,3,4,8,9,18] (λi=>[(18,.int .i64 i)]) (λi=>[(9,.box (.ar 1 16 (uW 16 λj=>if j<i then tG b j else 0)))]) [.keep [1,2,3,4,8,9,18]] ?_;simp;refine⟨λi hi K hK=> ?_,λK=> ?_⟩
 ·have hs:uW 16 (oD (λj=>if j<i then tG b j else 0) i (tG b i))=uW 16 λj=>if j<i+1 then tG b j else 0:=lU λj hj=>by
   simp only[oD];by_cases h:j=i
   ·rw[if_pos h,if_pos (by omega),h]
   ·rw[if_neg h];by_cases h':j<i
    ·rw[if_pos h',if_pos (by omega)]
    ·rw[if_neg h',if_neg (by omega)]
  have hl:((b.drop (4*i)).take 4).length=4:=by rw[lJ,JbV];omega
  have c:=dC (l:=(b.drop (4*i)).take 4) (by omega);rw[hl]at c;have kY:(i:Int)<16:=by omega
  have w1:IntKind.i64.wrap ((i:Int)+1)=i+1:=wrap_i64 (by omega);have w2:IntKind.i64.wrap (4*(i:Int))=((4*i:Nat):Int):=by rw[wrap_i64 (by omega)];omega
  have w3:IntKind.i64.wrap (((4*i:Nat):Int)+4)=((4*i+4:Nat):Int):=by rw[wrap_i64 (by omega)];omega
  have hT:=dA (n:=16) (λj=>if j<i then tG b j else 0) hi;simp only[JtV,if_false]at hT;rw[←hs,←ky]at hK;have hwm:tG b i=UInt32.ofNat (te ((b.drop (4*i)).take 4) 4):=rfl;rw[hwm,←yU]at hK;clear hs hwm;have l64:((4*i+4:Nat):Int)≤64:=by omega
  have e:List.drop (4*i) (List.take (4*i+4) (b.map u8))=((b.drop (4*i)).take 4).map u8:=by
   rw[JsQ,JfQ,JjV,JqJ]
  simp[↓al,kY,hb,w2,w3,l64,-getElem?_pos,-Int.natCast_mul,-Int.natCast_add];rw[e];refine ai.ret c (by simp[aP]) (by simp) (by simp) ?_;simp[kY,hT,w1,-getElem?_pos];refine⟨[.keep [1,2,3,4,8,9,18]],?_⟩;simp;exact hK _ (by simp)
 ·have hm:uW 16 (λj=>if j<16 then tG b j else 0)=uW 16 (tG b):=lU λj hj=>by rw[if_pos hj]
  rw[hm];have At:uW 8 (λi=>h i^^^(uF (tG b) (Eh h t last) 10 i^^^uF (tG b) (Eh h t last) 10 (i+8)))=uW 8 (vn h (tG b) t last):=rfl;generalize uW 8 (vn h (tG b) t last)=R at*;clear hm;simp[↓al];refine ai.rA iz ?_;simp;have u1:uW 16 (oD (uG h) 12 (uG h 12^^^UInt32.ofNat t))=uW 16 (oD (uG h) 12 (uG h 12^^^UInt32.ofNat t)):=rfl;refine ZY (k:=11) (k2:=4) (L':=uW 16 λi=>if i<8 then h i else 0) rfl rfl (by decide) (by decide) (by simp) ?_ ?_
  ·rfl
  simp;refine ZY (k:=11) (k2:=12) (L':=uW 16 (uG h)) rfl rfl (by decide) (by decide) (by simp) ?_ ?_
  ·rfl
  have g12:=dA (n:=16) (uG h) (i:=12) (by decide);have g13:=dA (n:=16) (oD (uG h) 12 (uG h 12^^^UInt32.ofNat t)) (i:=13) (by decide);rw[show oD (uG h) 12 (uG h 12^^^UInt32.ofNat t) 13=uG h 13 from rfl]at g13;have s1:oD (oD (uG h) 12 (uG h 12^^^UInt32.ofNat t)) 13 (uG h 13^^^UInt32.ofNat (t/4294967296))=Gt h t:=rfl;have g14:=dA (n:=16) (Gt h t) (i:=14) (by decide)
  have sh:(t:Int).fdiv 4294967296=((t/4294967296:Nat):Int):=by
   rw[show(4294967296:Int)=((4294967296:Nat):Int) from rfl,JgZ _ (JkV _),←JlV]
  simp[g12,g13,sh,yU,nq,ky,s1,show IntKind.u64.bits=64 from rfl,-getElem?_pos,-Int.natCast_ediv];have e1:oD (Gt h t) 14 (~~~Gt h t 14)=Eh h t true:=rfl;have e2:Gt h t=Eh h t false:=rfl;have hp:∀r k,r<10->k<16->(WB r)[k]? =some (.int .i64 (sg r k)):=λr k _ hk=>adp _ hk;have hgm:∀r k,r<10->k<16->(uW 16 (tG b))[sg r k]? =some (.int .u32 (nU (tG b (sg r k)))):=λr k hr hk=>dA _ (Dz r hr k hk);refine⟨λhl=> ?_,λhl=> ?_⟩
  ·subst hl;simp[g14,ady,ky,e1,show IntKind.u32.max=4294967295 from rfl,show IntKind.u32.signed=false from rfl,-getElem?_pos];refine ai.rA fw ?_;generalize Eh h t true=v at*;generalize tG b=m at*;simp;refine eW.fD 10 (λ_=>True) [4,8,9,11,58,59] (λr=>[(59,.int .i64 r)]) (λr=>[(11,.box (.ar 1 16 (uW 16 (uF m v r))))]) [.keep [4,8,9,11,58,59]] ?_;simp[show uF m v 0=v from rfl];refine⟨λr hr K hK=> ?_,λK=> ?_⟩
   ·have hr':(r:Int)<10:=by omega
    have w1:IntKind.i64.wrap ((r:Int)+1)=r+1:=wrap_i64 (by omega);have qT:uF m v (r+1)=wH m (sg r) (qV m (sg r) (uF m v r) 4) 4:=rfl;rw[qT]at hK;have uO:=hp r;have Oq:=hgm r;have dq:=Dz r hr;generalize uF m v r=v at*;have hpg:=Fb hr;simp[↓al,hr',hpg,-getElem?_pos];refine eW.fD 4 (λ_=>True) [4,8,9,11,14,58,59,62] (λi=>[(62,.int .i64 i)]) (λi=>[(11,.box (.ar 1 16 (uW 16 (qV m (sg r) v i))))]) [.keep [4,8,9,11,14,58,59,62]] ?_;simp[show qV m (sg r) v 0=v from rfl];refine⟨λi hi K2 sr=> ?_,λK2=> ?_⟩
    ·have kY:(i:Int)<4:=by omega
     have Bv:qV m (sg r) v (i+1)=Dy (qV m (sg r) v i) i (4+i) (8+i) (12+i) (m (sg r (2*i))) (m (sg r (2*i+1))):=rfl;rw[Bv]at sr;clear Bv;generalize qV m (sg r) v i=u at*;have q1:=uO (2*i) hr (by omega);have q2:=uO (2*i+1) hr (by omega);have q3:=Oq (2*i) hr (by omega);have q4:=Oq (2*i+1) hr (by omega);have t1:=dq (2*i) (by omega);have t2:=dq (2*i+1) (by omega);have w0:IntKind.i64.wrap ((i:Int)+1)=i+1:=wrap_i64 (by omega);have w1:IntKind.i64.wrap (4+(i:Int))=((4+i:Nat):Int):=by rw[wrap_i64 (by omega)];omega
     have w2:IntKind.i64.wrap (8+(i:Int))=((8+i:Nat):Int):=by rw[wrap_i64 (by omega)];omega
     have w3:IntKind.i64.wrap (12+(i:Int))=((12+i:Nat):Int):=by rw[wrap_i64 (by omega)];omega
     have w4:IntKind.i64.wrap (2*(i:Int))=((2*i:Nat):Int):=by rw[wrap_i64 (by omega)];omega
     have w5:IntKind.i64.wrap (((2*i:Nat):Int)+1)=((2*i+1:Nat):Int):=by rw[wrap_i64 (by omega)];omega
     have l0:i<16:=by omega
     have l1:4+i<16:=by omega
     have l2:8+i<16:=by omega
     have l3:12+i<16:=by omega
     have l4:2*i<16:=by omega
     have l5:2*i+1<16:=by omega
     clear uO Oq dq hp hgm;generalize 2*i+1=i5 at*;generalize 2*i=i4 at*;generalize 12+i=i3 at*;generalize 8+i=i2 at*;generalize 4+i=i1 at*;generalize sg r i4=j4 at*;generalize sg r i5=j5 at*;have k0:(i:Int)<16:=by omega
     have k1:(i1:Int)<16:=by omega
     have k2:(i2:Int)<16:=by omega
     have k3:(i3:Int)<16:=by omega
     have k4:(i4:Int)<16:=by omega
     have k5:(i5:Int)<16:=by omega
     have k6:(j4:Int)<16:=by omega
     have k7:(j5:Int)<16:=by omega
     simp[↓al,kY,q1,q2,q3,q4,w1,w2,w3,w4,w5,k0,k1,k2,k3,k4,k5,k6,k7,-getElem?_pos];refine ai.mix l0 l1 l2 l3 rfl ?_;simp[w0];refine⟨[.keep [4,8,9,11,14,58,59,62]],?_⟩;simp;exact sr _ (by simp)
    ·have Xr:qV m (sg r) v 4=qV m (sg r) v 4:=rfl;generalize qV m (sg r) v 4=v at*;simp[↓al];refine eW.fD 4 (λ_=>True) [4,8,9,11,14,58,59,91] (λi=>[(91,.int .i64 i)]) (λi=>[(11,.box (.ar 1 16 (uW 16 (wH m (sg r) v i))))]) [.keep [4,8,9,11,14,58,59,91]] ?_;simp[show wH m (sg r) v 0=v from rfl];refine⟨λi hi K2 sr=> ?_,λK2=> ?_⟩
     ·have kY:(i:Int)<4:=by omega
      have Bv:wH m (sg r) v (i+1)=Dy (wH m (sg r) v i) i (4+(i+1)%4) (8+(i+2)%4) (12+(i+3)%4) (m (sg r (8+2*i))) (m (sg r (9+2*i))):=rfl;rw[Bv]at sr;clear Bv;generalize wH m (sg r) v i=u at*;have q1:=uO (8+2*i) hr (by omega);have q2:=uO (9+2*i) hr (by omega);have q3:=Oq (8+2*i) hr (by omega);have q4:=Oq (9+2*i) hr (by omega);have t1:=dq (8+2*i) (by omega);have t2:=dq (9+2*i) (by omega);have w0:IntKind.i64.wrap ((i:Int)+1)=i+1:=wrap_i64 (by omega);have w1:IntKind.i64.wrap ((i:Int)+2)=((i+2:Nat):Int):=by rw[wrap_i64 (by omega)];omega
      have w2:IntKind.i64.wrap ((i:Int)+3)=((i+3:Nat):Int):=by rw[wrap_i64 (by omega)];omega
      have m0:((i:Int)+1).tmod 4=(((i+1)%4:Nat):Int):=rfl;have m1:((i+2:Nat):Int).tmod 4=(((i+2)%4:Nat):Int):=rfl;have m2:((i+3:Nat):Int).tmod 4=(((i+3)%4:Nat):Int):=rfl;have m3:(i+1)%4<4:=JdZ _ (by decide);have m4:(i+2)%4<4:=JdZ _ (by decide);have m5:(i+3)%4<4:=JdZ _ (by decide);have w3:IntKind.i64.wrap (2*(i:Int))=((2*i:Nat):Int):=by rw[wrap_i64 (by omega)];omega
      generalize (i+1)%4=d1 at*;generalize (i+2)%4=d2 at*;generalize (i+3)%4=d3 at*;generalize i+2=f2 at*;generalize i+3=f3 at*;have w4:IntKind.i64.wrap (4+(d1:Int))=((4+d1:Nat):Int):=by rw[wrap_i64 (by omega)];omega
      have w5:IntKind.i64.wrap (8+(d2:Int))=((8+d2:Nat):Int):=by rw[wrap_i64 (by omega)];omega
      have w6:IntKind.i64.wrap (12+(d3:Int))=((12+d3:Nat):Int):=by rw[wrap_i64 (by omega)];omega
      have w7:IntKind.i64.wrap (8+((2*i:Nat):Int))=((8+2*i:Nat):Int):=by rw[wrap_i64 (by omega)];omega
      have w8:IntKind.i64.wrap (9+((2*i:Nat):Int))=((9+2*i:Nat):Int):=by rw[wrap_i64 (by omega)];omega
      have wd1:IntKind.i64.wrap (d1:Int)=d1:=wrap_i64 (by omega);have wd2:IntKind.i64.wrap (d2:Int)=d2:=wrap_i64 (by omega);have wd3:IntKind.i64.wrap (d3:Int)=d3:=wrap_i64 (by omega);have l0:i<16:=by omega
      have l1:4+d1<16:=by omega
      have l2:8+d2<16:=by omega
      have l3:12+d3<16:=by omega
      have l4:8+2*i<16:=by omega
      have l5:9+2*i<16:=by omega
      clear uO Oq dq hp hgm;generalize 8+2*i=i4 at*;generalize 9+2*i=i5 at*;generalize 2*i=i6 at*;generalize 12+d3=i3 at*;generalize 8+d2=i2 at*;generalize 4+d1=i1 at*;generalize sg r i4=j4 at*;generalize sg r i5=j5 at*;have k0:(i:Int)<16:=by omega
      have k1:(i1:Int)<16:=by omega
      have k2:(i2:Int)<16:=by omega
      have k3:(i3:Int)<16:=by omega
      have k4:(i4:Int)<16:=by omega
      have k5:(i5:Int)<16:=by omega
      have k6:(j4:Int)<16:=by omega
      have k7:(j5:Int)<16:=by omega
      simp[↓al,kY,q1,q2,q3,q4,w0,w1,w2,w3,w4,w5,w6,w7,w8,m0,m1,m2,k0,k1,k2,k3,k4,k5,k6,k7,-getElem?_pos];refine ai.mix l0 l1 l2 l3 rfl ?_;simp[w0];refine⟨[.keep [4,8,9,11,14,58,59,91]],?_⟩;simp;exact sr _ (by simp)
     ·simp[↓al,w1];refine⟨[.keep [4,8,9,11,58,59],.dr 14],?_⟩;simp;exact hK _ (by simp)
   ·generalize uF m v 10=w at*;simp[↓al];refine eW.fD 8 (λ_=>True) [4,8,11,128] (λi=>[(128,.int .i64 i)]) (λi=>[(4,.box (.ar 1 8 (uW 8 λj=>if j<i then h j^^^(w j^^^w (j+8))else h j)))]) [.keep [4,8,11,128]] ?_;simp;refine⟨λi hi K hK=> ?_,λK=> ?_⟩
    ·have hs:uW 8 (oD (λj=>if j<i then h j^^^(w j^^^w (j+8))else h j) i (h i^^^(w i^^^w (i+8))))=uW 8 λj=>if j<i+1 then h j^^^(w j^^^w (j+8))else h j:=lU λj hj=>by
      simp only[oD];by_cases e:j=i
      ·rw[if_pos e,if_pos (by omega),e]
      ·rw[if_neg e];by_cases e':j<i
       ·rw[if_pos e',if_pos (by omega)]
       ·rw[if_neg e',if_neg (by omega)]
     rw[←hs]at hK;have a1:=dA (n:=8) (λj=>if j<i then h j^^^(w j^^^w (j+8))else h j) hi;simp only[JtV,if_false]at a1;have a2:=dA (n:=16) w (i:=i) (by omega);have a3:=dA (n:=16) w (i:=i+8) (by omega);have kY:(i:Int)<8:=by omega
     have As:(i:Int)<16:=by omega
     have hi3:i<16:=by omega
     have w1:IntKind.i64.wrap ((i:Int)+1)=i+1:=wrap_i64 (by omega);have w2:IntKind.i64.wrap ((i:Int)+8)=((i+8:Nat):Int):=by rw[wrap_i64 (by omega)];omega
     rw[←ky]at hK;clear hs;have l1:i+8<16:=by omega
     have l2:((i+8:Nat):Int)<16:=by omega
     generalize uW 8 (λj=>if j<i then h j^^^(w j^^^w (j+8))else h j)=T at*;generalize i+8=i8 at*;simp[↓al,kY,As,w1,w2,a1,a2,a3,l2,nq,-getElem?_pos];refine⟨[.keep [4,8,11,128]],?_⟩;simp;exact hK _ (by simp)
    ·have he:uW 8 (λj=>if j<8 then h j^^^(w j^^^w (j+8))else h j)=R:=by
      rw[←At];exact lU λj hj=>by rw[if_pos hj]
     rw[he];have hRp:an R:=by rw[←At];exact GG _ _
     have hRw:fI R=R:=by rw[←At];exact ZX _ _
     simp[↓al];refine aA.plain [.keep [8],.dr 4,.dr 11] ?_;simp[hRp.refs,af];exact hRp
  ·have hl:last=false:=by simpa using hl
   subst hl;simp[e2,-getElem?_pos];refine ai.rA fw ?_;generalize Eh h t false=v at*;generalize tG b=m at*;simp;refine eW.fD 10 (λ_=>True) [4,8,9,11,58,59] (λr=>[(59,.int .i64 r)]) (λr=>[(11,.box (.ar 1 16 (uW 16 (uF m v r))))]) [.keep [4,8,9,11,58,59]] ?_;simp[show uF m v 0=v from rfl];refine⟨λr hr K hK=> ?_,λK=> ?_⟩
   ·have hr':(r:Int)<10:=by omega
    have w1:IntKind.i64.wrap ((r:Int)+1)=r+1:=wrap_i64 (by omega);have qT:uF m v (r+1)=wH m (sg r) (qV m (sg r) (uF m v r) 4) 4:=rfl;rw[qT]at hK;have uO:=hp r;have Oq:=hgm r;have dq:=Dz r hr;generalize uF m v r=v at*;have hpg:=Fb hr;simp[↓al,hr',hpg,-getElem?_pos];refine eW.fD 4 (λ_=>True) [4,8,9,11,14,58,59,62] (λi=>[(62,.int .i64 i)]) (λi=>[(11,.box (.ar 1 16 (uW 16 (qV m (sg r) v i))))]) [.keep [4,8,9,11,14,58,59,62]] ?_;simp[show qV m (sg r) v 0=v from rfl];refine⟨λi hi K2 sr=> ?_,λK2=> ?_⟩
    ·have kY:(i:Int)<4:=by omega
     have Bv:qV m (sg r) v (i+1)=Dy (qV m (sg r) v i) i (4+i) (8+i) (12+i) (m (sg r (2*i))) (m (sg r (2*i+1))):=rfl;rw[Bv]at sr;clear Bv;generalize qV m (sg r) v i=u at*;have q1:=uO (2*i) hr (by omega);have q2:=uO (2*i+1) hr (by omega);have q3:=Oq (2*i) hr (by omega);have q4:=Oq (2*i+1) hr (by omega);have t1:=dq (2*i) (by omega);have t2:=dq (2*i+1) (by omega);have w0:IntKind.i64.wrap ((i:Int)+1)=i+1:=wrap_i64 (by omega);have w1:IntKind.i64.wrap (4+(i:Int))=((4+i:Nat):Int):=by rw[wrap_i64 (by omega)];omega
     have w2:IntKind.i64.wrap (8+(i:Int))=((8+i:Nat):Int):=by rw[wrap_i64 (by omega)];omega
     have w3:IntKind.i64.wrap (12+(i:Int))=((12+i:Nat):Int):=by rw[wrap_i64 (by omega)];omega
     have w4:IntKind.i64.wrap (2*(i:Int))=((2*i:Nat):Int):=by rw[wrap_i64 (by omega)];omega
     have w5:IntKind.i64.wrap (((2*i:Nat):Int)+1)=((2*i+1:Nat):Int):=by rw[wrap_i64 (by omega)];omega
     have l0:i<16:=by omega
     have l1:4+i<16:=by omega
     have l2:8+i<16:=by omega
     have l3:12+i<16:=by omega
     have l4:2*i<16:=by omega
     have l5:2*i+1<16:=by omega
     clear uO Oq dq hp hgm;generalize 2*i+1=i5 at*;generalize 2*i=i4 at*;generalize 12+i=i3 at*;generalize 8+i=i2 at*;generalize 4+i=i1 at*;generalize sg r i4=j4 at*;generalize sg r i5=j5 at*;have k0:(i:Int)<16:=by omega
     have k1:(i1:Int)<16:=by omega
     have k2:(i2:Int)<16:=by omega
     have k3:(i3:Int)<16:=by omega
     have k4:(i4:Int)<16:=by omega
     have k5:(i5:Int)<16:=by omega
     have k6:(j4:Int)<16:=by omega
     have k7:(j5:Int)<16:=by omega
     simp[↓al,kY,q1,q2,q3,q4,w1,w2,w3,w4,w5,k0,k1,k2,k3,k4,k5,k6,k7,-getElem?_pos];refine ai.mix l0 l1 l2 l3 rfl ?_;simp[w0];refine⟨[.keep [4,8,9,11,14,58,59,62]],?_⟩;simp;exact sr _ (by simp)
    ·have Xr:qV m (sg r) v 4=qV m (sg r) v 4:=rfl;generalize qV m (sg r) v 4=v at*;simp[↓al];refine eW.fD 4 (λ_=>True) [4,8,9,11,14,58,59,91] (λi=>[(91,.int .i64 i)]) (λi=>[(11,.box (.ar 1 16 (uW 16 (wH m (sg r) v i))))]) [.keep [4,8,9,11,14,58,59,91]] ?_;simp[show wH m (sg r) v 0=v from rfl];refine⟨λi hi K2 sr=> ?_,λK2=> ?_⟩
     ·have kY:(i:Int)<4:=by omega
      have Bv:wH m (sg r) v (i+1)=Dy (wH m (sg r) v i) i (4+(i+1)%4) (8+(i+2)%4) (12+(i+3)%4) (m (sg r (8+2*i))) (m (sg r (9+2*i))):=rfl;rw[Bv]at sr;clear Bv;generalize wH m (sg r) v i=u at*;have q1:=uO (8+2*i) hr (by omega);have q2:=uO (9+2*i) hr (by omega);have q3:=Oq (8+2*i) hr (by omega);have q4:=Oq (9+2*i) hr (by omega);have t1:=dq (8+2*i) (by omega);have t2:=dq (9+2*i) (by omega);have w0:IntKind.i64.wrap ((i:Int)+1)=i+1:=wrap_i64 (by omega);have w1:IntKind.i64.wrap ((i:Int)+2)=((i+2:Nat):Int):=by rw[wrap_i64 (by omega)];omega
      have w2:IntKind.i64.wrap ((i:Int)+3)=((i+3:Nat):Int):=by rw[wrap_i64 (by omega)];omega
      have m0:((i:Int)+1).tmod 4=(((i+1)%4:Nat):Int):=rfl;have m1:((i+2:Nat):Int).tmod 4=(((i+2)%4:Nat):Int):=rfl;have m2:((i+3:Nat):Int).tmod 4=(((i+3)%4:Nat):Int):=rfl;have m3:(i+1)%4<4:=JdZ _ (by decide);have m4:(i+2)%4<4:=JdZ _ (by decide);have m5:(i+3)%4<4:=JdZ _ (by decide);have w3:IntKind.i64.wrap (2*(i:Int))=((2*i:Nat):Int):=by rw[wrap_i64 (by omega)];omega
      generalize (i+1)%4=d1 at*;generalize (i+2)%4=d2 at*;generalize (i+3)%4=d3 at*;generalize i+2=f2 at*;generalize i+3=f3 at*;have w4:IntKind.i64.wrap (4+(d1:Int))=((4+d1:Nat):Int):=by rw[wrap_i64 (by omega)];omega
      have w5:IntKind.i64.wrap (8+(d2:Int))=((8+d2:Nat):Int):=by rw[wrap_i64 (by omega)];omega
      have w6:IntKind.i64.wrap (12+(d3:Int))=((12+d3:Nat):Int):=by rw[wrap_i64 (by omega)];omega
      have w7:IntKind.i64.wrap (8+((2*i:Nat):Int))=((8+2*i:Nat):Int):=by rw[wrap_i64 (by omega)];omega
      have w8:IntKind.i64.wrap (9+((2*i:Nat):Int))=((9+2*i:Nat):Int):=by rw[wrap_i64 (by omega)];omega
      have wd1:IntKind.i64.wrap (d1:Int)=d1:=wrap_i64 (by omega);have wd2:IntKind.i64.wrap (d2:Int)=d2:=wrap_i64 (by omega);have wd3:IntKind.i64.wrap (d3:Int)=d3:=wrap_i64 (by omega);have l0:i<16:=by omega
      have l1:4+d1<16:=by omega
      have l2:8+d2<16:=by omega
      have l3:12+d3<16:=by omega
      have l4:8+2*i<16:=by omega
      have l5:9+2*i<16:=by omega
      clear uO Oq dq hp hgm;generalize 8+2*i=i4 at*;generalize 9+2*i=i5 at*;generalize 2*i=i6 at*;generalize 12+d3=i3 at*;generalize 8+d2=i2 at*;generalize 4+d1=i1 at*;generalize sg r i4=j4 at*;generalize sg r i5=j5 at*;have k0:(i:Int)<16:=by omega
      have k1:(i1:Int)<16:=by omega
      have k2:(i2:Int)<16:=by omega
      have k3:(i3:Int)<16:=by omega
      have k4:(i4:Int)<16:=by omega
      have k5:(i5:Int)<16:=by omega
      have k6:(j4:Int)<16:=by omega
      have k7:(j5:Int)<16:=by omega
      simp[↓al,kY,q1,q2,q3,q4,w0,w1,w2,w3,w4,w5,w6,w7,w8,m0,m1,m2,k0,k1,k2,k3,k4,k5,k6,k7,-getElem?_pos];refine ai.mix l0 l1 l2 l3 rfl ?_;simp[w0];refine⟨[.keep [4,8,9,11,14,58,59,91]],?_⟩;simp;exact sr _ (by simp)
     ·simp[↓al,w1];refine⟨[.keep [4,8,9,11,58,59],.dr 14],?_⟩;simp;exact hK _ (by simp)
   ·generalize uF m v 10=w at*;simp[↓al];refine eW.fD 8 (λ_=>True) [4,8,11,128] (λi=>[(128,.int .i64 i)]) (λi=>[(4,.box (.ar 1 8 (uW 8 λj=>if j<i then h j^^^(w j^^^w (j+8))else h j)))]) [.keep [4,8,11,128]] ?_;simp;refine⟨λi hi K hK=> ?_,λK=> ?_⟩
    ·have hs:uW 8 (oD (λj=>if j<i then h j^^^(w j^^^w (j+8))else h j) i (h i^^^(w i^^^w (i+8))))=uW 8 λj=>if j<i+1 then h j^^^(w j^^^w (j+8))else h j:=lU λj hj=>by
      simp only[oD];by_cases e:j=i
      ·rw[if_pos e,if_pos (by omega),e]
      ·rw[if_neg e];by_cases e':j<i
       ·rw[if_pos e',if_pos (by omega)]
       ·rw[if_neg e',if_neg (by omega)]
     rw[←hs]at hK;have a1:=dA (n:=8) (λj=>if j<i then h j^^^(w j^^^w (j+8))else h j) hi;simp only[JtV,if_false]at a1;have a2:=dA (n:=16) w (i:=i) (by omega);have a3:=dA (n:=16) w (i:=i+8) (by omega);have kY:(i:Int)<8:=by omega
     have As:(i:Int)<16:=by omega
     have hi3:i<16:=by omega
     have w1:IntKind.i64.wrap ((i:Int)+1)=i+1:=wrap_i64 (by omega);have w2:IntKind.i64.wrap ((i:Int)+8)=((i+8:Nat):Int):=by rw[wrap_i64 (by omega)];omega
     rw[←ky]at hK;clear hs;have l1:i+8<16:=by omega
     have l2:((i+8:Nat):Int)<16:=by omega
     generalize uW 8 (λj=>if j<i then h j^^^(w j^^^w (j+8))else h j)=T at*;generalize i+8=i8 at*;simp[↓al,kY,As,w1,w2,a1,a2,a3,l2,nq,-getElem?_pos];refine⟨[.keep [4,8,11,128]],?_⟩;simp;exact hK _ (by simp)
    ·have he:uW 8 (λj=>if j<8 then h j^^^(w j^^^w (j+8))else h j)=R:=by
      rw[←At];exact lU λj hj=>by rw[if_pos hj]
     rw[he];have hRp:an R:=by rw[←At];exact GG _ _
     have hRw:fI R=R:=by rw[←At];exact ZX _ _
     simp[↓al];refine aA.plain [.keep [8],.dr 4,.dr 11] ?_;simp[hRp.refs,af];exact hRp
def tH (d:List UInt8) (i:Nat):List UInt8:=(d.drop (64*i)).take 64++List.replicate (64-((d.drop (64*i)).take 64).length) 0
theorem vo (d:List UInt8) (i:Nat):(tH d i).length=64:=by
 simp only[tH,JaJ,JcW,lJ];omega
def qQ (d:List UInt8):Nat:=(d.length-1)/64
def Ip (d:List UInt8):Nat->(Nat->UInt32)
 |0=>oD Ls 0 (Ls 0^^^16842784)
 |i+1=>vn (Ip d i) (tG (tH d i)) (if i=qQ d then d.length else 64*(i+1)) (decide (i=qQ d))
def xH (h:Nat->UInt32):Nat->List UInt8
 |0=>[]
 |i+1=>xH h i++cD (h i).toNat 4
theorem ou (h:Nat->UInt32):∀i,(xH h i).length=4*i
 |0=>rfl
 |i+1=>by rw[xH,JaJ,ou h i,db];omega
def iV (d:List UInt8):Key:=⟨xH (Ip d (qQ d+1)) 8,ou _ 8⟩
theorem kS {α:Type} {g:α->PV} (h:∀x,lP (g x)=true):∀l:List α,eM (l.map g)=true
 |[]=>rfl
 |x::l=>by simp only[JdX,eM,h x,kS h l,Bool.and_self]
theorem BO (n m:Nat) (f:Nat->UInt32):fL (.ar 1 n (uW m f))=true:=C2 (by
 show eM (uW m f)=true;exact kS (λ_=>rfl) _)
theorem dB (k:Key):fL (aG k)=true:=C2 (by
 show eM (k.l.map u8)=true;exact kS (λ_=>rfl) _)
theorem yI [eJ] {f:FuncId} {s:St} {dst:Option Nat} {K:St->Prop} {tg:Tg K} {k off aO:Nat} {c:fB} {A:List UInt8} {x y z v:PV} (hA:∀b:List UInt8,b=(A.drop off).take 64->aK Pg f [x,aP b,y,z] v)
  (hx:Pure x) (hy:Pure y) (hz:Pure z) (wx:wk x=x) (wy:wk y=y) (wz:wk z=z) (hv:Pure v) (nL:fL v=true) (hk:get s.bx k=some (.arr 1 (A.map u8))) (ht:aO=A.length) (ho:off+64≤A.length)
  (h:K ({s with bx:=put s.bx k (.arr 1 (A.map u8))}.put dst v)):ai Pg s dst f [x,.rs k [] off 64 aO 1 c,y,z] K tg:=by
 have hp:an (A.map u8):=aF (λ_=>by simp[u8]) _;have su:an (((A.drop off).take 64).map u8):=aF (λ_=>by simp[u8]) _;subst ht;refine ai.view [k] [] [.arr 1 (A.map u8)] (bC:=[x,.rs KB [] off 64 A.length 1 c,y,z]) (args0:=[x,.sl 1 (((A.drop off).take 64).map u8) false,y,z]) (b6:=[.arr 1 (A.map u8)]) (hA _ rfl) (by simp[getAll,hk]) (by simp) (by simp) (by simp[ah,af,bR,idx,hx.refs,hy.refs,hz.refs]) (by simp[ab]) (by simp[aR,aE,bz,idx,hx.aE,hy.aE,hz.aE,wx,wy,wz]) (by simp[az]) ?_ ?_ ?_
 ·refine⟨.inl (.inl ⟨rfl,hx.refs _⟩),.inl (.inr ⟨KB,[],off,64,A.length,1,c,((A.drop off).take 64).map u8,rfl,?_,su.refs _,by omega,rfl⟩),.inl (.inl ⟨rfl,hy.refs _⟩),.inl (.inl ⟨rfl,hz.refs _⟩),trivial⟩;simp[av,ho,JfQ,JjV]
 ·rintro r new ⟨rfl,rfl⟩;exact⟨⟨nL,by simp⟩,rfl⟩
 ·rintro r new ⟨rfl,rfl⟩;simp[hv.aE,hv.refs,ab,az,aI];exact h
theorem yH (d:List UInt8) (i:Nat):(tH d i).map u8=((d.drop (64*i)).take 64).map u8++(List.replicate 64 (PV.int .u8 0)).drop ((d.drop (64*i)).take 64).length:=by
 rw[tH,JeV,JnV,List.drop_replicate];rfl
def Dp (d:List UInt8) (i:Nat):List UInt8:=d.drop (64*i)
theorem Zq (d:List UInt8):Dp d 0=d:=rfl
theorem mC {d:List UInt8} (h1:1≤d.length) (h2:d.length≤1073741824) (c:Bool) (sz:Nat):
  aK Pg 254 [.int .i64 32,.sl sz [] c,aP d] (.tup [.sl 1 ((iV d).l.map u8) true,.int .i64 0]):=by
 refine ae.intro (aC R.mC.2) (by simp[R.mC]) ?_;have g0:=dA (n:=8) Ls (i:=0) (by decide);have x0:bits .xor .u32 16842752 0=16842752:=by decide+kernel
 have x1:bits .xor .u32 16842752 32=nU 16842784:=by decide+kernel
 have w0:IntKind.u32.wrap 32=32:=by decide+kernel
 have hh:oD Ls 0 (Ls 0^^^16842784)=Ip d 0:=rfl;simp[R.mC,aj,av,show((32:Int)<1)=False by simp];refine ai.rA iz ?_;simp[g0,x0,x1,w0,nq,ky,hh,show IntKind.u32.bits=32 from rfl,-getElem?_pos];refine eW.fD (qQ d) (λ_=>True) [0,8,9,10] (λi=>[(9,.sl 1 ((Dp d i).map u8) false),(10,.int .i64 ((64*i:Nat):Int))]) (λi=>[(8,.box (.ar 1 8 (uW 8 (Ip d i))))]) [.keep [0,8,9,10]] ?_;simp[aP,Zq];have hnb:qQ d=(d.length-1)/64:=rfl;refine⟨λi hi K hK=> ?_,λK=> ?_⟩
 ·have qT:Ip d (i+1)=vn (Ip d i) (tG (tH d i)) (64*(i+1)) false:=by
   rw[Ip,if_neg (by omega),decide_eq_false (by omega)]
  have KS:=yH d i;have ue:=vo d i;have D4:(Dp d i).drop 64=Dp d (i+1):=by rw[Dp,Dp,JiW];rfl
  have hTl:(Dp d i).length=d.length-64*i:=JbV;rw[qT]at hK;rw[←D4]at hK;clear qT D4;have hcm:=λ(b:List UInt8) (hb:b.length=64)=>dP (Ip d i) (b:=b) hb (t:=64*(i+1)) (by omega) false;generalize tH d i=B at*;generalize Ip d i=H at*;rw[show d.drop (64*i)=Dp d i from rfl]at KS;generalize hTe:Dp d i=T at*;have wN:min (T.length:Int) 64=64:=by omega
  have DZ:min 64 T.length=64:=by omega
  have Su:(64:Int)≤T.length:=by omega
  have hT0:¬T.length-64=0:=by omega
  have w1:IntKind.i64.wrap (64*(i:Int)+64)=((64*(i+1):Nat):Int):=by rw[wrap_i64 (by omega)];omega
  have w2:IntKind.u64.wrap ((64*(i+1):Nat):Int)=((64*(i+1):Nat):Int):=vp (by omega);have w3:64*((i:Int)+1)=((64*(i+1):Nat):Int):=by omega
  rw[lJ,DZ]at KS;generalize 64*(i+1)=q1 at*;simp[↓al,wN,DZ,Su,hT0,w1,w2,-List.reduceReplicate];refine yI (A:=B) (v:= .ar 1 8 (uW 8 (vn H (tG B) q1 false))) (λb hb=> ?_) (by simp) (by simp) (by simp) (by simp) (by simp) (by simp) (by simp) (BO _ _ _) (by simp[KS,JsX]) (by omega) (by omega) ?_
  ·have hbB:b=B:=by rw[hb,JpQ,←ue,JcJ]
   subst hbB;exact hcm b ue
  simp[hT0];refine⟨[.keep [0,8,9,10],.dr 55],?_⟩;simp;exact hK _ (by simp[w3])
 ·have qT:Ip d (qQ d+1)=vn (Ip d (qQ d)) (tG (tH d (qQ d))) d.length true:=by
   rw[Ip,if_pos rfl,decide_eq_true rfl]
  have KS:=yH d (qQ d);have ue:=vo d (qQ d);have hTl:(Dp d (qQ d)).length=d.length-64*qQ d:=JbV;have qR:(iV d).l=xH (vn (Ip d (qQ d)) (tG (tH d (qQ d))) d.length true) 8:=by rw[←qT];rfl
  have hcm:=λ(b:List UInt8) (hb:b.length=64)=>dP (Ip d (qQ d)) (b:=b) hb (t:=d.length) (by omega) true;rw[qR];clear qT qR;rw[show d.drop (64*qQ d)=Dp d (qQ d) from rfl]at KS;generalize hTe:Dp d (qQ d)=T at*;generalize tH d (qQ d)=B at*;generalize Ip d (qQ d)=H at*;have aeC:T.length≤64:=by omega
  have wN:min (T.length:Int) 64=T.length:=by omega
  have DZ:min 64 T.length=T.length:=by omega
  have KT:min T.length 64=T.length:=by omega
  have Su:(T.length:Int)≤64:=by omega
  have w1:IntKind.i64.wrap (64*(qQ d:Int)+T.length)=d.length:=by rw[wrap_i64 (by omega)];omega
  have w2:IntKind.u64.wrap (d.length:Int)=d.length:=vp (by omega);have htt:T.take 64=T:=tJ aeC;have hdl:(T.map u8).drop T.length=[]:=JgX (by simp);have lW:(T.map u8).take T.length=T.map u8:=tJ (by simp);rw[htt]at KS;generalize qQ d=n at*;generalize av5:d.length=L at*;have Hd:(List.replicate 64 (PV.int .u8 0)).length=64:=JcW;generalize hRz:List.replicate 64 (PV.int .u8 0)=Z at*;simp[↓al,wN,KT,w1,w2,hdl,lW,hRz,Hd,-List.reduceReplicate,-List.length_replicate];refine yI (A:=B) (v:= .ar 1 8 (uW 8 (vn H (tG B) L true))) (λb hb=> ?_) (by simp) (by simp) (by simp) (by simp) (by simp) (by simp) (by simp) (BO _ _ _) (by simp[KS]) (by omega) (by omega) ?_
  ·have hbB:b=B:=by rw[hb,JpQ,←ue,JcJ]
   subst hbB;exact hcm b ue
  generalize vn H (tG B) L true=G;simp;simp[↓al];refine eW.fD 8 (λ_=>True) [0,13,78,79] (λi=>[(13,.rs 13 [] 0 (4*i) (4*i) 1 .tip),(79,.int .i64 i)]) (λi=>[(13,.arr 1 (mB (xH G i)))]) [.keep [0,13,78,79],.vt 13 13 1] ?_;simp[show mB (xH G 0)=[] from rfl];refine⟨λi hi K hK=> ?_,λK=> ?_⟩
  ·have hg:=dA (n:=8) G hi;have kY:(i:Int)<8:=by omega
   have hc:=cB (n:=(G i).toNat) (k:=4) (by decide) (by decide);have Si:=db (G i).toNat 4;have XF:=ou G i;have hs:xH G (i+1)=xH G i++cD (G i).toNat 4:=rfl;have w3:IntKind.u64.wrap (nU (G i))=((G i).toNat:Int):=vp (by have:=(G i).toNat_lt;omega);have w4:IntKind.i64.wrap ((i:Int)+1)=i+1:=wrap_i64 (by omega);rw[hs]at hK;clear hs;generalize cD (G i).toNat 4=N at*;generalize xH G i=O at*;have wY:(mB O).length=4*i:=by rw[mB,JaX,XF]
   have hmn:(mB N).length=4:=by rw[mB,JaX,Si]
   have XG:mB (O++N)=mB O++mB N:=JeV;rw[XG]at hK;clear XG;have Vy:aP N= .sl 1 (mB N) false:=rfl;rw[Vy]at hc;have hmp:an (mB N):=aF (λ_=>by simp[u8]) _;have hN0:mB N≠[]:=by intro e;rw[e]at hmn;simp at hmn
   generalize mB O=mO at*;generalize mB N=mN at*;simp[↓al,kY,hg,w3,-getElem?_pos];refine ai.ret hc (by simp) (by simp) (by simp[hmp]) ?_;simp[wY,hmn,hN0,w4];refine⟨⟨by omega,by omega⟩,[.keep [0,13,78,79]],?_⟩;simp;exact hK _ (by simp[show 4*(i+1)=4*i+4 by omega])
  ·have XF:=ou G 8;generalize xH G 8=O at*;have wY:(mB O).length=32:=by rw[mB,JaX,XF]
   have hp:an (mB O):=aF (λ_=>by simp[u8]) O;have he:O.map u8=mB O:=rfl;have lW:(mB O).take 32=mB O:=by rw[←wY,JcJ]
   rw[he];generalize mB O=mO at*;simp[↓al,wY];refine aA.plain [.fz 13] ?_;simp[hp.refs,wY,lW];exact hp
theorem BV {ps:List (List UInt8)} {i:Nat} (h:i<ps.length):(ps.take (i+1)).flatten=(ps.take i).flatten++ps[i]:=by
 rw[JcZ h,List.flatten_append];simp
theorem ZZ {ps:List (List UInt8)} (i:Nat):((ps.take i).flatten).length≤ps.flatten.length:=by
 have e:ps.flatten=(ps.take i).flatten++(ps.drop i).flatten:=by rw[←List.flatten_append,JcQ]
 rw[e,JaJ];omega
theorem ft (ps:List (List UInt8)) (h:ps.flatten.length≤1099511627776) (hn:ps.length≤1099511627776):aK Pg 165 [.sl 1 (ps.map aP) false] (aP ps.flatten):=by
 refine ae.intro (aC R.ft.2) (by simp[R.ft]) ?_;simp[R.ft,aj,av];refine eW.fD ps.length (λ_=>True) [3,6,7,8] (λi=>[(3,.rs 3 [] 0 (ps.take i).flatten.length (ps.take i).flatten.length 1 .tip),(8,.int .i64 i)]) (λi=>[(3,.arr 1 (mB (ps.take i).flatten))]) [.keep [3,6,7,8],.vt 3 3 1] ?_;simp[show mB []=[] from rfl,-List.length_flatten];refine⟨λi hi K hK=> ?_,λK=> ?_⟩
 ·have B9:IntKind.i64.wrap ((i:Int)+1)=(i:Int)+1:=wrap_i64 (by omega);have Bc:=ZZ (ps:=ps) (i+1);rw[BV hi,JaJ]at Bc;rw[BV hi]at hK;have hx:ps[i]? =some ps[i]:=gJ hi;generalize ps[i]=p at*;generalize (ps.take i).flatten=A at*;have hl3:A.length+p.length≤ps.flatten.length:=Bc;have XG:mB (A++p)=mB A++mB p:=JeV;have wY:(mB A).length=A.length:=JaX _;have hmp:(mB p).length=p.length:=JaX _;have aeQ:aP p= .sl 1 (mB p) false:=rfl;rw[XG,JaJ]at hK;generalize mB A=mA at*;generalize mB p=mP at*;have kY:(i:Int)<ps.length:=by omega
  simp[↓al,kY,B9,hx,aeQ,wY,hmp,-getElem?_pos];refine⟨⟨by omega,by omega⟩,[.keep [3,6,7,8]],?_⟩;simp;exact hK _ (by simp)
 ·simp[↓al,-List.length_flatten];have wY:(mB ps.flatten).length=ps.flatten.length:=JaX _;have hp:an (mB ps.flatten):=aF (λ_=>by simp[u8]) _;have he:aP ps.flatten= .sl 1 (mB ps.flatten) false:=rfl;have lW:(mB ps.flatten).take ps.flatten.length=mB ps.flatten:=by rw[←wY,JcJ]
  rw[he];generalize mB ps.flatten=L at*;refine aA.plain [.fz 3] ?_;simp[hp.refs,wY,lW,-List.length_flatten];exact hp
theorem gE {ps:List (List UInt8)} (hn:ps.length≤1024) (h1:1≤ps.flatten.length) (h2:ps.flatten.length≤1073741824):aK Pg 164 [.sl 1 (ps.map aP) false] (aG (iV ps.flatten)):=by
 refine ae.intro (aC R.gE.2) (by simp[R.gE]) ?_;have hl:=(iV ps.flatten).h;have c1:=ft ps (by omega) (by omega);have c2:=mC h1 h2 false 0;generalize iV ps.flatten=k at*;generalize ps.flatten=d at*;have hk:aG k= .ar 1 32 (k.l.map u8):=rfl;have hp:an (k.l.map u8):=aF (λ_=>by simp[u8]) _;rw[hk];have qR:(k.l.map u8).length=32:=by rw[JaX,hl]
 generalize k.l.map u8=L at*;simp[R.gE,aj,av];refine ai.rA c1 ?_;simp;refine ai.ret c2 (by simp) (by simp) (by simp[hp]) ?_;have lW:L.take 32=L:=by rw[←qR,JcJ]
 simp[qR,lW];refine aA.plain [.keep [2]] ?_;simp;exact hp
end Go.Ab

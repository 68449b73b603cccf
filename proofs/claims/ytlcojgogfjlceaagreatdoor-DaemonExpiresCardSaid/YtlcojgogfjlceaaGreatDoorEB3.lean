/- Functions of the program and of the document, as the abstract reading walks them, part 3. No condition. -/
import Derived.Test.YtlcojgogfjlceaaGreatDoorEB2
set_option maxRecDepth 10000
set_option maxHeartbeats 4000000
set_option linter.all false
noncomputable section
namespace Go.Ab
def Wc (a b:Nat->Int):Nat->Int:=λj=>a j+b j
def Wd (a b:Nat->Int):Nat->Int:=λj=>a j-b j
theorem Gz {a b:Nat->Int} (ha:zX a 65573) (hb:zX b 65573):zX (Wc a b) 262144:=λi hi=>by
 have:=ha i hi;have:=hb i hi;simp only[Wc];omega
theorem GA {a b:Nat->Int} (ha:zX a 65573) (hb:zX b 65573):zX (Wd a b) 262144:=λi hi=>by
 have:=ha i hi;have:=hb i hi;simp only[Wd];omega
theorem zX.mono {a:Nat->Int} {b c:Int} (h:zX a b) (hc:b≤c):zX a c:=λi hi=>by have:=h i hi;omega
theorem oj {a b:Nat->Int} (ha:zX a 262144) (hb:zX b 262144):zX (qO a b) 65573:=(Wb ha hb).le
theorem W2:(65573:Int)≤262144:=by decide
def Ed (a:Nat->Int):Nat->(Nat->Int)
 |0=>a
 |i+1=>if i=251∨i=249 then qO (Ed a i) (Ed a i)else qO (qO (Ed a i) (Ed a i)) a
structure IA where
 x2:Nat->Int
 z2:Nat->Int
 x3:Nat->Int
 z3:Nat->Int
structure IA.Ok (L:IA):Prop where
 A7:zX L.x2 65573
 hz2:zX L.z2 65573
 hx3:zX L.x3 65573
 hz3:zX L.z3 65573
theorem atW:zr 16 (PV.int IntKind.i64 0)=[.int .i64 0,.int .i64 0,.int .i64 0,.int .i64 0,.int .i64 0,.int .i64 0,.int .i64 0,.int .i64 0,.int .i64 0,.int .i64 0,.int .i64 0,.int .i64 0,.int .i64 0,.int .i64 0,.int .i64 0,.int .i64 0]:=by rw[cm];rfl
def cW:Nat->Int:=λj=>if j=0 then 56129 else if j=1 then 1 else 0
theorem aml:zX cW 65573:=λi _=>by simp only[cW];split;omega;split<;>omega
def IA.st (L:IA) (x1:Nat->Int):IA:=
 let a:=Wc L.x2 L.z2
 let b:=Wd L.x2 L.z2
 let aa:=qO a a
 let bb:=qO b b
 let e:=Wd aa bb
 let da:=qO (Wd L.x3 L.z3) a
 let cb:=qO (Wc L.x3 L.z3) b
 let s:=Wc da cb
 let t:=Wd da cb
 ⟨qO aa bb,qO e (Wc aa (qO cW e)),qO s s,qO x1 (qO t t)⟩
theorem IA.Ok.st {L:IA} (h:L.Ok) {x1:Nat->Int} (h1:zX x1 65573):(L.st x1).Ok:=by
 obtain⟨a2,b2,a3,b3⟩:=h;have ha:=Gz a2 b2;have hb:=GA a2 b2;have GY:=oj ha ha;have Fk:=oj hb hb;have he:=GA GY Fk;have KV:=oj (GA a3 b3) ha;have Ml:=oj (Gz a3 b3) hb;have hs:=Gz KV Ml;have ht:=GA KV Ml;exact⟨oj (GY.mono W2) (Fk.mono W2),oj he (Gz GY (oj (aml.mono W2) he)),oj hs hs,oj (h1.mono W2) ((oj ht ht).mono W2)⟩
def iY:Key:=⟨9::List.replicate 31 0,rfl⟩
theorem atX:zr 32 (PV.int IntKind.u8 0)=[.int .u8 0,.int .u8 0,.int .u8 0,.int .u8 0,.int .u8 0,.int .u8 0,.int .u8 0,.int .u8 0,.int .u8 0,.int .u8 0,.int .u8 0,.int .u8 0,.int .u8 0,.int .u8 0,.int .u8 0,.int .u8 0,.int .u8 0,.int .u8 0,.int .u8 0,.int .u8 0,.int .u8 0,.int .u8 0,.int .u8 0,.int .u8 0,.int .u8 0,.int .u8 0,.int .u8 0,.int .u8 0,.int .u8 0,.int .u8 0,.int .u8 0,.int .u8 0]:=by rw[cm];rfl
theorem We:PV.ar 1 32 [.int .u8 9,.int .u8 0,.int .u8 0,.int .u8 0,.int .u8 0,.int .u8 0,.int .u8 0,.int .u8 0,.int .u8 0,.int .u8 0,.int .u8 0,.int .u8 0,.int .u8 0,.int .u8 0,.int .u8 0,.int .u8 0,.int .u8 0,.int .u8 0,.int .u8 0,.int .u8 0,.int .u8 0,.int .u8 0,.int .u8 0,.int .u8 0,.int .u8 0,.int .u8 0,.int .u8 0,.int .u8 0,.int .u8 0,.int .u8 0,.int .u8 0,.int .u8 0]=aG iY:=rfl
theorem jl (k:Key):aL Pg 83 [aG k] (aG (kN k iY)):=by
 refine ae.intro (aC R.jl.2) (by simp[R.jl]) ?_;simp[R.jl,aj,av,atX,We];refine ai.rA (my k iY) ?_;simp;refine aA.plain [.keep [2],.dr 1] ?_;simp
def Bi:Int:=57896044618658097711785492504343953926634992332820282019728792003956564819949
def vF (a:Fe):Int:=a.a0+a.a1*2251799813685248+a.a2*5070602400912917605986812821504+a.a3*11417981541647679048466287755595961091061972992+a.a4*25711008708143844408671393477458601640355247900524685364822016
theorem Qu (a b:Fe):vF (qM a b)=vF a+vF b:=by
 simp only[vF,qM];omega
theorem QX (a:Fe):vF a=vF (sG a)+((a.a4/2251799813685248:Nat):Int)*Bi:=by
 simp only[vF,sG,Bi];omega
theorem Qw {a b:Fe} (hb:b.Le 4503599627370458):vF (pB a b)=vF a-vF b+2*Bi:=by
 obtain⟨h0,h1,h2,h3,h4⟩:=hb;simp only[vF,pB,Bi];omega
theorem ac7 (s0 s1 s2 s3 s4:Nat):vF (Gu [s0,s1,s2,s3,s4])=s0+s1*2251799813685248+s2*5070602400912917605986812821504+s3*11417981541647679048466287755595961091061972992+s4*25711008708143844408671393477458601640355247900524685364822016-((s4/2251799813685248:Nat):Int)*Bi:=by
 simp only[vF,Gu,Bi,List.getD_cons_zero,List.getD_cons_succ];omega
theorem J9 (a b:Fe):∃k:Int,vF (fV a b)=vF a*vF b+k*Bi:=by
 have h1:=QX (Gu (wm a b 5));rw[show sG (Gu (wm a b 5))=fV a b from rfl,QS,ac7]at h1;obtain⟨a0,a1,a2,a3,a4⟩:=a;obtain⟨b0,b1,b2,b3,b4⟩:=b;dsimp only at h1;generalize vF (fV ⟨a0,a1,a2,a3,a4⟩ ⟨b0,b1,b2,b3,b4⟩)=v at*;simp only[vF];generalize (Gu _).a4/2251799813685248=q1 at*;generalize (0+a0*b4+a1*b3+a2*b2+a3*b1+a4*b0)/2251799813685248=q2 at*;simp only[Int.natCast_add,JrJ,Int.cast_ofNat_Int]at h1;refine⟨-(q1:Int)-q2-((a1:Int)*b4+a2*b3+a3*b2+a4*b1)-((a2:Int)*b4+a3*b3+a4*b2)*2251799813685248-((a3:Int)*b4+a4*b3)*5070602400912917605986812821504-(a4:Int)*b4*11417981541647679048466287755595961091061972992,?_⟩;rw[show v=(a0:Int)*b0+19*a1*b4+19*a2*b3+19*a3*b2+19*a4*b1+((a0:Int)*b1+a1*b0+19*a2*b4+19*a3*b3+19*a4*b2)*2251799813685248+((a0:Int)*b2+a1*b1+a2*b0+19*a3*b4+19*a4*b3)*5070602400912917605986812821504+((a0:Int)*b3+a1*b2+a2*b1+a3*b0+19*a4*b4)*11417981541647679048466287755595961091061972992+((a0:Int)*b4+a1*b3+a2*b2+a3*b1+a4*b0)*25711008708143844408671393477458601640355247900524685364822016-q2*Bi-q1*Bi by omega,show Bi=2251799813685248*25711008708143844408671393477458601640355247900524685364822016-19 by decide];clear h1;grind
def fc (f:Nat->Int):Nat->Int
 |0=>0
 |n+1=>fc f n+f n*65536^n
def vW (f:Nat->Int):Int:=fc f 16
theorem IB (a b:Nat->Int):∀n,fc (Wc a b) n=fc a n+fc b n
 |0=>rfl
 |n+1=>by have:=IB a b n;simp only[fc,this,Wc];grind
theorem IC (a b:Nat->Int):∀n,fc (Wd a b) n=fc a n-fc b n
 |0=>rfl
 |n+1=>by have:=IC a b n;simp only[fc,this,Wd];grind
theorem ID (f:Nat->Int) (k:Nat) (d:Int):∀n,fc (upW f k (f k+d)) n=fc f n+if k<n then d*65536^k else 0
 |0=>by simp[fc]
 |
  n+1=>by
  have h:=ID f k d n
  simp only[fc,h,upW]
  by_cases e:n=k
  ·subst e
   rw[if_neg (JtW _),if_pos rfl,if_pos (by omega)]
   grind
  ·rw[if_neg e]
   by_cases h1:k<n
   ·rw[if_pos h1,if_pos (by omega)]
    omega
   ·rw[if_neg h1,if_neg (by omega)]
    omega
theorem Wf (t:Nat->Int) (x:Int) (b:Nat->Int) (i j:Nat):tC t x b i (j+1)=upW (tC t x b i j) (i+j) (tC t x b i j (i+j)+x*b j):=by
 funext k;simp only[tC,upW];by_cases h:k=i+j
 ·subst h;rw[if_pos (by omega),if_pos rfl,if_neg (by omega),show i+j-i=j by omega]
 ·rw[if_neg h];by_cases h1:i≤k∧k<i+j
  ·rw[if_pos (by omega),if_pos h1]
  ·rw[if_neg (by omega),if_neg h1]
theorem LM (t:Nat->Int) (x:Int) (b:Nat->Int) (i:Nat):∀j,i+j≤31->fc (tC t x b i j) 31=fc t 31+x*65536^i*fc b j
 |
  0,_=>by
  have:tC t x b i 0=t:=by funext k;simp only[tC];rw[if_neg (by omega)]
  rw[this];simp[fc]
 |
  j+1,h=>by
  rw[Wf,ID,if_pos (by omega),LM t x b i j (by omega),Int.pow_add]
  simp only[fc]
  generalize (65536:Int)^i=p
  generalize (65536:Int)^j=q
  grind
theorem LN (a b:Nat->Int):∀i,i≤16->fc (tR a b i) 31=fc a i*vW b
 |0,_=>by simp only[fc];rw[Int.zero_mul];rfl
 |
  i+1,h=>by
  have e:tR a b (i+1)=tC (tR a b i) (a i) b i 16:=rfl
  rw[e,LM _ _ _ _ _ (by omega),LN a b i (by omega),vW]
  simp only[show fc a (i+1)=fc a i+a i*65536^i from rfl]
  grind
theorem Dw (t:Nat->Int) (m:Nat):∀n,fc t (m+n)=fc t m+65536^m*fc (λk=>t (k+m)) n
 |0=>by simp[fc]
 |
  n+1=>by
  have h:=Dw t m n
  rw[show m+(n+1)=m+n+1 from rfl]
  simp only[fc,h,Int.pow_add]
  rw[Nat.add_comm n m]
  generalize (65536:Int)^m=p
  generalize (65536:Int)^n=q
  grind
theorem LO (a b:Nat->Int):∀n,n≤15->fc (tO a b) n=fc (tR a b 16) n+38*fc (λk=>tR a b 16 (k+16)) n
 |0,_=>by simp[fc]
 |
  n+1,h=>by
  have ih:=LO a b n (by omega)
  simp only[fc,ih,tO]
  rw[if_pos (by omega)]
  grind
theorem amm (a b:Nat->Int):vW (tO a b)=vW a*vW b-2*fc (λk=>tR a b 16 (k+16)) 15*Bi:=by
 have h1:=LO a b 15 (by decide);have h2:=LN a b 16 (by decide);have h3:=Dw (tR a b 16) 16 15;have h4:vW (tO a b)=fc (tO a b) 15+tO a b 15*65536^15:=rfl;have h5:fc (tR a b 16) 16=fc (tR a b 16) 15+tR a b 16 15*65536^15:=rfl;have h6:tO a b 15=tR a b 16 15:=rfl;rw[show(16+15:Nat)=31 from rfl,h2,h5]at h3;rw[h4,h1,h6,show Bi=2^255-19 by decide];change vW a*vW b=_ at h3;rw[h3];generalize fc (λk=>tR a b 16 (k+16)) 15=s;grind
theorem IE (f:Nat->Int):∀n,fc f (n+1)=fc (λj=>cX f j%65536) (n+1)+(cX f n/65536)*65536^(n+1)
 |0=>by simp only[fc,cX];omega
 |
  n+1=>by
  have h:=IE f n
  have e:cX f (n+1)=f (n+1)+cX f n/65536:=rfl
  have e2:=Int.mul_ediv_add_emod (cX f (n+1)) 65536
  rw[fc,h,show fc (λj=>cX f j%65536) (n+1+1)=fc (λj=>cX f j%65536) (n+1)+cX f (n+1)%65536*65536^(n+1) from rfl,Int.pow_succ _ (n+1)]
  generalize (65536:Int)^(n+1)=p at*
  generalize cX f (n+1)%65536=r at*
  generalize cX f (n+1)/65536=q at*
  generalize cX f n/65536=q' at*
  generalize cX f (n+1)=c at*
  generalize f (n+1)=x at*
  generalize fc (λj=>cX f j%65536) (n+1)=s at*
  rw[show x=65536*q+r-q' by omega]
  grind
theorem QY (f g:Nat->Int) (h:∀i,i≠0->f i=g i):∀n,fc f (n+1)=fc g (n+1)+(f 0-g 0)
 |0=>by simp only[fc];omega
 |
  n+1=>by
  have:=QY f g h n
  rw[fc,this,fc,fc,h (n+1) (by omega),fc]
  omega
theorem QZ (f:Nat->Int):vW f=vW (rT f)+2*(cX f 15/65536)*Bi:=by
 have h1:=IE f 15;have h2:=QY (rT f) (λj=>cX f j%65536) (λi hi=>by simp only[rT];rw[if_neg hi]) 15
 have e0:rT f 0-cX f 0%65536=38*(cX f 15/65536):=by
  have:rT f 0=f 0%65536+38*(cX f 15/65536):=rfl;rw[this,show cX f 0=f 0 from rfl];omega
 rw[e0]at h2;change vW f=_ at h1;change vW (rT f)=_ at h2;rw[h1,h2,show Bi=2^255-19 by decide];change _=(fc (λj=>cX f j%65536) (15+1)+_)+_;generalize fc (λj=>cX f j%65536) (15+1)=s;generalize cX f 15/65536=c;grind
theorem ac8 (a b:Nat->Int):∃k:Int,vW (qO a b)=vW a*vW b+k*Bi:=by
 have h1:=amm a b;have h2:=QZ (tO a b);have h3:=QZ (rT (tO a b));unfold qO;refine⟨-2*fc (λk=>tR a b 16 (k+16)) 15-2*(cX (tO a b) 15/65536)-2*(cX (rT (tO a b)) 15/65536),?_⟩;grind
def Rl (a:Fe) (f:Nat->Int):Prop:=vF a%Bi=vW f%Bi
theorem Rl.mul {a b:Fe} {f g:Nat->Int} (h1:Rl a f) (h2:Rl b g):Rl (fV a b) (qO f g):=by
 obtain⟨k,hk⟩:=J9 a b;obtain⟨l,hl⟩:=ac8 f g;unfold Rl at*;rw[hk,hl,JjZ,JjZ,Int.mul_emod,h1,h2,←Int.mul_emod]
theorem Rl.add {a b:Fe} {f g:Nat->Int} (h1:Rl a f) (h2:Rl b g):Rl (qM a b) (Wc f g):=by
 unfold Rl at*;rw[Qu,vW,IB];change _=(vW f+vW g)%Bi;rw[Int.add_emod,h1,h2,←Int.add_emod]
theorem Rl.sub {a b:Fe} {f g:Nat->Int} (h1:Rl a f) (h2:Rl b g) (hb:b.Le PB):Rl (pB a b) (Wd f g):=by
 unfold Rl at*;rw[Qw (hb.mono (by decide)),vW,IC,JjZ];change _=(vW f-vW g)%Bi;rw[Int.sub_emod,h1,h2,←Int.sub_emod]
theorem Rl.inv {a:Fe} {f:Nat->Int} (h:Rl a f):∀i,Rl (mI a (i+1)) (Ed f i)
 |
  0=>by
  have e:mI a 1=fV (fV xk xk) a:=rfl
  obtain⟨k,hk⟩:=J9 (fV xk xk) a
  have e1:vF (fV xk xk)=1:=by decide
  unfold Rl at*
  rw[e,hk,e1,Int.one_mul,JjZ,h]
  rfl
 |
  i+1=>by
  have ih:=Rl.inv h i
  have e1:mI a (i+1+1)=if i+1=252∨i+1=250 then fV (mI a (i+1)) (mI a (i+1))else fV (fV (mI a (i+1)) (mI a (i+1))) a:=rfl
  have e2:Ed f (i+1)=if i=251∨i=249 then qO (Ed f i) (Ed f i)else qO (qO (Ed f i) (Ed f i)) f:=rfl
  rw[e1,e2]
  by_cases hi:i=251∨i=249
  ·rw[if_pos hi,if_pos (by omega)]
   exact ih.mul ih
  ·rw[if_neg hi,if_neg (by omega)]
   exact(ih.mul ih).mul h
structure RlL (L:Lad) (M:IA):Prop where
 x2:Rl L.x2 M.x2
 z2:Rl L.z2 M.z2
 x3:Rl L.x3 M.x3
 z3:Rl L.z3 M.z3
theorem BM (A B:List UInt8):∀m,sP (A++B) (A.length+m)=sP A A.length+256^A.length*sP B m
 |
  0=>by
  have:∀n,n≤A.length->sP (A++B) n=sP A n:=λn=>by
   induction n with
   |zero=>intro _;rfl
   |
    succ n ih=>
    intro hn
    rw[sP,sP,ih (by omega),JaV,JaV,List.getElem?_append_left (by omega)]
  rw[JnX,this _ (JaQ _)]
  simp[sP]
 |
  m+1=>by
  have ih:=BM A B m
  have e:sP (A++B) (A.length+(m+1))=sP (A++B) (A.length+m)+((A++B).getD (A.length+m) 0).toNat*256^(A.length+m):=rfl
  have e2:(A++B).getD (A.length+m) 0=B.getD m 0:=by
   rw[JaV,JaV,List.getElem?_append_right (by omega),JqZ]
  rw[e,ih,e2,Nat.pow_add,sP]
  generalize 256^A.length=p
  generalize 256^m=q
  generalize (B.getD m 0).toNat=x
  grind
theorem LP (n K:Nat):∀k,k≤K->sP (cG n K) k=n%256^k
 |0,_=>by simp[sP,Nat.mod_one]
 |
  k+1,h=>by
  have ih:=LP n K k (by omega)
  have e:(cG n K).getD k 0=SP n k:=by
   rw[JaV,cG,List.getElem?_map,List.getElem?_range (by omega)];rfl
  have e2:(SP n k).toNat=n/256^k%256:=by rw[SP,JnW];simp
  rw[sP,ih,e,e2,Nat.pow_succ,Nat.mod_mul,Nat.mul_comm (256^k)]
theorem Wg (a:Fe):sP (NA a).l 32=SS a%18446744073709551616+18446744073709551616*(SU a%18446744073709551616)+340282366920938463463374607431768211456*(V7 a%18446744073709551616)+6277101735386680763835789423207666416102355444464034512896*(Zv a%18446744073709551616):=by
 have e:(NA a).l=cG (SS a) 8++cG (SU a) 8++cG (V7 a) 8++cG (Zv a) 8:=rfl;have h:=λn=>db n 8;have h3:=BM (cG (SS a) 8++cG (SU a) 8++cG (V7 a) 8) (cG (Zv a) 8) 8;have h2:=BM (cG (SS a) 8++cG (SU a) 8) (cG (V7 a) 8) 8;have h1:=BM (cG (SS a) 8) (cG (SU a) 8) 8;simp only[JaJ,h]at h1 h2 h3;rw[show 8+8=16 from rfl]at h1 h2 h3;rw[show 16+8=24 from rfl]at h2 h3;rw[show 24+8=32 from rfl]at h3;have p8:(256:Nat)^8=18446744073709551616:=by decide
 have l:=λn=>LP n 8 8 (by decide);rw[e,h3,h2,h1,l,l,l,l,p8,show(256:Nat)^16=340282366920938463463374607431768211456 by decide,show(256:Nat)^24=6277101735386680763835789423207666416102355444464034512896 by decide]
theorem amn {c:Fe} (hc:c.Le 2251799813685247):((sP (NA c).l 32:Nat):Int)=vF c:=by
 obtain⟨h0,h1,h2,h3,h4⟩:=hc;rw[Wg];simp only[SS,SU,V7,Zv,vF];obtain⟨a0,a1,a2,a3,a4⟩:=c;dsimp only at*;have e0:a0+a1*2251799813685248%18446744073709551616=a0+(a1%8192)*2251799813685248:=by omega
 have e1:a1/8192+a2*274877906944%18446744073709551616=a1/8192+(a2%67108864)*274877906944:=by omega
 have e2:a2/67108864+a3*33554432%18446744073709551616=a2/67108864+(a3%549755813888)*33554432:=by omega
 have e3:a3/549755813888+a4*4096%18446744073709551616=a3/549755813888+a4*4096:=by omega
 have l0:a0+(a1%8192)*2251799813685248<18446744073709551616:=by omega
 have l1:a1/8192+(a2%67108864)*274877906944<18446744073709551616:=by omega
 have l2:a2/67108864+(a3%549755813888)*33554432<18446744073709551616:=by omega
 have l3:a3/549755813888+a4*4096<18446744073709551616:=by omega
 rw[e0,e1,e2,e3,JiJ l0,JiJ l1,JiJ l2,JiJ l3];clear l0 l1 l2 l3;clear e0 e1 e2 e3;have q1:=Nat.div_add_mod a1 8192;have q2:=Nat.div_add_mod a2 67108864;have q3:=Nat.div_add_mod a3 549755813888;generalize a1/8192=u1 at*;generalize a1%8192=v1 at*;generalize a2/67108864=u2 at*;generalize a2%67108864=v2 at*;generalize a3/549755813888=u3 at*;generalize a3%549755813888=v3 at*;omega
theorem NB {a:Fe} (h:a.Le PB):(sG a).a0≤2251799813685266∧(sG a).a1≤2251799813685248∧(sG a).a2≤2251799813685248∧(sG a).a3≤2251799813685248∧(sG a).a4≤2251799813685248:=by
 obtain⟨h0,h1,h2,h3,h4⟩:=h;unfold PB at*;simp only[sG];omega
theorem amo {b:Fe} (h0:b.a0≤2251799813685266) (h1:b.a1≤2251799813685248) (h2:b.a2≤2251799813685248) (h3:b.a3≤2251799813685248) (h4:b.a4≤2251799813685248):vF (uo b)=vF b%Bi:=by
 obtain⟨a0,a1,a2,a3,a4⟩:=b;dsimp only at h0 h1 h2 h3 h4
 have hq:∃t1 t2 t3 t4 r0 r1 r2 r3 r4:Nat,a0+19=t1*2251799813685248+r0∧a1+t1=t2*2251799813685248+r1∧a2+t2=t3*2251799813685248+r2∧a3+t3=t4*2251799813685248+r3∧a4+t4=Ix ⟨a0,a1,a2,a3,a4⟩*2251799813685248+r4∧r0<2251799813685248∧r1<2251799813685248∧r2<2251799813685248∧r3<2251799813685248∧r4<2251799813685248:=by
  refine⟨(a0+19)/2251799813685248,(a1+(a0+19)/2251799813685248)/2251799813685248,(a2+(a1+(a0+19)/2251799813685248)/2251799813685248)/2251799813685248,(a3+(a2+(a1+(a0+19)/2251799813685248)/2251799813685248)/2251799813685248)/2251799813685248,(a0+19)%2251799813685248,(a1+(a0+19)/2251799813685248)%2251799813685248,(a2+(a1+(a0+19)/2251799813685248)/2251799813685248)%2251799813685248,(a3+(a2+(a1+(a0+19)/2251799813685248)/2251799813685248)/2251799813685248)%2251799813685248,(a4+(a3+(a2+(a1+(a0+19)/2251799813685248)/2251799813685248)/2251799813685248)/2251799813685248)%2251799813685248,?_⟩;simp only[Ix];omega
 have hb:∃s0 s1 s2 s3 s4:Nat,a0+19*Ix ⟨a0,a1,a2,a3,a4⟩=s0*2251799813685248+(uo ⟨a0,a1,a2,a3,a4⟩).a0∧a1+s0=s1*2251799813685248+(uo ⟨a0,a1,a2,a3,a4⟩).a1∧a2+s1=s2*2251799813685248+(uo ⟨a0,a1,a2,a3,a4⟩).a2∧a3+s2=s3*2251799813685248+(uo ⟨a0,a1,a2,a3,a4⟩).a3∧a4+s3=s4*2251799813685248+(uo ⟨a0,a1,a2,a3,a4⟩).a4∧(uo ⟨a0,a1,a2,a3,a4⟩).a0<2251799813685248∧(uo ⟨a0,a1,a2,a3,a4⟩).a1<2251799813685248∧(uo ⟨a0,a1,a2,a3,a4⟩).a2<2251799813685248∧(uo ⟨a0,a1,a2,a3,a4⟩).a3<2251799813685248∧(uo ⟨a0,a1,a2,a3,a4⟩).a4<2251799813685248:=by
  refine⟨V3 ⟨a0,a1,a2,a3,a4⟩/2251799813685248,V4 ⟨a0,a1,a2,a3,a4⟩/2251799813685248,V5 ⟨a0,a1,a2,a3,a4⟩/2251799813685248,V6 ⟨a0,a1,a2,a3,a4⟩/2251799813685248,b4F ⟨a0,a1,a2,a3,a4⟩/2251799813685248,?_⟩;have x0:V3 ⟨a0,a1,a2,a3,a4⟩=a0+19*Ix ⟨a0,a1,a2,a3,a4⟩:=rfl;have x1:V4 ⟨a0,a1,a2,a3,a4⟩=a1+V3 ⟨a0,a1,a2,a3,a4⟩/2251799813685248:=rfl;have x2:V5 ⟨a0,a1,a2,a3,a4⟩=a2+V4 ⟨a0,a1,a2,a3,a4⟩/2251799813685248:=rfl;have x3:V6 ⟨a0,a1,a2,a3,a4⟩=a3+V5 ⟨a0,a1,a2,a3,a4⟩/2251799813685248:=rfl;have x4:b4F ⟨a0,a1,a2,a3,a4⟩=a4+V6 ⟨a0,a1,a2,a3,a4⟩/2251799813685248:=rfl;simp only[uo];rw[←x0,←x1,←x2,←x3,←x4];omega
 generalize uo ⟨a0,a1,a2,a3,a4⟩=c at*;generalize Ix ⟨a0,a1,a2,a3,a4⟩=q at*;obtain⟨c0,c1,c2,c3,c4⟩:=c;dsimp only at hb;obtain⟨t1,t2,t3,t4,r0,r1,r2,r3,r4,u0,u1,u2,u3,u4,b0,b1,b2,b3,b4⟩:=hq;obtain⟨s0,s1,s2,s3,s4,v0,v1,v2,v3,v4,d0,d1,d2,d3,d4⟩:=hb;have q2:q≤1:=by omega
 have hU:(a0:Int)+a1*2251799813685248+a2*5070602400912917605986812821504+a3*11417981541647679048466287755595961091061972992+a4*25711008708143844408671393477458601640355247900524685364822016+19=q*57896044618658097711785492504343953926634992332820282019728792003956564819968+(r0+r1*2251799813685248+r2*5070602400912917605986812821504+r3*11417981541647679048466287755595961091061972992+r4*25711008708143844408671393477458601640355247900524685364822016):=by omega
 have hV:(a0:Int)+a1*2251799813685248+a2*5070602400912917605986812821504+a3*11417981541647679048466287755595961091061972992+a4*25711008708143844408671393477458601640355247900524685364822016+19*q=s4*57896044618658097711785492504343953926634992332820282019728792003956564819968+(c0+c1*2251799813685248+c2*5070602400912917605986812821504+c3*11417981541647679048466287755595961091061972992+c4*25711008708143844408671393477458601640355247900524685364822016):=by omega
 have hR:(r0:Int)+r1*2251799813685248+r2*5070602400912917605986812821504+r3*11417981541647679048466287755595961091061972992+r4*25711008708143844408671393477458601640355247900524685364822016<57896044618658097711785492504343953926634992332820282019728792003956564819968:=by omega
 have hC:(c0:Int)+c1*2251799813685248+c2*5070602400912917605986812821504+c3*11417981541647679048466287755595961091061972992+c4*25711008708143844408671393477458601640355247900524685364822016<57896044618658097711785492504343953926634992332820282019728792003956564819968:=by omega
 have hR0:0≤(r0:Int)+r1*2251799813685248+r2*5070602400912917605986812821504+r3*11417981541647679048466287755595961091061972992+r4*25711008708143844408671393477458601640355247900524685364822016:=by omega
 have hC0:0≤(c0:Int)+c1*2251799813685248+c2*5070602400912917605986812821504+c3*11417981541647679048466287755595961091061972992+c4*25711008708143844408671393477458601640355247900524685364822016:=by omega
 have hv0:0≤(a0:Int)+a1*2251799813685248+a2*5070602400912917605986812821504+a3*11417981541647679048466287755595961091061972992+a4*25711008708143844408671393477458601640355247900524685364822016:=by omega
 have xw:(a0:Int)+a1*2251799813685248+a2*5070602400912917605986812821504+a3*11417981541647679048466287755595961091061972992+a4*25711008708143844408671393477458601640355247900524685364822016<2*57896044618658097711785492504343953926634992332820282019728792003956564819949:=by omega
 simp only[vF];generalize (a0:Int)+a1*2251799813685248+a2*5070602400912917605986812821504+a3*11417981541647679048466287755595961091061972992+a4*25711008708143844408671393477458601640355247900524685364822016=v at*;generalize (c0:Int)+c1*2251799813685248+c2*5070602400912917605986812821504+c3*11417981541647679048466287755595961091061972992+c4*25711008708143844408671393477458601640355247900524685364822016=w at*;generalize (r0:Int)+r1*2251799813685248+r2*5070602400912917605986812821504+r3*11417981541647679048466287755595961091061972992+r4*25711008708143844408671393477458601640355247900524685364822016=r at*;clear u0 u1 u2 u3 u4 v0 v1 v2 v3 v4 h0 h1 h2 h3 h4 d0 d1 d2 d3 d4 b0 b1 b2 b3 b4;unfold Bi;rcases(by omega:q=0∨q=1)with rfl|rfl<;>omega
theorem Zr {a:Fe} (ha:a.Le PB):((sP (Ec a).l 32:Nat):Int)=vF a%Bi:=by
 obtain⟨t0,t1,t2,t3,t4⟩:=NB ha;have hv:=amo t0 t1 t2 t3 t4;have hc:(uo (sG a)).Le 2251799813685247:=by constructor<;>(simp only[uo];omega)
 have h:=QX a;unfold Ec;rw[amn hc,hv,h,JjZ]
def nU (x:UInt32):Int:=(x.toNat:Int)
def uW (n:Nat) (f:Nat->UInt32):List PV:=(List.range n).map λi=> .int .u32 (nU (f i))
@[simp] theorem atY (n:Nat) (f:Nat->UInt32):(uW n f).length=n:=by simp[uW]
theorem du {n:Nat} (f:Nat->UInt32) {i:Nat} (h:i<n):(uW n f)[i]? =some (.int .u32 (nU (f i))):=by simp[uW,h]
def ox (f:Nat->UInt32) (i:Nat) (x:UInt32):Nat->UInt32:=λj=>if j=i then x else f j
theorem lI {n:Nat} {f g:Nat->UInt32} (h:∀i,i<n->f i=g i):uW n f=uW n g:=by
 unfold uW;exact JqX λi hi=>by rw[h i (JiQ.1 hi)]
theorem kj (n:Nat) (f:Nat->UInt32) (i:Nat) (x:UInt32):(uW n f).set i (.int .u32 (nU x))=uW n (ox f i x):=by
 apply JkJ;intro j;by_cases hj:j<n
 ·rw[du _ hj,List.getElem?_set];by_cases h:i=j
  ·simp[h,hj,ox]
  ·rw[if_neg h,du _ hj,ox,if_neg (Ne.symm h)]
 ·rw[List.getElem?_eq_none (by simp;omega),List.getElem?_eq_none (by simp;omega)]
@[simp] theorem GB (n:Nat) (f:Nat->UInt32):au (uW n f):=aF (λ_=>by simp) _
@[simp] theorem Zy (n:Nat) (f:Nat->UInt32):fP (uW n f)=uW n f:=mY (λ_=>by simp) _
theorem rU (x y:UInt32):IntKind.u32.wrap (nU x+nU y)=nU (x+y):=by
 rw[IntKind.wrap_u32',nU,nU,nU,UInt32.toNat_add];omega
theorem nj (x y:UInt32):bits .xor .u32 (nU x) (nU y)=nU (x^^^y):=by
 rw[nU,nU,nU,u32_xor_nat _ _ x.toNat_lt y.toNat_lt,UInt32.toNat_xor]
def ro (x:UInt32) (k:Nat):UInt32:=UInt32.ofNat (x.toNat/2^k|||x.toNat*2^(32-k)%4294967296)
theorem IF (x:UInt32) (k:Nat) (s:Int) (hk:k<32) (hs:s=((2^(32-k):Nat):Int)) (r:Int) (hr:r=((2^k:Nat):Int)):bits .or .u32 ((nU x).fdiv r) (IntKind.u32.wrap (nU x*s))=nU (ro x k):=by
 have hx:=x.toNat_lt;subst hs hr
 have e1:(nU x).fdiv ((2^k:Nat):Int)=((x.toNat/2^k:Nat):Int):=by
  rw[nU,JgW _ (JlJ _),←JlV]
 have e2:IntKind.u32.wrap (nU x*((2^(32-k):Nat):Int))=((x.toNat*2^(32-k)%4294967296:Nat):Int):=by
  rw[IntKind.wrap_u32',nU,←JrJ];omega
 have l1:x.toNat/2^k<4294967296:=JfV (Nat.div_le_self _ _) hx;have l2:x.toNat*2^(32-k)%4294967296<4294967296:=JdZ _ (by decide);have l3:x.toNat/2^k|||x.toNat*2^(32-k)%4294967296<2^32:=JoW (n:=32) l1 l2;have e3:(ro x k).toNat=x.toNat/2^k|||x.toNat*2^(32-k)%4294967296:=by rw[ro,JqQ,JiJ l3]
 rw[e1,e2,u32_or_nat _ _ l1 l2,nU,e3]
theorem oG (a b:Int):bits .or .u32 a b=bits .or .u32 b a:=by simp only[bits,BitVec.or_comm]
theorem Wh {x:UInt32} {k:Nat} (hk:k=16∨k=12∨k=8∨k=7):aL Pg 383 [.int .u32 (nU x),.int .i64 (-(k:Int))] (.int .u32 (nU (ro x k))):=by
 refine ae.intro (aC R.bt.2) (by simp[R.bt]) ?_;have Om:bits .and .u64 18446744073709551600 31=16:=by decide+kernel
 have Te:bits .and .u64 18446744073709551604 31=20:=by decide+kernel
 have h8:bits .and .u64 18446744073709551608 31=24:=by decide+kernel
 have h7:bits .and .u64 18446744073709551609 31=25:=by decide+kernel
 have w16:IntKind.u64.wrap (-16)=18446744073709551600:=by decide+kernel
 have w12:IntKind.u64.wrap (-12)=18446744073709551604:=by decide+kernel
 have w8:IntKind.u64.wrap (-8)=18446744073709551608:=by decide+kernel
 have w7:IntKind.u64.wrap (-7)=18446744073709551609:=by decide+kernel
 rcases hk with rfl|rfl|rfl|rfl
 ·have h:=IF x 16 65536 (by decide) rfl 65536 rfl;rw[oG]at h;simp[R.bt,aj,av,Om,w16,show IntKind.u32.bits=32 from rfl,show IntKind.u64.wrap 16=16 from rfl,h];refine aA.plain [] ?_;simp
 ·have h:=IF x 12 1048576 (by decide) rfl 4096 rfl;rw[oG]at h;simp[R.bt,aj,av,Te,w12,show IntKind.u32.bits=32 from rfl,show IntKind.u64.wrap 12=12 from rfl,h];refine aA.plain [] ?_;simp
 ·have h:=IF x 8 16777216 (by decide) rfl 256 rfl;rw[oG]at h;simp[R.bt,aj,av,h8,w8,show IntKind.u32.bits=32 from rfl,show IntKind.u64.wrap 8=8 from rfl,h];refine aA.plain [] ?_;simp
 ·have h:=IF x 7 33554432 (by decide) rfl 128 rfl;rw[oG]at h;simp[R.bt,aj,av,h7,w7,show IntKind.u32.bits=32 from rfl,show IntKind.u64.wrap 7=7 from rfl,h];refine aA.plain [] ?_;simp
def mxA (v:Nat->UInt32) (a b:Nat) (x:UInt32):Nat->UInt32:=ox v a (v a+v b+x)
def SO (v:Nat->UInt32) (d a k:Nat):Nat->UInt32:=ox v d (ro (v d^^^v a) k)
def mxC (v:Nat->UInt32) (c d:Nat):Nat->UInt32:=ox v c (v c+v d)
def Dm (v:Nat->UInt32) (a b c d:Nat) (x y:UInt32):Nat->UInt32:=SO (mxC (SO (mxA (SO (mxC (SO (mxA v a b x) d a 16) c d) b c 12) a b y) d a 8) c d) b c 7
theorem amp (x y z:UInt32):x+(y+z)=x+y+z:=(UInt32.add_assoc _ _ _).symm
theorem nY (v:Nat->UInt32) {a b c d:Nat} (ha:a<16) (hb:b<16) (hc:c<16) (hd:d<16) (x y:UInt32):
  ae Pg 360 [.pt KB [.i a 1] 0,.pt KB [.i b 1] 0,.pt KB [.i c 1] 0,.pt KB [.i d 1] 0,.int .u32 (nU x),.int .u32 (nU y)] [.box (.ar 1 16 (uW 16 v))] (λr fp=>r= .tup []∧fp=[.box (.ar 1 16 (uW 16 (Dm v a b c d x y)))]):=by
 refine ae.intro T.nY (by simp[F.nY]) ?_;have r16:∀z,aL Pg 383 [.int .u32 (nU z),.int .i64 (-16)] (.int .u32 (nU (ro z 16))):=λz=>Wh (x:=z) (k:=16) (by simp);have r12:∀z,aL Pg 383 [.int .u32 (nU z),.int .i64 (-12)] (.int .u32 (nU (ro z 12))):=λz=>Wh (x:=z) (k:=12) (by simp);have r8:∀z,aL Pg 383 [.int .u32 (nU z),.int .i64 (-8)] (.int .u32 (nU (ro z 8))):=λz=>Wh (x:=z) (k:=8) (by simp);have r7:∀z,aL Pg 383 [.int .u32 (nU z),.int .i64 (-7)] (.int .u32 (nU (ro z 7))):=λz=>Wh (x:=z) (k:=7) (by simp);have g:=λ(f:Nat->UInt32)=>du (n:=16) f ha;have g1:=λ(f:Nat->UInt32)=>du (n:=16) f hb;have g2:=λ(f:Nat->UInt32)=>du (n:=16) f hc;have g3:=λ(f:Nat->UInt32)=>du (n:=16) f hd;have eA:∀(v:Nat->UInt32) (x:UInt32),ox v a (v a+v b+x)=mxA v a b x:=λ_ _=>rfl;have eD:∀(v:Nat->UInt32) (k:Nat),ox v d (ro (v d^^^v a) k)=SO v d a k:=λ_ _=>rfl;have eC:∀(v:Nat->UInt32),ox v c (v c+v d)=mxC v c d:=λ_=>rfl;have eB:∀(v:Nat->UInt32) (k:Nat),ox v b (ro (v b^^^v c) k)=SO v b c k:=λ_ _=>rfl;simp[F.nY,aj,av,g,g1,g3,rU,nj,amp,kj,eA,-getElem?_pos];generalize xw:mxA v a b x=v1 at*;refine aM.rA (r16 (v1 d^^^v1 a)) ?_;simp[g1,g2,g3,rU,nj,kj,eD,eC,-getElem?_pos];generalize nJ:mxC (SO v1 d a 16) c d=v2 at*;refine aM.rA (r12 (v2 b^^^v2 c)) ?_;simp[g,g1,g3,rU,nj,amp,kj,eA,eB,-getElem?_pos];generalize hv3:mxA (SO v2 b c 12) a b y=v3 at*;refine aM.rA (r8 (v3 d^^^v3 a)) ?_;simp[g1,g2,g3,rU,nj,kj,eD,eC,-getElem?_pos];generalize hv4:mxC (SO v3 d a 8) c d=v4 at*;refine aM.rA (r7 (v4 b^^^v4 c)) ?_;simp[g1,kj,eB,-getElem?_pos];refine aA.with [] [KB] ?_;simp[dh,Dm,xw,nJ,hv3,hv4,ab,af,az,aE]
def sgT:List (List Nat):=[[0,1,2,3,4,5,6,7,8,9,10,11,12,13,14,15],[14,10,4,8,9,15,13,6,1,12,0,2,11,7,5,3],[11,8,12,0,5,2,15,13,10,14,3,6,7,1,9,4],[7,9,3,1,13,12,11,14,2,6,5,10,4,0,15,8],[9,0,5,7,2,4,10,15,14,1,11,12,6,8,3,13],[2,12,6,10,0,11,8,3,4,13,7,5,15,14,1,9],[12,5,1,15,14,13,4,10,0,7,6,3,9,2,8,11],[13,11,7,14,12,1,3,9,5,0,15,4,8,6,2,10],[6,15,14,9,11,3,0,8,12,2,13,7,1,4,10,5],[10,2,8,4,7,6,1,5,15,11,9,14,3,12,13,0]]
def sg (r k:Nat):Nat:=(sgT.getD r []).getD k 0
theorem Dn:∀r,r<10->∀k,k<16->sg r k<16:=by decide
def Wi (r:Nat):List PV:=iW 16 λk=>(sg r k:Int)
@[simp] theorem ahd (r:Nat):au (Wi r):=V9 _ _
def IG:List PV:=(List.range 10).map λr=>PV.ar 1 16 (Wi r)
@[simp] theorem ac9:au IG:=aF (λr=>by simp) _
theorem E7 {r:Nat} (h:r<10):IG[r]? =some (PV.ar 1 16 (Wi r)):=by simp[IG,h]
def ivT:List UInt32:=[1779033703,3144134277,1013904242,2773480762,1359893119,2600822924,528734635,1541459225]
def Ls (i:Nat):UInt32:=ivT.getD i 0
theorem iw:aL Pg 326 [] (.ar 1 8 (uW 8 Ls)):=by
 refine ae.intro (aC R.iw.2) (by simp[R.iw]) ?_;have hz:zr 8 (PV.int IntKind.u32 0)=[.int .u32 0,.int .u32 0,.int .u32 0,.int .u32 0,.int .u32 0,.int .u32 0,.int .u32 0,.int .u32 0]:=by rw[cm];rfl
 have he:PV.ar 1 8 [.int .u32 1779033703,.int .u32 3144134277,.int .u32 1013904242,.int .u32 2773480762,.int .u32 1359893119,.int .u32 2600822924,.int .u32 528734635,.int .u32 1541459225]=PV.ar 1 8 (uW 8 Ls):=rfl;simp[R.iw,aj,av,hz,he];refine aA.plain [] ?_;simp
theorem z10 (x:PV):zr 10 x=[x,x,x,x,x,x,x,x,x,x]:=by rw[cm];rfl
theorem ada:PV.ar 16 10 [PV.ar 1 16 [.int .i64 0,.int .i64 1,.int .i64 2,.int .i64 3,.int .i64 4,.int .i64 5,.int .i64 6,.int .i64 7,.int .i64 8,.int .i64 9,.int .i64 10,.int .i64 11,.int .i64 12,.int .i64 13,.int .i64 14,.int .i64 15],PV.ar 1 16 [.int .i64 14,.int .i64 10,.int .i64 4,.int .i64 8,.int .i64 9,.int .i64 15,.int .i64 13,.int .i64 6,.int .i64 1,.int .i64 12,.int .i64 0,.int .i64 2,.int .i64 11,.int .i64 7,.int .i64 5,.int .i64 3],PV.ar 1 16 [.int .i64 11,.int .i64 8,.int .i64 12,.int .i64 0,.int .i64 5,.int .i64 2,.int .i64 15,.int .i64 13,.int .i64 10,.int .i64 14,.int .i64 3,.int .i64 6,.int .i64 7,.int .i64 1,.int .i64 9,.int .i64 4],PV.ar 1 16 [.int .i64 7,.int .i64 9,.int .i64 3,.int .i64 1,.int .i64 13,.int .i64 12,.int .i64 11,.int .i64 14,.int .i64 2,.int .i64 6,.int .i64 5,.int .i64 10,.int .i64 4,.int .i64 0,.int .i64 15,.int .i64 8],PV.ar 1 16 [.int .i64 9,.int .i64 0,.int .i64 5,.int .i64 7,.int .i64 2,.int .i64 4,.int .i64 10,.int .i64 15,.int .i64 14,.int .i64 1,.int .i64 11,.int .i64 12,.int .i64 6,.int .i64 8,.int .i64 3,.int .i64 13],PV.ar 1 16 [.int .i64 2,.int .i64 12,.int .i64 6,.int .i64 10,.int .i64 0,.int .i64 11,.int .i64 8,.int .i64 3,.int .i64 4,.int .i64 13,.int .i64 7,.int .i64 5,.int .i64 15,.int .i64 14,.int .i64 1,.int .i64 9],PV.ar 1 16 [.int .i64 12,.int .i64 5,.int .i64 1,.int .i64 15,.int .i64 14,.int .i64 13,.int .i64 4,.int .i64 10,.int .i64 0,.int .i64 7,.int .i64 6,.int .i64 3,.int .i64 9,.int .i64 2,.int .i64 8,.int .i64 11],PV.ar 1 16 [.int .i64 13,.int .i64 11,.int .i64 7,.int .i64 14,.int .i64 12,.int .i64 1,.int .i64 3,.int .i64 9,.int .i64 5,.int .i64 0,.int .i64 15,.int .i64 4,.int .i64 8,.int .i64 6,.int .i64 2,.int .i64 10],PV.ar 1 16 [.int .i64 6,.int .i64 15,.int .i64 14,.int .i64 9,.int .i64 11,.int .i64 3,.int .i64 0,.int .i64 8,.int .i64 12,.int .i64 2,.int .i64 13,.int .i64 7,.int .i64 1,.int .i64 4,.int .i64 10,.int .i64 5],PV.ar 1 16 [.int .i64 10,.int .i64 2,.int .i64 8,.int .i64 4,.int .i64 7,.int .i64 6,.int .i64 1,.int .i64 5,.int .i64 15,.int .i64 11,.int .i64 9,.int .i64 14,.int .i64 3,.int .i64 12,.int .i64 13,.int .i64 0]]=PV.ar 16 10 IG:=rfl
theorem fk:aL Pg 359 [] (.ar 16 10 IG):=by
 refine ae.intro (aC R.fk.2) (by simp[R.fk]) ?_;simp[R.fk,aj,av,atW,z10,ada];refine aA.plain [] ?_;simp
theorem adb [eE] {s:St} (d:Option Nat) (sz:Nat) (p:PV) (K:St->Prop) (k off len aN sz2:Nat) (pth:List Step) (c:ft):XX s d sz p K (.rs k pth off len aN sz2 c)=Bb s (λbN ys=>(ys=[]∨bN=sz)∧Sr s d sz ys K p) (.rs k pth off len aN sz2 c):=_root_.id rfl
theorem Zz [eE] {s:St} {d:Option Nat} {K:St->Prop} {k k2 n n2 off len off2 len2:Nat} {L L2 L':List PV} {c c2:ft} (hk:get s.bx k=some (.box (.ar 1 n L))) (yT:get s.bx k2=some (.box (.ar 1 n2 L2))) (h1:off+len≤n) (h2:off2+len2≤n2)
  (h2':((L2.drop off2).take len2).length=len2) (hL:L.take off++((L2.drop off2).take len2).take (min len2 len)++L.drop (off+min len2 len)=L') (h:K ({s with bx:=put s.bx k (.box (.ar 1 n L'))}.put d (.int .i64 (min len2 len:Nat)))):XX s d 1 (.rs k [] off len 0 1 c) K (.rs k2 [] off2 len2 0 1 c2):=by
 rw[adb,T6,yT];refine⟨⟨rfl,rfl,h2⟩,.inr rfl,?_⟩;rw[JW,hk];show bF (bO (PV.ar 1 n L) [] (PV.ar 1 n _)) _;rw[show∀X,bO (PV.ar 1 n L) [] (PV.ar 1 n X)=some (PV.ar 1 n X) from λX=>if_pos rfl];refine⟨⟨rfl,rfl,rfl,h1⟩,?_⟩;rw[h2',hL];exact h
def tf (b:List UInt8) (i:Nat):UInt32:=UInt32.ofNat (sP ((b.drop (4*i)).take 4) 4)
def uk (h:Nat->UInt32):Nat->UInt32:=λi=>if i<8 then h i else Ls (i-8)
def Gn (h:Nat->UInt32) (t:Nat):Nat->UInt32:=ox (ox (uk h) 12 (uk h 12^^^UInt32.ofNat t)) 13 (uk h 13^^^UInt32.ofNat (t/4294967296))
def Ea (h:Nat->UInt32) (t:Nat) (last:Bool):Nat->UInt32:=if last=true then ox (Gn h t) 14 (~~~Gn h t 14)else Gn h t
def qL (m:Nat->UInt32) (s:Nat->Nat) (v:Nat->UInt32):Nat->(Nat->UInt32)
 |0=>v
 |i+1=>Dm (qL m s v i) i (4+i) (8+i) (12+i) (m (s (2*i))) (m (s (2*i+1)))
def wh (m:Nat->UInt32) (s:Nat->Nat) (v:Nat->UInt32):Nat->(Nat->UInt32)
 |0=>v
 |i+1=>Dm (wh m s v i) i (4+(i+1)%4) (8+(i+2)%4) (12+(i+3)%4) (m (s (8+2*i))) (m (s (9+2*i)))
def uj (m:Nat->UInt32) (v:Nat->UInt32):Nat->(Nat->UInt32)
 |0=>v
 |r+1=>wh m (sg r) (qL m (sg r) (uj m v r) 4) 4
def uQ (h:Nat->UInt32) (m:Nat->UInt32) (t:Nat) (last:Bool):Nat->UInt32:=λi=>h i^^^(uj m (Ea h t last) 10 i^^^uj m (Ea h t last) 10 (i+8))
theorem yI (n:Nat):IntKind.u32.wrap (n:Int)=nU (UInt32.ofNat n):=by
 rw[IntKind.wrap_u32',nU,JqQ];omega
theorem ade (x:UInt32):bits .xor .u32 4294967295 (nU x)=nU (~~~x):=by
 have h:(4294967295:Int)=nU (~~~(0:UInt32)):=by decide
 have e: ~~~(0:UInt32)^^^x= ~~~x:=UInt32.toBitVec_inj.1 (by simp);rw[h,nj,e]
theorem ai.mix [eE] {s:St} {dst:Option Nat} {K:St->Prop} {tg:Tg K} {k:Nat} {v:Nat->UInt32} {a b c d:Nat} (ha:a<16) (hb:b<16) (hc:c<16) (hd:d<16) {x y:UInt32} (hk:get s.bx k=some (.box (.ar 1 16 (uW 16 v))))
  (h:K ({s with bx:=put s.bx k (.box (.ar 1 16 (uW 16 (Dm v a b c d x y))))}.put dst (.tup []))):ai Pg s dst 360 [.pt k [.i a 1] 0,.pt k [.i b 1] 0,.pt k [.i c 1] 0,.pt k [.i d 1] 0,.int .u32 (nU x),.int .u32 (nU y)] K tg:=by
 refine ai.gen [k] [] [.box (.ar 1 16 (uW 16 v))] (nY v ha hb hc hd x y) (by simp[getAll,hk]) (by simp) (by simp) (by simp[ah,af,bT,idx]) (by simp[ab,af]) (by simp[aS,aE,bz,idx]) (by simp[az,aE]) (by simp[ab,af,ah]) ?_;simpa[aI,az,aE,aS,(GB 16 _).aE]using h
theorem zU (n:Nat):zr n (PV.int IntKind.u32 0)=uW n λ_=>0:=by rw[cm];exact JkJ λi=>by by_cases h:i<n<;>simp[uW,nU,h]
theorem dJ (h:Nat->UInt32) {b:List UInt8} (hb:b.length=64) {t:Nat} (ht:t<9223372036854775808) (last:Bool):
  aL Pg 327 [.ar 1 8 (uW 8 h),aQ b,.int .u64 t,.bl last] (.ar 1 8 (uW 8 (uQ h (tf b) t last))):=by
 refine ae.intro T.dJ (by simp[F.dJ]) ?_;simp[F.dJ,aj,av,aQ,zU];refine eW.fM 16 (λ_=>True) [1,2,3,4,8,9,18] (λi=>[(18,.int .i64 i)]) (λi=>[(9,.box (.ar 1 16 (uW 16 λj=>if j<i then tf b j else 0)))]) [.keep [1,2,3,4,8,9,18]] ?_;simp;refine⟨λi hi K hK=> ?_,λK=> ?_⟩
 ·have hs:uW 16 (ox (λj=>if j<i then tf b j else 0) i (tf b i))=uW 16 λj=>if j<i+1 then tf b j else 0:=lI λj hj=>by
   simp only[ox];by_cases h:j=i
   ·rw[if_pos h,if_pos (by omega),h]
   ·rw[if_neg h];by_cases h':j<i
    ·rw[if_pos h',if_pos (by omega)]
    ·rw[if_neg h',if_neg (by omega)]
  have hl:((b.drop (4*i)).take 4).length=4:=by rw[lJ,JbV];omega
  have c:=dx (l:=(b.drop (4*i)).take 4) (by omega);rw[hl]at c;have jR:(i:Int)<16:=by omega
  have w1:IntKind.i64.wrap ((i:Int)+1)=i+1:=wrap_i64 (by omega);have w2:IntKind.i64.wrap (4*(i:Int))=((4*i:Nat):Int):=by rw[wrap_i64 (by omega)];omega
  have w3:IntKind.i64.wrap (((4*i:Nat):Int)+4)=((4*i+4:Nat):Int):=by rw[wrap_i64 (by omega)];omega
  have hT:=du (n:=16) (λj=>if j<i then tf b j else 0) hi;simp only[JtW,if_false]at hT;rw[←hs,←kj]at hK;have hwm:tf b i=UInt32.ofNat (sP ((b.drop (4*i)).take 4) 4):=rfl;rw[hwm,←yI]at hK;clear hs hwm;have l64:((4*i+4:Nat):Int)≤64:=by omega
  have e:List.drop (4*i) (List.take (4*i+4) (b.map u8))=((b.drop (4*i)).take 4).map u8:=by
   rw[JsZ,JfQ,JjW,JqZ]
  simp[↓al,jR,hb,w2,w3,l64,-getElem?_pos,-Int.natCast_mul,-Int.natCast_add];rw[e];refine ai.ret c (by simp[aQ]) (by simp) (by simp) ?_;simp[jR,hT,w1,-getElem?_pos];refine⟨[.keep [1,2,3,4,8,9,18]],?_⟩;simp;exact hK _ (by simp)
 ·have hm:uW 16 (λj=>if j<16 then tf b j else 0)=uW 16 (tf b):=lI λj hj=>by rw[if_pos hj]
  rw[hm];have Ak:uW 8 (λi=>h i^^^(uj (tf b) (Ea h t last) 10 i^^^uj (tf b) (Ea h t last) 10 (i+8)))=uW 8 (uQ h (tf b) t last):=rfl;generalize uW 8 (uQ h (tf b) t last)=R at*;clear hm;simp[↓al];refine ai.rA iw ?_;simp;have u1:uW 16 (ox (uk h) 12 (uk h 12^^^UInt32.ofNat t))=uW 16 (ox (uk h) 12 (uk h 12^^^UInt32.ofNat t)):=rfl;refine Zz (k:=11) (k2:=4) (L':=uW 16 λi=>if i<8 then h i else 0) rfl rfl (by decide) (by decide) (by simp) ?_ ?_
  ·rfl
  simp;refine Zz (k:=11) (k2:=12) (L':=uW 16 (uk h)) rfl rfl (by decide) (by decide) (by simp) ?_ ?_
  ·rfl
  have g12:=du (n:=16) (uk h) (i:=12) (by decide);have g13:=du (n:=16) (ox (uk h) 12 (uk h 12^^^UInt32.ofNat t)) (i:=13) (by decide);rw[show ox (uk h) 12 (uk h 12^^^UInt32.ofNat t) 13=uk h 13 from rfl]at g13;have s1:ox (ox (uk h) 12 (uk h 12^^^UInt32.ofNat t)) 13 (uk h 13^^^UInt32.ofNat (t/4294967296))=Gn h t:=rfl;have g14:=du (n:=16) (Gn h t) (i:=14) (by decide)
  have sh:(t:Int).fdiv 4294967296=((t/4294967296:Nat):Int):=by
   rw[show(4294967296:Int)=((4294967296:Nat):Int) from rfl,JgW _ (JlJ _),←JlV]
  simp[g12,g13,sh,yI,nj,kj,s1,show IntKind.u64.bits=64 from rfl,-getElem?_pos,-Int.natCast_ediv];have e1:ox (Gn h t) 14 (~~~Gn h t 14)=Ea h t true:=rfl;have e2:Gn h t=Ea h t false:=rfl;have hp:∀r k,r<10->k<16->(Wi r)[k]? =some (.int .i64 (sg r k)):=λr k _ hk=>ac3 _ hk;have hgm:∀r k,r<10->k<16->(uW 16 (tf b))[sg r k]? =some (.int .u32 (nU (tf b (sg r k)))):=λr k hr hk=>du _ (Dn r hr k hk);refine⟨λhl=> ?_,λhl=> ?_⟩
  ·subst hl;simp[g14,ade,kj,e1,show IntKind.u32.max=4294967295 from rfl,show IntKind.u32.signed=false from rfl,-getElem?_pos];refine ai.rA fk ?_;generalize Ea h t true=v at*;generalize tf b=m at*;simp;refine eW.fM 10 (λ_=>True) [4,8,9,11,58,59] (λr=>[(59,.int .i64 r)]) (λr=>[(11,.box (.ar 1 16 (uW 16 (uj m v r))))]) [.keep [4,8,9,11,58,59]] ?_;simp[show uj m v 0=v from rfl];refine⟨λr hr K hK=> ?_,λK=> ?_⟩
   ·have hr':(r:Int)<10:=by omega
    have w1:IntKind.i64.wrap ((r:Int)+1)=r+1:=wrap_i64 (by omega);have qH:uj m v (r+1)=wh m (sg r) (qL m (sg r) (uj m v r) 4) 4:=rfl;rw[qH]at hK;have uu:=hp r;have N5:=hgm r;have dk:=Dn r hr;generalize uj m v r=v at*;have hpg:=E7 hr;simp[↓al,hr',hpg,-getElem?_pos];refine eW.fM 4 (λ_=>True) [4,8,9,11,14,58,59,62] (λi=>[(62,.int .i64 i)]) (λi=>[(11,.box (.ar 1 16 (uW 16 (qL m (sg r) v i))))]) [.keep [4,8,9,11,14,58,59,62]] ?_;simp[show qL m (sg r) v 0=v from rfl];refine⟨λi hi K2 qQ=> ?_,λK2=> ?_⟩
    ·have jR:(i:Int)<4:=by omega
     have Bm:qL m (sg r) v (i+1)=Dm (qL m (sg r) v i) i (4+i) (8+i) (12+i) (m (sg r (2*i))) (m (sg r (2*i+1))):=rfl;rw[Bm]at qQ;clear Bm;generalize qL m (sg r) v i=u at*;have q1:=uu (2*i) hr (by omega);have q2:=uu (2*i+1) hr (by omega);have q3:=N5 (2*i) hr (by omega);have q4:=N5 (2*i+1) hr (by omega);have t1:=dk (2*i) (by omega);have t2:=dk (2*i+1) (by omega);have w0:IntKind.i64.wrap ((i:Int)+1)=i+1:=wrap_i64 (by omega);have w1:IntKind.i64.wrap (4+(i:Int))=((4+i:Nat):Int):=by rw[wrap_i64 (by omega)];omega
     have w2:IntKind.i64.wrap (8+(i:Int))=((8+i:Nat):Int):=by rw[wrap_i64 (by omega)];omega
     have w3:IntKind.i64.wrap (12+(i:Int))=((12+i:Nat):Int):=by rw[wrap_i64 (by omega)];omega
     have w4:IntKind.i64.wrap (2*(i:Int))=((2*i:Nat):Int):=by rw[wrap_i64 (by omega)];omega
     have w5:IntKind.i64.wrap (((2*i:Nat):Int)+1)=((2*i+1:Nat):Int):=by rw[wrap_i64 (by omega)];omega
     have l0:i<16:=by omega
     have l1:4+i<16:=by omega
     have l2:8+i<16:=by omega
     have l3:12+i<16:=by omega
     have l4:2*i<16:=by omega
     have l5:2*i+1<16:=by omega
     clear uu N5 dk hp hgm;generalize 2*i+1=i5 at*;generalize 2*i=i4 at*;generalize 12+i=i3 at*;generalize 8+i=i2 at*;generalize 4+i=i1 at*;generalize sg r i4=j4 at*;generalize sg r i5=j5 at*;have k0:(i:Int)<16:=by omega
     have k1:(i1:Int)<16:=by omega
     have k2:(i2:Int)<16:=by omega
     have k3:(i3:Int)<16:=by omega
     have k4:(i4:Int)<16:=by omega
     have k5:(i5:Int)<16:=by omega
     have k6:(j4:Int)<16:=by omega
     have k7:(j5:Int)<16:=by omega
     simp[↓al,jR,q1,q2,q3,q4,w1,w2,w3,w4,w5,k0,k1,k2,k3,k4,k5,k6,k7,-getElem?_pos];refine ai.mix l0 l1 l2 l3 rfl ?_;simp[w0];refine⟨[.keep [4,8,9,11,14,58,59,62]],?_⟩;simp;exact qQ _ (by simp)
    ·have W6:qL m (sg r) v 4=qL m (sg r) v 4:=rfl;generalize qL m (sg r) v 4=v at*;simp[↓al];refine eW.fM 4 (λ_=>True) [4,8,9,11,14,58,59,91] (λi=>[(91,.int .i64 i)]) (λi=>[(11,.box (.ar 1 16 (uW 16 (wh m (sg r) v i))))]) [.keep [4,8,9,11,14,58,59,91]] ?_;simp[show wh m (sg r) v 0=v from rfl];refine⟨λi hi K2 qQ=> ?_,λK2=> ?_⟩
     ·have jR:(i:Int)<4:=by omega
      have Bm:wh m (sg r) v (i+1)=Dm (wh m (sg r) v i) i (4+(i+1)%4) (8+(i+2)%4) (12+(i+3)%4) (m (sg r (8+2*i))) (m (sg r (9+2*i))):=rfl;rw[Bm]at qQ;clear Bm;generalize wh m (sg r) v i=u at*;have q1:=uu (8+2*i) hr (by omega);have q2:=uu (9+2*i) hr (by omega);have q3:=N5 (8+2*i) hr (by omega);have q4:=N5 (9+2*i) hr (by omega);have t1:=dk (8+2*i) (by omega);have t2:=dk (9+2*i) (by omega);have w0:IntKind.i64.wrap ((i:Int)+1)=i+1:=wrap_i64 (by omega);have w1:IntKind.i64.wrap ((i:Int)+2)=((i+2:Nat):Int):=by rw[wrap_i64 (by omega)];omega
      have w2:IntKind.i64.wrap ((i:Int)+3)=((i+3:Nat):Int):=by rw[wrap_i64 (by omega)];omega
      have m0:((i:Int)+1).tmod 4=(((i+1)%4:Nat):Int):=rfl;have m1:((i+2:Nat):Int).tmod 4=(((i+2)%4:Nat):Int):=rfl;have m2:((i+3:Nat):Int).tmod 4=(((i+3)%4:Nat):Int):=rfl;have m3:(i+1)%4<4:=JdZ _ (by decide);have m4:(i+2)%4<4:=JdZ _ (by decide);have m5:(i+3)%4<4:=JdZ _ (by decide);have w3:IntKind.i64.wrap (2*(i:Int))=((2*i:Nat):Int):=by rw[wrap_i64 (by omega)];omega
      generalize (i+1)%4=d1 at*;generalize (i+2)%4=d2 at*;generalize (i+3)%4=d3 at*;generalize i+2=f2 at*;generalize i+3=f3 at*;have w4:IntKind.i64.wrap (4+(d1:Int))=((4+d1:Nat):Int):=by rw[wrap_i64 (by omega)];omega
      have w5:IntKind.i64.wrap (8+(d2:Int))=((8+d2:Nat):Int):=by rw[wrap_i64 (by omega)];omega
      have w6:IntKind.i64.wrap (12+(d3:Int))=((12+d3:Nat):Int):=by rw[wrap_i64 (by omega)];omega
      have w7:IntKind.i64.wrap (8+((2*i:Nat):Int))=((8+2*i:Nat):Int):=by rw[wrap_i64 (by omega)];omega
      have w8:IntKind.i64.wrap (9+((2*i:Nat):Int))=((9+2*i:Nat):Int):=by rw[wrap_i64 (by omega)];omega
      have wd1:IntKind.i64.wrap (d1:Int)=d1:=wrap_i64 (by omega);have wd2:IntKind.i64.wrap (d2:Int)=d2:=wrap_i64 (by omega);have wd3:IntKind.i64.wrap (d3:Int)=d3:=wrap_i64 (by omega);have l0:i<16:=by omega
      have l1:4+d1<16:=by omega
      have l2:8+d2<16:=by omega
      have l3:12+d3<16:=by omega
      have l4:8+2*i<16:=by omega
      have l5:9+2*i<16:=by omega
      clear uu N5 dk hp hgm;generalize 8+2*i=i4 at*;generalize 9+2*i=i5 at*;generalize 2*i=i6 at*;generalize 12+d3=i3 at*;generalize 8+d2=i2 at*;generalize 4+d1=i1 at*;generalize sg r i4=j4 at*;generalize sg r i5=j5 at*;have k0:(i:Int)<16:=by omega
      have k1:(i1:Int)<16:=by omega
      have k2:(i2:Int)<16:=by omega
      have k3:(i3:Int)<16:=by omega
      have k4:(i4:Int)<16:=by omega
      have k5:(i5:Int)<16:=by omega
      have k6:(j4:Int)<16:=by omega
      have k7:(j5:Int)<16:=by omega
      simp[↓al,jR,q1,q2,q3,q4,w0,w1,w2,w3,w4,w5,w6,w7,w8,m0,m1,m2,k0,k1,k2,k3,k4,k5,k6,k7,-getElem?_pos];refine ai.mix l0 l1 l2 l3 rfl ?_;simp[w0];refine⟨[.keep [4,8,9,11,14,58,59,91]],?_⟩;simp;exact qQ _ (by simp)
     ·simp[↓al,w1];refine⟨[.keep [4,8,9,11,58,59],.dr 14],?_⟩;simp;exact hK _ (by simp)
   ·generalize uj m v 10=w at*;simp[↓al];refine eW.fM 8 (λ_=>True) [4,8,11,128] (λi=>[(128,.int .i64 i)]) (λi=>[(4,.box (.ar 1 8 (uW 8 λj=>if j<i then h j^^^(w j^^^w (j+8))else h j)))]) [.keep [4,8,11,128]] ?_;simp;refine⟨λi hi K hK=> ?_,λK=> ?_⟩
    ·have hs:uW 8 (ox (λj=>if j<i then h j^^^(w j^^^w (j+8))else h j) i (h i^^^(w i^^^w (i+8))))=uW 8 λj=>if j<i+1 then h j^^^(w j^^^w (j+8))else h j:=lI λj hj=>by
      simp only[ox];by_cases e:j=i
      ·rw[if_pos e,if_pos (by omega),e]
      ·rw[if_neg e];by_cases e':j<i
       ·rw[if_pos e',if_pos (by omega)]
       ·rw[if_neg e',if_neg (by omega)]
     rw[←hs]at hK;have a1:=du (n:=8) (λj=>if j<i then h j^^^(w j^^^w (j+8))else h j) hi;simp only[JtW,if_false]at a1;have a2:=du (n:=16) w (i:=i) (by omega);have a3:=du (n:=16) w (i:=i+8) (by omega);have jR:(i:Int)<8:=by omega
     have Ai:(i:Int)<16:=by omega
     have hi3:i<16:=by omega
     have w1:IntKind.i64.wrap ((i:Int)+1)=i+1:=wrap_i64 (by omega);have w2:IntKind.i64.wrap ((i:Int)+8)=((i+8:Nat):Int):=by rw[wrap_i64 (by omega)];omega
     rw[←kj]at hK;clear hs;have l1:i+8<16:=by omega
     have l2:((i+8:Nat):Int)<16:=by omega
     generalize uW 8 (λj=>if j<i then h j^^^(w j^^^w (j+8))else h j)=T at*;generalize i+8=i8 at*;simp[↓al,jR,Ai,w1,w2,a1,a2,a3,l2,nj,-getElem?_pos];refine⟨[.keep [4,8,11,128]],?_⟩;simp;exact hK _ (by simp)
    ·have he:uW 8 (λj=>if j<8 then h j^^^(w j^^^w (j+8))else h j)=R:=by
      rw[←Ak];exact lI λj hj=>by rw[if_pos hj]
     rw[he];have hRp:au R:=by rw[←Ak];exact GB _ _
     have hRw:fP R=R:=by rw[←Ak];exact Zy _ _
     simp[↓al];refine aA.plain [.keep [8],.dr 4,.dr 11] ?_;simp[hRp.refs,af];exact hRp
  ·have hl:last=false:=by simpa using hl
   subst hl;simp[e2,-getElem?_pos];refine ai.rA fk ?_;generalize Ea h t false=v at*;generalize tf b=m at*;simp;refine eW.fM 10 (λ_=>True) [4,8,9,11,58,59] (λr=>[(59,.int .i64 r)]) (λr=>[(11,.box (.ar 1 16 (uW 16 (uj m v r))))]) [.keep [4,8,9,11,58,59]] ?_;simp[show uj m v 0=v from rfl];refine⟨λr hr K hK=> ?_,λK=> ?_⟩
   ·have hr':(r:Int)<10:=by omega
    have w1:IntKind.i64.wrap ((r:Int)+1)=r+1:=wrap_i64 (by omega);have qH:uj m v (r+1)=wh m (sg r) (qL m (sg r) (uj m v r) 4) 4:=rfl;rw[qH]at hK;have uu:=hp r;have N5:=hgm r;have dk:=Dn r hr;generalize uj m v r=v at*;have hpg:=E7 hr;simp[↓al,hr',hpg,-getElem?_pos];refine eW.fM 4 (λ_=>True) [4,8,9,11,14,58,59,62] (λi=>[(62,.int .i64 i)]) (λi=>[(11,.box (.ar 1 16 (uW 16 (qL m (sg r) v i))))]) [.keep [4,8,9,11,14,58,59,62]] ?_;simp[show qL m (sg r) v 0=v from rfl];refine⟨λi hi K2 qQ=> ?_,λK2=> ?_⟩
    ·have jR:(i:Int)<4:=by omega
     have Bm:qL m (sg r) v (i+1)=Dm (qL m (sg r) v i) i (4+i) (8+i) (12+i) (m (sg r (2*i))) (m (sg r (2*i+1))):=rfl;rw[Bm]at qQ;clear Bm;generalize qL m (sg r) v i=u at*;have q1:=uu (2*i) hr (by omega);have q2:=uu (2*i+1) hr (by omega);have q3:=N5 (2*i) hr (by omega);have q4:=N5 (2*i+1) hr (by omega);have t1:=dk (2*i) (by omega);have t2:=dk (2*i+1) (by omega);have w0:IntKind.i64.wrap ((i:Int)+1)=i+1:=wrap_i64 (by omega);have w1:IntKind.i64.wrap (4+(i:Int))=((4+i:Nat):Int):=by rw[wrap_i64 (by omega)];omega
     have w2:IntKind.i64.wrap (8+(i:Int))=((8+i:Nat):Int):=by rw[wrap_i64 (by omega)];omega
     have w3:IntKind.i64.wrap (12+(i:Int))=((12+i:Nat):Int):=by rw[wrap_i64 (by omega)];omega
     have w4:IntKind.i64.wrap (2*(i:Int))=((2*i:Nat):Int):=by rw[wrap_i64 (by omega)];omega
     have w5:IntKind.i64.wrap (((2*i:Nat):Int)+1)=((2*i+1:Nat):Int):=by rw[wrap_i64 (by omega)];omega
     have l0:i<16:=by omega
     have l1:4+i<16:=by omega
     have l2:8+i<16:=by omega
     have l3:12+i<16:=by omega
     have l4:2*i<16:=by omega
     have l5:2*i+1<16:=by omega
     clear uu N5 dk hp hgm;generalize 2*i+1=i5 at*;generalize 2*i=i4 at*;generalize 12+i=i3 at*;generalize 8+i=i2 at*;generalize 4+i=i1 at*;generalize sg r i4=j4 at*;generalize sg r i5=j5 at*;have k0:(i:Int)<16:=by omega
     have k1:(i1:Int)<16:=by omega
     have k2:(i2:Int)<16:=by omega
     have k3:(i3:Int)<16:=by omega
     have k4:(i4:Int)<16:=by omega
     have k5:(i5:Int)<16:=by omega
     have k6:(j4:Int)<16:=by omega
     have k7:(j5:Int)<16:=by omega
     simp[↓al,jR,q1,q2,q3,q4,w1,w2,w3,w4,w5,k0,k1,k2,k3,k4,k5,k6,k7,-getElem?_pos];refine ai.mix l0 l1 l2 l3 rfl ?_;simp[w0];refine⟨[.keep [4,8,9,11,14,58,59,62]],?_⟩;simp;exact qQ _ (by simp)
    ·have W6:qL m (sg r) v 4=qL m (sg r) v 4:=rfl;generalize qL m (sg r) v 4=v at*;simp[↓al];refine eW.fM 4 (λ_=>True) [4,8,9,11,14,58,59,91] (λi=>[(91,.int .i64 i)]) (λi=>[(11,.box (.ar 1 16 (uW 16 (wh m (sg r) v i))))]) [.keep [4,8,9,11,14,58,59,91]] ?_;simp[show wh m (sg r) v 0=v from rfl];refine⟨λi hi K2 qQ=> ?_,λK2=> ?_⟩
     ·have jR:(i:Int)<4:=by omega
      have Bm:wh m (sg r) v (i+1)=Dm (wh m (sg r) v i) i (4+(i+1)%4) (8+(i+2)%4) (12+(i+3)%4) (m (sg r (8+2*i))) (m (sg r (9+2*i))):=rfl;rw[Bm]at qQ;clear Bm;generalize wh m (sg r) v i=u at*;have q1:=uu (8+2*i) hr (by omega);have q2:=uu (9+2*i) hr (by omega);have q3:=N5 (8+2*i) hr (by omega);have q4:=N5 (9+2*i) hr (by omega);have t1:=dk (8+2*i) (by omega);have t2:=dk (9+2*i) (by omega);have w0:IntKind.i64.wrap ((i:Int)+1)=i+1:=wrap_i64 (by omega);have w1:IntKind.i64.wrap ((i:Int)+2)=((i+2:Nat):Int):=by rw[wrap_i64 (by omega)];omega
      have w2:IntKind.i64.wrap ((i:Int)+3)=((i+3:Nat):Int):=by rw[wrap_i64 (by omega)];omega
      have m0:((i:Int)+1).tmod 4=(((i+1)%4:Nat):Int):=rfl;have m1:((i+2:Nat):Int).tmod 4=(((i+2)%4:Nat):Int):=rfl;have m2:((i+3:Nat):Int).tmod 4=(((i+3)%4:Nat):Int):=rfl;have m3:(i+1)%4<4:=JdZ _ (by decide);have m4:(i+2)%4<4:=JdZ _ (by decide);have m5:(i+3)%4<4:=JdZ _ (by decide);have w3:IntKind.i64.wrap (2*(i:Int))=((2*i:Nat):Int):=by rw[wrap_i64 (by omega)];omega
      generalize (i+1)%4=d1 at*;generalize (i+2)%4=d2 at*;generalize (i+3)%4=d3 at*;generalize i+2=f2 at*;generalize i+3=f3 at*;have w4:IntKind.i64.wrap (4+(d1:Int))=((4+d1:Nat):Int):=by rw[wrap_i64 (by omega)];omega
      have w5:IntKind.i64.wrap (8+(d2:Int))=((8+d2:Nat):Int):=by rw[wrap_i64 (by omega)];omega
      have w6:IntKind.i64.wrap (12+(d3:Int))=((12+d3:Nat):Int):=by rw[wrap_i64 (by omega)];omega
      have w7:IntKind.i64.wrap (8+((2*i:Nat):Int))=((8+2*i:Nat):Int):=by rw[wrap_i64 (by omega)];omega
      have w8:IntKind.i64.wrap (9+((2*i:Nat):Int))=((9+2*i:Nat):Int):=by rw[wrap_i64 (by omega)];omega
      have wd1:IntKind.i64.wrap (d1:Int)=d1:=wrap_i64 (by omega);have wd2:IntKind.i64.wrap (d2:Int)=d2:=wrap_i64 (by omega);have wd3:IntKind.i64.wrap (d3:Int)=d3:=wrap_i64 (by omega);have l0:i<16:=by omega
      have l1:4+d1<16:=by omega
      have l2:8+d2<16:=by omega
      have l3:12+d3<16:=by omega
      have l4:8+2*i<16:=by omega
      have l5:9+2*i<16:=by omega
      clear uu N5 dk hp hgm;generalize 8+2*i=i4 at*;generalize 9+2*i=i5 at*;generalize 2*i=i6 at*;generalize 12+d3=i3 at*;generalize 8+d2=i2 at*;generalize 4+d1=i1 at*;generalize sg r i4=j4 at*;generalize sg r i5=j5 at*;have k0:(i:Int)<16:=by omega
      have k1:(i1:Int)<16:=by omega
      have k2:(i2:Int)<16:=by omega
      have k3:(i3:Int)<16:=by omega
      have k4:(i4:Int)<16:=by omega
      have k5:(i5:Int)<16:=by omega
      have k6:(j4:Int)<16:=by omega
      have k7:(j5:Int)<16:=by omega
      simp[↓al,jR,q1,q2,q3,q4,w0,w1,w2,w3,w4,w5,w6,w7,w8,m0,m1,m2,k0,k1,k2,k3,k4,k5,k6,k7,-getElem?_pos];refine ai.mix l0 l1 l2 l3 rfl ?_;simp[w0];refine⟨[.keep [4,8,9,11,14,58,59,91]],?_⟩;simp;exact qQ _ (by simp)
     ·simp[↓al,w1];refine⟨[.keep [4,8,9,11,58,59],.dr 14],?_⟩;simp;exact hK _ (by simp)
   ·generalize uj m v 10=w at*;simp[↓al];refine eW.fM 8 (λ_=>True) [4,8,11,128] (λi=>[(128,.int .i64 i)]) (λi=>[(4,.box (.ar 1 8 (uW 8 λj=>if j<i then h j^^^(w j^^^w (j+8))else h j)))]) [.keep [4,8,11,128]] ?_;simp;refine⟨λi hi K hK=> ?_,λK=> ?_⟩
    ·have hs:uW 8 (ox (λj=>if j<i then h j^^^(w j^^^w (j+8))else h j) i (h i^^^(w i^^^w (i+8))))=uW 8 λj=>if j<i+1 then h j^^^(w j^^^w (j+8))else h j:=lI λj hj=>by
      simp only[ox];by_cases e:j=i
      ·rw[if_pos e,if_pos (by omega),e]
      ·rw[if_neg e];by_cases e':j<i
       ·rw[if_pos e',if_pos (by omega)]
       ·rw[if_neg e',if_neg (by omega)]
     rw[←hs]at hK;have a1:=du (n:=8) (λj=>if j<i then h j^^^(w j^^^w (j+8))else h j) hi;simp only[JtW,if_false]at a1;have a2:=du (n:=16) w (i:=i) (by omega);have a3:=du (n:=16) w (i:=i+8) (by omega);have jR:(i:Int)<8:=by omega
     have Ai:(i:Int)<16:=by omega
     have hi3:i<16:=by omega
     have w1:IntKind.i64.wrap ((i:Int)+1)=i+1:=wrap_i64 (by omega);have w2:IntKind.i64.wrap ((i:Int)+8)=((i+8:Nat):Int):=by rw[wrap_i64 (by omega)];omega
     rw[←kj]at hK;clear hs;have l1:i+8<16:=by omega
     have l2:((i+8:Nat):Int)<16:=by omega
     generalize uW 8 (λj=>if j<i then h j^^^(w j^^^w (j+8))else h j)=T at*;generalize i+8=i8 at*;simp[↓al,jR,Ai,w1,w2,a1,a2,a3,l2,nj,-getElem?_pos];refine⟨[.keep [4,8,11,128]],?_⟩;simp;exact hK _ (by simp)
    ·have he:uW 8 (λj=>if j<8 then h j^^^(w j^^^w (j+8))else h j)=R:=by
      rw[←Ak];exact lI λj hj=>by rw[if_pos hj]
     rw[he];have hRp:au R:=by rw[←Ak];exact GB _ _
     have hRw:fP R=R:=by rw[←Ak];exact Zy _ _
     simp[↓al];refine aA.plain [.keep [8],.dr 4,.dr 11] ?_;simp[hRp.refs,af];exact hRp
def th (d:List UInt8) (i:Nat):List UInt8:=(d.drop (64*i)).take 64++List.replicate (64-((d.drop (64*i)).take 64).length) 0
theorem uR (d:List UInt8) (i:Nat):(th d i).length=64:=by
 simp only[th,JaJ,JcW,lJ];omega
def qE (d:List UInt8):Nat:=(d.length-1)/64
def Il (d:List UInt8):Nat->(Nat->UInt32)
 |0=>ox Ls 0 (Ls 0^^^16842784)
 |i+1=>uQ (Il d i) (tf (th d i)) (if i=qE d then d.length else 64*(i+1)) (decide (i=qE d))
def xu (h:Nat->UInt32):Nat->List UInt8
 |0=>[]
 |i+1=>xu h i++cG (h i).toNat 4
theorem oi (h:Nat->UInt32):∀i,(xu h i).length=4*i
 |0=>rfl
 |i+1=>by rw[xu,JaJ,oi h i,db];omega
def iU (d:List UInt8):Key:=⟨xu (Il d (qE d+1)) 8,oi _ 8⟩
theorem kM {α:Type} {g:α->PV} (h:∀x,lR (g x)=true):∀l:List α,eG (l.map g)=true
 |[]=>rfl
 |x::l=>by simp only[JdX,eG,h x,kM h l,Bool.and_self]
theorem BF (n m:Nat) (f:Nat->UInt32):gf (.ar 1 n (uW m f))=true:=CU (by
 show eG (uW m f)=true;exact kM (λ_=>rfl) _)
theorem dv (k:Key):gf (aG k)=true:=CU (by
 show eG (k.l.map u8)=true;exact kM (λ_=>rfl) _)
theorem yx [eE] {f:FuncId} {s:St} {dst:Option Nat} {K:St->Prop} {tg:Tg K} {k off aN:Nat} {c:ft} {A:List UInt8} {x y z v:PV} (hA:∀b:List UInt8,b=(A.drop off).take 64->aL Pg f [x,aQ b,y,z] v)
  (hx:Pure x) (hy:Pure y) (hz:Pure z) (wx:wk x=x) (wy:wk y=y) (wz:wk z=z) (hv:Pure v) (nJ:gf v=true) (hk:get s.bx k=some (.arr 1 (A.map u8))) (ht:aN=A.length) (ho:off+64≤A.length)
  (h:K ({s with bx:=put s.bx k (.arr 1 (A.map u8))}.put dst v)):ai Pg s dst f [x,.rs k [] off 64 aN 1 c,y,z] K tg:=by
 have hp:au (A.map u8):=aF (λ_=>by simp[u8]) _;have rf:au (((A.drop off).take 64).map u8):=aF (λ_=>by simp[u8]) _;subst ht;refine ai.view [k] [] [.arr 1 (A.map u8)] (bC:=[x,.rs KB [] off 64 A.length 1 c,y,z]) (args0:=[x,.sl 1 (((A.drop off).take 64).map u8) false,y,z]) (cg:=[.arr 1 (A.map u8)]) (hA _ rfl) (by simp[getAll,hk]) (by simp) (by simp) (by simp[ah,af,bT,idx,hx.refs,hy.refs,hz.refs]) (by simp[ab]) (by simp[aS,aE,bz,idx,hx.aE,hy.aE,hz.aE,wx,wy,wz]) (by simp[az]) ?_ ?_ ?_
 ·refine⟨.inl (.inl ⟨rfl,hx.refs _⟩),.inl (.inr ⟨KB,[],off,64,A.length,1,c,((A.drop off).take 64).map u8,rfl,?_,rf.refs _,by omega,rfl⟩),.inl (.inl ⟨rfl,hy.refs _⟩),.inl (.inl ⟨rfl,hz.refs _⟩),trivial⟩;simp[av,ho,JfQ,JjW]
 ·rintro r new ⟨rfl,rfl⟩;exact⟨⟨nJ,by simp⟩,rfl⟩
 ·rintro r new ⟨rfl,rfl⟩;simp[hv.aE,hv.refs,ab,az,aI];exact h
theorem yw (d:List UInt8) (i:Nat):(th d i).map u8=((d.drop (64*i)).take 64).map u8++(List.replicate 64 (PV.int .u8 0)).drop ((d.drop (64*i)).take 64).length:=by
 rw[th,JeV,JnV,List.drop_replicate];rfl
def Dd (d:List UInt8) (i:Nat):List UInt8:=d.drop (64*i)
theorem Y0 (d:List UInt8):Dd d 0=d:=rfl
theorem mi {d:List UInt8} (h1:1≤d.length) (h2:d.length≤1073741824) (c:Bool) (sz:Nat):
  aL Pg 254 [.int .i64 32,.sl sz [] c,aQ d] (.tup [.sl 1 ((iU d).l.map u8) true,.int .i64 0]):=by
 refine ae.intro (aC R.mi.2) (by simp[R.mi]) ?_;have g0:=du (n:=8) Ls (i:=0) (by decide);have x0:bits .xor .u32 16842752 0=16842752:=by decide+kernel
 have x1:bits .xor .u32 16842752 32=nU 16842784:=by decide+kernel
 have w0:IntKind.u32.wrap 32=32:=by decide+kernel
 have hh:ox Ls 0 (Ls 0^^^16842784)=Il d 0:=rfl;simp[R.mi,aj,av,show((32:Int)<1)=False by simp];refine ai.rA iw ?_;simp[g0,x0,x1,w0,nj,kj,hh,show IntKind.u32.bits=32 from rfl,-getElem?_pos];refine eW.fM (qE d) (λ_=>True) [0,8,9,10] (λi=>[(9,.sl 1 ((Dd d i).map u8) false),(10,.int .i64 ((64*i:Nat):Int))]) (λi=>[(8,.box (.ar 1 8 (uW 8 (Il d i))))]) [.keep [0,8,9,10]] ?_;simp[aQ,Y0];have hnb:qE d=(d.length-1)/64:=rfl;refine⟨λi hi K hK=> ?_,λK=> ?_⟩
 ·have qH:Il d (i+1)=uQ (Il d i) (tf (th d i)) (64*(i+1)) false:=by
   rw[Il,if_neg (by omega),decide_eq_false (by omega)]
  have KQ:=yw d i;have tI:=uR d i;have DW:(Dd d i).drop 64=Dd d (i+1):=by rw[Dd,Dd,JiW];rfl
  have hTl:(Dd d i).length=d.length-64*i:=JbV;rw[qH]at hK;rw[←DW]at hK;clear qH DW;have hcm:=λ(b:List UInt8) (hb:b.length=64)=>dJ (Il d i) (b:=b) hb (t:=64*(i+1)) (by omega) false;generalize th d i=B at*;generalize Il d i=H at*;rw[show d.drop (64*i)=Dd d i from rfl]at KQ;generalize hTe:Dd d i=T at*;have wA:min (T.length:Int) 64=64:=by omega
  have DS:min 64 T.length=64:=by omega
  have Sd:(64:Int)≤T.length:=by omega
  have hT0:¬T.length-64=0:=by omega
  have w1:IntKind.i64.wrap (64*(i:Int)+64)=((64*(i+1):Nat):Int):=by rw[wrap_i64 (by omega)];omega
  have w2:IntKind.u64.wrap ((64*(i+1):Nat):Int)=((64*(i+1):Nat):Int):=uS (by omega);have w3:64*((i:Int)+1)=((64*(i+1):Nat):Int):=by omega
  rw[lJ,DS]at KQ;generalize 64*(i+1)=q1 at*;simp[↓al,wA,DS,Sd,hT0,w1,w2,-List.reduceReplicate];refine yx (A:=B) (v:= .ar 1 8 (uW 8 (uQ H (tf B) q1 false))) (λb hb=> ?_) (by simp) (by simp) (by simp) (by simp) (by simp) (by simp) (by simp) (BF _ _ _) (by simp[KQ,JsV]) (by omega) (by omega) ?_
  ·have hbB:b=B:=by rw[hb,JpZ,←tI,JcX]
   subst hbB;exact hcm b tI
  simp[hT0];refine⟨[.keep [0,8,9,10],.dr 55],?_⟩;simp;exact hK _ (by simp[w3])
 ·have qH:Il d (qE d+1)=uQ (Il d (qE d)) (tf (th d (qE d))) d.length true:=by
   rw[Il,if_pos rfl,decide_eq_true rfl]
  have KQ:=yw d (qE d);have tI:=uR d (qE d);have hTl:(Dd d (qE d)).length=d.length-64*qE d:=JbV;have qF:(iU d).l=xu (uQ (Il d (qE d)) (tf (th d (qE d))) d.length true) 8:=by rw[←qH];rfl
  have hcm:=λ(b:List UInt8) (hb:b.length=64)=>dJ (Il d (qE d)) (b:=b) hb (t:=d.length) (by omega) true;rw[qF];clear qH qF;rw[show d.drop (64*qE d)=Dd d (qE d) from rfl]at KQ;generalize hTe:Dd d (qE d)=T at*;generalize th d (qE d)=B at*;generalize Il d (qE d)=H at*;have aef:T.length≤64:=by omega
  have wA:min (T.length:Int) 64=T.length:=by omega
  have DS:min 64 T.length=T.length:=by omega
  have KS:min T.length 64=T.length:=by omega
  have Sd:(T.length:Int)≤64:=by omega
  have w1:IntKind.i64.wrap (64*(qE d:Int)+T.length)=d.length:=by rw[wrap_i64 (by omega)];omega
  have w2:IntKind.u64.wrap (d.length:Int)=d.length:=uS (by omega);have htt:T.take 64=T:=tJ aef;have hdl:(T.map u8).drop T.length=[]:=JgV (by simp);have kX:(T.map u8).take T.length=T.map u8:=tJ (by simp);rw[htt]at KQ;generalize qE d=n at*;generalize avx:d.length=L at*;have G9:(List.replicate 64 (PV.int .u8 0)).length=64:=JcW;generalize hRz:List.replicate 64 (PV.int .u8 0)=Z at*;simp[↓al,wA,KS,w1,w2,hdl,kX,hRz,G9,-List.reduceReplicate,-List.length_replicate];refine yx (A:=B) (v:= .ar 1 8 (uW 8 (uQ H (tf B) L true))) (λb hb=> ?_) (by simp) (by simp) (by simp) (by simp) (by simp) (by simp) (by simp) (BF _ _ _) (by simp[KQ]) (by omega) (by omega) ?_
  ·have hbB:b=B:=by rw[hb,JpZ,←tI,JcX]
   subst hbB;exact hcm b tI
  generalize uQ H (tf B) L true=G;simp;simp[↓al];refine eW.fM 8 (λ_=>True) [0,13,78,79] (λi=>[(13,.rs 13 [] 0 (4*i) (4*i) 1 .tip),(79,.int .i64 i)]) (λi=>[(13,.arr 1 (mB (xu G i)))]) [.keep [0,13,78,79],.vt 13 13 1] ?_;simp[show mB (xu G 0)=[] from rfl];refine⟨λi hi K hK=> ?_,λK=> ?_⟩
  ·have hg:=du (n:=8) G hi;have jR:(i:Int)<8:=by omega
   have hc:=cD (n:=(G i).toNat) (k:=4) (by decide) (by decide);have RY:=db (G i).toNat 4;have Xk:=oi G i;have hs:xu G (i+1)=xu G i++cG (G i).toNat 4:=rfl;have w3:IntKind.u64.wrap (nU (G i))=((G i).toNat:Int):=uS (by have:=(G i).toNat_lt;omega);have w4:IntKind.i64.wrap ((i:Int)+1)=i+1:=wrap_i64 (by omega);rw[hs]at hK;clear hs;generalize cG (G i).toNat 4=N at*;generalize xu G i=O at*;have wM:(mB O).length=4*i:=by rw[mB,JaX,Xk]
   have hmn:(mB N).length=4:=by rw[mB,JaX,RY]
   have Xl:mB (O++N)=mB O++mB N:=JeV;rw[Xl]at hK;clear Xl;have Ve:aQ N= .sl 1 (mB N) false:=rfl;rw[Ve]at hc;have hmp:au (mB N):=aF (λ_=>by simp[u8]) _;have hN0:mB N≠[]:=by intro e;rw[e]at hmn;simp at hmn
   generalize mB O=mO at*;generalize mB N=mN at*;simp[↓al,jR,hg,w3,-getElem?_pos];refine ai.ret hc (by simp) (by simp) (by simp[hmp]) ?_;simp[wM,hmn,hN0,w4];refine⟨⟨by omega,by omega⟩,[.keep [0,13,78,79]],?_⟩;simp;exact hK _ (by simp[show 4*(i+1)=4*i+4 by omega])
  ·have Xk:=oi G 8;generalize xu G 8=O at*;have wM:(mB O).length=32:=by rw[mB,JaX,Xk]
   have hp:au (mB O):=aF (λ_=>by simp[u8]) O;have he:O.map u8=mB O:=rfl;have kX:(mB O).take 32=mB O:=by rw[←wM,JcX]
   rw[he];generalize mB O=mO at*;simp[↓al,wM];refine aA.plain [.fz 13] ?_;simp[hp.refs,wM,kX];exact hp
theorem BN {ps:List (List UInt8)} {i:Nat} (h:i<ps.length):(ps.take (i+1)).flatten=(ps.take i).flatten++ps[i]:=by
 rw[JcZ h,List.flatten_append];simp
theorem ZA {ps:List (List UInt8)} (i:Nat):((ps.take i).flatten).length≤ps.flatten.length:=by
 have e:ps.flatten=(ps.take i).flatten++(ps.drop i).flatten:=by rw[←List.flatten_append,JcJ]
 rw[e,JaJ];omega
theorem fh (ps:List (List UInt8)) (h:ps.flatten.length≤1099511627776) (hn:ps.length≤1099511627776):aL Pg 165 [.sl 1 (ps.map aQ) false] (aQ ps.flatten):=by
 refine ae.intro (aC R.fh.2) (by simp[R.fh]) ?_;simp[R.fh,aj,av];refine eW.fM ps.length (λ_=>True) [3,6,7,8] (λi=>[(3,.rs 3 [] 0 (ps.take i).flatten.length (ps.take i).flatten.length 1 .tip),(8,.int .i64 i)]) (λi=>[(3,.arr 1 (mB (ps.take i).flatten))]) [.keep [3,6,7,8],.vt 3 3 1] ?_;simp[show mB []=[] from rfl,-List.length_flatten];refine⟨λi hi K hK=> ?_,λK=> ?_⟩
 ·have BU:IntKind.i64.wrap ((i:Int)+1)=(i:Int)+1:=wrap_i64 (by omega);have AW:=ZA (ps:=ps) (i+1);rw[BN hi,JaJ]at AW;rw[BN hi]at hK;have hx:ps[i]? =some ps[i]:=gJ hi;generalize ps[i]=p at*;generalize (ps.take i).flatten=A at*;have hl3:A.length+p.length≤ps.flatten.length:=AW;have Xl:mB (A++p)=mB A++mB p:=JeV;have wM:(mB A).length=A.length:=JaX _;have hmp:(mB p).length=p.length:=JaX _;have aev:aQ p= .sl 1 (mB p) false:=rfl;rw[Xl,JaJ]at hK;generalize mB A=mA at*;generalize mB p=mP at*;have jR:(i:Int)<ps.length:=by omega
  simp[↓al,jR,BU,hx,aev,wM,hmp,-getElem?_pos];refine⟨⟨by omega,by omega⟩,[.keep [3,6,7,8]],?_⟩;simp;exact hK _ (by simp)
 ·simp[↓al,-List.length_flatten];have wM:(mB ps.flatten).length=ps.flatten.length:=JaX _;have hp:au (mB ps.flatten):=aF (λ_=>by simp[u8]) _;have he:aQ ps.flatten= .sl 1 (mB ps.flatten) false:=rfl;have kX:(mB ps.flatten).take ps.flatten.length=mB ps.flatten:=by rw[←wM,JcX]
  rw[he];generalize mB ps.flatten=L at*;refine aA.plain [.fz 3] ?_;simp[hp.refs,wM,kX,-List.length_flatten];exact hp
theorem gv {ps:List (List UInt8)} (hn:ps.length≤1024) (h1:1≤ps.flatten.length) (h2:ps.flatten.length≤1073741824):aL Pg 164 [.sl 1 (ps.map aQ) false] (aG (iU ps.flatten)):=by
 refine ae.intro (aC R.gv.2) (by simp[R.gv]) ?_;have hl:=(iU ps.flatten).h;have c1:=fh ps (by omega) (by omega);have c2:=mi h1 h2 false 0;generalize iU ps.flatten=k at*;generalize ps.flatten=d at*;have hk:aG k= .ar 1 32 (k.l.map u8):=rfl;have hp:au (k.l.map u8):=aF (λ_=>by simp[u8]) _;rw[hk];have qF:(k.l.map u8).length=32:=by rw[JaX,hl]
 generalize k.l.map u8=L at*;simp[R.gv,aj,av];refine ai.rA c1 ?_;simp;refine ai.ret c2 (by simp) (by simp) (by simp[hp]) ?_;have kX:L.take 32=L:=by rw[←qF,JcX]
 simp[qF,kX];refine aA.plain [.keep [2]] ?_;simp;exact hp
end Go.Ab

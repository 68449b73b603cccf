/- Functions of the program and of the document, as the abstract reading walks them, part 2. No condition. -/
import Derived.Test.YtlcojgogfjlceaaGreatDoorB1
import Derived.Laws.BitsAllLaws
import Derived.Test.YtlcojgogfjlceaaGreatDoorA5
import Derived.Laws.Externs
set_option maxRecDepth 20000
set_option maxHeartbeats 8000000
set_option linter.all false
noncomputable section
namespace Go.Ab
structure Fe where
 a0:Nat
 a1:Nat
 a2:Nat
 a3:Nat
 a4:Nat
def Fe.l (a:Fe):List PV:=[.int .u64 a.a0,.int .u64 a.a1,.int .u64 a.a2,.int .u64 a.a3,.int .u64 a.a4]
def gG (a:Fe):PV:= .ar 1 5 a.l
@[simp] theorem ahB (a:Fe):Pure (gG a):=by simp[gG,Fe.l]
@[simp] theorem arh (a:Fe):wk (gG a)=gG a:=by simp[gG,Fe.l]
@[simp] theorem adk (a:Fe):(gG a).width=5:=_root_.id rfl
@[simp] theorem amG (a:Fe):(gG a).isAgg=true:=rfl
@[simp] theorem ahC (a:Fe):(gG a).aT=true:=rfl
@[simp] theorem ahD (a:Fe):(gG a).flat=true:=rfl
@[simp↓] theorem amH (g:Bool) (a:Fe) (K:PV->Prop):ed g (gG a) K=K (gG a):=_root_.id rfl
structure Fe.Le (a:Fe) (n:Nat):Prop where
 h0:a.a0≤n
 h1:a.a1≤n
 h2:a.a2≤n
 h3:a.a3≤n
 h4:a.a4≤n
def sU (a:Fe):Fe:=⟨a.a0%2251799813685248+19*(a.a4/2251799813685248),a.a1%2251799813685248+a.a0/2251799813685248,a.a2%2251799813685248+a.a1/2251799813685248,a.a3%2251799813685248+a.a2/2251799813685248,a.a4%2251799813685248+a.a3/2251799813685248⟩
def qW (a b:Fe):Fe:=⟨a.a0+b.a0,a.a1+b.a1,a.a2+b.a2,a.a3+b.a3,a.a4+b.a4⟩
def pJ (a b:Fe):Fe:=⟨a.a0+(4503599627370458-b.a0),a.a1+(4503599627370494-b.a1),a.a2+(4503599627370494-b.a2),a.a3+(4503599627370494-b.a3),a.a4+(4503599627370494-b.a4)⟩
theorem rC {n:Nat} (h:n<18446744073709551616):bits .and .u64 (n:Int) 2251799813685247=((n%2251799813685248:Nat):Int):=by
 have h2:(2251799813685247:Nat)=2^51-1:=by decide
 have:=u64_and_nat n 2251799813685247 h (by decide);rw[show((2251799813685247:Nat):Int)=2251799813685247 from rfl]at this;rw[this,h2,Nat.and_two_pow_sub_one_eq_mod]
theorem qJ (n:Nat):(n:Int).fdiv 2251799813685248=((n/2251799813685248:Nat):Int):=by
 rw[show(2251799813685248:Int)=((2251799813685248:Nat):Int) from rfl,JgZ _ (JkV _),←JlV]
theorem z5:zr 5 (PV.int IntKind.u64 0)=[.int .u64 0,.int .u64 0,.int .u64 0,.int .u64 0,.int .u64 0]:=by rw[cg];rfl
theorem wV {a:Fe} (h:a.Le 18446744073709551615):aK Pg 330 [gG a] (gG (sU a)):=by
 refine ae.intro (aC R.ly.2) (by simp[R.ly]) ?_;obtain⟨a0,a1,a2,a3,a4⟩:=a;obtain⟨h0,h1,h2,h3,h4⟩:=h;dsimp only at h0 h1 h2 h3 h4;have n0:=rC (n:=a0) (by omega);have n1:=rC (n:=a1) (by omega);have n2:=rC (n:=a2) (by omega);have n3:=rC (n:=a3) (by omega);have n4:=rC (n:=a4) (by omega);have s0:=qJ a0;have s1:=qJ a1;have s2:=qJ a2;have s3:=qJ a3;have s4:=qJ a4;simp only[sU];have b0:a0%2251799813685248<2251799813685248:=JdZ _ (by decide);have b1:a1%2251799813685248<2251799813685248:=JdZ _ (by decide);have b2:a2%2251799813685248<2251799813685248:=JdZ _ (by decide);have b3:a3%2251799813685248<2251799813685248:=JdZ _ (by decide);have b4:a4%2251799813685248<2251799813685248:=JdZ _ (by decide);have d0:a0/2251799813685248≤8192:=by omega
 have d1:a1/2251799813685248≤8192:=by omega
 have d2:a2/2251799813685248≤8192:=by omega
 have d3:a3/2251799813685248≤8192:=by omega
 have d4:a4/2251799813685248≤8192:=by omega
 generalize a0%2251799813685248=r0 at*;generalize a1%2251799813685248=r1 at*;generalize a2%2251799813685248=r2 at*;generalize a3%2251799813685248=r3 at*;generalize a4%2251799813685248=r4 at*;generalize a0/2251799813685248=q0 at*;generalize a1/2251799813685248=q1 at*;generalize a2/2251799813685248=q2 at*;generalize a3/2251799813685248=q3 at*;generalize a4/2251799813685248=q4 at*;have w4:IntKind.u64.wrap (19*(q4:Int))=19*q4:=wrap_u64 ⟨by omega,by omega⟩;have v0:IntKind.u64.wrap ((r0:Int)+19*q4)=r0+19*q4:=wrap_u64 ⟨by omega,by omega⟩;have v1:IntKind.u64.wrap ((r1:Int)+q0)=r1+q0:=wrap_u64 ⟨by omega,by omega⟩;have v2:IntKind.u64.wrap ((r2:Int)+q1)=r2+q1:=wrap_u64 ⟨by omega,by omega⟩;have v3:IntKind.u64.wrap ((r3:Int)+q2)=r3+q2:=wrap_u64 ⟨by omega,by omega⟩;have v4:IntKind.u64.wrap ((r4:Int)+q3)=r4+q3:=wrap_u64 ⟨by omega,by omega⟩;simp[R.ly,aj,av,gG,Fe.l,z5,show IntKind.u64.bits=64 from rfl,n0,n1,n2,n3,n4,s0,s1,s2,s3,s4,w4,v0,v1,v2,v3,v4];refine aA.plain [.keep [2],.dr 1] ?_;simp
def Kg (c a:Fe) (i:Nat):List PV:=c.l.take i++a.l.drop i
theorem NK {a b:Fe} (ha:a.Le 9223372036854775807) (hb:b.Le 9223372036854775807):aK Pg 262 [gG a,gG b] (gG (qW a b)):=by
 refine ae.intro (aC R.pd.2) (by simp[R.pd]) ?_;obtain⟨a0,a1,a2,a3,a4⟩:=a;obtain⟨b0,b1,b2,b3,b4⟩:=b;obtain⟨h0,h1,h2,h3,h4⟩:=ha;obtain⟨g0,g1,g2,g3,g4⟩:=hb;dsimp only at h0 h1 h2 h3 h4 g0 g1 g2 g3 g4;have v0:IntKind.u64.wrap ((a0:Int)+b0)=a0+b0:=wrap_u64 ⟨by omega,by omega⟩;have v1:IntKind.u64.wrap ((a1:Int)+b1)=a1+b1:=wrap_u64 ⟨by omega,by omega⟩;have v2:IntKind.u64.wrap ((a2:Int)+b2)=a2+b2:=wrap_u64 ⟨by omega,by omega⟩;have v3:IntKind.u64.wrap ((a3:Int)+b3)=a3+b3:=wrap_u64 ⟨by omega,by omega⟩;have v4:IntKind.u64.wrap ((a4:Int)+b4)=a4+b4:=wrap_u64 ⟨by omega,by omega⟩;simp[R.pd,aj,av,gG,Fe.l,qW];refine eW.fD 5 (λ_=>True) [2,3,4,6] (λi=>[(6,.int .i64 i)]) (λi=>[(2,.box (.ar 1 5 (Kg (qW ⟨a0,a1,a2,a3,a4⟩ ⟨b0,b1,b2,b3,b4⟩) ⟨a0,a1,a2,a3,a4⟩ i)))]) [.keep [2,3,4,6]] ?_;simp[Kg,Fe.l,qW];refine⟨λi hi K hK=> ?_,λK=> ?_⟩
 ·rcases(by omega:i=0∨i=1∨i=2∨i=3∨i=4)with rfl|rfl|rfl|rfl|rfl
  all_goals
   simp[↓al,v0,v1,v2,v3,v4]at hK⊢
   refine⟨[.keep [2,3,4,6]],?_⟩
   simp
   exact hK _ (by simp)
 ·simp[↓al];refine aA.plain [.keep [4],.dr 2,.dr 3] ?_;simp
theorem NL {a b:Fe} (ha:a.Le 9223372036854775807) (hb:b.Le 4503599627370458):aK Pg 263 [gG a,gG b] (gG (pJ a b)):=by
 refine ae.intro (aC R.pg.2) (by simp[R.pg]) ?_;obtain⟨a0,a1,a2,a3,a4⟩:=a;obtain⟨b0,b1,b2,b3,b4⟩:=b;obtain⟨h0,h1,h2,h3,h4⟩:=ha;obtain⟨g0,g1,g2,g3,g4⟩:=hb;dsimp only at h0 h1 h2 h3 h4 g0 g1 g2 g3 g4;have u0:IntKind.u64.wrap (4503599627370458-(b0:Int))=((4503599627370458-b0:Nat):Int):=by rw[wrap_u64 ⟨by omega,by omega⟩];omega
 have u1:IntKind.u64.wrap (4503599627370494-(b1:Int))=((4503599627370494-b1:Nat):Int):=by rw[wrap_u64 ⟨by omega,by omega⟩];omega
 have u2:IntKind.u64.wrap (4503599627370494-(b2:Int))=((4503599627370494-b2:Nat):Int):=by rw[wrap_u64 ⟨by omega,by omega⟩];omega
 have u3:IntKind.u64.wrap (4503599627370494-(b3:Int))=((4503599627370494-b3:Nat):Int):=by rw[wrap_u64 ⟨by omega,by omega⟩];omega
 have u4:IntKind.u64.wrap (4503599627370494-(b4:Int))=((4503599627370494-b4:Nat):Int):=by rw[wrap_u64 ⟨by omega,by omega⟩];omega
 have e:pJ ⟨a0,a1,a2,a3,a4⟩ ⟨b0,b1,b2,b3,b4⟩=⟨a0+(4503599627370458-b0),a1+(4503599627370494-b1),a2+(4503599627370494-b2),a3+(4503599627370494-b3),a4+(4503599627370494-b4)⟩:=rfl;rw[e];have l0:4503599627370458-b0≤4503599627370458:=Nat.sub_le _ _;have l1:4503599627370494-b1≤4503599627370494:=Nat.sub_le _ _;have l2:4503599627370494-b2≤4503599627370494:=Nat.sub_le _ _;have l3:4503599627370494-b3≤4503599627370494:=Nat.sub_le _ _;have l4:4503599627370494-b4≤4503599627370494:=Nat.sub_le _ _;clear e;generalize 4503599627370458-b0=c0 at*;generalize 4503599627370494-b1=c1 at*;generalize 4503599627370494-b2=c2 at*;generalize 4503599627370494-b3=c3 at*;generalize 4503599627370494-b4=c4 at*;have v0:IntKind.u64.wrap ((a0:Int)+c0)=a0+c0:=wrap_u64 ⟨by omega,by omega⟩;have v1:IntKind.u64.wrap ((a1:Int)+c1)=a1+c1:=wrap_u64 ⟨by omega,by omega⟩;have v2:IntKind.u64.wrap ((a2:Int)+c2)=a2+c2:=wrap_u64 ⟨by omega,by omega⟩;have v3:IntKind.u64.wrap ((a3:Int)+c3)=a3+c3:=wrap_u64 ⟨by omega,by omega⟩;have v4:IntKind.u64.wrap ((a4:Int)+c4)=a4+c4:=wrap_u64 ⟨by omega,by omega⟩;simp[R.pg,aj,av,gG,Fe.l,u0,v0];refine eW.fD 4 (λ_=>True) [2,3,4,5] (λi=>[(5,.int .i64 ((i+1:Nat):Int))]) (λi=>[(2,.box (.ar 1 5 (Kg ⟨a0+c0,a1+c1,a2+c2,a3+c3,a4+c4⟩ ⟨a0+c0,a1,a2,a3,a4⟩ (i+1))))]) [.keep [2,3,4,5]] ?_;simp[Kg,Fe.l];refine⟨λi hi K hK=> ?_,λK=> ?_⟩
 ·rcases(by omega:i=0∨i=1∨i=2∨i=3)with rfl|rfl|rfl|rfl
  all_goals
   simp[↓al,u1,u2,u3,u4,v1,v2,v3,v4]at hK⊢
   refine⟨[.keep [2,3,4,5]],?_⟩
   simp
   exact hK _ (by simp)
 ·simp[↓al];refine aA.plain [.keep [4],.dr 2,.dr 3] ?_;simp
theorem ff.three {Γ:Cx} {k:IntKind} {x y c:Int} {vs:List Value} (h:ff Γ [.int k x,.int k y,.int k c] vs):vs=[.int k x,.int k y,.int k c]:=by
 match vs,h with
 |
  [a,b,d],h=>
  simp only[ff]at h
  rw[h.1.int,h.2.1.int,h.2.2.1.int]
 |[],h=>simp[ff]at h
 |[_],h=>simp[ff]at h
 |[_,_],h=>simp[ff]at h
 |_::_::_::_::_,h=>simp[ff]at h
theorem aK.pair {f:FuncId} {x y c a b:Int} (h:∀w,(callFunc f #[.int .u64 x,.int .u64 y,.int .u64 c]).run Pg w= .ok (.value (.tuple #[.int .u64 a,.int .u64 b])) w):
  aK Pg f [.int .u64 x,.int .u64 y,.int .u64 c] (.tup [.int .u64 a,.int .u64 b]):=by
 intro Γ w vs hw hm lK hA;rw[hA.three];exact .inr ⟨_,w,h w,_,_,[],Γ,rfl,⟨rfl,rfl⟩,hw,hm,lK,⟨[.int .u64 a,.int .u64 b],rfl,.int _ _ .nil,.int _ _ .nil,trivial⟩,Le.refl Γ,WF.refl w⟩
theorem bits_Add64 (x y c:Nat) (hc:c≤1):
  aK Pg 362 [.int .u64 x,.int .u64 y,.int .u64 c] (.tup [.int .u64 (((x+y+c)%18446744073709551616:Nat):Int),.int .u64 (((x+y+c)/18446744073709551616:Nat):Int)]):=by
 refine aK.pair λw=> ?_;rw[run_callFunc_extern (fn:=(Pg.funcs[362]?).getD default) (by kernel_rfl) (by kernel_rfl) (by kernel_rfl) (by kernel_rfl) (e:=add64Entry) (by kernel_rfl),run_add64 x y c (by omega) (by omega) (by omega) (by omega)];congr 3
def LI (x y:Int):Int:=IntKind.u64.wrap
    (IntKind.u64.wrap
      (IntKind.u64.wrap (x.fdiv (2^min 32 IntKind.u64.bits)*y.fdiv (2^min 32 IntKind.u64.bits))+
       (IntKind.u64.wrap
          (IntKind.u64.wrap (x.fdiv (2^min 32 IntKind.u64.bits)*bits BinOp.and IntKind.u64 y 4294967295)+
           (IntKind.u64.wrap
              (bits BinOp.and IntKind.u64 x 4294967295*bits BinOp.and IntKind.u64 y 4294967295)).fdiv
            (2^min 32 IntKind.u64.bits))).fdiv
        (2^min 32 IntKind.u64.bits))+
     (IntKind.u64.wrap
        (bits BinOp.and IntKind.u64
          (IntKind.u64.wrap
           (IntKind.u64.wrap
             (x.fdiv (2^min 32 IntKind.u64.bits)*bits BinOp.and IntKind.u64 y 4294967295)+
            (IntKind.u64.wrap
               (bits BinOp.and IntKind.u64 x 4294967295*bits BinOp.and IntKind.u64 y 4294967295)).fdiv
             (2^min 32 IntKind.u64.bits)))
          4294967295+
         IntKind.u64.wrap
          (bits BinOp.and IntKind.u64 x 4294967295*y.fdiv (2^min 32 IntKind.u64.bits)))).fdiv
      (2^min 32 IntKind.u64.bits))
theorem Q4 {n:Nat} (h:n<18446744073709551616):bits .and .u64 (n:Int) 4294967295=((n%4294967296:Nat):Int):=by
 have h2:(4294967295:Nat)=2^32-1:=by decide
 have:=u64_and_nat n 4294967295 h (by decide);rw[show((4294967295:Nat):Int)=4294967295 from rfl]at this;rw[this,h2,Nat.and_two_pow_sub_one_eq_mod]
theorem Is (n:Nat):(n:Int).fdiv (2^min 32 IntKind.u64.bits)=((n/4294967296:Nat):Int):=by
 rw[show((2:Int)^min 32 IntKind.u64.bits)=((4294967296:Nat):Int) from rfl,JgZ _ (JkV _),←JlV]
theorem vp {n:Nat} (h:n<18446744073709551616):IntKind.u64.wrap (n:Int)=n:=wrap_u64 ⟨by omega,by omega⟩
theorem auu (p q r s:Nat):(p*4294967296+q)*(r*4294967296+s)=p*r*18446744073709551616+(p*s+q*r)*4294967296+q*s:=by
 have h1:p*4294967296*(r*4294967296)=p*r*18446744073709551616:=by rw[Nat.mul_mul_mul_comm]
 have h2:p*4294967296*s=p*s*4294967296:=Nat.mul_right_comm _ _ _;have h3:q*(r*4294967296)=q*r*4294967296:=(Nat.mul_assoc _ _ _).symm;rw[JgQ,Nat.mul_add,Nat.mul_add,h1,h2,h3];omega
theorem Q5 {x y:Nat} (hx:x<18446744073709551616) (hy:y<18446744073709551616):LI x y=((x*y/18446744073709551616:Nat):Int):=by
 unfold LI;rw[Q4 hx,Q4 hy,Is x,Is y];have ex:x=x/4294967296*4294967296+x%4294967296:=by omega
 have ey:y=y/4294967296*4294967296+y%4294967296:=by omega
 have a1:x/4294967296≤4294967295:=by omega
 have a0:x%4294967296≤4294967295:=by omega
 have b1:y/4294967296≤4294967295:=by omega
 have b0:y%4294967296≤4294967295:=by omega
 have e:x*y=x/4294967296*(y/4294967296)*18446744073709551616+(x/4294967296*(y%4294967296)+x%4294967296*(y/4294967296))*4294967296+x%4294967296*(y%4294967296):=by
  have:=auu (x/4294967296) (x%4294967296) (y/4294967296) (y%4294967296);rw[←ex,←ey]at this;exact this
 have p11:x/4294967296*(y/4294967296)≤4294967295*4294967295:=JhJ a1 b1;have p10:x/4294967296*(y%4294967296)≤4294967295*4294967295:=JhJ a1 b0;have p01:x%4294967296*(y/4294967296)≤4294967295*4294967295:=JhJ a0 b1;have p00:x%4294967296*(y%4294967296)≤4294967295*4294967295:=JhJ a0 b0;simp only[←JqZ];rw[e];generalize x/4294967296*(y/4294967296)=m11 at*;generalize x/4294967296*(y%4294967296)=m10 at*;generalize x%4294967296*(y/4294967296)=m01 at*;generalize x%4294967296*(y%4294967296)=m00 at*;clear e ex ey a1 a0 b1 b0;have t0:m10+m00/4294967296<18446744073709551616:=by omega
 have t1:(m10+m00/4294967296)%4294967296+m01<18446744073709551616:=by omega
 rw[vp (by omega:m11<_),vp (by omega:m10<_),vp (by omega:m00<_),vp (by omega:m01<_),Is m00,←Int.natCast_add,vp t0,Q4 t0,Is,←Int.natCast_add,←Int.natCast_add,vp t1,Is,vp (by omega),←Int.natCast_add,vp (by omega)];omega
theorem It (x y:Int):aK Pg 361 [.int .u64 x,.int .u64 y] (.tup [.int .u64 (LI x y),.int .u64 (IntKind.u64.wrap (x*y))]):=by
 refine ae.intro (aC R.pj.2) (by simp[R.pj]) ?_;simp[R.pj,aj,av];refine aA.plain [] ?_;simp[LI]
theorem wrN (n:Nat):IntKind.u64.wrap (n:Int)=((n%18446744073709551616:Nat):Int):=by
 simp[IntKind.wrap,IntKind.bits,IntKind.signed]
theorem bits_Mul64 {x y:Nat} (hx:x<18446744073709551616) (hy:y<18446744073709551616):aK Pg 361 [.int .u64 x,.int .u64 y] (.tup [.int .u64 ((x*y/18446744073709551616:Nat):Int),.int .u64 ((x*y%18446744073709551616:Nat):Int)]):=by
 have h:=It x y;rw[Q5 hx hy,←JqZ,wrN]at h;exact h
def lg (n:Nat):PV:= .st 2 [.int .u64 ((n/18446744073709551616:Nat):Int),.int .u64 ((n%18446744073709551616:Nat):Int)]
@[simp] theorem adl (n:Nat):Pure (lg n):=by simp[lg]
@[simp] theorem amI (n:Nat):wk (lg n)=lg n:=by simp[lg]
theorem DD {w a b:Nat} (ha:a<18446744073709551616) (hb:b<18446744073709551616) (h:w+a*b<340282366920938463463374607431768211456):aK Pg 329 [lg w,.int .u64 a,.int .u64 b] (lg (w+a*b)):=by
 refine ae.intro (aC R.pk.2) (by simp[R.pk]) ?_;have hm:=bits_Mul64 ha hb
 have e:lg (w+a*b)= .st 2 [.int .u64 (((a*b/18446744073709551616+w/18446744073709551616+(a*b%18446744073709551616+w%18446744073709551616+0)/18446744073709551616)%18446744073709551616:Nat):Int),.int .u64 (((a*b%18446744073709551616+w%18446744073709551616+0)%18446744073709551616:Nat):Int)]:=by
  have e1:(w+a*b)/18446744073709551616=(a*b/18446744073709551616+w/18446744073709551616+(a*b%18446744073709551616+w%18446744073709551616+0)/18446744073709551616)%18446744073709551616:=by
   generalize a*b=t at*;omega
  have e2:(w+a*b)%18446744073709551616=(a*b%18446744073709551616+w%18446744073709551616+0)%18446744073709551616:=by
   generalize a*b=t at*;omega
  rw[lg,e1,e2]
 rw[e];have hc:(a*b%18446744073709551616+w%18446744073709551616+0)/18446744073709551616≤1:=by omega
 have k1:=bits_Add64 (a*b%18446744073709551616) (w%18446744073709551616) 0 (by omega);have k2:=bits_Add64 (a*b/18446744073709551616) (w/18446744073709551616) _ hc;unfold lg;clear e h;generalize a*b/18446744073709551616=m1 at*;generalize a*b%18446744073709551616=m0 at*;generalize w/18446744073709551616=w1 at*;generalize w%18446744073709551616=w0 at*;generalize (m0+w0+0)/18446744073709551616=c at*;generalize (m0+w0+0)%18446744073709551616=lo at*;generalize (m1+w1+c)%18446744073709551616=hi at*;generalize (m1+w1+c)/18446744073709551616=c2 at*;simp[R.pk,aj,av];refine ai.rA hm ?_;simp;refine ai.rA k1 ?_;simp;refine ai.rA k2 ?_;simp;refine aA.plain [.keep [6],.dr 3] ?_;simp
def Fe.n (a:Fe):List Nat:=[a.a0,a.a1,a.a2,a.a3,a.a4]
theorem Fe.amJ (a:Fe):a.n.length=5:=rfl
theorem Fe.LJ (a:Fe):gG a= .ar 1 5 (a.n.map λx:Nat=>PV.int .u64 x):=rfl
theorem Fe.Le.Q6 {a:Fe} {m:Nat} (h:a.Le m) {i:Nat} (hi:i<5):∃x,a.n[i]? =some x∧x≤m:=by
 rcases(by omega:i=0∨i=1∨i=2∨i=3∨i=4)with rfl|rfl|rfl|rfl|rfl
 ·exact⟨_,rfl,h.h0⟩
 ·exact⟨_,rfl,h.h1⟩
 ·exact⟨_,rfl,h.h2⟩
 ·exact⟨_,rfl,h.h3⟩
 ·exact⟨_,rfl,h.h4⟩
def Gs (x y i j:Nat) (S:List Nat):List Nat:=if i+j<5 then S.set (i+j) (S.getD (i+j) 0+x*y)else S.set (i+j-5) (S.getD (i+j-5) 0+19*x*y)
def Gx (b:Fe) (x i:Nat):Nat->List Nat->List Nat
 |0,S=>S
 |j+1,S=>Gs x (b.n.getD j 0) i j (Gx b x i j S)
def wI (a b:Fe):Nat->List Nat
 |0=>[0,0,0,0,0]
 |i+1=>Gx b (a.n.getD i 0) i 5 (wI a b i)
structure Ja (S:List Nat) (m:Nat):Prop where
 len:S.length=5
 le:∀s∈S,s≤m
theorem Ja.get {S:List Nat} {m:Nat} (h:Ja S m) {k:Nat} (hk:k<5):∃s,S[k]? =some s∧s≤m:=by
 have Sf:k<S.length:=by have:=h.len;omega
 exact⟨S[k],gJ Sf,h.le _ (JbQ Sf)⟩
theorem Ja.Gs {S:List Nat} {m n x y i j:Nat} (h:Ja S m) (KI:19*x*y≤n):Ja (Gs x y i j S) (m+n):=by
 have awo:x*y≤n:=by
  refine JeW ?_ KI;rw[Nat.mul_assoc];omega
 have key:∀k v,v≤n->Ja (S.set k (S.getD k 0+v)) (m+n):=by
  intro k v hv;refine⟨by rw[JlJ];exact h.len,λs hs=> ?_⟩;rcases JhX hs with hs|rfl
  ·have:=h.le s hs;omega
  ·have:S.getD k 0≤m:=by
    rw[JaV];cases hk:S[k]?with
    |none=>simp
    |some s=>simpa using h.le s (JeQ hk)
   omega
 unfold Go.Ab.Gs;split
 ·exact key _ _ awo
 ·exact key _ _ KI
theorem Fe.Le.LK {a:Fe} {m:Nat} (h:a.Le m) (i:Nat):a.n.getD i 0≤m:=by
 rw[JaV];by_cases hi:i<5
 ·obtain⟨x,hx,hle⟩:=Fe.Le.Q6 h hi;rw[hx];exact hle
 ·rw[List.getElem?_eq_none (by rw[Fe.amJ];omega)];simp
theorem Ja.row {S:List Nat} {b:Fe} {m c x i:Nat} (h:Ja S m) (hb:b.Le c) (j:Nat):Ja (Gx b x i j S) (m+j*(19*x*c)):=by
 induction j with
 |zero=>simpa[Gx]using h
 |
  succ j ih=>
  have:=ih.Gs (n:=19*x*c) (x:=x) (y:=b.n.getD j 0) (i:=i) (j:=j) (JmV _ (hb.LK j))
  rw[Nat.add_one_mul,←Nat.add_assoc]
  exact this
theorem Ja.sum {a b:Fe} {ca cb:Nat} (ha:a.Le ca) (hb:b.Le cb) (i:Nat):Ja (wI a b i) (i*(5*(19*ca*cb))):=by
 induction i with
 |zero=>exact⟨rfl,by simp[wI]⟩
 |
  succ i ih=>
  have h:=ih.row (x:=a.n.getD i 0) (i:=i) hb 5
  refine⟨h.len,λs hs=>JeW (h.le s hs) ?_⟩
  have:19*a.n.getD i 0*cb≤19*ca*cb:=JcV _ (JmV _ (ha.LK i))
  rw[Nat.add_one_mul i (5*(19*ca*cb))]
  generalize i*(5*(19*ca*cb))=q
  omega
def Gy (S:List Nat):Fe:=⟨S.getD 0 0%2251799813685248+19*(S.getD 4 0/2251799813685248),S.getD 1 0%2251799813685248+S.getD 0 0/2251799813685248,S.getD 2 0%2251799813685248+S.getD 1 0/2251799813685248,S.getD 3 0%2251799813685248+S.getD 2 0/2251799813685248,S.getD 4 0%2251799813685248+S.getD 3 0/2251799813685248⟩
def gj (a b:Fe):Fe:=sU (Gy (wI a b 5))
@[simp] theorem ZS (n:Nat):(lg n).width=2:=_root_.id rfl
@[simp] theorem ahE (n:Nat):(lg n).isAgg=true:=rfl
@[simp] theorem adm (n:Nat):(lg n).aT=true:=rfl
@[simp] theorem adn (n:Nat):(lg n).flat=true:=rfl
@[simp↓] theorem ahF (g:Bool) (n:Nat) (K:PV->Prop):ed g (lg n) K=K (lg n):=_root_.id rfl
def loN (n:Nat):Int:=((n%18446744073709551616:Nat):Int)
def hiN (n:Nat):Int:=((n/18446744073709551616:Nat):Int)
@[simp↓] theorem Wj (n:Nat) (r:List Step):aM (lg n) (.f 0 0::r)=aM (.int .u64 (hiN n)) r:=by simp[lg,hiN]
@[simp↓] theorem Wk (n:Nat) (r:List Step):aM (lg n) (.f 1 1::r)=aM (.int .u64 (loN n)) r:=by simp[lg,loN,aB]
theorem Q7 (n:Nat):bits .and .u64 (loN n) 2251799813685247=((n%2251799813685248:Nat):Int):=by
 unfold loN;rw[rC (JdZ _ (by decide)),Nat.mod_mod_of_dvd _ (by decide)]
theorem Q8 {n:Nat} (h:n<41538374868278621028243970633760768):bits .or .u64 (IntKind.u64.wrap (hiN n*8192)) ((loN n).fdiv 2251799813685248)=((n/2251799813685248:Nat):Int):=by
 unfold hiN loN;have h1:n/18446744073709551616*8192<18446744073709551616:=by omega
 have e1:IntKind.u64.wrap (((n/18446744073709551616:Nat):Int)*8192)=((n/18446744073709551616*8192:Nat):Int):=by
  rw[show((n/18446744073709551616:Nat):Int)*8192=((n/18446744073709551616*8192:Nat):Int) by simp];exact vp h1
 have h2:n%18446744073709551616/2251799813685248<8192:=by omega
 have h3:n/18446744073709551616*8192%2^13=0:=JtJ _ _;rw[e1,qJ,u64_or_nat _ _ h1 (by omega),nat_join 13 _ _ h3 h2];congr 1;omega
def LL (S:List Nat):PV:= .ar 2 5 (S.map lg)
def qK:Nat:=9007199254740992
theorem Wl:33*(19*qK*qK)<340282366920938463463374607431768211456:=by decide
theorem ado:19*qK<18446744073709551616:=by decide
theorem Ja.big {R:List Nat} {i j x:Nat} (h:Ja R (i*(5*(19*qK*qK))+j*(19*x*qK))) (hi:i<5) (hj:j<5) (hx:x≤qK):Ja R (32*(19*qK*qK)):=by
 refine⟨h.len,λs hs=>JeW (h.le s hs) ?_⟩;have KI:19*x*qK≤19*qK*qK:=JcV _ (JmV _ hx);have h1:i*(5*(19*qK*qK))≤4*(5*(19*qK*qK)):=JcV _ (by omega);have h2:j*(19*x*qK)≤4*(19*qK*qK):=JhJ (by omega) KI;generalize i*(5*(19*qK*qK))=u at*;generalize j*(19*x*qK)=v at*;generalize 19*qK*qK=w at*;omega
theorem Q9 (a b:Fe):wI a b 5=[0+a.a0*b.a0+19*a.a1*b.a4+19*a.a2*b.a3+19*a.a3*b.a2+19*a.a4*b.a1,
  0+a.a0*b.a1+a.a1*b.a0+19*a.a2*b.a4+19*a.a3*b.a3+19*a.a4*b.a2,
  0+a.a0*b.a2+a.a1*b.a1+a.a2*b.a0+19*a.a3*b.a4+19*a.a4*b.a3,
  0+a.a0*b.a3+a.a1*b.a2+a.a2*b.a1+a.a3*b.a0+19*a.a4*b.a4,
  0+a.a0*b.a4+a.a1*b.a3+a.a2*b.a2+a.a3*b.a1+a.a4*b.a0]:=by
 simp[wI,Gx,Gs,Fe.n]
theorem ZT:5*(5*(19*qK*qK))<38536578246938173805499777443430401:=by decide
theorem amK {a b:Fe} (ha:a.Le qK) (hb:b.Le qK) {s:Nat} (h:(wI a b 5)[4]? =some s):s/2251799813685248≤180143985094819840:=by
 rw[Q9]at h;obtain rfl:=Option.some.inj h;have h1:=JhJ ha.h0 hb.h4;have h2:=JhJ ha.h1 hb.h3;have h3:=JhJ ha.h2 hb.h2;have h4:=JhJ ha.h3 hb.h1;have h5:=JhJ ha.h4 hb.h0;have hC:qK*qK=81129638414606681695789005144064:=by decide
 rw[hC]at h1 h2 h3 h4 h5;generalize a.a0*b.a4=t1 at*;generalize a.a1*b.a3=t2 at*;generalize a.a2*b.a2=t3 at*;generalize a.a3*b.a1=t4 at*;generalize a.a4*b.a0=t5 at*;show(0+t1+t2+t3+t4+t5)/2251799813685248≤_;omega
theorem cG {a b:Fe} (ha:a.Le qK) (hb:b.Le qK):aK Pg 264 [gG a,gG b] (gG (gj a b)):=by
 refine ae.intro T.jA (by simp[F.jA]) ?_;have zw:zr 5 (PV.st 2 [.int .u64 0,.int .u64 0])=(wI a b 0).map lg:=by rw[cg];rfl
 have hS0:=λi=>Ja.sum ha hb i;have XD:=Wl;have h64:=ado;simp[F.jA,aj,av,Fe.LJ,zw];refine eW.fD 5 (λ_=>True) [2,3,4,5,14,15] (λi=>[(15,.int .i64 i)]) (λi=>[(5,.box (LL (wI a b i)))]) [.keep [2,3,4,5,14,15]] ?_;simp[LL];refine⟨λi hi K hK=> ?_,λK=> ?_⟩
 ·obtain⟨x,hx,hxl⟩:=ha.Q6 hi;have hxd:a.n.getD i 0=x:=by rw[JaV,hx];rfl
  have hi5:(i:Int)<5:=by omega
  simp only[wI,hxd]at hK;have hS:=hS0 i;generalize wI a b i=S at*;simp[↓al,hx,hi5,-getElem?_pos];refine eW.fD 5 (λ_=>True) [2,3,4,5,6,7,14,15,19,20] (λj=>[(20,.int .i64 j)]) (λj=>[(5,.box (LL (Gx b x i j S)))]) [.keep [2,3,4,5,6,7,14,15,19,20]] ?_;simp[LL,Gx];refine⟨λj hj K2 sr=> ?_,λK2=> ?_⟩
  ·obtain⟨y,hy,Tl⟩:=hb.Q6 hj;have hj5:(j:Int)<5:=by omega
   have hR:=(hS.row (x:=x) (i:=i) hb j).big hi hj hxl;have Jd:x*y≤qK*qK:=JhJ hxl Tl;have su:19*x*y≤19*qK*qK:=JhJ (JmV _ hxl) Tl;have hp3:x*y≤19*x*y:=by rw[Nat.mul_assoc];omega
   have aAM:19*x<18446744073709551616:=JfV (JmV _ hxl) h64;have aoP:y<18446744073709551616:=by omega
   have hw:IntKind.i64.wrap ((i:Int)+j)=((i+j:Nat):Int):=by rw[wrap_i64 (by omega)];omega
   have Fx:IntKind.i64.wrap ((j:Int)+1)=(j:Int)+1:=wrap_i64 (by omega);rw[hy]at sr;generalize Gx b x i j S=R at*;have hgd:(Option.some y).getD 0=y:=rfl;rw[hgd]at sr;clear hS0 hS hK Jd;generalize 19*qK*qK=c at*;by_cases Ha:i+j<5
   ·obtain⟨s,hs,EA⟩:=hR.get Ha
    have qT:Gs x y i j R=R.set (i+j) (s+x*y):=by
     unfold Gs;rw[if_pos Ha,JaV,hs];rfl
    have XK:((i+j:Nat):Int)<5:=by omega
    have hc:=DD (w:=s) (a:=x) (b:=y) (by omega) aoP (by omega);rw[qT,JfJ]at sr;simp[↓al,hy,hj5,hw,XK,hs,-getElem?_pos,-Int.natCast_add];refine ai.rA hc ?_;simp[hs,Fx,-getElem?_pos,-Int.natCast_add];refine⟨XK,[.keep [2,3,4,5,6,7,14,15,19,20]],?_⟩;simp;exact sr _ (by simp)
   ·have hk:i+j-5<5:=by omega
    obtain⟨s,hs,EA⟩:=hR.get hk
    have qT:Gs x y i j R=R.set (i+j-5) (s+19*x*y):=by
     unfold Gs;rw[if_neg Ha,JaV,hs];rfl
    have XK:¬((i+j:Nat):Int)<5:=by omega
    have hw5:IntKind.i64.wrap (((i+j:Nat):Int)-5)=((i+j-5:Nat):Int):=by rw[wrap_i64 (by omega)];omega
    have awp:IntKind.u64.wrap (19*(x:Int))=((19*x:Nat):Int):=by rw[wrap_u64 ⟨by omega,by omega⟩];omega
    have hc:=DD (w:=s) (a:=19*x) (b:=y) (by omega) aoP (by omega);rw[qT,JfJ]at sr;generalize 19*x*y=t at*;generalize 19*x=x19 at*;generalize i+j-5=k at*;have hk5:(k:Int)<5:=by omega
    simp[↓al,hy,hj5,hw,XK,hk5,hw5,awp,hs,-getElem?_pos,-Int.natCast_add];refine ai.rA hc ?_;simp[hs,Fx,-getElem?_pos,-Int.natCast_add];refine⟨hk5,[.keep [2,3,4,5,6,7,14,15,19,20]],?_⟩;simp;exact sr _ (by simp)
  ·have Fx:IntKind.i64.wrap ((i:Int)+1)=(i:Int)+1:=wrap_i64 (by omega);simp[↓al,Fx];refine⟨[.keep [2,3,4,5,14,15]],?_⟩;simp;exact hK _ (by simp[Gx])
 ·have hS5:=hS0 5;have hm:gj a b=sU (Gy (wI a b 5)):=rfl;rw[←Fe.LJ,←Fe.LJ,←Fe.LJ,hm];have hq4:=λs=> @amK a b ha hb s;generalize wI a b 5=S at*;obtain⟨hl,hle⟩:=hS5;match S,hl with
  |[s0,s1,s2,s3,s4],_=>
  have OM:=ZT;have g0:=JfV (hle s0 (by simp)) OM;have g1:=JfV (hle s1 (by simp)) OM;have g2:=JfV (hle s2 (by simp)) OM;have g3:=JfV (hle s3 (by simp)) OM;have g4:=JfV (hle s4 (by simp)) OM;have q4b:=hq4 s4 rfl;have l0:=Q7 s0;have l1:=Q7 s1;have l2:=Q7 s2;have l3:=Q7 s3;have l4:=Q7 s4;have u0:=Q8 (n:=s0) (by omega);have u1:=Q8 (n:=s1) (by omega);have u2:=Q8 (n:=s2) (by omega);have u3:=Q8 (n:=s3) (by omega);have u4:=Q8 (n:=s4) (by omega);have Og:Gy [s0,s1,s2,s3,s4]=⟨s0%2251799813685248+19*(s4/2251799813685248),s1%2251799813685248+s0/2251799813685248,s2%2251799813685248+s1/2251799813685248,s3%2251799813685248+s2/2251799813685248,s4%2251799813685248+s3/2251799813685248⟩:=rfl;rw[Og];have b0:s0%2251799813685248<2251799813685248:=JdZ _ (by decide);have b1:s1%2251799813685248<2251799813685248:=JdZ _ (by decide);have b2:s2%2251799813685248<2251799813685248:=JdZ _ (by decide);have b3:s3%2251799813685248<2251799813685248:=JdZ _ (by decide);have b4:s4%2251799813685248<2251799813685248:=JdZ _ (by decide);have d0:s0/2251799813685248<18446744073709551616-2251799813685248:=by omega
  have d1:s1/2251799813685248<18446744073709551616-2251799813685248:=by omega
  have d2:s2/2251799813685248<18446744073709551616-2251799813685248:=by omega
  have d3:s3/2251799813685248<18446744073709551616-2251799813685248:=by omega
  clear hq4 hle g0 g1 g2 g3 g4 Og OM hm hS0;generalize s0%2251799813685248=r0 at*;generalize s1%2251799813685248=r1 at*;generalize s2%2251799813685248=r2 at*;generalize s3%2251799813685248=r3 at*;generalize s4%2251799813685248=r4 at*;generalize s0/2251799813685248=q0 at*;generalize s1/2251799813685248=q1 at*;generalize s2/2251799813685248=q2 at*;generalize s3/2251799813685248=q3 at*;generalize s4/2251799813685248=q4 at*;have w19:IntKind.u64.wrap (19*(q4:Int))=19*q4:=wrap_u64 ⟨by omega,by omega⟩;have v0:IntKind.u64.wrap ((r0:Int)+19*q4)=r0+19*q4:=wrap_u64 ⟨by omega,by omega⟩;have v1:IntKind.u64.wrap ((r1:Int)+q0)=r1+q0:=wrap_u64 ⟨by omega,by omega⟩;have v2:IntKind.u64.wrap ((r2:Int)+q1)=r2+q1:=wrap_u64 ⟨by omega,by omega⟩;have v3:IntKind.u64.wrap ((r3:Int)+q2)=r3+q2:=wrap_u64 ⟨by omega,by omega⟩;have v4:IntKind.u64.wrap ((r4:Int)+q3)=r4+q3:=wrap_u64 ⟨by omega,by omega⟩;have Sx:=wV (a:=⟨r0+19*q4,r1+q0,r2+q1,r3+q2,r4+q3⟩) ⟨by dsimp only;omega,by dsimp only;omega,by dsimp only;omega,by dsimp only;omega,by dsimp only;omega⟩;have he:gG ⟨r0+19*q4,r1+q0,r2+q1,r3+q2,r4+q3⟩= .ar 1 5 [.int .u64 ((r0:Int)+19*q4),.int .u64 ((r1:Int)+q0),.int .u64 ((r2:Int)+q1),.int .u64 ((r3:Int)+q2),.int .u64 ((r4:Int)+q3)]:=by simp[gG,Fe.l]
  rw[he]at Sx;simp[↓al,z5];refine eW.fD 5 (λ_=>True) [2,3,4,10,11,57,58] (λi=>[(58,.int .i64 i)]) (λi=>[(10,.box (.ar 1 5 (Kg ⟨r0,r1,r2,r3,r4⟩ ⟨0,0,0,0,0⟩ i))),(11,.box (.ar 1 5 (Kg ⟨q0,q1,q2,q3,q4⟩ ⟨0,0,0,0,0⟩ i)))]) [.keep [2,3,4,10,11,57,58],.dr 5] ?_;simp[Kg,Fe.l];refine⟨λi hi K hK=> ?_,λK=> ?_⟩
  ·rcases(by omega:i=0∨i=1∨i=2∨i=3∨i=4)with rfl|rfl|rfl|rfl|rfl
   all_goals
    simp[↓al]at hK⊢
    refine lH.run [10,11] rfl ?_
    simp[l0,l1,l2,l3,l4,u0,u1,u2,u3,u4,show IntKind.u64.bits=64 from rfl]
    refine⟨[.keep [2,3,4,10,11,57,58],.dr 13],?_⟩
    simp
    exact hK _ (by simp)
  ·simp[↓al,w19,v0,v1,v2,v3,v4,z5];refine ai.rA Sx ?_;simp;refine aA.plain [.keep [4],.dr 2,.dr 3,.dr 10,.dr 11] ?_;simp
def PB:Nat:=2251799813947392
theorem Fe.Le.mono {a:Fe} {m n:Nat} (h:a.Le m) (hn:m≤n):a.Le n:=⟨JeW h.h0 hn,JeW h.h1 hn,JeW h.h2 hn,JeW h.h3 hn,JeW h.h4 hn⟩
theorem gW:PB≤qK:=by decide
theorem cZ {a b:Fe} (ha:a.Le qK) (hb:b.Le qK):(gj a b).Le PB:=by
 have hS5:=Ja.sum ha hb 5;have hq4:=λs=> @amK a b ha hb s;unfold gj;generalize wI a b 5=S at*;obtain⟨hl,hle⟩:=hS5;match S,hl with
 |[s0,s1,s2,s3,s4],_=>
 have OM:=ZT;have g0:=JfV (hle s0 (by simp)) OM;have g1:=JfV (hle s1 (by simp)) OM;have g2:=JfV (hle s2 (by simp)) OM;have g3:=JfV (hle s3 (by simp)) OM;have q4b:=hq4 s4 rfl;have Og:Gy [s0,s1,s2,s3,s4]=⟨s0%2251799813685248+19*(s4/2251799813685248),s1%2251799813685248+s0/2251799813685248,s2%2251799813685248+s1/2251799813685248,s3%2251799813685248+s2/2251799813685248,s4%2251799813685248+s3/2251799813685248⟩:=rfl;rw[Og];clear hq4 hle OM Og;have hP:PB=2251799813947392:=rfl;constructor<;>rw[hP]<;>dsimp only[sU]<;>omega
theorem jU {a b:Fe} (ha:a.Le PB) (hb:b.Le PB):(qW a b).Le qK:=by
 obtain⟨h0,h1,h2,h3,h4⟩:=ha;obtain⟨g0,g1,g2,g3,g4⟩:=hb;have hP:PB=2251799813947392:=rfl;have hC:qK=9007199254740992:=rfl;rw[hP]at h0 h1 h2 h3 h4 g0 g1 g2 g3 g4;constructor<;>rw[hC]<;>dsimp only[qW]<;>omega
theorem kW {a b:Fe} (ha:a.Le PB):(pJ a b).Le qK:=by
 obtain⟨h0,h1,h2,h3,h4⟩:=ha;have hP:PB=2251799813947392:=rfl;have hC:qK=9007199254740992:=rfl;rw[hP]at h0 h1 h2 h3 h4;constructor<;>rw[hC]<;>dsimp only[pJ]<;>omega
theorem Iu {a b:Fe} (ha:a.Le PB) (hb:b.Le PB):aK Pg 262 [gG a,gG b] (gG (qW a b)):=NK (ha.mono (by decide)) (hb.mono (by decide))
theorem Iv {a b:Fe} (ha:a.Le PB) (hb:b.Le PB):aK Pg 263 [gG a,gG b] (gG (pJ a b)):=NL (ha.mono (by decide)) (hb.mono (by decide))
def xy:Fe:=⟨1,0,0,0,0⟩
def mR (a:Fe):Nat->Fe
 |0=>xy
 |i+1=>if i=252∨i=250 then gj (mR a i) (mR a i)else gj (gj (mR a i) (mR a i)) a
theorem Gz:xy.Le PB:=by constructor<;>decide
theorem tU {a:Fe} (ha:a.Le qK) (i:Nat):(mR a i).Le PB:=by
 induction i with
 |zero=>exact Gz
 |
  succ i ih=>
  have h1:=cZ (ih.mono gW) (ih.mono gW)
  unfold mR
  split
  ·exact h1
  ·exact cZ (h1.mono gW) ha
theorem Ra:PV.ar 1 5 [.int .u64 1,.int .u64 0,.int .u64 0,.int .u64 0,.int .u64 0]=gG xy:=rfl
theorem vy {a:Fe} (ha:a.Le qK):aK Pg 265 [gG a] (gG (mR a 255)):=by
 refine ae.intro (aC R.kJ.2) (by simp[R.kJ]) ?_;simp[R.kJ,aj,av,z5,Ra];refine eW.fD 255 (λ_=>True) [1,2,3,4] (λi=>[(4,.int .i64 (254-(i:Int)))]) (λi=>[(3,.box (gG (mR a i)))]) [.keep [1,2,3,4]] ?_;simp[show mR a 0=xy from rfl];refine⟨λi hi K hK=> ?_,λK=> ?_⟩
 ·have hl:=tU ha i;have KQ:=cZ (hl.mono gW) (hl.mono gW);have h0:(i:Int)≤254:=by omega
  have hw:IntKind.i64.wrap (254-(i:Int)-1)=254-((i:Int)+1):=by rw[wrap_i64 (by omega)];omega
  have c1:=cG (hl.mono gW) (hl.mono gW);have c2:=cG (KQ.mono gW) ha;have hs:mR a (i+1)=if i=252∨i=250 then gj (mR a i) (mR a i)else gj (gj (mR a i) (mR a i)) a:=rfl
  rw[hs]at hK;clear hs;generalize mR a i=x at*;generalize gj x x=y at*;generalize gj y a=z at*;simp[↓al,h0];refine ai.rA c1 ?_;by_cases h1:i=252
  ·subst h1;simp;refine⟨[.keep [1,2,3,4]],?_⟩;simp at hK⊢;exact hK _ (by simp)
  ·by_cases h2:i=250
   ·subst h2;simp;refine⟨[.keep [1,2,3,4]],?_⟩;simp at hK⊢;exact hK _ (by simp)
   ·have k1:¬(254-(i:Int)=2):=by omega
    have k2:¬(254-(i:Int)=4):=by omega
    rw[if_neg (by omega)]at hK;simp[k1,k2];refine ai.rA c2 ?_;simp[hw];refine⟨[.keep [1,2,3,4]],?_⟩;simp;exact hK _ (by simp)
 ·simp[↓al];refine aA.plain [.keep [2],.dr 1,.dr 3] ?_;simp
theorem ai.vw {P:Program} {s:St} [eJ] {d:Option Nat} {f:FuncId} {k off n N:Nat} {c:fB} {L ys:List PV} {v:PV} {K:St->Prop} {t:Tg K} (hA:aK P f [.sl 1 ys false] v)
  (hb:get s.bx k=some (.box (.ar 1 N L))) (hL:an L) (hyp:an ys) (hn:off+n≤N) (Fu:(L.drop off).take n=ys) (hv:Pure v) (nL:fL v=true)
  (h:K ({s with bx:=put s.bx k (.box (.ar 1 N L))}.put d v)):ai P s d f [.rs k [] off n 0 1 c] K t:=by
 refine ai.view [k] [] [.box (.ar 1 N L)] (bC:=[.rs KB [] off n 0 1 c]) (b6:=[.box (.ar 1 N L)]) hA (by simp[getAll,hb]) (by simp) (by simp) (by simp[ah,af,bR,idx]) (by simp[ab,af,hL.refs]) (by simp[aR,aE,bz,idx]) (by simp[az,aE,hL.aE]) ?_ ?_ ?_
 ·refine⟨.inl (.inr ⟨KB,[],off,n,0,1,c,ys,rfl,?_,hyp.refs _,by omega,rfl⟩),trivial⟩;simp[av,Fu,hn]
 ·rintro r new ⟨rfl,rfl⟩;exact⟨⟨nL,by simp⟩,rfl⟩
 ·rintro r new ⟨rfl,rfl⟩;simp[hv.aE,hv.refs,ab,af,hL.refs,az,aE,hL.aE,aI];exact h
def te (l:List UInt8):Nat->Nat
 |0=>0
 |i+1=>te l i+(l.getD i 0).toNat*256^i
theorem GA (l:List UInt8):∀i,te l i<256^i
 |0=>by simp[te]
 |
  i+1=>by
  have h:=GA l i
  have hb:=(l.getD i 0).toNat_lt
  unfold te
  rw[Nat.pow_succ]
  have:(l.getD i 0).toNat*256^i≤255*256^i:=JcV _ (by omega)
  omega
theorem orS {a x i:Nat} (ha:a<256^i) (hx:x<256) (hi:i<8):bits .or .u64 (a:Int) (IntKind.u64.wrap (IntKind.u64.wrap (x:Int)*2^min (8*i) 64))=((a+x*256^i:Nat):Int):=by
 have e0:(2:Nat)^(8*i)=256^i:=by rw[Nat.pow_mul]
 have e1:min (8*i) 64=8*i:=by omega
 have hp:256^(i+1)≤256^8:=JtX (by decide) (by omega);have h1:x*256^i≤255*256^i:=JcV _ (by omega);have h8:(256:Nat)^8=18446744073709551616:=by decide
 rw[Nat.pow_succ,h8]at hp;have h2:x*256^i<18446744073709551616:=by omega
 have ex:IntKind.u64.wrap (x:Int)=x:=vp (by omega)
 have e2:IntKind.u64.wrap ((x:Int)*2^(8*i))=((x*256^i:Nat):Int):=by
  rw[show((x:Int)*2^(8*i))=((x*256^i:Nat):Int) by rw[←e0];simp];exact vp h2
 have h3:x*256^i%2^(8*i)=0:=by rw[e0];exact JtJ _ _
 rw[e1,ex,e2,u64_or_nat a _ (by omega) h2,Nat.or_comm,nat_join (8*i) _ a h3 (by rw[e0];exact ha),Nat.add_comm]
theorem dC {l:List UInt8} (h:l.length≤8):aK Pg 207 [aP l] (.int .u64 (te l l.length)):=by
 refine ae.intro (aC R.dC.2) (by simp[R.dC]) ?_;have hm:min (l.length:Int) 8=l.length:=by omega
 simp[R.dC,aj,av,aP,hm];refine eW.fD l.length (λ_=>True) [0,3,7,8] (λi=>[(3,.int .u64 (te l i)),(8,.int .i64 i)]) (λi=>[]) [.keep [0,3,7,8]] ?_;simp[show te l 0=0 from rfl];refine⟨λi hi K hK=> ?_,λK=> ?_⟩
 ·have hx:l[i]? =some l[i]:=gJ hi;have hs:te l (i+1)=te l i+l[i].toNat*256^i:=by rw[te,JaV,hx];rfl
  have dq:=GA l i;have hb:=l[i].toNat_lt;have kY:(i:Int)<l.length:=by omega
  have w4:IntKind.i64.wrap ((i:Int)+1)=(i:Int)+1:=wrap_i64 (by omega);have w8:IntKind.i64.wrap (8*(i:Int))=((8*i:Nat):Int):=by rw[wrap_i64 (by omega)];omega
  rw[hs]at hK;have hor:=orS (a:=te l i) (x:=l[i].toNat) dq hb (by omega);generalize l[i]=x at*;generalize te l i=a at*;simp[↓al,hx,kY,w4,w8,u8,show IntKind.u64.bits=64 from rfl,-getElem?_pos,-Int.natCast_mul];rw[hor];refine⟨[.keep [0,3,7,8]],?_⟩;simp;exact hK _ (by simp)
 ·simp[↓al];refine aA.plain [] ?_;simp
def S9 (n:Nat) (j:Nat):UInt8:=UInt8.ofNat (n/256^j%256)
def cD (n:Nat) (k:Nat):List UInt8:=(List.range k).map (S9 n)
theorem db (n k:Nat):(cD n k).length=k:=by simp[cD]
theorem Rb (n:Nat) {k i:Nat} (h:i<k):(cD n k).take (i+1)=(cD n k).take i++[S9 n i]:=by
 rw[JcZ (by rw[db];exact h)];simp[cD]
theorem amL {n j:Nat} (hj:j≤8):IntKind.u8.wrap ((n:Int).fdiv (2^min (8*j) 64))=((S9 n j).toNat:Int):=by
 have e1:min (8*j) 64=8*j:=by omega
 have e2:(2:Int)^(8*j)=((256^j:Nat):Int):=by rw[Int.pow_mul];simp
 rw[e1,e2,JgZ _ (JkV _),←JlV,IntKind.wrap_u8',S9,JnW];simp
def mB (l:List UInt8):List PV:=l.map u8
theorem cB {n k:Nat} (h1:1≤k) (h8:k≤8):aK Pg 323 [.int .u64 n,.int .i64 k] (aP (cD n k)):=by
 refine ae.intro (aC R.cB.2) (by simp[R.cB]) ?_;have e1:¬((k:Int)<1):=by omega
 have e2:¬((8:Int)<k):=by omega
 have hk:(cD n k).length=k:=db n k;have hg:=λi (h:i<k)=>Rb n h;generalize cD n k=B at*;simp[R.cB,aj,av,e1,e2];refine eW.fD k (λ_=>True) [0,1,5,13,14] (λi=>[(5,.rs 5 [] 0 i i 1 .tip),(14,.int .i64 i)]) (λi=>[(5,.arr 1 (mB (B.take i)))]) [.keep [0,1,5,13,14],.vt 5 5 1] ?_;simp[show mB ([]:List UInt8)=[] from rfl];refine⟨λi hi K hK=> ?_,λK=> ?_⟩
 ·have kY:(i:Int)<k:=by omega
  have w3:IntKind.i64.wrap (8*(i:Int))=((8*i:Nat):Int):=by rw[wrap_i64 (by omega)];omega
  have w4:IntKind.i64.wrap ((i:Int)+1)=(i:Int)+1:=wrap_i64 (by omega);have hv:=amL (n:=n) (j:=i) (by omega);have hl:(B.take i).length=i:=by rw[lJ];omega
  rw[hg i hi]at hK;generalize B.take i=A at*;have hA:mB A++[.int .u8 ((S9 n i).toNat:Int)]=mB (A++[S9 n i]):=by simp[mB,u8]
  have hAl:(mB A).length=i:=by simp[mB,hl]
  simp[↓al,kY,w3,w4,hv,hA,hAl,show IntKind.u64.bits=64 from rfl,-Int.natCast_mul];refine⟨⟨by omega,by omega⟩,[.keep [0,1,5,13,14]],?_⟩;simp;exact hK _ (by simp)
 ·have hB:B.take k=B:=by rw[←hk,JcJ]
  have hBl:(mB B).length=k:=by simp[mB,hk]
  have hp:an (mB B):=aF (λ_=>by simp[u8]) B;have lW:(mB B).take k=mB B:=by rw[←hBl,JcJ]
  simp[↓al];rw[hB];refine aA.plain [.fz 5] ?_;simp[hp.refs,hBl,lW];exact⟨by simp[mB],by simp[mB,aP]⟩
def qX (k:Key) (i:Nat):Nat:=te ((k.l.drop (8*i)).take 8) 8
theorem GB (k:Key) (i:Nat):qX k i<18446744073709551616:=GA _ 8
def pw (k:Key):Fe:=⟨qX k 0%2251799813685248,(qX k 0/2251799813685248+qX k 1*8192)%2251799813685248,(qX k 1/274877906944+qX k 2*67108864)%2251799813685248,(qX k 2/33554432+qX k 3*549755813888)%2251799813685248,qX k 3/4096%2251799813685248⟩
theorem DB (k:Key):(pw k).Le PB:=by
 have hP:PB=2251799813947392:=rfl;constructor<;>rw[hP]<;>dsimp only[pw]<;>omega
theorem Kh (n d:Nat):(n:Int).fdiv (d:Int)=((n/d:Nat):Int):=by
 rw[JgZ _ (JkV _),←JlV]
theorem orM {x y s:Nat} (hs:s≤51) (hx:x<2^s):bits .and .u64 (bits .or .u64 (x:Int) (IntKind.u64.wrap ((y:Int)*((2^s:Nat):Int)))) 2251799813685247=(((x+y*2^s)%2251799813685248:Nat):Int):=by
 have h1:(y:Int)*((2^s:Nat):Int)=((y*2^s:Nat):Int):=by simp
 have hd:2^s∣18446744073709551616:=by
  rw[show 18446744073709551616=2^64 from rfl];exact Nat.pow_dvd_pow 2 (by omega)
 have h2:y*2^s%18446744073709551616%2^s=0:=by
  rw[Nat.mod_mod_of_dvd _ hd];exact JtJ _ _
 have h5:2^s≤2^51:=JtX (by decide) hs;have h6:(2:Nat)^51=2251799813685248:=by decide
 rw[h6]at h5;have hm:y*2^s%18446744073709551616<18446744073709551616:=JdZ _ (by decide);rw[h1,wrN,u64_or_nat x _ (by omega) hm,Nat.or_comm,nat_join s _ x h2 hx]
 have h3:y*2^s%18446744073709551616+x<18446744073709551616:=by
  have h4:∃q,18446744073709551616=2^s*q:=hd;obtain⟨q,hq⟩:=h4
  have h7:y*2^s%18446744073709551616=2^s*(y%q):=by
   rw[hq,Nat.mul_comm y,Nat.mul_mod_mul_left]
  have hq0:0<q:=by rcases JnX q with h|h;rw[h]at hq;simp at hq;exact h
  have h8:y%q+1≤q:=JdZ _ hq0;have h9:2^s*(y%q+1)≤2^s*q:=JmV _ h8;rw[Nat.mul_add,Nat.mul_one,←hq]at h9;rw[h7];omega
 rw[rC h3];congr 1;omega
theorem qL (k:Key):aK Pg 261 [aG k] (gG (pw k)):=by
 refine ae.intro (aC R.qL.2) (by simp[R.qL]) ?_;have z4:zr 4 (PV.int IntKind.u64 0)=[.int .u64 0,.int .u64 0,.int .u64 0,.int .u64 0]:=by rw[cg];rfl
 have qR:=k.h
 have hr:∀i,i<4->aK Pg 207 [.sl 1 (((k.l.drop (8*i)).take 8).map u8) false] (.int .u64 (qX k i)):=by
  intro i hi;have hl:((k.l.drop (8*i)).take 8).length=8:=by rw[lJ,JbV];omega
  have:=dC (l:=(k.l.drop (8*i)).take 8) (by omega);rw[hl]at this;exact this
 have hp:an (k.l.map u8):=aF (λ_=>by simp[u8]) _;have hdt:∀i,((k.l.map u8).drop (8*i)).take 8=((k.l.drop (8*i)).take 8).map u8:=λi=>by rw[JfQ,JjV]
 have su:∀i,an (((k.l.drop (8*i)).take 8).map u8):=λi=>aF (λ_=>by simp[u8]) _;have hlf:pw k=⟨qX k 0%2251799813685248,(qX k 0/2251799813685248+qX k 1*8192)%2251799813685248,(qX k 1/274877906944+qX k 2*67108864)%2251799813685248,(qX k 2/33554432+qX k 3*549755813888)%2251799813685248,qX k 3/4096%2251799813685248⟩:=rfl;have b0:=GB k 0;have b1:=GB k 1;have b2:=GB k 2;have b3:=GB k 3;simp[R.qL,aj,av,aG,z4,z5];refine eW.fD 4 (λ_=>True) [1,2,3,5] (λi=>[(5,.int .i64 i)]) (λi=>[(3,.box (.ar 1 4 (([qX k 0,qX k 1,qX k 2,qX k 3].map λx:Nat=>PV.int .u64 x).take i++[PV.int .u64 0,.int .u64 0,.int .u64 0,.int .u64 0].drop i)))]) [.keep [1,2,3,5]] ?_;simp;refine⟨λi hi K hK=> ?_,λK=> ?_⟩
 ·have hd:=hdt i;have hc:=hr i hi;have hq:=su i;rcases(by omega:i=0∨i=1∨i=2∨i=3)with rfl|rfl|rfl|rfl
  all_goals
   simp[↓al]at hK⊢
   refine ai.vw (N:=32) hc (by simp) hp hq (by omega) hd (by simp) rfl ?_
   simp
   refine⟨[.keep [1,2,3,5]],?_⟩
   simp
   exact hK _ (by simp)
 ·have e0:=rC b0;have s0:=Kh (qX k 0) 2251799813685248;have s1:=Kh (qX k 1) 274877906944;have s2:=Kh (qX k 2) 33554432;have s3:=Kh (qX k 3) 4096;have o0:=orM (x:=qX k 0/2251799813685248) (y:=qX k 1) (s:=13) (by decide) (by omega);have o1:=orM (x:=qX k 1/274877906944) (y:=qX k 2) (s:=26) (by decide) (by omega);have o2:=orM (x:=qX k 2/33554432) (y:=qX k 3) (s:=39) (by decide) (by omega);have e3:=rC (n:=qX k 3/4096) (by omega);rw[hlf];clear hlf hr hdt su;rw[show((2^13:Nat):Int)=8192 from rfl,show(2^13:Nat)=8192 from rfl]at o0;rw[show((2^26:Nat):Int)=67108864 from rfl,show(2^26:Nat)=67108864 from rfl]at o1;rw[show((2^39:Nat):Int)=549755813888 from rfl,show(2^39:Nat)=549755813888 from rfl]at o2;rw[show((2251799813685248:Nat):Int)=2251799813685248 from rfl]at s0;rw[show((274877906944:Nat):Int)=274877906944 from rfl]at s1;rw[show((33554432:Nat):Int)=33554432 from rfl]at s2;rw[show((4096:Nat):Int)=4096 from rfl]at s3;generalize (qX k 0/2251799813685248+qX k 1*8192)%2251799813685248=f1 at*;generalize (qX k 1/274877906944+qX k 2*67108864)%2251799813685248=f2 at*;generalize (qX k 2/33554432+qX k 3*549755813888)%2251799813685248=f3 at*;generalize qX k 3/4096%2251799813685248=f4 at*;generalize qX k 0%2251799813685248=f0 at*;generalize qX k 0/2251799813685248=g0 at*;generalize qX k 1/274877906944=g1 at*;generalize qX k 2/33554432=g2 at*;generalize qX k 3/4096=g3 at*;simp[↓al,show IntKind.u64.bits=64 from rfl,e0,s0,s1,s2,s3,o0,o1,o2,e3];refine aA.plain [.keep [2],.dr 1,.dr 3] ?_;simp[gG,Fe.l]
theorem orT {x y s:Nat} (hs:s≤51) (hx:x<2^s):bits .or .u64 (x:Int) (IntKind.u64.wrap ((y:Int)*((2^s:Nat):Int)))=((x+y*2^s%18446744073709551616:Nat):Int):=by
 have h1:(y:Int)*((2^s:Nat):Int)=((y*2^s:Nat):Int):=by simp
 have hd:2^s∣18446744073709551616:=by
  rw[show 18446744073709551616=2^64 from rfl];exact Nat.pow_dvd_pow 2 (by omega)
 have h2:y*2^s%18446744073709551616%2^s=0:=by
  rw[Nat.mod_mod_of_dvd _ hd];exact JtJ _ _
 have h5:2^s≤2^51:=JtX (by decide) hs;have h6:(2:Nat)^51=2251799813685248:=by decide
 rw[h6]at h5;have hm:y*2^s%18446744073709551616<18446744073709551616:=JdZ _ (by decide);rw[h1,wrN,u64_or_nat x _ (by omega) hm,Nat.or_comm,nat_join s _ x h2 hx,Nat.add_comm]
def Iw (a:Fe):Nat:=(a.a4+(a.a3+(a.a2+(a.a1+(a.a0+19)/2251799813685248)/2251799813685248)/2251799813685248)/2251799813685248)/2251799813685248
def Wm (a:Fe):Nat:=a.a0+19*Iw a
def Wn (a:Fe):Nat:=a.a1+Wm a/2251799813685248
def Wo (a:Fe):Nat:=a.a2+Wn a/2251799813685248
def Wp (a:Fe):Nat:=a.a3+Wo a/2251799813685248
def b4F (a:Fe):Nat:=a.a4+Wp a/2251799813685248
def uI (a:Fe):Fe:=⟨Wm a%2251799813685248,Wn a%2251799813685248,Wo a%2251799813685248,Wp a%2251799813685248,b4F a%2251799813685248⟩
def Tc (a:Fe):Nat:=a.a0+a.a1*2251799813685248%18446744073709551616
def Td (a:Fe):Nat:=a.a1/8192+a.a2*274877906944%18446744073709551616
def Wq (a:Fe):Nat:=a.a2/67108864+a.a3*33554432%18446744073709551616
def ZU (a:Fe):Nat:=a.a3/549755813888+a.a4*4096%18446744073709551616
def NM (a:Fe):Key:=⟨cD (Tc a) 8++cD (Td a) 8++cD (Wq a) 8++cD (ZU a) 8,by simp[db]⟩
def zB (n:Nat):List PV:=List.replicate n (PV.int .u8 0)
theorem amM:zr 32 (PV.int IntKind.u8 0)=zB 32:=by rw[cg];rfl
theorem BT (n k:Nat):(zB n).drop k=zB (n-k):=by simp[zB]
@[simp] theorem ark (n:Nat):an (zB n):=by unfold zB;exact ui (by simp) n
theorem drp {A:List PV} {n k m:Nat} (hA:A.length=k) (hm:m=k+8):(A++zB n).drop m=zB (n-8):=by
 rw[hm,←JiW,List.drop_left' hA,BT]
def Ej (a:Fe):Key:=NM (uI (sU a))
theorem Wr {a:Fe} (h:a.Le PB):(sU a).Le 4503599627370496:=by
 obtain⟨h0,h1,h2,h3,h4⟩:=h;have hP:PB=2251799813947392:=rfl;rw[hP]at h0 h1 h2 h3 h4;constructor<;>dsimp only[sU]<;>omega
theorem AU {a:Fe} (ha:a.Le PB):aK Pg 266 [gG a] (aG (Ej a)):=by
 refine ae.intro T.ik (by simp[F.ik]) ?_;have Sx:=wV (ha.mono (by decide));have hle:=Wr ha;have hby:Ej a=NM (uI (sU a)):=rfl;rw[hby];clear hby;have Fa:zr 32 (PV.int IntKind.u8 0)=List.replicate 32 (PV.int .u8 0):=by rw[cg]
 have z4:zr 4 (PV.int IntKind.u64 0)=[.int .u64 0,.int .u64 0,.int .u64 0,.int .u64 0]:=by rw[cg];rfl
 simp[F.ik,aj,av];refine ai.rA Sx ?_;generalize sU a=e at*;clear Sx;obtain⟨a0,a1,a2,a3,a4⟩:=e;obtain⟨h0,h1,h2,h3,h4⟩:=hle;dsimp only at h0 h1 h2 h3 h4;have aoR:uI ⟨a0,a1,a2,a3,a4⟩=⟨Wm ⟨a0,a1,a2,a3,a4⟩%2251799813685248,Wn ⟨a0,a1,a2,a3,a4⟩%2251799813685248,Wo ⟨a0,a1,a2,a3,a4⟩%2251799813685248,Wp ⟨a0,a1,a2,a3,a4⟩%2251799813685248,b4F ⟨a0,a1,a2,a3,a4⟩%2251799813685248⟩:=rfl;rw[aoR];have k0:Wm ⟨a0,a1,a2,a3,a4⟩=a0+19*Iw ⟨a0,a1,a2,a3,a4⟩:=rfl;have k1:Wn ⟨a0,a1,a2,a3,a4⟩=a1+Wm ⟨a0,a1,a2,a3,a4⟩/2251799813685248:=rfl;have k2:Wo ⟨a0,a1,a2,a3,a4⟩=a2+Wn ⟨a0,a1,a2,a3,a4⟩/2251799813685248:=rfl;have k3:Wp ⟨a0,a1,a2,a3,a4⟩=a3+Wo ⟨a0,a1,a2,a3,a4⟩/2251799813685248:=rfl;have k4:b4F ⟨a0,a1,a2,a3,a4⟩=a4+Wp ⟨a0,a1,a2,a3,a4⟩/2251799813685248:=rfl;have kq:Iw ⟨a0,a1,a2,a3,a4⟩=(a4+(a3+(a2+(a1+(a0+19)/2251799813685248)/2251799813685248)/2251799813685248)/2251799813685248)/2251799813685248:=rfl;obtain⟨c0,hc0⟩:∃c,c=(a0+19)/2251799813685248:=⟨_,rfl⟩
 obtain⟨c1,Bu⟩:∃c,c=(a1+c0)/2251799813685248:=⟨_,rfl⟩
 obtain⟨c2,y9⟩:∃c,c=(a2+c1)/2251799813685248:=⟨_,rfl⟩
 obtain⟨c3,hc3⟩:∃c,c=(a3+c2)/2251799813685248:=⟨_,rfl⟩
 obtain⟨c4,hc4⟩:∃c,c=(a4+c3)/2251799813685248:=⟨_,rfl⟩
 rw[←hc0,←Bu,←y9,←hc3,←hc4]at kq;generalize Wm ⟨a0,a1,a2,a3,a4⟩=b0 at*;generalize Wn ⟨a0,a1,a2,a3,a4⟩=b1 at*;generalize Wo ⟨a0,a1,a2,a3,a4⟩=b2 at*;generalize Wp ⟨a0,a1,a2,a3,a4⟩=b3 at*;generalize b4F ⟨a0,a1,a2,a3,a4⟩=b4 at*;rw[kq]at k0;clear aoR kq;have v0:IntKind.u64.wrap ((a0:Int)+19)=((a0+19:Nat):Int):=by rw[wrap_u64 ⟨by omega,by omega⟩];omega
 have v1:IntKind.u64.wrap ((a1:Int)+c0)=((a1+c0:Nat):Int):=by rw[wrap_u64 ⟨by omega,by omega⟩];omega
 have v2:IntKind.u64.wrap ((a2:Int)+c1)=((a2+c1:Nat):Int):=by rw[wrap_u64 ⟨by omega,by omega⟩];omega
 have v3:IntKind.u64.wrap ((a3:Int)+c2)=((a3+c2:Nat):Int):=by rw[wrap_u64 ⟨by omega,by omega⟩];omega
 have v4:IntKind.u64.wrap ((a4:Int)+c3)=((a4+c3:Nat):Int):=by rw[wrap_u64 ⟨by omega,by omega⟩];omega
 have t0:=qJ (a0+19);have t1:=qJ (a1+c0);have t2:=qJ (a2+c1);have t3:=qJ (a3+c2);have t4:=qJ (a4+c3);rw[←hc0]at t0;rw[←Bu]at t1;rw[←y9]at t2;rw[←hc3]at t3;rw[←hc4]at t4;simp[gG,Fe.l,v0,t0,show IntKind.u64.bits=64 from rfl,-Int.natCast_add];refine eW.fD 4 (λ_=>True) [1,2,3,4] (λi=>[(3,.int .u64 (([c0,c1,c2,c3,c4].getD i 0:Nat):Int)),(4,.int .i64 ((i+1:Nat):Int))]) (λi=>[]) [.keep [1,2,3,4]] ?_;simp;refine⟨λi hi K hK=> ?_,λK=> ?_⟩
 ·rcases(by omega:i=0∨i=1∨i=2∨i=3)with rfl|rfl|rfl|rfl
  all_goals
   simp[↓al,v1,v2,v3,v4,t1,t2,t3,t4,show IntKind.u64.bits=64 from rfl,-Int.natCast_add]at hK⊢
   refine⟨[.keep [1,2,3,4]],?_⟩
   simp
   exact hK _ (by simp)
 ·have q0:c0≤4:=by omega
  have q1:c1≤4:=by omega
  have q2:c2≤4:=by omega
  have q3:c3≤4:=by omega
  have q4:c4≤4:=by omega
  clear v0 v1 v2 v3 v4 t0 t1 t2 t3 t4 hc0 Bu y9 hc3 hc4;have w19:IntKind.u64.wrap (19*(c4:Int))=((19*c4:Nat):Int):=by rw[wrap_u64 ⟨by omega,by omega⟩];omega
  have x0:IntKind.u64.wrap ((a0:Int)+((19*c4:Nat):Int))=(b0:Int):=by rw[wrap_u64 ⟨by omega,by omega⟩];omega
  have j0:b0≤4503599627370600:=by omega
  have y1:IntKind.u64.wrap ((a1:Int)+((b0/2251799813685248:Nat):Int))=(b1:Int):=by rw[wrap_u64 ⟨by omega,by omega⟩];omega
  have j1:b1≤4503599627370600:=by omega
  have y2:IntKind.u64.wrap ((a2:Int)+((b1/2251799813685248:Nat):Int))=(b2:Int):=by rw[wrap_u64 ⟨by omega,by omega⟩];omega
  have j2:b2≤4503599627370600:=by omega
  have y3:IntKind.u64.wrap ((a3:Int)+((b2/2251799813685248:Nat):Int))=(b3:Int):=by rw[wrap_u64 ⟨by omega,by omega⟩];omega
  have j3:b3≤4503599627370600:=by omega
  have y4:IntKind.u64.wrap ((a4:Int)+((b3/2251799813685248:Nat):Int))=(b4:Int):=by rw[wrap_u64 ⟨by omega,by omega⟩];omega
  have j4:b4≤4503599627370600:=by omega
  have g0:=qJ b0;have g1:=qJ b1;have g2:=qJ b2;have g3:=qJ b3;have m0:=rC (n:=b0) (by omega);have m1:=rC (n:=b1) (by omega);have m2:=rC (n:=b2) (by omega);have m3:=rC (n:=b3) (by omega);have m4:=rC (n:=b4) (by omega);have r0:b0%2251799813685248<2^51:=JdZ _ (by decide);have r1:b1%2251799813685248<2^51:=JdZ _ (by decide);have r2:b2%2251799813685248<2^51:=JdZ _ (by decide);have r3:b3%2251799813685248<2^51:=JdZ _ (by decide);generalize b0/2251799813685248=e0 at*;generalize b1/2251799813685248=e1 at*;generalize b2/2251799813685248=e2 at*;generalize b3/2251799813685248=e3 at*;generalize b0%2251799813685248=d0 at*;generalize b1%2251799813685248=d1 at*;generalize b2%2251799813685248=d2 at*;generalize b3%2251799813685248=d3 at*;generalize b4%2251799813685248=d4 at*;generalize 19*c4=c19 at*;clear k0 k1 k2 k3 k4 j0 j1 j2 j3 j4;simp[↓al,w19,x0];refine eW.fD 4 (λ_=>True) [1,2,5] (λi=>[(5,.int .i64 i)]) (λi=>[(1,.box (.ar 1 5 (([[b0,a1,a2,a3,a4],[d0,b1,a2,a3,a4],[d0,d1,b2,a3,a4],[d0,d1,d2,b3,a4],[d0,d1,d2,d3,b4]].getD i []).map λx:Nat=>PV.int .u64 x)))]) [.keep [1,2,5]] ?_;simp;refine⟨λi hi K hK=> ?_,λK=> ?_⟩
  ·rcases(by omega:i=0∨i=1∨i=2∨i=3)with rfl|rfl|rfl|rfl
   all_goals
    simp[↓al,y1,y2,y3,y4,g0,g1,g2,g3,m0,m1,m2,m3,show IntKind.u64.bits=64 from rfl]at hK⊢
    refine⟨[.keep [1,2,5]],?_⟩
    simp
    exact hK _ (by simp)
  ·have f0:Tc ⟨d0,d1,d2,d3,d4⟩=d0+d1*2251799813685248%18446744073709551616:=rfl;have f1:Td ⟨d0,d1,d2,d3,d4⟩=d1/8192+d2*274877906944%18446744073709551616:=rfl;have f2:Wq ⟨d0,d1,d2,d3,d4⟩=d2/67108864+d3*33554432%18446744073709551616:=rfl;have f3:ZU ⟨d0,d1,d2,d3,d4⟩=d3/549755813888+d4*4096%18446744073709551616:=rfl;have o0:=orT (x:=d0) (y:=d1) (s:=51) (by decide) r0;have o1:=orT (x:=d1/8192) (y:=d2) (s:=38) (by decide) (by omega);have o2:=orT (x:=d2/67108864) (y:=d3) (s:=25) (by decide) (by omega);have o3:=orT (x:=d3/549755813888) (y:=d4) (s:=12) (by decide) (by omega);rw[show((2^51:Nat):Int)=2251799813685248 from rfl,show(2^51:Nat)=2251799813685248 from rfl,←f0]at o0;rw[show((2^38:Nat):Int)=274877906944 from rfl,show(2^38:Nat)=274877906944 from rfl,←f1]at o1;rw[show((2^25:Nat):Int)=33554432 from rfl,show(2^25:Nat)=33554432 from rfl,←f2]at o2;rw[show((2^12:Nat):Int)=4096 from rfl,show(2^12:Nat)=4096 from rfl,←f3]at o3;have s1:=Kh d1 8192;have s2:=Kh d2 67108864;have s3:=Kh d3 549755813888;rw[show((8192:Nat):Int)=8192 from rfl]at s1;rw[show((67108864:Nat):Int)=67108864 from rfl]at s2;rw[show((549755813888:Nat):Int)=549755813888 from rfl]at s3;have hk:aG (NM ⟨d0,d1,d2,d3,d4⟩)= .ar 1 32 ((cD (Tc ⟨d0,d1,d2,d3,d4⟩) 8++cD (Td ⟨d0,d1,d2,d3,d4⟩) 8++cD (Wq ⟨d0,d1,d2,d3,d4⟩) 8++cD (ZU ⟨d0,d1,d2,d3,d4⟩) 8).map u8):=rfl;rw[hk];clear hk f0 f1 f2 f3;generalize Tc ⟨d0,d1,d2,d3,d4⟩=W0 at*;generalize Td ⟨d0,d1,d2,d3,d4⟩=W1 at*;generalize Wq ⟨d0,d1,d2,d3,d4⟩=W2 at*;generalize ZU ⟨d0,d1,d2,d3,d4⟩=W3 at*;generalize d1/8192=p1 at*;generalize d2/67108864=p2 at*;generalize d3/549755813888=p3 at*;have L0:=cB (n:=W0) (k:=8) (by omega) (by omega);have L1:=cB (n:=W1) (k:=8) (by omega) (by omega);have L2:=cB (n:=W2) (k:=8) (by omega) (by omega);have L3:=cB (n:=W3) (k:=8) (by omega) (by omega);have l0:=db W0 8;have l1:=db W1 8;have l2:=db W2 8;have l3:=db W3 8;generalize cD W0 8=B0 at*;generalize cD W1 8=B1 at*;generalize cD W2 8=B2 at*;generalize cD W3 8=B3 at*;have p0:an (B0.map u8):=aF (λ_=>by simp[u8]) B0;have p1:an (B1.map u8):=aF (λ_=>by simp[u8]) B1;have p2:an (B2.map u8):=aF (λ_=>by simp[u8]) B2;have p3:an (B3.map u8):=aF (λ_=>by simp[u8]) B3;unfold aP at L0 L1 L2 L3;rw[JeV,JeV,JeV];have l0:(B0.map u8).length=8:=by rw[JaX,l0]
   have l1:(B1.map u8).length=8:=by rw[JaX,l1]
   have l2:(B2.map u8).length=8:=by rw[JaX,l2]
   have l3:(B3.map u8).length=8:=by rw[JaX,l3]
   generalize B0.map u8=P0 at*;generalize B1.map u8=P1 at*;generalize B2.map u8=P2 at*;generalize B3.map u8=P3 at*;have t0:P0.take 8=P0:=tJ (by omega);have t1:P1.take 8=P1:=tJ (by omega);have t2:P2.take 8=P2:=tJ (by omega);have t3:P3.take 8=P3:=tJ (by omega);have r1:(P0++zB 24).drop 16=zB 16:=drp l0 rfl;have r2:(P0++(P1++zB 16)).drop 24=zB 8:=by rw[←JeJ];exact drp (by simp[l0,l1]) rfl
   have r3:(P0++(P1++(P2++zB 8))).drop 32=[]:=by rw[←JeJ,←JeJ,drp (k:=24) (by simp[l0,l1,l2]) rfl];rfl
   have k2:(P0++(P1++zB 16)).take 16=P0++P1:=by rw[←JeJ];exact JrX (by simp[l0,l1])
   have k3:(P0++(P1++(P2++zB 8))).take 24=P0++(P1++P2):=by rw[←JeJ,←JeJ,JrX (by simp[l0,l1,l2]),JeJ]
   simp[↓al,z4,amM,m4,s1,s2,s3,o0,o1,o2,o3,show IntKind.u64.bits=64 from rfl];refine eW.fD 4 (λ_=>True) [1,2,6,7,84,85] (λi=>[(85,.int .i64 i)]) (λi=>[(7,.box (.ar 1 32 ([zB 32,P0++zB 24,P0++P1++zB 16,P0++P1++P2++zB 8,P0++P1++P2++P3].getD i [])))]) [.keep [1,2,6,7,84,85]] ?_;simp[amM];refine⟨λi hi K hK=> ?_,λK=> ?_⟩
   ·rcases(by omega:i=0∨i=1∨i=2∨i=3)with rfl|rfl|rfl|rfl
    ·simp[↓al]at hK⊢;refine aN.ret L0 (by simp) (by simp) (by simp[p0]) ?_;simp[l0,t0,BT];refine⟨[.keep [1,2,6,7,84,85]],?_⟩;simp;exact hK _ (by simp)
    ·simp[↓al]at hK⊢;refine aN.ret L1 (by simp) (by simp) (by simp[p1]) ?_;simp[l0,l1,t1,r1];refine⟨[.keep [1,2,6,7,84,85]],?_⟩;simp;exact hK _ (by simp)
    ·simp[↓al]at hK⊢;refine aN.ret L2 (by simp) (by simp) (by simp[p2]) ?_;simp[l2,t2,r2,k2];refine⟨[.keep [1,2,6,7,84,85]],?_⟩;simp;exact hK _ (by simp)
    ·simp[↓al]at hK⊢;refine aN.ret L3 (by simp) (by simp) (by simp[p3]) ?_;simp[l3,t3,r3,k3];refine⟨[.keep [1,2,6,7,84,85]],?_⟩;simp;exact hK _ (by simp)
   ·have hP:an (P0++(P1++(P2++P3))):=by simp[p0,p1,p2,p3]
    simp[↓al];refine aA.plain [.keep [2],.dr 1,.dr 6,.dr 7] ?_;simp[af,p0,p1,p2,p3]
def I9 (k:Key):Key:=⟨(k.l.set 0 (k.l.getD 0 0&&&248)).set 31 (k.l.getD 31 0&&&127|||64),by rw[JlJ,JlJ];exact k.h⟩
theorem oK (k:Key):aK Pg 260 [aG k] (aG (I9 k)):=by
 refine ae.intro (aC R.oK.2) (by simp[R.oK]) ?_;have hl:=k.h;have h0:k.l[0]? =some (k.l.getD 0 0):=by rw[JaV,gJ (by omega)];rfl
 have h31:k.l[31]? =some (k.l.getD 31 0):=by rw[JaV,gJ (by omega)];rfl
 have hc:aG (I9 k)= .ar 1 32 (((k.l.map u8).set 0 (u8 (k.l.getD 0 0&&&248))).set 31 (u8 (k.l.getD 31 0&&&127|||64))):=by simp[aG,I9,JfJ]
 rw[hc];generalize k.l.getD 0 0=x at*;generalize k.l.getD 31 0=y at*;have b0:=u8_and_nat x.toNat 248 x.toNat_lt (by decide);have b1:=u8_and_nat y.toNat 127 y.toNat_lt (by decide);have hy:y.toNat&&&127<256:=JfV Nat.and_le_right (by decide);have b2:=u8_or_nat (y.toNat&&&127) 64 hy (by decide);rw[←b1]at b2;have e0:u8 (x&&&248)= .int .u8 (bits .and .u8 (x.toNat:Int) 248):=by rw[show(248:Int)=((248:Nat):Int) from rfl,b0];rfl
 have e1:u8 (y&&&127|||64)= .int .u8 (bits .or .u8 (bits .and .u8 (y.toNat:Int) 127) 64):=by rw[show(127:Int)=((127:Nat):Int) from rfl,show(64:Int)=((64:Nat):Int) from rfl,b2];rfl
 have hp:an (k.l.map u8):=aF (λ_=>by simp[u8]) _;rw[e0,e1];simp[R.oK,aj,av,aG,h0,h31,u8,-getElem?_pos]
 have hPV:∀X Y:PV,Pure X->Pure Y->an (((k.l.map u8).set 0 X).set 31 Y):=λX Y hX hY=>an.mk' λq hq=>by
  rcases JhX hq with hq|rfl
  ·rcases JhX hq with hq|rfl
   ·obtain⟨b,_,rfl⟩:=JhW.1 hq;simp[u8]
   ·exact hX
  ·exact hY
 have hV:=hPV (PV.int IntKind.u8 (bits BinOp.and IntKind.u8 (↑x.toNat) 248)) (PV.int IntKind.u8 (bits BinOp.or IntKind.u8 (bits BinOp.and IntKind.u8 (↑y.toNat) 127) 64)) (by simp) (by simp);generalize (((k.l.map u8).set 0 (PV.int IntKind.u8 (bits BinOp.and IntKind.u8 (↑x.toNat) 248))).set 31 (PV.int IntKind.u8 (bits BinOp.or IntKind.u8 (bits BinOp.and IntKind.u8 (↑y.toNat) 127) 64)))=V at*;refine aA.plain [.keep [2],.dr 1] ?_;simp[af,hV.refs];exact hV
def Ir:Fe:=⟨0,0,0,0,0⟩
def cF:Fe:=⟨121665,0,0,0,0⟩
structure Lad where
 x2:Fe
 z2:Fe
 x3:Fe
 z3:Fe
 last:Int
structure Lad.Ok (L:Lad):Prop where
 D0:L.x2.Le PB
 hz2:L.z2.Le PB
 hx3:L.x3.Le PB
 hz3:L.z3.Le PB
def Iq (x1 x2 z2 x3 z3:Fe) (bit:Int):Lad:=
 let a:=qW x2 z2
 let b:=pJ x2 z2
 let aa:=gj a a
 let bb:=gj b b
 let e:=pJ aa bb
 let da:=gj (pJ x3 z3) a
 let cb:=gj (qW x3 z3) b
 let s:=qW da cb
 let d:=pJ da cb
 ⟨gj aa bb,gj (qW (gj e cF) aa) e,gj s s,gj (gj d d) x1,bit⟩
def Ei (n:Key) (t:Nat):Int:=bits .and .u8 (((n.l.getD (t/8) 0).toNat:Int).fdiv (2^min (t%8) 8)) 1
def jn (n:Key) (x1:Fe):Nat->Lad
 |0=>⟨xy,Ir,x1,xy,0⟩
 |i+1=>if Ei n (254-i)=(jn n x1 i).last then Iq x1 (jn n x1 i).x2 (jn n x1 i).z2 (jn n x1 i).x3 (jn n x1 i).z3 (Ei n (254-i))else Iq x1 (jn n x1 i).x3 (jn n x1 i).z3 (jn n x1 i).x2 (jn n x1 i).z2 (Ei n (254-i))
theorem Ix:cF.Le PB:=by constructor<;>decide
theorem Rc:Ir.Le PB:=by constructor<;>decide
theorem LM {x1 x2 z2 x3 z3:Fe} (h1:x1.Le PB) (a2:x2.Le PB) (b2:z2.Le PB) (a3:x3.Le PB) (b3:z3.Le PB) (bit:Int):(Iq x1 x2 z2 x3 z3 bit).Ok:=by
 have ha:=jU a2 b2;have hb:=kW (b:=z2) a2;have G3:=cZ ha ha;have Ft:=cZ hb hb;have he:=kW (b:=gj (pJ x2 z2) (pJ x2 z2)) G3;have KW:=cZ (kW (b:=z3) a3) ha;have Mp:=cZ (jU a3 b3) hb;have hs:=jU KW Mp;have hd:=kW (b:=gj (qW x3 z3) (pJ x2 z2)) KW;exact⟨cZ (G3.mono gW) (Ft.mono gW),cZ (jU (cZ he (Ix.mono gW)) G3) he,cZ hs hs,cZ ((cZ hd hd).mono gW) (h1.mono gW)⟩
theorem BS (n:Key) {x1:Fe} (h1:x1.Le PB) (i:Nat):(jn n x1 i).Ok:=by
 induction i with
 |zero=>exact⟨Gz,Rc,h1,Gz⟩
 |
  succ i ih=>
  unfold jn
  split
  ·exact LM h1 ih.D0 ih.hz2 ih.hx3 ih.hz3 _
  ·exact LM h1 ih.hx3 ih.hz3 ih.D0 ih.hz2 _
def kV (scalar point:Key):Key:=
 let L:=jn (I9 scalar) (pw point) 255
 if L.last=1 then Ej (gj L.x3 (mR L.z3 255))else Ej (gj L.x2 (mR L.z2 255))
theorem mG (scalar point:Key):aK Pg 172 [aG scalar,aG point] (aG (kV scalar point)):=by
 refine ae.intro T.mG (by simp[F.mG]) ?_;have h1:=DB point;have rD:=oK scalar;have hld:=qL point;have hm:kV scalar point=if(jn (I9 scalar) (pw point) 255).last=1 then Ej (gj (jn (I9 scalar) (pw point) 255).x3 (mR (jn (I9 scalar) (pw point) 255).z3 255))else Ej (gj (jn (I9 scalar) (pw point) 255).x2 (mR (jn (I9 scalar) (pw point) 255).z2 255)):=rfl
 rw[hm];clear hm;generalize I9 scalar=n at*;generalize pw point=x1 at*;have zer:PV.ar 1 5 [.int .u64 0,.int .u64 0,.int .u64 0,.int .u64 0,.int .u64 0]=gG Ir:=rfl;simp[F.mG,aj,av,amM];refine ai.rA rD ?_;simp;refine ai.rA hld ?_;simp[z5];refine lH.run [7,8,9,10] rfl ?_;simp;simp only[Ra,zer];refine eW.fD 255 (λ_=>True) [2,3,4,5,6,7,8,9,10,11,12] (λi=>[(11,.int .u8 (jn n x1 i).last),(12,.int .i64 (254-(i:Int)))]) (λi=>[(7,.box (gG (jn n x1 i).x2)),(8,.box (gG (jn n x1 i).z2)),(9,.box (gG (jn n x1 i).x3)),(10,.box (gG (jn n x1 i).z3))]) [.keep [2,3,4,5,6,7,8,9,10,11,12]] ?_;simp[show jn n x1 0=⟨xy,Ir,x1,xy,0⟩ from rfl];refine⟨λi hi K hK=> ?_,λK=> ?_⟩
 ·have dh:=BS n h1 i;have qT:jn n x1 (i+1)=if Ei n (254-i)=(jn n x1 i).last then Iq x1 (jn n x1 i).x2 (jn n x1 i).z2 (jn n x1 i).x3 (jn n x1 i).z3 (Ei n (254-i))else Iq x1 (jn n x1 i).x3 (jn n x1 i).z3 (jn n x1 i).x2 (jn n x1 i).z2 (Ei n (254-i)):=rfl
  rw[qT]at hK;clear qT;generalize jn n x1 i=L at*;obtain⟨x2,z2,x3,z3,last⟩:=L;obtain⟨a2,b2,a3,b3⟩:=dh;dsimp only at a2 b2 a3 b3 hK⊢;have h0:(i:Int)≤254:=by omega
  have hw:IntKind.i64.wrap (254-(i:Int)-1)=254-((i:Int)+1):=by rw[wrap_i64 (by omega)];omega
  have ht:(254:Int)-i=((254-i:Nat):Int):=by omega
  have Fw:254-i<256:=by omega
  have hq:((254:Int)-i).tdiv 8=(((254-i)/8:Nat):Int):=by rw[ht];rfl
  have hr:((254:Int)-i).tmod 8=(((254-i)%8:Nat):Int):=by rw[ht];rfl
  have hbk:Ei n (254-i)=bits .and .u8 (((n.l.getD ((254-i)/8) 0).toNat:Int).fdiv (2^min ((254-i)%8) 8)) 1:=rfl;have Ba:=n.h;have hx:n.l[(254-i)/8]? =some (n.l.getD ((254-i)/8) 0):=by rw[JaV,gJ (by omega)];rfl
  have aAS:(254-i)/8<32:=by omega
  generalize Ei n (254-i)=bit at*;generalize (254-i)/8=q at*;generalize (254-i)%8=r at*;generalize n.l.getD q 0=y at*;have aoS:(q:Int)<32:=by omega
  have hqw:IntKind.i64.wrap (q:Int)=q:=wrap_i64 (by omega);clear ht Fw;simp[↓al,h0,hq,hr,hqw,hx,aoS,aG,u8,←hbk,show IntKind.u8.bits=8 from rfl,-getElem?_pos];refine⟨λue=> ?_,λue=> ?_⟩
  ·rw[if_neg ue]at hK;refine lH.run [7,9] rfl ?_;simp;have ha:=jU a3 b3;have hb:=kW (b:=z3) a3;have k1:=Iu a3 b3;have k2:=Iv a3 b3;have k3:=Iu a2 b2;have k4:=Iv a2 b2;have hp:=jU a2 b2;have hm:=kW (b:=z2) a2;simp only[Iq]at hK;generalize qW x3 z3=A at*;generalize pJ x3 z3=B at*;generalize qW x2 z2=P at*;generalize pJ x2 z2=M at*;have G3:=cZ ha ha;have Ft:=cZ hb hb;have k5:=cG ha ha;have k6:=cG hb hb;have k7:=cG hm ha;have k8:=cG hp hb;have KW:=cZ hm ha;have Mp:=cZ hp hb;generalize gj A A=AA at*;generalize gj B B=BB at*;generalize gj M A=DA at*;generalize gj P B=CB at*;have k9:=Iv G3 Ft;have he:=kW (b:=BB) G3;have k10:=Iu KW Mp;have k11:=Iv KW Mp;have hs:=jU KW Mp;have hd:=kW (b:=CB) KW;generalize pJ AA BB=E at*;generalize qW DA CB=S at*;generalize pJ DA CB=D at*;have k12:=cG hs hs;have k13:=cG hd hd;have D4:=cZ hd hd;have k14:=cG (D4.mono gW) (h1.mono gW);have k15:=cG (G3.mono gW) (Ft.mono gW);have k16:=cG he (Ix.mono gW);have hec:=cZ he (Ix.mono gW);have k17:=Iu hec G3;have hea:=jU hec G3;have k18:=cG hea he;refine lH.run [14,15] rfl ?_;simp[z5];refine aN.rA k1 ?_;simp;refine aN.rA k2 ?_;simp;refine lH.run [16,17] rfl ?_;simp[z5];refine aN.rA k5 ?_;simp;refine aN.rA k6 ?_;simp;refine ai.rA k9 ?_;simp;refine lH.run [19,20] rfl ?_;simp[z5];refine aN.rA k4 ?_;simp;refine aN.rA k7 ?_;simp;refine aN.rA k3 ?_;simp;refine aN.rA k8 ?_;simp;refine aN.rA k10 ?_;simp;refine aN.rA k11 ?_;simp;refine aN.rA k12 ?_;simp;refine aN.rA k13 ?_;simp;refine aN.rA k14 ?_;simp;refine aN.rA k15 ?_;simp;refine aN.ret k16 (by simp;rfl) (by simp) (by simp) ?_;simp;refine aN.rA k17 ?_;simp;refine aN.rA k18 ?_;simp[hw];refine⟨[.keep [2,3,4,5,6,7,8,9,10,11,12],.dr 14,.dr 15,.dr 16,.dr 17,.dr 18,.dr 19,.dr 20],?_⟩;simp;exact hK _ (by simp[aG])
  ·rw[if_pos ue]at hK;have ha:=jU a2 b2;have hb:=kW (b:=z2) a2;have k1:=Iu a2 b2;have k2:=Iv a2 b2;have k3:=Iu a3 b3;have k4:=Iv a3 b3;have hp:=jU a3 b3;have hm:=kW (b:=z3) a3;simp only[Iq]at hK;generalize qW x2 z2=A at*;generalize pJ x2 z2=B at*;generalize qW x3 z3=P at*;generalize pJ x3 z3=M at*;have G3:=cZ ha ha;have Ft:=cZ hb hb;have k5:=cG ha ha;have k6:=cG hb hb;have k7:=cG hm ha;have k8:=cG hp hb;have KW:=cZ hm ha;have Mp:=cZ hp hb;generalize gj A A=AA at*;generalize gj B B=BB at*;generalize gj M A=DA at*;generalize gj P B=CB at*;have k9:=Iv G3 Ft;have he:=kW (b:=BB) G3;have k10:=Iu KW Mp;have k11:=Iv KW Mp;have hs:=jU KW Mp;have hd:=kW (b:=CB) KW;generalize pJ AA BB=E at*;generalize qW DA CB=S at*;generalize pJ DA CB=D at*;have k12:=cG hs hs;have k13:=cG hd hd;have D4:=cZ hd hd;have k14:=cG (D4.mono gW) (h1.mono gW);have k15:=cG (G3.mono gW) (Ft.mono gW);have k16:=cG he (Ix.mono gW);have hec:=cZ he (Ix.mono gW);have k17:=Iu hec G3;have hea:=jU hec G3;have k18:=cG hea he;refine lH.run [14,15] rfl ?_;simp[z5];refine aN.rA k1 ?_;simp;refine aN.rA k2 ?_;simp;refine lH.run [16,17] rfl ?_;simp[z5];refine aN.rA k5 ?_;simp;refine aN.rA k6 ?_;simp;refine ai.rA k9 ?_;simp;refine lH.run [19,20] rfl ?_;simp[z5];refine aN.rA k4 ?_;simp;refine aN.rA k7 ?_;simp;refine aN.rA k3 ?_;simp;refine aN.rA k8 ?_;simp;refine aN.rA k10 ?_;simp;refine aN.rA k11 ?_;simp;refine aN.rA k12 ?_;simp;refine aN.rA k13 ?_;simp;refine aN.rA k14 ?_;simp;refine aN.rA k15 ?_;simp;refine aN.ret k16 (by simp;rfl) (by simp) (by simp) ?_;simp;refine aN.rA k17 ?_;simp;refine aN.rA k18 ?_;simp[hw];refine⟨[.keep [2,3,4,5,6,7,8,9,10,11,12],.dr 14,.dr 15,.dr 16,.dr 17,.dr 18,.dr 19,.dr 20],?_⟩;simp;exact hK _ (by simp[aG])
 ·have dh:=BS n h1 255;generalize jn n x1 255=L at*;obtain⟨x2,z2,x3,z3,last⟩:=L;obtain⟨a2,b2,a3,b3⟩:=dh;dsimp only at a2 b2 a3 b3⊢;have k1:=vy (b2.mono gW);have k2:=cG (a2.mono gW) ((tU (b2.mono gW) 255).mono gW);have k3:=AU (cZ (a2.mono gW) ((tU (b2.mono gW) 255).mono gW));have k4:=vy (b3.mono gW);have k5:=cG (a3.mono gW) ((tU (b3.mono gW) 255).mono gW);have k6:=AU (cZ (a3.mono gW) ((tU (b3.mono gW) 255).mono gW));simp[↓al];refine⟨λue=> ?_,λue=> ?_⟩
  ·refine lH.run [7] rfl ?_;simp[ue];refine aN.rA k4 ?_;simp;refine aN.rA k5 ?_;simp;refine aN.rA k6 ?_;simp;refine aA.plain [.keep [4],.dr 1] ?_;simp[ue]
  ·simp[ue];refine aN.rA k1 ?_;simp;refine aN.rA k2 ?_;simp;refine aN.rA k3 ?_;simp;refine aA.plain [.keep [4],.dr 1] ?_;simp[ue]
def iW (n:Nat) (f:Nat->Int):List PV:=(List.range n).map λi=> .int .i64 (f i)
theorem adp {n:Nat} (f:Nat->Int) {i:Nat} (h:i<n):(iW n f)[i]? =some (.int .i64 (f i)):=by simp[iW,h]
def upW (f:Nat->Int) (i:Nat) (x:Int):Nat->Int:=λj=>if j=i then x else f j
@[simp] theorem Ws (n:Nat) (f:Nat->Int):an (iW n f):=aF (λ_=>by simp) _
theorem Wt:zr 16 (PV.int IntKind.i64 0)=iW 16 λ_=>0:=by rw[cg];rfl
def Ag (f:Nat->Int) (b:Int):Prop:=∀i,i<16-> -b≤f i∧f i≤b
def cX (f:Nat->Int):Nat->Int
 |0=>f 0
 |i+1=>f (i+1)+cX f i/65536
def sc (f:Nat->Int):Nat->Int:=λj=>if j=0 then f 0%65536+38*(cX f 15/65536)else cX f j%65536
theorem ZV {f:Nat->Int} {b:Int} (hf:Ag f b) (hb:2≤b):∀i,i<16-> -(b+b)≤cX f i∧cX f i≤b+b
 |0,h=>by have:=hf 0 h;simp only[cX];omega
 |
  i+1,h=>by
  have h1:=ZV hf hb i (by omega)
  have:=hf (i+1) h
  simp only[cX]
  omega
def tC (t:Nat->Int) (x:Int) (b:Nat->Int) (i j:Nat):Nat->Int:=λk=>if i≤k∧k<i+j then t k+x*b (k-i)else t k
def tR (a b:Nat->Int):Nat->Nat->Int
 |0=>λ_=>0
 |i+1=>tC (tR a b i) (a i) b i 16
def tO (a b:Nat->Int):Nat->Int:=λk=>if k<15 then tR a b 16 k+38*tR a b 16 (k+16)else tR a b 16 k
def qY (a b:Nat->Int):Nat->Int:=sc (sc (tO a b))
theorem adq {x y b c:Int} (h1: -b≤x) (h2:x≤b) (h3: -c≤y) (h4:y≤c): -(b*c)≤x*y∧x*y≤b*c:=by
 have e1:0≤(b-x)*(c-y):=Int.mul_nonneg (by omega) (by omega);have e2:0≤(b+x)*(c-y):=Int.mul_nonneg (by omega) (by omega);have e3:0≤(b-x)*(c+y):=Int.mul_nonneg (by omega) (by omega);have e4:0≤(b+x)*(c+y):=Int.mul_nonneg (by omega) (by omega);simp only[Int.sub_mul,Int.mul_sub,Int.add_mul,Int.mul_add]at e1 e2 e3 e4;omega
theorem Rd {a b:Nat->Int} (ha:Ag a 262144) (hb:Ag b 262144):∀i:Nat,i≤16->∀k,-((i:Int)*68719476736)≤tR a b i k∧tR a b i k≤(i:Int)*68719476736
 |0,_,k=>by simp[tR]
 |
  i+1,hi,k=>by
  have h:=Rd ha hb i (by omega) k
  have he:tR a b (i+1) k=if i≤k∧k<i+16 then tR a b i k+a i*b (k-i)else tR a b i k:=rfl
  rw[he]
  split
  ·rename_i hk
   obtain⟨p1,p2⟩:=ha i (by omega)
   obtain⟨p3,p4⟩:=hb (k-i) (by omega)
   have:=adq p1 p2 p3 p4
   omega
  ·omega
theorem amN {a b:Nat->Int} (ha:Ag a 262144) (hb:Ag b 262144):Ag (tO a b) 42880953483264:=by
 intro k hk;have h1:=Rd ha hb 16 (by omega) k;have h2:=Rd ha hb 16 (by omega) (k+16);unfold tO;split<;>omega
structure WS (f:Nat->Int):Prop where
 h0: -38≤f 0∧f 0≤65573
 hi:∀i,i<16->i≠0->0≤f i∧f i≤65535
theorem WS.le {f:Nat->Int} (h:WS f):Ag f 65573:=λi hi=>by
 by_cases h0:i=0
 ·subst h0;have:=h.h0;omega
 ·have:=h.hi i hi h0;omega
theorem ZW {f:Nat->Int} (h0: -140737488355328≤f 0∧f 0≤140737488355328) (h:∀i,i<16->i≠0->0≤f i∧f i≤65535):∀i,i+2<16-> -1≤cX f (i+2)/65536∧cX f (i+2)/65536≤1
 |
  0,_=>by
  have:=h 1 (by decide) (by decide)
  have:=h 2 (by decide) (by decide)
  have e:cX f (0+2)=f 2+(f 1+f 0/65536)/65536:=rfl
  rw[e]
  omega
 |
  i+1,hi=>by
  have:=ZW h0 h i (by omega)
  have:=h (i+1+2) hi (by omega)
  have e:cX f (i+1+2)=f (i+1+2)+cX f (i+2)/65536:=rfl
  rw[e]
  omega
theorem Wu {a b:Nat->Int} (ha:Ag a 262144) (hb:Ag b 262144):WS (qY a b):=by
 have ho:=amN ha hb;have hx:=ZV ho (by decide) 15 (by decide);have h0:=ho 0 (by decide);have g0: -140737488355328≤sc (tO a b) 0∧sc (tO a b) 0≤140737488355328:=by simp only[sc];rw[if_pos trivial];omega
 have gi:∀i,i<16->i≠0->0≤sc (tO a b) i∧sc (tO a b) i≤65535:=λi _ hn=>by simp only[sc];rw[if_neg hn];omega
 have hc: -1≤cX (sc (tO a b)) 15/65536∧cX (sc (tO a b)) 15/65536≤1:=ZW g0 gi 13 (by decide);unfold qY;generalize sc (tO a b)=f at*;refine⟨?_,λi hi hn=> ?_⟩
 ·simp only[sc];rw[if_pos trivial];omega
 ·simp only[sc];rw[if_neg hn];omega
def iB (n:Nat) (g:Nat->UInt8):List PV:=(List.range n).map λi=>u8 (g i)
@[simp] theorem adr (n:Nat) (f:Nat->UInt8):(iB n f).length=n:=by simp[iB]
theorem GC {n:Nat} (f:Nat->UInt8) {i:Nat} (h:i<n):(iB n f)[i]? =some (u8 (f i)):=by simp[iB,h]
def upB (f:Nat->UInt8) (i:Nat) (x:UInt8):Nat->UInt8:=λj=>if j=i then x else f j
theorem Iy {n:Nat} {f g:Nat->UInt8} (h:∀i,i<n->f i=g i):iB n f=iB n g:=by
 unfold iB;exact JpW λi hi=>by rw[h i (JiX.1 hi)]
theorem ads (n:Nat) (f:Nat->UInt8) (i:Nat) (x:UInt8):(iB n f).set i (u8 x)=iB n (upB f i x):=by
 apply JjW;intro j;by_cases hj:j<n
 ·rw[GC _ hj,List.getElem?_set];by_cases h:i=j
  ·simp[h,hj,upB]
  ·rw[if_neg h,GC _ hj,upB,if_neg (Ne.symm h)]
 ·rw[List.getElem?_eq_none (by simp;omega),List.getElem?_eq_none (by simp;omega)]
theorem Fa:zr 32 (PV.int IntKind.u8 0)=iB 32 λ_=>0:=by rw[cg];rfl
end Go.Ab

/- Functions of the program and of the document, as the abstract reading walks them, part 2. No condition. -/
import Derived.Test.YtlcojgogfjlceaaGreatDoorEB1
import Derived.Laws.BitsAllLaws
import Derived.Test.YtlcojgogfjlceaaGreatDoorEA5
import Derived.Laws.Externs
set_option maxRecDepth 20000
set_option maxHeartbeats 8000000
set_option linter.all false
noncomputable section
namespace Go.Ab
structure Fe where
 a0:Nat
 a1:Nat
 a2:Nat
 a3:Nat
 a4:Nat
def Fe.l (a:Fe):List PV:=[.int .u64 a.a0,.int .u64 a.a1,.int .u64 a.a2,.int .u64 a.a3,.int .u64 a.a4]
def gz (a:Fe):PV:= .ar 1 5 a.l
@[simp] theorem ag6 (a:Fe):Pure (gz a):=by simp[gz,Fe.l]
@[simp] theorem aqL (a:Fe):wk (gz a)=gz a:=by simp[gz,Fe.l]
@[simp] theorem acX (a:Fe):(gz a).width=5:=_root_.id rfl
@[simp] theorem ame (a:Fe):(gz a).isAgg=true:=rfl
@[simp] theorem ag7 (a:Fe):(gz a).aT=true:=rfl
@[simp] theorem ag8 (a:Fe):(gz a).flat=true:=rfl
@[simp↓] theorem amf (g:Bool) (a:Fe) (K:PV->Prop):ei g (gz a) K=K (gz a):=_root_.id rfl
structure Fe.Le (a:Fe) (n:Nat):Prop where
 h0:a.a0≤n
 h1:a.a1≤n
 h2:a.a2≤n
 h3:a.a3≤n
 h4:a.a4≤n
def sG (a:Fe):Fe:=⟨a.a0%2251799813685248+19*(a.a4/2251799813685248),a.a1%2251799813685248+a.a0/2251799813685248,a.a2%2251799813685248+a.a1/2251799813685248,a.a3%2251799813685248+a.a2/2251799813685248,a.a4%2251799813685248+a.a3/2251799813685248⟩
def qM (a b:Fe):Fe:=⟨a.a0+b.a0,a.a1+b.a1,a.a2+b.a2,a.a3+b.a3,a.a4+b.a4⟩
def pB (a b:Fe):Fe:=⟨a.a0+(4503599627370458-b.a0),a.a1+(4503599627370494-b.a1),a.a2+(4503599627370494-b.a2),a.a3+(4503599627370494-b.a3),a.a4+(4503599627370494-b.a4)⟩
theorem re {n:Nat} (h:n<18446744073709551616):bits .and .u64 (n:Int) 2251799813685247=((n%2251799813685248:Nat):Int):=by
 have h2:(2251799813685247:Nat)=2^51-1:=by decide
 have:=u64_and_nat n 2251799813685247 h (by decide);rw[show((2251799813685247:Nat):Int)=2251799813685247 from rfl]at this;rw[this,h2,Nat.and_two_pow_sub_one_eq_mod]
theorem qx (n:Nat):(n:Int).fdiv 2251799813685248=((n/2251799813685248:Nat):Int):=by
 rw[show(2251799813685248:Int)=((2251799813685248:Nat):Int) from rfl,JgW _ (JlJ _),←JlV]
theorem z5:zr 5 (PV.int IntKind.u64 0)=[.int .u64 0,.int .u64 0,.int .u64 0,.int .u64 0,.int .u64 0]:=by rw[cm];rfl
theorem wI {a:Fe} (h:a.Le 18446744073709551615):aL Pg 330 [gz a] (gz (sG a)):=by
 refine ae.intro (aC R.lr.2) (by simp[R.lr]) ?_;obtain⟨a0,a1,a2,a3,a4⟩:=a;obtain⟨h0,h1,h2,h3,h4⟩:=h;dsimp only at h0 h1 h2 h3 h4;have n0:=re (n:=a0) (by omega);have n1:=re (n:=a1) (by omega);have n2:=re (n:=a2) (by omega);have n3:=re (n:=a3) (by omega);have n4:=re (n:=a4) (by omega);have s0:=qx a0;have s1:=qx a1;have s2:=qx a2;have s3:=qx a3;have s4:=qx a4;simp only[sG];have b0:a0%2251799813685248<2251799813685248:=JdZ _ (by decide);have b1:a1%2251799813685248<2251799813685248:=JdZ _ (by decide);have b2:a2%2251799813685248<2251799813685248:=JdZ _ (by decide);have b3:a3%2251799813685248<2251799813685248:=JdZ _ (by decide);have b4:a4%2251799813685248<2251799813685248:=JdZ _ (by decide);have d0:a0/2251799813685248≤8192:=by omega
 have d1:a1/2251799813685248≤8192:=by omega
 have d2:a2/2251799813685248≤8192:=by omega
 have d3:a3/2251799813685248≤8192:=by omega
 have d4:a4/2251799813685248≤8192:=by omega
 generalize a0%2251799813685248=r0 at*;generalize a1%2251799813685248=r1 at*;generalize a2%2251799813685248=r2 at*;generalize a3%2251799813685248=r3 at*;generalize a4%2251799813685248=r4 at*;generalize a0/2251799813685248=q0 at*;generalize a1/2251799813685248=q1 at*;generalize a2/2251799813685248=q2 at*;generalize a3/2251799813685248=q3 at*;generalize a4/2251799813685248=q4 at*;have w4:IntKind.u64.wrap (19*(q4:Int))=19*q4:=wrap_u64 ⟨by omega,by omega⟩;have v0:IntKind.u64.wrap ((r0:Int)+19*q4)=r0+19*q4:=wrap_u64 ⟨by omega,by omega⟩;have v1:IntKind.u64.wrap ((r1:Int)+q0)=r1+q0:=wrap_u64 ⟨by omega,by omega⟩;have v2:IntKind.u64.wrap ((r2:Int)+q1)=r2+q1:=wrap_u64 ⟨by omega,by omega⟩;have v3:IntKind.u64.wrap ((r3:Int)+q2)=r3+q2:=wrap_u64 ⟨by omega,by omega⟩;have v4:IntKind.u64.wrap ((r4:Int)+q3)=r4+q3:=wrap_u64 ⟨by omega,by omega⟩;simp[R.lr,aj,av,gz,Fe.l,z5,show IntKind.u64.bits=64 from rfl,n0,n1,n2,n3,n4,s0,s1,s2,s3,s4,w4,v0,v1,v2,v3,v4];refine aA.plain [.keep [2],.dr 1] ?_;simp
def Kg (c a:Fe) (i:Nat):List PV:=c.l.take i++a.l.drop i
theorem Ny {a b:Fe} (ha:a.Le 9223372036854775807) (hb:b.Le 9223372036854775807):aL Pg 262 [gz a,gz b] (gz (qM a b)):=by
 refine ae.intro (aC R.oV.2) (by simp[R.oV]) ?_;obtain⟨a0,a1,a2,a3,a4⟩:=a;obtain⟨b0,b1,b2,b3,b4⟩:=b;obtain⟨h0,h1,h2,h3,h4⟩:=ha;obtain⟨g0,g1,g2,g3,g4⟩:=hb;dsimp only at h0 h1 h2 h3 h4 g0 g1 g2 g3 g4;have v0:IntKind.u64.wrap ((a0:Int)+b0)=a0+b0:=wrap_u64 ⟨by omega,by omega⟩;have v1:IntKind.u64.wrap ((a1:Int)+b1)=a1+b1:=wrap_u64 ⟨by omega,by omega⟩;have v2:IntKind.u64.wrap ((a2:Int)+b2)=a2+b2:=wrap_u64 ⟨by omega,by omega⟩;have v3:IntKind.u64.wrap ((a3:Int)+b3)=a3+b3:=wrap_u64 ⟨by omega,by omega⟩;have v4:IntKind.u64.wrap ((a4:Int)+b4)=a4+b4:=wrap_u64 ⟨by omega,by omega⟩;simp[R.oV,aj,av,gz,Fe.l,qM];refine eW.fM 5 (λ_=>True) [2,3,4,6] (λi=>[(6,.int .i64 i)]) (λi=>[(2,.box (.ar 1 5 (Kg (qM ⟨a0,a1,a2,a3,a4⟩ ⟨b0,b1,b2,b3,b4⟩) ⟨a0,a1,a2,a3,a4⟩ i)))]) [.keep [2,3,4,6]] ?_;simp[Kg,Fe.l,qM];refine⟨λi hi K hK=> ?_,λK=> ?_⟩
 ·rcases(by omega:i=0∨i=1∨i=2∨i=3∨i=4)with rfl|rfl|rfl|rfl|rfl
  all_goals
   simp[↓al,v0,v1,v2,v3,v4]at hK⊢
   refine⟨[.keep [2,3,4,6]],?_⟩
   simp
   exact hK _ (by simp)
 ·simp[↓al];refine aA.plain [.keep [4],.dr 2,.dr 3] ?_;simp
theorem Nz {a b:Fe} (ha:a.Le 9223372036854775807) (hb:b.Le 4503599627370458):aL Pg 263 [gz a,gz b] (gz (pB a b)):=by
 refine ae.intro (aC R.oW.2) (by simp[R.oW]) ?_;obtain⟨a0,a1,a2,a3,a4⟩:=a;obtain⟨b0,b1,b2,b3,b4⟩:=b;obtain⟨h0,h1,h2,h3,h4⟩:=ha;obtain⟨g0,g1,g2,g3,g4⟩:=hb;dsimp only at h0 h1 h2 h3 h4 g0 g1 g2 g3 g4;have u0:IntKind.u64.wrap (4503599627370458-(b0:Int))=((4503599627370458-b0:Nat):Int):=by rw[wrap_u64 ⟨by omega,by omega⟩];omega
 have u1:IntKind.u64.wrap (4503599627370494-(b1:Int))=((4503599627370494-b1:Nat):Int):=by rw[wrap_u64 ⟨by omega,by omega⟩];omega
 have u2:IntKind.u64.wrap (4503599627370494-(b2:Int))=((4503599627370494-b2:Nat):Int):=by rw[wrap_u64 ⟨by omega,by omega⟩];omega
 have u3:IntKind.u64.wrap (4503599627370494-(b3:Int))=((4503599627370494-b3:Nat):Int):=by rw[wrap_u64 ⟨by omega,by omega⟩];omega
 have u4:IntKind.u64.wrap (4503599627370494-(b4:Int))=((4503599627370494-b4:Nat):Int):=by rw[wrap_u64 ⟨by omega,by omega⟩];omega
 have e:pB ⟨a0,a1,a2,a3,a4⟩ ⟨b0,b1,b2,b3,b4⟩=⟨a0+(4503599627370458-b0),a1+(4503599627370494-b1),a2+(4503599627370494-b2),a3+(4503599627370494-b3),a4+(4503599627370494-b4)⟩:=rfl;rw[e];have l0:4503599627370458-b0≤4503599627370458:=Nat.sub_le _ _;have l1:4503599627370494-b1≤4503599627370494:=Nat.sub_le _ _;have l2:4503599627370494-b2≤4503599627370494:=Nat.sub_le _ _;have l3:4503599627370494-b3≤4503599627370494:=Nat.sub_le _ _;have l4:4503599627370494-b4≤4503599627370494:=Nat.sub_le _ _;clear e;generalize 4503599627370458-b0=c0 at*;generalize 4503599627370494-b1=c1 at*;generalize 4503599627370494-b2=c2 at*;generalize 4503599627370494-b3=c3 at*;generalize 4503599627370494-b4=c4 at*;have v0:IntKind.u64.wrap ((a0:Int)+c0)=a0+c0:=wrap_u64 ⟨by omega,by omega⟩;have v1:IntKind.u64.wrap ((a1:Int)+c1)=a1+c1:=wrap_u64 ⟨by omega,by omega⟩;have v2:IntKind.u64.wrap ((a2:Int)+c2)=a2+c2:=wrap_u64 ⟨by omega,by omega⟩;have v3:IntKind.u64.wrap ((a3:Int)+c3)=a3+c3:=wrap_u64 ⟨by omega,by omega⟩;have v4:IntKind.u64.wrap ((a4:Int)+c4)=a4+c4:=wrap_u64 ⟨by omega,by omega⟩;simp[R.oW,aj,av,gz,Fe.l,u0,v0];refine eW.fM 4 (λ_=>True) [2,3,4,5] (λi=>[(5,.int .i64 ((i+1:Nat):Int))]) (λi=>[(2,.box (.ar 1 5 (Kg ⟨a0+c0,a1+c1,a2+c2,a3+c3,a4+c4⟩ ⟨a0+c0,a1,a2,a3,a4⟩ (i+1))))]) [.keep [2,3,4,5]] ?_;simp[Kg,Fe.l];refine⟨λi hi K hK=> ?_,λK=> ?_⟩
 ·rcases(by omega:i=0∨i=1∨i=2∨i=3)with rfl|rfl|rfl|rfl
  all_goals
   simp[↓al,u1,u2,u3,u4,v1,v2,v3,v4]at hK⊢
   refine⟨[.keep [2,3,4,5]],?_⟩
   simp
   exact hK _ (by simp)
 ·simp[↓al];refine aA.plain [.keep [4],.dr 2,.dr 3] ?_;simp
theorem eY.three {Γ:Cx} {k:IntKind} {x y c:Int} {vs:List Value} (h:eY Γ [.int k x,.int k y,.int k c] vs):vs=[.int k x,.int k y,.int k c]:=by
 match vs,h with
 |
  [a,b,d],h=>
  simp only[eY]at h
  rw[h.1.int,h.2.1.int,h.2.2.1.int]
 |[],h=>simp[eY]at h
 |[_],h=>simp[eY]at h
 |[_,_],h=>simp[eY]at h
 |_::_::_::_::_,h=>simp[eY]at h
theorem aL.pair {f:FuncId} {x y c a b:Int} (h:∀w,(callFunc f #[.int .u64 x,.int .u64 y,.int .u64 c]).run Pg w= .ok (.value (.tuple #[.int .u64 a,.int .u64 b])) w):
  aL Pg f [.int .u64 x,.int .u64 y,.int .u64 c] (.tup [.int .u64 a,.int .u64 b]):=by
 intro Γ w vs hw hm ly hA;rw[hA.three];exact .inr ⟨_,w,h w,_,_,[],Γ,rfl,⟨rfl,rfl⟩,hw,hm,ly,⟨[.int .u64 a,.int .u64 b],rfl,.int _ _ .nil,.int _ _ .nil,trivial⟩,Le.refl Γ,WF.refl w⟩
theorem bits_Add64 (x y c:Nat) (hc:c≤1):
  aL Pg 362 [.int .u64 x,.int .u64 y,.int .u64 c] (.tup [.int .u64 (((x+y+c)%18446744073709551616:Nat):Int),.int .u64 (((x+y+c)/18446744073709551616:Nat):Int)]):=by
 refine aL.pair λw=> ?_;rw[run_callFunc_extern (fn:=(Pg.funcs[362]?).getD default) (by kernel_rfl) (by kernel_rfl) (by kernel_rfl) (by kernel_rfl) (e:=add64Entry) (by kernel_rfl),run_add64 x y c (by omega) (by omega) (by omega) (by omega)];congr 3
def LH (x y:Int):Int:=IntKind.u64.wrap
    (IntKind.u64.wrap
      (IntKind.u64.wrap (x.fdiv (2^min 32 IntKind.u64.bits)*y.fdiv (2^min 32 IntKind.u64.bits))+
       (IntKind.u64.wrap
          (IntKind.u64.wrap (x.fdiv (2^min 32 IntKind.u64.bits)*bits BinOp.and IntKind.u64 y 4294967295)+
           (IntKind.u64.wrap
              (bits BinOp.and IntKind.u64 x 4294967295*bits BinOp.and IntKind.u64 y 4294967295)).fdiv
            (2^min 32 IntKind.u64.bits))).fdiv
        (2^min 32 IntKind.u64.bits))+
     (IntKind.u64.wrap
        (bits BinOp.and IntKind.u64
          (IntKind.u64.wrap
           (IntKind.u64.wrap
             (x.fdiv (2^min 32 IntKind.u64.bits)*bits BinOp.and IntKind.u64 y 4294967295)+
            (IntKind.u64.wrap
               (bits BinOp.and IntKind.u64 x 4294967295*bits BinOp.and IntKind.u64 y 4294967295)).fdiv
             (2^min 32 IntKind.u64.bits)))
          4294967295+
         IntKind.u64.wrap
          (bits BinOp.and IntKind.u64 x 4294967295*y.fdiv (2^min 32 IntKind.u64.bits)))).fdiv
      (2^min 32 IntKind.u64.bits))
theorem QN {n:Nat} (h:n<18446744073709551616):bits .and .u64 (n:Int) 4294967295=((n%4294967296:Nat):Int):=by
 have h2:(4294967295:Nat)=2^32-1:=by decide
 have:=u64_and_nat n 4294967295 h (by decide);rw[show((4294967295:Nat):Int)=4294967295 from rfl]at this;rw[this,h2,Nat.and_two_pow_sub_one_eq_mod]
theorem It (n:Nat):(n:Int).fdiv (2^min 32 IntKind.u64.bits)=((n/4294967296:Nat):Int):=by
 rw[show((2:Int)^min 32 IntKind.u64.bits)=((4294967296:Nat):Int) from rfl,JgW _ (JlJ _),←JlV]
theorem uS {n:Nat} (h:n<18446744073709551616):IntKind.u64.wrap (n:Int)=n:=wrap_u64 ⟨by omega,by omega⟩
theorem atT (p q r s:Nat):(p*4294967296+q)*(r*4294967296+s)=p*r*18446744073709551616+(p*s+q*r)*4294967296+q*s:=by
 have h1:p*4294967296*(r*4294967296)=p*r*18446744073709551616:=by rw[Nat.mul_mul_mul_comm]
 have h2:p*4294967296*s=p*s*4294967296:=Nat.mul_right_comm _ _ _;have h3:q*(r*4294967296)=q*r*4294967296:=(Nat.mul_assoc _ _ _).symm;rw[JgZ,Nat.mul_add,Nat.mul_add,h1,h2,h3];omega
theorem QO {x y:Nat} (hx:x<18446744073709551616) (hy:y<18446744073709551616):LH x y=((x*y/18446744073709551616:Nat):Int):=by
 unfold LH;rw[QN hx,QN hy,It x,It y];have ex:x=x/4294967296*4294967296+x%4294967296:=by omega
 have ey:y=y/4294967296*4294967296+y%4294967296:=by omega
 have a1:x/4294967296≤4294967295:=by omega
 have a0:x%4294967296≤4294967295:=by omega
 have b1:y/4294967296≤4294967295:=by omega
 have b0:y%4294967296≤4294967295:=by omega
 have e:x*y=x/4294967296*(y/4294967296)*18446744073709551616+(x/4294967296*(y%4294967296)+x%4294967296*(y/4294967296))*4294967296+x%4294967296*(y%4294967296):=by
  have:=atT (x/4294967296) (x%4294967296) (y/4294967296) (y%4294967296);rw[←ex,←ey]at this;exact this
 have p11:x/4294967296*(y/4294967296)≤4294967295*4294967295:=JhW a1 b1;have p10:x/4294967296*(y%4294967296)≤4294967295*4294967295:=JhW a1 b0;have p01:x%4294967296*(y/4294967296)≤4294967295*4294967295:=JhW a0 b1;have p00:x%4294967296*(y%4294967296)≤4294967295*4294967295:=JhW a0 b0;simp only[←JrJ];rw[e];generalize x/4294967296*(y/4294967296)=m11 at*;generalize x/4294967296*(y%4294967296)=m10 at*;generalize x%4294967296*(y/4294967296)=m01 at*;generalize x%4294967296*(y%4294967296)=m00 at*;clear e ex ey a1 a0 b1 b0;have t0:m10+m00/4294967296<18446744073709551616:=by omega
 have t1:(m10+m00/4294967296)%4294967296+m01<18446744073709551616:=by omega
 rw[uS (by omega:m11<_),uS (by omega:m10<_),uS (by omega:m00<_),uS (by omega:m01<_),It m00,←Int.natCast_add,uS t0,QN t0,It,←Int.natCast_add,←Int.natCast_add,uS t1,It,uS (by omega),←Int.natCast_add,uS (by omega)];omega
theorem Iu (x y:Int):aL Pg 361 [.int .u64 x,.int .u64 y] (.tup [.int .u64 (LH x y),.int .u64 (IntKind.u64.wrap (x*y))]):=by
 refine ae.intro (aC R.oX.2) (by simp[R.oX]) ?_;simp[R.oX,aj,av];refine aA.plain [] ?_;simp[LH]
theorem wrN (n:Nat):IntKind.u64.wrap (n:Int)=((n%18446744073709551616:Nat):Int):=by
 simp[IntKind.wrap,IntKind.bits,IntKind.signed]
theorem bits_Mul64 {x y:Nat} (hx:x<18446744073709551616) (hy:y<18446744073709551616):aL Pg 361 [.int .u64 x,.int .u64 y] (.tup [.int .u64 ((x*y/18446744073709551616:Nat):Int),.int .u64 ((x*y%18446744073709551616:Nat):Int)]):=by
 have h:=Iu x y;rw[QO hx hy,←JrJ,wrN]at h;exact h
def kV (n:Nat):PV:= .st 2 [.int .u64 ((n/18446744073709551616:Nat):Int),.int .u64 ((n%18446744073709551616:Nat):Int)]
@[simp] theorem acY (n:Nat):Pure (kV n):=by simp[kV]
@[simp] theorem amg (n:Nat):wk (kV n)=kV n:=by simp[kV]
theorem Dv {w a b:Nat} (ha:a<18446744073709551616) (hb:b<18446744073709551616) (h:w+a*b<340282366920938463463374607431768211456):aL Pg 329 [kV w,.int .u64 a,.int .u64 b] (kV (w+a*b)):=by
 refine ae.intro (aC R.oY.2) (by simp[R.oY]) ?_;have hm:=bits_Mul64 ha hb
 have e:kV (w+a*b)= .st 2 [.int .u64 (((a*b/18446744073709551616+w/18446744073709551616+(a*b%18446744073709551616+w%18446744073709551616+0)/18446744073709551616)%18446744073709551616:Nat):Int),.int .u64 (((a*b%18446744073709551616+w%18446744073709551616+0)%18446744073709551616:Nat):Int)]:=by
  have e1:(w+a*b)/18446744073709551616=(a*b/18446744073709551616+w/18446744073709551616+(a*b%18446744073709551616+w%18446744073709551616+0)/18446744073709551616)%18446744073709551616:=by
   generalize a*b=t at*;omega
  have e2:(w+a*b)%18446744073709551616=(a*b%18446744073709551616+w%18446744073709551616+0)%18446744073709551616:=by
   generalize a*b=t at*;omega
  rw[kV,e1,e2]
 rw[e];have hc:(a*b%18446744073709551616+w%18446744073709551616+0)/18446744073709551616≤1:=by omega
 have k1:=bits_Add64 (a*b%18446744073709551616) (w%18446744073709551616) 0 (by omega);have k2:=bits_Add64 (a*b/18446744073709551616) (w/18446744073709551616) _ hc;unfold kV;clear e h;generalize a*b/18446744073709551616=m1 at*;generalize a*b%18446744073709551616=m0 at*;generalize w/18446744073709551616=w1 at*;generalize w%18446744073709551616=w0 at*;generalize (m0+w0+0)/18446744073709551616=c at*;generalize (m0+w0+0)%18446744073709551616=lo at*;generalize (m1+w1+c)%18446744073709551616=hi at*;generalize (m1+w1+c)/18446744073709551616=c2 at*;simp[R.oY,aj,av];refine ai.rA hm ?_;simp;refine ai.rA k1 ?_;simp;refine ai.rA k2 ?_;simp;refine aA.plain [.keep [6],.dr 3] ?_;simp
def Fe.n (a:Fe):List Nat:=[a.a0,a.a1,a.a2,a.a3,a.a4]
theorem Fe.amh (a:Fe):a.n.length=5:=rfl
theorem Fe.LI (a:Fe):gz a= .ar 1 5 (a.n.map λx:Nat=>PV.int .u64 x):=rfl
theorem Fe.Le.QP {a:Fe} {m:Nat} (h:a.Le m) {i:Nat} (hi:i<5):∃x,a.n[i]? =some x∧x≤m:=by
 rcases(by omega:i=0∨i=1∨i=2∨i=3∨i=4)with rfl|rfl|rfl|rfl|rfl
 ·exact⟨_,rfl,h.h0⟩
 ·exact⟨_,rfl,h.h1⟩
 ·exact⟨_,rfl,h.h2⟩
 ·exact⟨_,rfl,h.h3⟩
 ·exact⟨_,rfl,h.h4⟩
def Gm (x y i j:Nat) (S:List Nat):List Nat:=if i+j<5 then S.set (i+j) (S.getD (i+j) 0+x*y)else S.set (i+j-5) (S.getD (i+j-5) 0+19*x*y)
def Gt (b:Fe) (x i:Nat):Nat->List Nat->List Nat
 |0,S=>S
 |j+1,S=>Gm x (b.n.getD j 0) i j (Gt b x i j S)
def wm (a b:Fe):Nat->List Nat
 |0=>[0,0,0,0,0]
 |i+1=>Gt b (a.n.getD i 0) i 5 (wm a b i)
structure I9 (S:List Nat) (m:Nat):Prop where
 len:S.length=5
 le:∀s∈S,s≤m
theorem I9.get {S:List Nat} {m:Nat} (h:I9 S m) {k:Nat} (hk:k<5):∃s,S[k]? =some s∧s≤m:=by
 have RW:k<S.length:=by have:=h.len;omega
 exact⟨S[k],gJ RW,h.le _ (JbJ RW)⟩
theorem I9.Gm {S:List Nat} {m n x y i j:Nat} (h:I9 S m) (KH:19*x*y≤n):I9 (Gm x y i j S) (m+n):=by
 have avQ:x*y≤n:=by
  refine JeW ?_ KH;rw[Nat.mul_assoc];omega
 have key:∀k v,v≤n->I9 (S.set k (S.getD k 0+v)) (m+n):=by
  intro k v hv;refine⟨by rw[JjQ];exact h.len,λs hs=> ?_⟩;rcases JhJ hs with hs|rfl
  ·have:=h.le s hs;omega
  ·have:S.getD k 0≤m:=by
    rw[JaV];cases hk:S[k]?with
    |none=>simp
    |some s=>simpa using h.le s (JeQ hk)
   omega
 unfold Go.Ab.Gm;split
 ·exact key _ _ avQ
 ·exact key _ _ KH
theorem Fe.Le.LJ {a:Fe} {m:Nat} (h:a.Le m) (i:Nat):a.n.getD i 0≤m:=by
 rw[JaV];by_cases hi:i<5
 ·obtain⟨x,hx,hle⟩:=Fe.Le.QP h hi;rw[hx];exact hle
 ·rw[List.getElem?_eq_none (by rw[Fe.amh];omega)];simp
theorem I9.row {S:List Nat} {b:Fe} {m c x i:Nat} (h:I9 S m) (hb:b.Le c) (j:Nat):I9 (Gt b x i j S) (m+j*(19*x*c)):=by
 induction j with
 |zero=>simpa[Gt]using h
 |
  succ j ih=>
  have:=ih.Gm (n:=19*x*c) (x:=x) (y:=b.n.getD j 0) (i:=i) (j:=j) (JmV _ (hb.LJ j))
  rw[Nat.add_one_mul,←Nat.add_assoc]
  exact this
theorem I9.sum {a b:Fe} {ca cb:Nat} (ha:a.Le ca) (hb:b.Le cb) (i:Nat):I9 (wm a b i) (i*(5*(19*ca*cb))):=by
 induction i with
 |zero=>exact⟨rfl,by simp[wm]⟩
 |
  succ i ih=>
  have h:=ih.row (x:=a.n.getD i 0) (i:=i) hb 5
  refine⟨h.len,λs hs=>JeW (h.le s hs) ?_⟩
  have:19*a.n.getD i 0*cb≤19*ca*cb:=JcV _ (JmV _ (ha.LJ i))
  rw[Nat.add_one_mul i (5*(19*ca*cb))]
  generalize i*(5*(19*ca*cb))=q
  omega
def Gu (S:List Nat):Fe:=⟨S.getD 0 0%2251799813685248+19*(S.getD 4 0/2251799813685248),S.getD 1 0%2251799813685248+S.getD 0 0/2251799813685248,S.getD 2 0%2251799813685248+S.getD 1 0/2251799813685248,S.getD 3 0%2251799813685248+S.getD 2 0/2251799813685248,S.getD 4 0%2251799813685248+S.getD 3 0/2251799813685248⟩
def fV (a b:Fe):Fe:=sG (Gu (wm a b 5))
@[simp] theorem Zt (n:Nat):(kV n).width=2:=_root_.id rfl
@[simp] theorem ag9 (n:Nat):(kV n).isAgg=true:=rfl
@[simp] theorem acZ (n:Nat):(kV n).aT=true:=rfl
@[simp] theorem ac0 (n:Nat):(kV n).flat=true:=rfl
@[simp↓] theorem aha (g:Bool) (n:Nat) (K:PV->Prop):ei g (kV n) K=K (kV n):=_root_.id rfl
def loN (n:Nat):Int:=((n%18446744073709551616:Nat):Int)
def hiN (n:Nat):Int:=((n/18446744073709551616:Nat):Int)
@[simp↓] theorem VY (n:Nat) (r:List Step):aO (kV n) (.f 0 0::r)=aO (.int .u64 (hiN n)) r:=by simp[kV,hiN]
@[simp↓] theorem VZ (n:Nat) (r:List Step):aO (kV n) (.f 1 1::r)=aO (.int .u64 (loN n)) r:=by simp[kV,loN,aB]
theorem QQ (n:Nat):bits .and .u64 (loN n) 2251799813685247=((n%2251799813685248:Nat):Int):=by
 unfold loN;rw[re (JdZ _ (by decide)),Nat.mod_mod_of_dvd _ (by decide)]
theorem QR {n:Nat} (h:n<41538374868278621028243970633760768):bits .or .u64 (IntKind.u64.wrap (hiN n*8192)) ((loN n).fdiv 2251799813685248)=((n/2251799813685248:Nat):Int):=by
 unfold hiN loN;have h1:n/18446744073709551616*8192<18446744073709551616:=by omega
 have e1:IntKind.u64.wrap (((n/18446744073709551616:Nat):Int)*8192)=((n/18446744073709551616*8192:Nat):Int):=by
  rw[show((n/18446744073709551616:Nat):Int)*8192=((n/18446744073709551616*8192:Nat):Int) by simp];exact uS h1
 have h2:n%18446744073709551616/2251799813685248<8192:=by omega
 have h3:n/18446744073709551616*8192%2^13=0:=JtQ _ _;rw[e1,qx,u64_or_nat _ _ h1 (by omega),nat_join 13 _ _ h3 h2];congr 1;omega
def LK (S:List Nat):PV:= .ar 2 5 (S.map kV)
def qy:Nat:=9007199254740992
theorem V2:33*(19*qy*qy)<340282366920938463463374607431768211456:=by decide
theorem ac1:19*qy<18446744073709551616:=by decide
theorem I9.big {R:List Nat} {i j x:Nat} (h:I9 R (i*(5*(19*qy*qy))+j*(19*x*qy))) (hi:i<5) (hj:j<5) (hx:x≤qy):I9 R (32*(19*qy*qy)):=by
 refine⟨h.len,λs hs=>JeW (h.le s hs) ?_⟩;have KH:19*x*qy≤19*qy*qy:=JcV _ (JmV _ hx);have h1:i*(5*(19*qy*qy))≤4*(5*(19*qy*qy)):=JcV _ (by omega);have h2:j*(19*x*qy)≤4*(19*qy*qy):=JhW (by omega) KH;generalize i*(5*(19*qy*qy))=u at*;generalize j*(19*x*qy)=v at*;generalize 19*qy*qy=w at*;omega
theorem QS (a b:Fe):wm a b 5=[0+a.a0*b.a0+19*a.a1*b.a4+19*a.a2*b.a3+19*a.a3*b.a2+19*a.a4*b.a1,
  0+a.a0*b.a1+a.a1*b.a0+19*a.a2*b.a4+19*a.a3*b.a3+19*a.a4*b.a2,
  0+a.a0*b.a2+a.a1*b.a1+a.a2*b.a0+19*a.a3*b.a4+19*a.a4*b.a3,
  0+a.a0*b.a3+a.a1*b.a2+a.a2*b.a1+a.a3*b.a0+19*a.a4*b.a4,
  0+a.a0*b.a4+a.a1*b.a3+a.a2*b.a2+a.a3*b.a1+a.a4*b.a0]:=by
 simp[wm,Gt,Gm,Fe.n]
theorem Zu:5*(5*(19*qy*qy))<38536578246938173805499777443430401:=by decide
theorem ami {a b:Fe} (ha:a.Le qy) (hb:b.Le qy) {s:Nat} (h:(wm a b 5)[4]? =some s):s/2251799813685248≤180143985094819840:=by
 rw[QS]at h;obtain rfl:=Option.some.inj h;have h1:=JhW ha.h0 hb.h4;have h2:=JhW ha.h1 hb.h3;have h3:=JhW ha.h2 hb.h2;have h4:=JhW ha.h3 hb.h1;have h5:=JhW ha.h4 hb.h0;have hC:qy*qy=81129638414606681695789005144064:=by decide
 rw[hC]at h1 h2 h3 h4 h5;generalize a.a0*b.a4=t1 at*;generalize a.a1*b.a3=t2 at*;generalize a.a2*b.a2=t3 at*;generalize a.a3*b.a1=t4 at*;generalize a.a4*b.a0=t5 at*;show(0+t1+t2+t3+t4+t5)/2251799813685248≤_;omega
theorem cH {a b:Fe} (ha:a.Le qy) (hb:b.Le qy):aL Pg 264 [gz a,gz b] (gz (fV a b)):=by
 refine ae.intro T.jx (by simp[F.jx]) ?_;have zw:zr 5 (PV.st 2 [.int .u64 0,.int .u64 0])=(wm a b 0).map kV:=by rw[cm];rfl
 have hS0:=λi=>I9.sum ha hb i;have Xi:=V2;have h64:=ac1;simp[F.jx,aj,av,Fe.LI,zw];refine eW.fM 5 (λ_=>True) [2,3,4,5,14,15] (λi=>[(15,.int .i64 i)]) (λi=>[(5,.box (LK (wm a b i)))]) [.keep [2,3,4,5,14,15]] ?_;simp[LK];refine⟨λi hi K hK=> ?_,λK=> ?_⟩
 ·obtain⟨x,hx,hxl⟩:=ha.QP hi;have hxd:a.n.getD i 0=x:=by rw[JaV,hx];rfl
  have hi5:(i:Int)<5:=by omega
  simp only[wm,hxd]at hK;have hS:=hS0 i;generalize wm a b i=S at*;simp[↓al,hx,hi5,-getElem?_pos];refine eW.fM 5 (λ_=>True) [2,3,4,5,6,7,14,15,19,20] (λj=>[(20,.int .i64 j)]) (λj=>[(5,.box (LK (Gt b x i j S)))]) [.keep [2,3,4,5,6,7,14,15,19,20]] ?_;simp[LK,Gt];refine⟨λj hj K2 qQ=> ?_,λK2=> ?_⟩
  ·obtain⟨y,hy,S4⟩:=hb.QP hj;have hj5:(j:Int)<5:=by omega
   have hR:=(hS.row (x:=x) (i:=i) hb j).big hi hj hxl;have Jd:x*y≤qy*qy:=JhW hxl S4;have rf:19*x*y≤19*qy*qy:=JhW (JmV _ hxl) S4;have hp3:x*y≤19*x*y:=by rw[Nat.mul_assoc];omega
   have aAl:19*x<18446744073709551616:=JfV (JmV _ hxl) h64;have aom:y<18446744073709551616:=by omega
   have hw:IntKind.i64.wrap ((i:Int)+j)=((i+j:Nat):Int):=by rw[wrap_i64 (by omega)];omega
   have Fp:IntKind.i64.wrap ((j:Int)+1)=(j:Int)+1:=wrap_i64 (by omega);rw[hy]at qQ;generalize Gt b x i j S=R at*;have ZW:(Option.some y).getD 0=y:=rfl;rw[ZW]at qQ;clear hS0 hS hK Jd;generalize 19*qy*qy=c at*;by_cases G6:i+j<5
   ·obtain⟨s,hs,DQ⟩:=hR.get G6
    have qH:Gm x y i j R=R.set (i+j) (s+x*y):=by
     unfold Gm;rw[if_pos G6,JaV,hs];rfl
    have Xo:((i+j:Nat):Int)<5:=by omega
    have hc:=Dv (w:=s) (a:=x) (b:=y) (by omega) aom (by omega);rw[qH,JfJ]at qQ;simp[↓al,hy,hj5,hw,Xo,hs,-getElem?_pos,-Int.natCast_add];refine ai.rA hc ?_;simp[hs,Fp,-getElem?_pos,-Int.natCast_add];refine⟨Xo,[.keep [2,3,4,5,6,7,14,15,19,20]],?_⟩;simp;exact qQ _ (by simp)
   ·have hk:i+j-5<5:=by omega
    obtain⟨s,hs,DQ⟩:=hR.get hk
    have qH:Gm x y i j R=R.set (i+j-5) (s+19*x*y):=by
     unfold Gm;rw[if_neg G6,JaV,hs];rfl
    have Xo:¬((i+j:Nat):Int)<5:=by omega
    have hw5:IntKind.i64.wrap (((i+j:Nat):Int)-5)=((i+j-5:Nat):Int):=by rw[wrap_i64 (by omega)];omega
    have avR:IntKind.u64.wrap (19*(x:Int))=((19*x:Nat):Int):=by rw[wrap_u64 ⟨by omega,by omega⟩];omega
    have hc:=Dv (w:=s) (a:=19*x) (b:=y) (by omega) aom (by omega);rw[qH,JfJ]at qQ;generalize 19*x*y=t at*;generalize 19*x=x19 at*;generalize i+j-5=k at*;have hk5:(k:Int)<5:=by omega
    simp[↓al,hy,hj5,hw,Xo,hk5,hw5,avR,hs,-getElem?_pos,-Int.natCast_add];refine ai.rA hc ?_;simp[hs,Fp,-getElem?_pos,-Int.natCast_add];refine⟨hk5,[.keep [2,3,4,5,6,7,14,15,19,20]],?_⟩;simp;exact qQ _ (by simp)
  ·have Fp:IntKind.i64.wrap ((i:Int)+1)=(i:Int)+1:=wrap_i64 (by omega);simp[↓al,Fp];refine⟨[.keep [2,3,4,5,14,15]],?_⟩;simp;exact hK _ (by simp[Gt])
 ·have hS5:=hS0 5;have hm:fV a b=sG (Gu (wm a b 5)):=rfl;rw[←Fe.LI,←Fe.LI,←Fe.LI,hm];have hq4:=λs=> @ami a b ha hb s;generalize wm a b 5=S at*;obtain⟨hl,hle⟩:=hS5;match S,hl with
  |[s0,s1,s2,s3,s4],_=>
  have Ot:=Zu;have g0:=JfV (hle s0 (by simp)) Ot;have g1:=JfV (hle s1 (by simp)) Ot;have g2:=JfV (hle s2 (by simp)) Ot;have g3:=JfV (hle s3 (by simp)) Ot;have g4:=JfV (hle s4 (by simp)) Ot;have q4b:=hq4 s4 rfl;have l0:=QQ s0;have l1:=QQ s1;have l2:=QQ s2;have l3:=QQ s3;have l4:=QQ s4;have u0:=QR (n:=s0) (by omega);have u1:=QR (n:=s1) (by omega);have u2:=QR (n:=s2) (by omega);have u3:=QR (n:=s3) (by omega);have u4:=QR (n:=s4) (by omega);have NX:Gu [s0,s1,s2,s3,s4]=⟨s0%2251799813685248+19*(s4/2251799813685248),s1%2251799813685248+s0/2251799813685248,s2%2251799813685248+s1/2251799813685248,s3%2251799813685248+s2/2251799813685248,s4%2251799813685248+s3/2251799813685248⟩:=rfl;rw[NX];have b0:s0%2251799813685248<2251799813685248:=JdZ _ (by decide);have b1:s1%2251799813685248<2251799813685248:=JdZ _ (by decide);have b2:s2%2251799813685248<2251799813685248:=JdZ _ (by decide);have b3:s3%2251799813685248<2251799813685248:=JdZ _ (by decide);have b4:s4%2251799813685248<2251799813685248:=JdZ _ (by decide);have d0:s0/2251799813685248<18446744073709551616-2251799813685248:=by omega
  have d1:s1/2251799813685248<18446744073709551616-2251799813685248:=by omega
  have d2:s2/2251799813685248<18446744073709551616-2251799813685248:=by omega
  have d3:s3/2251799813685248<18446744073709551616-2251799813685248:=by omega
  clear hq4 hle g0 g1 g2 g3 g4 NX Ot hm hS0;generalize s0%2251799813685248=r0 at*;generalize s1%2251799813685248=r1 at*;generalize s2%2251799813685248=r2 at*;generalize s3%2251799813685248=r3 at*;generalize s4%2251799813685248=r4 at*;generalize s0/2251799813685248=q0 at*;generalize s1/2251799813685248=q1 at*;generalize s2/2251799813685248=q2 at*;generalize s3/2251799813685248=q3 at*;generalize s4/2251799813685248=q4 at*;have w19:IntKind.u64.wrap (19*(q4:Int))=19*q4:=wrap_u64 ⟨by omega,by omega⟩;have v0:IntKind.u64.wrap ((r0:Int)+19*q4)=r0+19*q4:=wrap_u64 ⟨by omega,by omega⟩;have v1:IntKind.u64.wrap ((r1:Int)+q0)=r1+q0:=wrap_u64 ⟨by omega,by omega⟩;have v2:IntKind.u64.wrap ((r2:Int)+q1)=r2+q1:=wrap_u64 ⟨by omega,by omega⟩;have v3:IntKind.u64.wrap ((r3:Int)+q2)=r3+q2:=wrap_u64 ⟨by omega,by omega⟩;have v4:IntKind.u64.wrap ((r4:Int)+q3)=r4+q3:=wrap_u64 ⟨by omega,by omega⟩;have Sg:=wI (a:=⟨r0+19*q4,r1+q0,r2+q1,r3+q2,r4+q3⟩) ⟨by dsimp only;omega,by dsimp only;omega,by dsimp only;omega,by dsimp only;omega,by dsimp only;omega⟩;have he:gz ⟨r0+19*q4,r1+q0,r2+q1,r3+q2,r4+q3⟩= .ar 1 5 [.int .u64 ((r0:Int)+19*q4),.int .u64 ((r1:Int)+q0),.int .u64 ((r2:Int)+q1),.int .u64 ((r3:Int)+q2),.int .u64 ((r4:Int)+q3)]:=by simp[gz,Fe.l]
  rw[he]at Sg;simp[↓al,z5];refine eW.fM 5 (λ_=>True) [2,3,4,10,11,57,58] (λi=>[(58,.int .i64 i)]) (λi=>[(10,.box (.ar 1 5 (Kg ⟨r0,r1,r2,r3,r4⟩ ⟨0,0,0,0,0⟩ i))),(11,.box (.ar 1 5 (Kg ⟨q0,q1,q2,q3,q4⟩ ⟨0,0,0,0,0⟩ i)))]) [.keep [2,3,4,10,11,57,58],.dr 5] ?_;simp[Kg,Fe.l];refine⟨λi hi K hK=> ?_,λK=> ?_⟩
  ·rcases(by omega:i=0∨i=1∨i=2∨i=3∨i=4)with rfl|rfl|rfl|rfl|rfl
   all_goals
    simp[↓al]at hK⊢
    refine lv.run [10,11] rfl ?_
    simp[l0,l1,l2,l3,l4,u0,u1,u2,u3,u4,show IntKind.u64.bits=64 from rfl]
    refine⟨[.keep [2,3,4,10,11,57,58],.dr 13],?_⟩
    simp
    exact hK _ (by simp)
  ·simp[↓al,w19,v0,v1,v2,v3,v4,z5];refine ai.rA Sg ?_;simp;refine aA.plain [.keep [4],.dr 2,.dr 3,.dr 10,.dr 11] ?_;simp
def PB:Nat:=2251799813947392
theorem Fe.Le.mono {a:Fe} {m n:Nat} (h:a.Le m) (hn:m≤n):a.Le n:=⟨JeW h.h0 hn,JeW h.h1 hn,JeW h.h2 hn,JeW h.h3 hn,JeW h.h4 hn⟩
theorem gQ:PB≤qy:=by decide
theorem cV {a b:Fe} (ha:a.Le qy) (hb:b.Le qy):(fV a b).Le PB:=by
 have hS5:=I9.sum ha hb 5;have hq4:=λs=> @ami a b ha hb s;unfold fV;generalize wm a b 5=S at*;obtain⟨hl,hle⟩:=hS5;match S,hl with
 |[s0,s1,s2,s3,s4],_=>
 have Ot:=Zu;have g0:=JfV (hle s0 (by simp)) Ot;have g1:=JfV (hle s1 (by simp)) Ot;have g2:=JfV (hle s2 (by simp)) Ot;have g3:=JfV (hle s3 (by simp)) Ot;have q4b:=hq4 s4 rfl;have NX:Gu [s0,s1,s2,s3,s4]=⟨s0%2251799813685248+19*(s4/2251799813685248),s1%2251799813685248+s0/2251799813685248,s2%2251799813685248+s1/2251799813685248,s3%2251799813685248+s2/2251799813685248,s4%2251799813685248+s3/2251799813685248⟩:=rfl;rw[NX];clear hq4 hle Ot NX;have hP:PB=2251799813947392:=rfl;constructor<;>rw[hP]<;>dsimp only[sG]<;>omega
theorem jP {a b:Fe} (ha:a.Le PB) (hb:b.Le PB):(qM a b).Le qy:=by
 obtain⟨h0,h1,h2,h3,h4⟩:=ha;obtain⟨g0,g1,g2,g3,g4⟩:=hb;have hP:PB=2251799813947392:=rfl;have hC:qy=9007199254740992:=rfl;rw[hP]at h0 h1 h2 h3 h4 g0 g1 g2 g3 g4;constructor<;>rw[hC]<;>dsimp only[qM]<;>omega
theorem kP {a b:Fe} (ha:a.Le PB):(pB a b).Le qy:=by
 obtain⟨h0,h1,h2,h3,h4⟩:=ha;have hP:PB=2251799813947392:=rfl;have hC:qy=9007199254740992:=rfl;rw[hP]at h0 h1 h2 h3 h4;constructor<;>rw[hC]<;>dsimp only[pB]<;>omega
theorem Iv {a b:Fe} (ha:a.Le PB) (hb:b.Le PB):aL Pg 262 [gz a,gz b] (gz (qM a b)):=Ny (ha.mono (by decide)) (hb.mono (by decide))
theorem Iw {a b:Fe} (ha:a.Le PB) (hb:b.Le PB):aL Pg 263 [gz a,gz b] (gz (pB a b)):=Nz (ha.mono (by decide)) (hb.mono (by decide))
def xk:Fe:=⟨1,0,0,0,0⟩
def mI (a:Fe):Nat->Fe
 |0=>xk
 |i+1=>if i=252∨i=250 then fV (mI a i) (mI a i)else fV (fV (mI a i) (mI a i)) a
theorem Gv:xk.Le PB:=by constructor<;>decide
theorem tu {a:Fe} (ha:a.Le qy) (i:Nat):(mI a i).Le PB:=by
 induction i with
 |zero=>exact Gv
 |
  succ i ih=>
  have h1:=cV (ih.mono gQ) (ih.mono gQ)
  unfold mI
  split
  ·exact h1
  ·exact cV (h1.mono gQ) ha
theorem QT:PV.ar 1 5 [.int .u64 1,.int .u64 0,.int .u64 0,.int .u64 0,.int .u64 0]=gz xk:=rfl
theorem vh {a:Fe} (ha:a.Le qy):aL Pg 265 [gz a] (gz (mI a 255)):=by
 refine ae.intro (aC R.kD.2) (by simp[R.kD]) ?_;simp[R.kD,aj,av,z5,QT];refine eW.fM 255 (λ_=>True) [1,2,3,4] (λi=>[(4,.int .i64 (254-(i:Int)))]) (λi=>[(3,.box (gz (mI a i)))]) [.keep [1,2,3,4]] ?_;simp[show mI a 0=xk from rfl];refine⟨λi hi K hK=> ?_,λK=> ?_⟩
 ·have hl:=tu ha i;have KP:=cV (hl.mono gQ) (hl.mono gQ);have h0:(i:Int)≤254:=by omega
  have hw:IntKind.i64.wrap (254-(i:Int)-1)=254-((i:Int)+1):=by rw[wrap_i64 (by omega)];omega
  have c1:=cH (hl.mono gQ) (hl.mono gQ);have c2:=cH (KP.mono gQ) ha;have hs:mI a (i+1)=if i=252∨i=250 then fV (mI a i) (mI a i)else fV (fV (mI a i) (mI a i)) a:=rfl
  rw[hs]at hK;clear hs;generalize mI a i=x at*;generalize fV x x=y at*;generalize fV y a=z at*;simp[↓al,h0];refine ai.rA c1 ?_;by_cases h1:i=252
  ·subst h1;simp;refine⟨[.keep [1,2,3,4]],?_⟩;simp at hK⊢;exact hK _ (by simp)
  ·by_cases h2:i=250
   ·subst h2;simp;refine⟨[.keep [1,2,3,4]],?_⟩;simp at hK⊢;exact hK _ (by simp)
   ·have k1:¬(254-(i:Int)=2):=by omega
    have k2:¬(254-(i:Int)=4):=by omega
    rw[if_neg (by omega)]at hK;simp[k1,k2];refine ai.rA c2 ?_;simp[hw];refine⟨[.keep [1,2,3,4]],?_⟩;simp;exact hK _ (by simp)
 ·simp[↓al];refine aA.plain [.keep [2],.dr 1,.dr 3] ?_;simp
theorem ai.vw {P:Program} {s:St} [eE] {d:Option Nat} {f:FuncId} {k off n N:Nat} {c:ft} {L ys:List PV} {v:PV} {K:St->Prop} {t:Tg K} (hA:aL P f [.sl 1 ys false] v)
  (hb:get s.bx k=some (.box (.ar 1 N L))) (hL:au L) (hyp:au ys) (hn:off+n≤N) (Fl:(L.drop off).take n=ys) (hv:Pure v) (nJ:gf v=true)
  (h:K ({s with bx:=put s.bx k (.box (.ar 1 N L))}.put d v)):ai P s d f [.rs k [] off n 0 1 c] K t:=by
 refine ai.view [k] [] [.box (.ar 1 N L)] (bC:=[.rs KB [] off n 0 1 c]) (cg:=[.box (.ar 1 N L)]) hA (by simp[getAll,hb]) (by simp) (by simp) (by simp[ah,af,bT,idx]) (by simp[ab,af,hL.refs]) (by simp[aS,aE,bz,idx]) (by simp[az,aE,hL.aE]) ?_ ?_ ?_
 ·refine⟨.inl (.inr ⟨KB,[],off,n,0,1,c,ys,rfl,?_,hyp.refs _,by omega,rfl⟩),trivial⟩;simp[av,Fl,hn]
 ·rintro r new ⟨rfl,rfl⟩;exact⟨⟨nJ,by simp⟩,rfl⟩
 ·rintro r new ⟨rfl,rfl⟩;simp[hv.aE,hv.refs,ab,af,hL.refs,az,aE,hL.aE,aI];exact h
def sP (l:List UInt8):Nat->Nat
 |0=>0
 |i+1=>sP l i+(l.getD i 0).toNat*256^i
theorem Gw (l:List UInt8):∀i,sP l i<256^i
 |0=>by simp[sP]
 |
  i+1=>by
  have h:=Gw l i
  have hb:=(l.getD i 0).toNat_lt
  unfold sP
  rw[Nat.pow_succ]
  have:(l.getD i 0).toNat*256^i≤255*256^i:=JcV _ (by omega)
  omega
theorem orS {a x i:Nat} (ha:a<256^i) (hx:x<256) (hi:i<8):bits .or .u64 (a:Int) (IntKind.u64.wrap (IntKind.u64.wrap (x:Int)*2^min (8*i) 64))=((a+x*256^i:Nat):Int):=by
 have e0:(2:Nat)^(8*i)=256^i:=by rw[Nat.pow_mul]
 have e1:min (8*i) 64=8*i:=by omega
 have hp:256^(i+1)≤256^8:=JtZ (by decide) (by omega);have h1:x*256^i≤255*256^i:=JcV _ (by omega);have h8:(256:Nat)^8=18446744073709551616:=by decide
 rw[Nat.pow_succ,h8]at hp;have h2:x*256^i<18446744073709551616:=by omega
 have ex:IntKind.u64.wrap (x:Int)=x:=uS (by omega)
 have e2:IntKind.u64.wrap ((x:Int)*2^(8*i))=((x*256^i:Nat):Int):=by
  rw[show((x:Int)*2^(8*i))=((x*256^i:Nat):Int) by rw[←e0];simp];exact uS h2
 have h3:x*256^i%2^(8*i)=0:=by rw[e0];exact JtQ _ _
 rw[e1,ex,e2,u64_or_nat a _ (by omega) h2,Nat.or_comm,nat_join (8*i) _ a h3 (by rw[e0];exact ha),Nat.add_comm]
theorem dx {l:List UInt8} (h:l.length≤8):aL Pg 207 [aQ l] (.int .u64 (sP l l.length)):=by
 refine ae.intro (aC R.dx.2) (by simp[R.dx]) ?_;have hm:min (l.length:Int) 8=l.length:=by omega
 simp[R.dx,aj,av,aQ,hm];refine eW.fM l.length (λ_=>True) [0,3,7,8] (λi=>[(3,.int .u64 (sP l i)),(8,.int .i64 i)]) (λi=>[]) [.keep [0,3,7,8]] ?_;simp[show sP l 0=0 from rfl];refine⟨λi hi K hK=> ?_,λK=> ?_⟩
 ·have hx:l[i]? =some l[i]:=gJ hi;have hs:sP l (i+1)=sP l i+l[i].toNat*256^i:=by rw[sP,JaV,hx];rfl
  have dk:=Gw l i;have hb:=l[i].toNat_lt;have jR:(i:Int)<l.length:=by omega
  have w4:IntKind.i64.wrap ((i:Int)+1)=(i:Int)+1:=wrap_i64 (by omega);have w8:IntKind.i64.wrap (8*(i:Int))=((8*i:Nat):Int):=by rw[wrap_i64 (by omega)];omega
  rw[hs]at hK;have hor:=orS (a:=sP l i) (x:=l[i].toNat) dk hb (by omega);generalize l[i]=x at*;generalize sP l i=a at*;simp[↓al,hx,jR,w4,w8,u8,show IntKind.u64.bits=64 from rfl,-getElem?_pos,-Int.natCast_mul];rw[hor];refine⟨[.keep [0,3,7,8]],?_⟩;simp;exact hK _ (by simp)
 ·simp[↓al];refine aA.plain [] ?_;simp
def SP (n:Nat) (j:Nat):UInt8:=UInt8.ofNat (n/256^j%256)
def cG (n:Nat) (k:Nat):List UInt8:=(List.range k).map (SP n)
theorem db (n k:Nat):(cG n k).length=k:=by simp[cG]
theorem QU (n:Nat) {k i:Nat} (h:i<k):(cG n k).take (i+1)=(cG n k).take i++[SP n i]:=by
 rw[JcZ (by rw[db];exact h)];simp[cG]
theorem amj {n j:Nat} (hj:j≤8):IntKind.u8.wrap ((n:Int).fdiv (2^min (8*j) 64))=((SP n j).toNat:Int):=by
 have e1:min (8*j) 64=8*j:=by omega
 have e2:(2:Int)^(8*j)=((256^j:Nat):Int):=by rw[Int.pow_mul];simp
 rw[e1,e2,JgW _ (JlJ _),←JlV,IntKind.wrap_u8',SP,JnW];simp
def mB (l:List UInt8):List PV:=l.map u8
theorem cD {n k:Nat} (h1:1≤k) (h8:k≤8):aL Pg 323 [.int .u64 n,.int .i64 k] (aQ (cG n k)):=by
 refine ae.intro (aC R.cD.2) (by simp[R.cD]) ?_;have e1:¬((k:Int)<1):=by omega
 have e2:¬((8:Int)<k):=by omega
 have hk:(cG n k).length=k:=db n k;have hg:=λi (h:i<k)=>QU n h;generalize cG n k=B at*;simp[R.cD,aj,av,e1,e2];refine eW.fM k (λ_=>True) [0,1,5,13,14] (λi=>[(5,.rs 5 [] 0 i i 1 .tip),(14,.int .i64 i)]) (λi=>[(5,.arr 1 (mB (B.take i)))]) [.keep [0,1,5,13,14],.vt 5 5 1] ?_;simp[show mB ([]:List UInt8)=[] from rfl];refine⟨λi hi K hK=> ?_,λK=> ?_⟩
 ·have jR:(i:Int)<k:=by omega
  have w3:IntKind.i64.wrap (8*(i:Int))=((8*i:Nat):Int):=by rw[wrap_i64 (by omega)];omega
  have w4:IntKind.i64.wrap ((i:Int)+1)=(i:Int)+1:=wrap_i64 (by omega);have hv:=amj (n:=n) (j:=i) (by omega);have hl:(B.take i).length=i:=by rw[lJ];omega
  rw[hg i hi]at hK;generalize B.take i=A at*;have hA:mB A++[.int .u8 ((SP n i).toNat:Int)]=mB (A++[SP n i]):=by simp[mB,u8]
  have hAl:(mB A).length=i:=by simp[mB,hl]
  simp[↓al,jR,w3,w4,hv,hA,hAl,show IntKind.u64.bits=64 from rfl,-Int.natCast_mul];refine⟨⟨by omega,by omega⟩,[.keep [0,1,5,13,14]],?_⟩;simp;exact hK _ (by simp)
 ·have hB:B.take k=B:=by rw[←hk,JcX]
  have hBl:(mB B).length=k:=by simp[mB,hk]
  have hp:au (mB B):=aF (λ_=>by simp[u8]) B;have kX:(mB B).take k=mB B:=by rw[←hBl,JcX]
  simp[↓al];rw[hB];refine aA.plain [.fz 5] ?_;simp[hp.refs,hBl,kX];exact⟨by simp[mB],by simp[mB,aQ]⟩
def qN (k:Key) (i:Nat):Nat:=sP ((k.l.drop (8*i)).take 8) 8
theorem Gx (k:Key) (i:Nat):qN k i<18446744073709551616:=Gw _ 8
def pk (k:Key):Fe:=⟨qN k 0%2251799813685248,(qN k 0/2251799813685248+qN k 1*8192)%2251799813685248,(qN k 1/274877906944+qN k 2*67108864)%2251799813685248,(qN k 2/33554432+qN k 3*549755813888)%2251799813685248,qN k 3/4096%2251799813685248⟩
theorem Dp (k:Key):(pk k).Le PB:=by
 have hP:PB=2251799813947392:=rfl;constructor<;>rw[hP]<;>dsimp only[pk]<;>omega
theorem Kh (n d:Nat):(n:Int).fdiv (d:Int)=((n/d:Nat):Int):=by
 rw[JgW _ (JlJ _),←JlV]
theorem orM {x y s:Nat} (hs:s≤51) (hx:x<2^s):bits .and .u64 (bits .or .u64 (x:Int) (IntKind.u64.wrap ((y:Int)*((2^s:Nat):Int)))) 2251799813685247=(((x+y*2^s)%2251799813685248:Nat):Int):=by
 have h1:(y:Int)*((2^s:Nat):Int)=((y*2^s:Nat):Int):=by simp
 have hd:2^s∣18446744073709551616:=by
  rw[show 18446744073709551616=2^64 from rfl];exact Nat.pow_dvd_pow 2 (by omega)
 have h2:y*2^s%18446744073709551616%2^s=0:=by
  rw[Nat.mod_mod_of_dvd _ hd];exact JtQ _ _
 have h5:2^s≤2^51:=JtZ (by decide) hs;have h6:(2:Nat)^51=2251799813685248:=by decide
 rw[h6]at h5;have hm:y*2^s%18446744073709551616<18446744073709551616:=JdZ _ (by decide);rw[h1,wrN,u64_or_nat x _ (by omega) hm,Nat.or_comm,nat_join s _ x h2 hx]
 have h3:y*2^s%18446744073709551616+x<18446744073709551616:=by
  have h4:∃q,18446744073709551616=2^s*q:=hd;obtain⟨q,hq⟩:=h4
  have h7:y*2^s%18446744073709551616=2^s*(y%q):=by
   rw[hq,Nat.mul_comm y,Nat.mul_mod_mul_left]
  have hq0:0<q:=by rcases JnZ q with h|h;rw[h]at hq;simp at hq;exact h
  have h8:y%q+1≤q:=JdZ _ hq0;have h9:2^s*(y%q+1)≤2^s*q:=JmV _ h8;rw[Nat.mul_add,Nat.mul_one,←hq]at h9;rw[h7];omega
 rw[re h3];congr 1;omega
theorem qz (k:Key):aL Pg 261 [aG k] (gz (pk k)):=by
 refine ae.intro (aC R.qz.2) (by simp[R.qz]) ?_;have z4:zr 4 (PV.int IntKind.u64 0)=[.int .u64 0,.int .u64 0,.int .u64 0,.int .u64 0]:=by rw[cm];rfl
 have qF:=k.h
 have hr:∀i,i<4->aL Pg 207 [.sl 1 (((k.l.drop (8*i)).take 8).map u8) false] (.int .u64 (qN k i)):=by
  intro i hi;have hl:((k.l.drop (8*i)).take 8).length=8:=by rw[lJ,JbV];omega
  have:=dx (l:=(k.l.drop (8*i)).take 8) (by omega);rw[hl]at this;exact this
 have hp:au (k.l.map u8):=aF (λ_=>by simp[u8]) _;have hdt:∀i,((k.l.map u8).drop (8*i)).take 8=((k.l.drop (8*i)).take 8).map u8:=λi=>by rw[JfQ,JjW]
 have rf:∀i,au (((k.l.drop (8*i)).take 8).map u8):=λi=>aF (λ_=>by simp[u8]) _;have hlf:pk k=⟨qN k 0%2251799813685248,(qN k 0/2251799813685248+qN k 1*8192)%2251799813685248,(qN k 1/274877906944+qN k 2*67108864)%2251799813685248,(qN k 2/33554432+qN k 3*549755813888)%2251799813685248,qN k 3/4096%2251799813685248⟩:=rfl;have b0:=Gx k 0;have b1:=Gx k 1;have b2:=Gx k 2;have b3:=Gx k 3;simp[R.qz,aj,av,aG,z4,z5];refine eW.fM 4 (λ_=>True) [1,2,3,5] (λi=>[(5,.int .i64 i)]) (λi=>[(3,.box (.ar 1 4 (([qN k 0,qN k 1,qN k 2,qN k 3].map λx:Nat=>PV.int .u64 x).take i++[PV.int .u64 0,.int .u64 0,.int .u64 0,.int .u64 0].drop i)))]) [.keep [1,2,3,5]] ?_;simp;refine⟨λi hi K hK=> ?_,λK=> ?_⟩
 ·have hd:=hdt i;have hc:=hr i hi;have hq:=rf i;rcases(by omega:i=0∨i=1∨i=2∨i=3)with rfl|rfl|rfl|rfl
  all_goals
   simp[↓al]at hK⊢
   refine ai.vw (N:=32) hc (by simp) hp hq (by omega) hd (by simp) rfl ?_
   simp
   refine⟨[.keep [1,2,3,5]],?_⟩
   simp
   exact hK _ (by simp)
 ·have e0:=re b0;have s0:=Kh (qN k 0) 2251799813685248;have s1:=Kh (qN k 1) 274877906944;have s2:=Kh (qN k 2) 33554432;have s3:=Kh (qN k 3) 4096;have o0:=orM (x:=qN k 0/2251799813685248) (y:=qN k 1) (s:=13) (by decide) (by omega);have o1:=orM (x:=qN k 1/274877906944) (y:=qN k 2) (s:=26) (by decide) (by omega);have o2:=orM (x:=qN k 2/33554432) (y:=qN k 3) (s:=39) (by decide) (by omega);have e3:=re (n:=qN k 3/4096) (by omega);rw[hlf];clear hlf hr hdt rf;rw[show((2^13:Nat):Int)=8192 from rfl,show(2^13:Nat)=8192 from rfl]at o0;rw[show((2^26:Nat):Int)=67108864 from rfl,show(2^26:Nat)=67108864 from rfl]at o1;rw[show((2^39:Nat):Int)=549755813888 from rfl,show(2^39:Nat)=549755813888 from rfl]at o2;rw[show((2251799813685248:Nat):Int)=2251799813685248 from rfl]at s0;rw[show((274877906944:Nat):Int)=274877906944 from rfl]at s1;rw[show((33554432:Nat):Int)=33554432 from rfl]at s2;rw[show((4096:Nat):Int)=4096 from rfl]at s3;generalize (qN k 0/2251799813685248+qN k 1*8192)%2251799813685248=f1 at*;generalize (qN k 1/274877906944+qN k 2*67108864)%2251799813685248=f2 at*;generalize (qN k 2/33554432+qN k 3*549755813888)%2251799813685248=f3 at*;generalize qN k 3/4096%2251799813685248=f4 at*;generalize qN k 0%2251799813685248=f0 at*;generalize qN k 0/2251799813685248=g0 at*;generalize qN k 1/274877906944=g1 at*;generalize qN k 2/33554432=g2 at*;generalize qN k 3/4096=g3 at*;simp[↓al,show IntKind.u64.bits=64 from rfl,e0,s0,s1,s2,s3,o0,o1,o2,e3];refine aA.plain [.keep [2],.dr 1,.dr 3] ?_;simp[gz,Fe.l]
theorem orT {x y s:Nat} (hs:s≤51) (hx:x<2^s):bits .or .u64 (x:Int) (IntKind.u64.wrap ((y:Int)*((2^s:Nat):Int)))=((x+y*2^s%18446744073709551616:Nat):Int):=by
 have h1:(y:Int)*((2^s:Nat):Int)=((y*2^s:Nat):Int):=by simp
 have hd:2^s∣18446744073709551616:=by
  rw[show 18446744073709551616=2^64 from rfl];exact Nat.pow_dvd_pow 2 (by omega)
 have h2:y*2^s%18446744073709551616%2^s=0:=by
  rw[Nat.mod_mod_of_dvd _ hd];exact JtQ _ _
 have h5:2^s≤2^51:=JtZ (by decide) hs;have h6:(2:Nat)^51=2251799813685248:=by decide
 rw[h6]at h5;have hm:y*2^s%18446744073709551616<18446744073709551616:=JdZ _ (by decide);rw[h1,wrN,u64_or_nat x _ (by omega) hm,Nat.or_comm,nat_join s _ x h2 hx,Nat.add_comm]
def Ix (a:Fe):Nat:=(a.a4+(a.a3+(a.a2+(a.a1+(a.a0+19)/2251799813685248)/2251799813685248)/2251799813685248)/2251799813685248)/2251799813685248
def V3 (a:Fe):Nat:=a.a0+19*Ix a
def V4 (a:Fe):Nat:=a.a1+V3 a/2251799813685248
def V5 (a:Fe):Nat:=a.a2+V4 a/2251799813685248
def V6 (a:Fe):Nat:=a.a3+V5 a/2251799813685248
def b4F (a:Fe):Nat:=a.a4+V6 a/2251799813685248
def uo (a:Fe):Fe:=⟨V3 a%2251799813685248,V4 a%2251799813685248,V5 a%2251799813685248,V6 a%2251799813685248,b4F a%2251799813685248⟩
def SS (a:Fe):Nat:=a.a0+a.a1*2251799813685248%18446744073709551616
def SU (a:Fe):Nat:=a.a1/8192+a.a2*274877906944%18446744073709551616
def V7 (a:Fe):Nat:=a.a2/67108864+a.a3*33554432%18446744073709551616
def Zv (a:Fe):Nat:=a.a3/549755813888+a.a4*4096%18446744073709551616
def NA (a:Fe):Key:=⟨cG (SS a) 8++cG (SU a) 8++cG (V7 a) 8++cG (Zv a) 8,by simp[db]⟩
def zB (n:Nat):List PV:=List.replicate n (PV.int .u8 0)
theorem ac2:zr 32 (PV.int IntKind.u8 0)=zB 32:=by rw[cm];rfl
theorem BK (n k:Nat):(zB n).drop k=zB (n-k):=by simp[zB]
@[simp] theorem aqO (n:Nat):au (zB n):=by unfold zB;exact tQ (by simp) n
theorem drp {A:List PV} {n k m:Nat} (hA:A.length=k) (hm:m=k+8):(A++zB n).drop m=zB (n-8):=by
 rw[hm,←JiW,List.drop_left' hA,BK]
def Ec (a:Fe):Key:=NA (uo (sG a))
theorem V8 {a:Fe} (h:a.Le PB):(sG a).Le 4503599627370496:=by
 obtain⟨h0,h1,h2,h3,h4⟩:=h;have hP:PB=2251799813947392:=rfl;rw[hP]at h0 h1 h2 h3 h4;constructor<;>dsimp only[sG]<;>omega
theorem AN {a:Fe} (ha:a.Le PB):aL Pg 266 [gz a] (aG (Ec a)):=by
 refine ae.intro T.ig (by simp[F.ig]) ?_;have Sg:=wI (ha.mono (by decide));have hle:=V8 ha;have hby:Ec a=NA (uo (sG a)):=rfl;rw[hby];clear hby;have E6:zr 32 (PV.int IntKind.u8 0)=List.replicate 32 (PV.int .u8 0):=by rw[cm]
 have z4:zr 4 (PV.int IntKind.u64 0)=[.int .u64 0,.int .u64 0,.int .u64 0,.int .u64 0]:=by rw[cm];rfl
 simp[F.ig,aj,av];refine ai.rA Sg ?_;generalize sG a=e at*;clear Sg;obtain⟨a0,a1,a2,a3,a4⟩:=e;obtain⟨h0,h1,h2,h3,h4⟩:=hle;dsimp only at h0 h1 h2 h3 h4;have aoo:uo ⟨a0,a1,a2,a3,a4⟩=⟨V3 ⟨a0,a1,a2,a3,a4⟩%2251799813685248,V4 ⟨a0,a1,a2,a3,a4⟩%2251799813685248,V5 ⟨a0,a1,a2,a3,a4⟩%2251799813685248,V6 ⟨a0,a1,a2,a3,a4⟩%2251799813685248,b4F ⟨a0,a1,a2,a3,a4⟩%2251799813685248⟩:=rfl;rw[aoo];have k0:V3 ⟨a0,a1,a2,a3,a4⟩=a0+19*Ix ⟨a0,a1,a2,a3,a4⟩:=rfl;have k1:V4 ⟨a0,a1,a2,a3,a4⟩=a1+V3 ⟨a0,a1,a2,a3,a4⟩/2251799813685248:=rfl;have k2:V5 ⟨a0,a1,a2,a3,a4⟩=a2+V4 ⟨a0,a1,a2,a3,a4⟩/2251799813685248:=rfl;have k3:V6 ⟨a0,a1,a2,a3,a4⟩=a3+V5 ⟨a0,a1,a2,a3,a4⟩/2251799813685248:=rfl;have k4:b4F ⟨a0,a1,a2,a3,a4⟩=a4+V6 ⟨a0,a1,a2,a3,a4⟩/2251799813685248:=rfl;have kq:Ix ⟨a0,a1,a2,a3,a4⟩=(a4+(a3+(a2+(a1+(a0+19)/2251799813685248)/2251799813685248)/2251799813685248)/2251799813685248)/2251799813685248:=rfl;obtain⟨c0,hc0⟩:∃c,c=(a0+19)/2251799813685248:=⟨_,rfl⟩
 obtain⟨c1,Bl⟩:∃c,c=(a1+c0)/2251799813685248:=⟨_,rfl⟩
 obtain⟨c2,yR⟩:∃c,c=(a2+c1)/2251799813685248:=⟨_,rfl⟩
 obtain⟨c3,hc3⟩:∃c,c=(a3+c2)/2251799813685248:=⟨_,rfl⟩
 obtain⟨c4,hc4⟩:∃c,c=(a4+c3)/2251799813685248:=⟨_,rfl⟩
 rw[←hc0,←Bl,←yR,←hc3,←hc4]at kq;generalize V3 ⟨a0,a1,a2,a3,a4⟩=b0 at*;generalize V4 ⟨a0,a1,a2,a3,a4⟩=b1 at*;generalize V5 ⟨a0,a1,a2,a3,a4⟩=b2 at*;generalize V6 ⟨a0,a1,a2,a3,a4⟩=b3 at*;generalize b4F ⟨a0,a1,a2,a3,a4⟩=b4 at*;rw[kq]at k0;clear aoo kq;have v0:IntKind.u64.wrap ((a0:Int)+19)=((a0+19:Nat):Int):=by rw[wrap_u64 ⟨by omega,by omega⟩];omega
 have v1:IntKind.u64.wrap ((a1:Int)+c0)=((a1+c0:Nat):Int):=by rw[wrap_u64 ⟨by omega,by omega⟩];omega
 have v2:IntKind.u64.wrap ((a2:Int)+c1)=((a2+c1:Nat):Int):=by rw[wrap_u64 ⟨by omega,by omega⟩];omega
 have v3:IntKind.u64.wrap ((a3:Int)+c2)=((a3+c2:Nat):Int):=by rw[wrap_u64 ⟨by omega,by omega⟩];omega
 have v4:IntKind.u64.wrap ((a4:Int)+c3)=((a4+c3:Nat):Int):=by rw[wrap_u64 ⟨by omega,by omega⟩];omega
 have t0:=qx (a0+19);have t1:=qx (a1+c0);have t2:=qx (a2+c1);have t3:=qx (a3+c2);have t4:=qx (a4+c3);rw[←hc0]at t0;rw[←Bl]at t1;rw[←yR]at t2;rw[←hc3]at t3;rw[←hc4]at t4;simp[gz,Fe.l,v0,t0,show IntKind.u64.bits=64 from rfl,-Int.natCast_add];refine eW.fM 4 (λ_=>True) [1,2,3,4] (λi=>[(3,.int .u64 (([c0,c1,c2,c3,c4].getD i 0:Nat):Int)),(4,.int .i64 ((i+1:Nat):Int))]) (λi=>[]) [.keep [1,2,3,4]] ?_;simp;refine⟨λi hi K hK=> ?_,λK=> ?_⟩
 ·rcases(by omega:i=0∨i=1∨i=2∨i=3)with rfl|rfl|rfl|rfl
  all_goals
   simp[↓al,v1,v2,v3,v4,t1,t2,t3,t4,show IntKind.u64.bits=64 from rfl,-Int.natCast_add]at hK⊢
   refine⟨[.keep [1,2,3,4]],?_⟩
   simp
   exact hK _ (by simp)
 ·have q0:c0≤4:=by omega
  have q1:c1≤4:=by omega
  have q2:c2≤4:=by omega
  have q3:c3≤4:=by omega
  have q4:c4≤4:=by omega
  clear v0 v1 v2 v3 v4 t0 t1 t2 t3 t4 hc0 Bl yR hc3 hc4;have w19:IntKind.u64.wrap (19*(c4:Int))=((19*c4:Nat):Int):=by rw[wrap_u64 ⟨by omega,by omega⟩];omega
  have x0:IntKind.u64.wrap ((a0:Int)+((19*c4:Nat):Int))=(b0:Int):=by rw[wrap_u64 ⟨by omega,by omega⟩];omega
  have j0:b0≤4503599627370600:=by omega
  have y1:IntKind.u64.wrap ((a1:Int)+((b0/2251799813685248:Nat):Int))=(b1:Int):=by rw[wrap_u64 ⟨by omega,by omega⟩];omega
  have j1:b1≤4503599627370600:=by omega
  have y2:IntKind.u64.wrap ((a2:Int)+((b1/2251799813685248:Nat):Int))=(b2:Int):=by rw[wrap_u64 ⟨by omega,by omega⟩];omega
  have j2:b2≤4503599627370600:=by omega
  have y3:IntKind.u64.wrap ((a3:Int)+((b2/2251799813685248:Nat):Int))=(b3:Int):=by rw[wrap_u64 ⟨by omega,by omega⟩];omega
  have j3:b3≤4503599627370600:=by omega
  have y4:IntKind.u64.wrap ((a4:Int)+((b3/2251799813685248:Nat):Int))=(b4:Int):=by rw[wrap_u64 ⟨by omega,by omega⟩];omega
  have j4:b4≤4503599627370600:=by omega
  have g0:=qx b0;have g1:=qx b1;have g2:=qx b2;have g3:=qx b3;have m0:=re (n:=b0) (by omega);have m1:=re (n:=b1) (by omega);have m2:=re (n:=b2) (by omega);have m3:=re (n:=b3) (by omega);have m4:=re (n:=b4) (by omega);have r0:b0%2251799813685248<2^51:=JdZ _ (by decide);have r1:b1%2251799813685248<2^51:=JdZ _ (by decide);have r2:b2%2251799813685248<2^51:=JdZ _ (by decide);have r3:b3%2251799813685248<2^51:=JdZ _ (by decide);generalize b0/2251799813685248=e0 at*;generalize b1/2251799813685248=e1 at*;generalize b2/2251799813685248=e2 at*;generalize b3/2251799813685248=e3 at*;generalize b0%2251799813685248=d0 at*;generalize b1%2251799813685248=d1 at*;generalize b2%2251799813685248=d2 at*;generalize b3%2251799813685248=d3 at*;generalize b4%2251799813685248=d4 at*;generalize 19*c4=c19 at*;clear k0 k1 k2 k3 k4 j0 j1 j2 j3 j4;simp[↓al,w19,x0];refine eW.fM 4 (λ_=>True) [1,2,5] (λi=>[(5,.int .i64 i)]) (λi=>[(1,.box (.ar 1 5 (([[b0,a1,a2,a3,a4],[d0,b1,a2,a3,a4],[d0,d1,b2,a3,a4],[d0,d1,d2,b3,a4],[d0,d1,d2,d3,b4]].getD i []).map λx:Nat=>PV.int .u64 x)))]) [.keep [1,2,5]] ?_;simp;refine⟨λi hi K hK=> ?_,λK=> ?_⟩
  ·rcases(by omega:i=0∨i=1∨i=2∨i=3)with rfl|rfl|rfl|rfl
   all_goals
    simp[↓al,y1,y2,y3,y4,g0,g1,g2,g3,m0,m1,m2,m3,show IntKind.u64.bits=64 from rfl]at hK⊢
    refine⟨[.keep [1,2,5]],?_⟩
    simp
    exact hK _ (by simp)
  ·have f0:SS ⟨d0,d1,d2,d3,d4⟩=d0+d1*2251799813685248%18446744073709551616:=rfl;have f1:SU ⟨d0,d1,d2,d3,d4⟩=d1/8192+d2*274877906944%18446744073709551616:=rfl;have f2:V7 ⟨d0,d1,d2,d3,d4⟩=d2/67108864+d3*33554432%18446744073709551616:=rfl;have f3:Zv ⟨d0,d1,d2,d3,d4⟩=d3/549755813888+d4*4096%18446744073709551616:=rfl;have o0:=orT (x:=d0) (y:=d1) (s:=51) (by decide) r0;have o1:=orT (x:=d1/8192) (y:=d2) (s:=38) (by decide) (by omega);have o2:=orT (x:=d2/67108864) (y:=d3) (s:=25) (by decide) (by omega);have o3:=orT (x:=d3/549755813888) (y:=d4) (s:=12) (by decide) (by omega);rw[show((2^51:Nat):Int)=2251799813685248 from rfl,show(2^51:Nat)=2251799813685248 from rfl,←f0]at o0;rw[show((2^38:Nat):Int)=274877906944 from rfl,show(2^38:Nat)=274877906944 from rfl,←f1]at o1;rw[show((2^25:Nat):Int)=33554432 from rfl,show(2^25:Nat)=33554432 from rfl,←f2]at o2;rw[show((2^12:Nat):Int)=4096 from rfl,show(2^12:Nat)=4096 from rfl,←f3]at o3;have s1:=Kh d1 8192;have s2:=Kh d2 67108864;have s3:=Kh d3 549755813888;rw[show((8192:Nat):Int)=8192 from rfl]at s1;rw[show((67108864:Nat):Int)=67108864 from rfl]at s2;rw[show((549755813888:Nat):Int)=549755813888 from rfl]at s3;have hk:aG (NA ⟨d0,d1,d2,d3,d4⟩)= .ar 1 32 ((cG (SS ⟨d0,d1,d2,d3,d4⟩) 8++cG (SU ⟨d0,d1,d2,d3,d4⟩) 8++cG (V7 ⟨d0,d1,d2,d3,d4⟩) 8++cG (Zv ⟨d0,d1,d2,d3,d4⟩) 8).map u8):=rfl;rw[hk];clear hk f0 f1 f2 f3;generalize SS ⟨d0,d1,d2,d3,d4⟩=W0 at*;generalize SU ⟨d0,d1,d2,d3,d4⟩=W1 at*;generalize V7 ⟨d0,d1,d2,d3,d4⟩=W2 at*;generalize Zv ⟨d0,d1,d2,d3,d4⟩=W3 at*;generalize d1/8192=p1 at*;generalize d2/67108864=p2 at*;generalize d3/549755813888=p3 at*;have L0:=cD (n:=W0) (k:=8) (by omega) (by omega);have L1:=cD (n:=W1) (k:=8) (by omega) (by omega);have L2:=cD (n:=W2) (k:=8) (by omega) (by omega);have L3:=cD (n:=W3) (k:=8) (by omega) (by omega);have l0:=db W0 8;have l1:=db W1 8;have l2:=db W2 8;have l3:=db W3 8;generalize cG W0 8=B0 at*;generalize cG W1 8=B1 at*;generalize cG W2 8=B2 at*;generalize cG W3 8=B3 at*;have p0:au (B0.map u8):=aF (λ_=>by simp[u8]) B0;have p1:au (B1.map u8):=aF (λ_=>by simp[u8]) B1;have p2:au (B2.map u8):=aF (λ_=>by simp[u8]) B2;have p3:au (B3.map u8):=aF (λ_=>by simp[u8]) B3;unfold aQ at L0 L1 L2 L3;rw[JeV,JeV,JeV];have l0:(B0.map u8).length=8:=by rw[JaX,l0]
   have l1:(B1.map u8).length=8:=by rw[JaX,l1]
   have l2:(B2.map u8).length=8:=by rw[JaX,l2]
   have l3:(B3.map u8).length=8:=by rw[JaX,l3]
   generalize B0.map u8=P0 at*;generalize B1.map u8=P1 at*;generalize B2.map u8=P2 at*;generalize B3.map u8=P3 at*;have t0:P0.take 8=P0:=tJ (by omega);have t1:P1.take 8=P1:=tJ (by omega);have t2:P2.take 8=P2:=tJ (by omega);have t3:P3.take 8=P3:=tJ (by omega);have r1:(P0++zB 24).drop 16=zB 16:=drp l0 rfl;have r2:(P0++(P1++zB 16)).drop 24=zB 8:=by rw[←JeJ];exact drp (by simp[l0,l1]) rfl
   have r3:(P0++(P1++(P2++zB 8))).drop 32=[]:=by rw[←JeJ,←JeJ,drp (k:=24) (by simp[l0,l1,l2]) rfl];rfl
   have k2:(P0++(P1++zB 16)).take 16=P0++P1:=by rw[←JeJ];exact JrV (by simp[l0,l1])
   have k3:(P0++(P1++(P2++zB 8))).take 24=P0++(P1++P2):=by rw[←JeJ,←JeJ,JrV (by simp[l0,l1,l2]),JeJ]
   simp[↓al,z4,ac2,m4,s1,s2,s3,o0,o1,o2,o3,show IntKind.u64.bits=64 from rfl];refine eW.fM 4 (λ_=>True) [1,2,6,7,84,85] (λi=>[(85,.int .i64 i)]) (λi=>[(7,.box (.ar 1 32 ([zB 32,P0++zB 24,P0++P1++zB 16,P0++P1++P2++zB 8,P0++P1++P2++P3].getD i [])))]) [.keep [1,2,6,7,84,85]] ?_;simp[ac2];refine⟨λi hi K hK=> ?_,λK=> ?_⟩
   ·rcases(by omega:i=0∨i=1∨i=2∨i=3)with rfl|rfl|rfl|rfl
    ·simp[↓al]at hK⊢;refine aM.ret L0 (by simp) (by simp) (by simp[p0]) ?_;simp[l0,t0,BK];refine⟨[.keep [1,2,6,7,84,85]],?_⟩;simp;exact hK _ (by simp)
    ·simp[↓al]at hK⊢;refine aM.ret L1 (by simp) (by simp) (by simp[p1]) ?_;simp[l0,l1,t1,r1];refine⟨[.keep [1,2,6,7,84,85]],?_⟩;simp;exact hK _ (by simp)
    ·simp[↓al]at hK⊢;refine aM.ret L2 (by simp) (by simp) (by simp[p2]) ?_;simp[l2,t2,r2,k2];refine⟨[.keep [1,2,6,7,84,85]],?_⟩;simp;exact hK _ (by simp)
    ·simp[↓al]at hK⊢;refine aM.ret L3 (by simp) (by simp) (by simp[p3]) ?_;simp[l3,t3,r3,k3];refine⟨[.keep [1,2,6,7,84,85]],?_⟩;simp;exact hK _ (by simp)
   ·have hP:au (P0++(P1++(P2++P3))):=by simp[p0,p1,p2,p3]
    simp[↓al];refine aA.plain [.keep [2],.dr 1,.dr 6,.dr 7] ?_;simp[af,p0,p1,p2,p3]
def I8 (k:Key):Key:=⟨(k.l.set 0 (k.l.getD 0 0&&&248)).set 31 (k.l.getD 31 0&&&127|||64),by rw[JjQ,JjQ];exact k.h⟩
theorem oE (k:Key):aL Pg 260 [aG k] (aG (I8 k)):=by
 refine ae.intro (aC R.oE.2) (by simp[R.oE]) ?_;have hl:=k.h;have h0:k.l[0]? =some (k.l.getD 0 0):=by rw[JaV,gJ (by omega)];rfl
 have h31:k.l[31]? =some (k.l.getD 31 0):=by rw[JaV,gJ (by omega)];rfl
 have hc:aG (I8 k)= .ar 1 32 (((k.l.map u8).set 0 (u8 (k.l.getD 0 0&&&248))).set 31 (u8 (k.l.getD 31 0&&&127|||64))):=by simp[aG,I8,JfJ]
 rw[hc];generalize k.l.getD 0 0=x at*;generalize k.l.getD 31 0=y at*;have b0:=u8_and_nat x.toNat 248 x.toNat_lt (by decide);have b1:=u8_and_nat y.toNat 127 y.toNat_lt (by decide);have hy:y.toNat&&&127<256:=JfV Nat.and_le_right (by decide);have b2:=u8_or_nat (y.toNat&&&127) 64 hy (by decide);rw[←b1]at b2;have e0:u8 (x&&&248)= .int .u8 (bits .and .u8 (x.toNat:Int) 248):=by rw[show(248:Int)=((248:Nat):Int) from rfl,b0];rfl
 have e1:u8 (y&&&127|||64)= .int .u8 (bits .or .u8 (bits .and .u8 (y.toNat:Int) 127) 64):=by rw[show(127:Int)=((127:Nat):Int) from rfl,show(64:Int)=((64:Nat):Int) from rfl,b2];rfl
 have hp:au (k.l.map u8):=aF (λ_=>by simp[u8]) _;rw[e0,e1];simp[R.oE,aj,av,aG,h0,h31,u8,-getElem?_pos]
 have hPV:∀X Y:PV,Pure X->Pure Y->au (((k.l.map u8).set 0 X).set 31 Y):=λX Y hX hY=>au.mk' λq hq=>by
  rcases JhJ hq with hq|rfl
  ·rcases JhJ hq with hq|rfl
   ·obtain⟨b,_,rfl⟩:=JgX.1 hq;simp[u8]
   ·exact hX
  ·exact hY
 have hV:=hPV (PV.int IntKind.u8 (bits BinOp.and IntKind.u8 (↑x.toNat) 248)) (PV.int IntKind.u8 (bits BinOp.or IntKind.u8 (bits BinOp.and IntKind.u8 (↑y.toNat) 127) 64)) (by simp) (by simp);generalize (((k.l.map u8).set 0 (PV.int IntKind.u8 (bits BinOp.and IntKind.u8 (↑x.toNat) 248))).set 31 (PV.int IntKind.u8 (bits BinOp.or IntKind.u8 (bits BinOp.and IntKind.u8 (↑y.toNat) 127) 64)))=V at*;refine aA.plain [.keep [2],.dr 1] ?_;simp[af,hV.refs];exact hV
def Io:Fe:=⟨0,0,0,0,0⟩
def cF:Fe:=⟨121665,0,0,0,0⟩
structure Lad where
 x2:Fe
 z2:Fe
 x3:Fe
 z3:Fe
 last:Int
structure Lad.Ok (L:Lad):Prop where
 A7:L.x2.Le PB
 hz2:L.z2.Le PB
 hx3:L.x3.Le PB
 hz3:L.z3.Le PB
def Im (x1 x2 z2 x3 z3:Fe) (bit:Int):Lad:=
 let a:=qM x2 z2
 let b:=pB x2 z2
 let aa:=fV a a
 let bb:=fV b b
 let e:=pB aa bb
 let da:=fV (pB x3 z3) a
 let cb:=fV (qM x3 z3) b
 let s:=qM da cb
 let d:=pB da cb
 ⟨fV aa bb,fV (qM (fV e cF) aa) e,fV s s,fV (fV d d) x1,bit⟩
def Eb (n:Key) (t:Nat):Int:=bits .and .u8 (((n.l.getD (t/8) 0).toNat:Int).fdiv (2^min (t%8) 8)) 1
def jk (n:Key) (x1:Fe):Nat->Lad
 |0=>⟨xk,Io,x1,xk,0⟩
 |i+1=>if Eb n (254-i)=(jk n x1 i).last then Im x1 (jk n x1 i).x2 (jk n x1 i).z2 (jk n x1 i).x3 (jk n x1 i).z3 (Eb n (254-i))else Im x1 (jk n x1 i).x3 (jk n x1 i).z3 (jk n x1 i).x2 (jk n x1 i).z2 (Eb n (254-i))
theorem Iy:cF.Le PB:=by constructor<;>decide
theorem QV:Io.Le PB:=by constructor<;>decide
theorem LL {x1 x2 z2 x3 z3:Fe} (h1:x1.Le PB) (a2:x2.Le PB) (b2:z2.Le PB) (a3:x3.Le PB) (b3:z3.Le PB) (bit:Int):(Im x1 x2 z2 x3 z3 bit).Ok:=by
 have ha:=jP a2 b2;have hb:=kP (b:=z2) a2;have GY:=cV ha ha;have Fk:=cV hb hb;have he:=kP (b:=fV (pB x2 z2) (pB x2 z2)) GY;have KV:=cV (kP (b:=z3) a3) ha;have Ml:=cV (jP a3 b3) hb;have hs:=jP KV Ml;have hd:=kP (b:=fV (qM x3 z3) (pB x2 z2)) KV;exact⟨cV (GY.mono gQ) (Fk.mono gQ),cV (jP (cV he (Iy.mono gQ)) GY) he,cV hs hs,cV ((cV hd hd).mono gQ) (h1.mono gQ)⟩
theorem BJ (n:Key) {x1:Fe} (h1:x1.Le PB) (i:Nat):(jk n x1 i).Ok:=by
 induction i with
 |zero=>exact⟨Gv,QV,h1,Gv⟩
 |
  succ i ih=>
  unfold jk
  split
  ·exact LL h1 ih.A7 ih.hz2 ih.hx3 ih.hz3 _
  ·exact LL h1 ih.hx3 ih.hz3 ih.A7 ih.hz2 _
def kN (scalar point:Key):Key:=
 let L:=jk (I8 scalar) (pk point) 255
 if L.last=1 then Ec (fV L.x3 (mI L.z3 255))else Ec (fV L.x2 (mI L.z2 255))
theorem my (scalar point:Key):aL Pg 172 [aG scalar,aG point] (aG (kN scalar point)):=by
 refine ae.intro T.my (by simp[F.my]) ?_;have h1:=Dp point;have rh:=oE scalar;have hld:=qz point;have hm:kN scalar point=if(jk (I8 scalar) (pk point) 255).last=1 then Ec (fV (jk (I8 scalar) (pk point) 255).x3 (mI (jk (I8 scalar) (pk point) 255).z3 255))else Ec (fV (jk (I8 scalar) (pk point) 255).x2 (mI (jk (I8 scalar) (pk point) 255).z2 255)):=rfl
 rw[hm];clear hm;generalize I8 scalar=n at*;generalize pk point=x1 at*;have zer:PV.ar 1 5 [.int .u64 0,.int .u64 0,.int .u64 0,.int .u64 0,.int .u64 0]=gz Io:=rfl;simp[F.my,aj,av,ac2];refine ai.rA rh ?_;simp;refine ai.rA hld ?_;simp[z5];refine lv.run [7,8,9,10] rfl ?_;simp;simp only[QT,zer];refine eW.fM 255 (λ_=>True) [2,3,4,5,6,7,8,9,10,11,12] (λi=>[(11,.int .u8 (jk n x1 i).last),(12,.int .i64 (254-(i:Int)))]) (λi=>[(7,.box (gz (jk n x1 i).x2)),(8,.box (gz (jk n x1 i).z2)),(9,.box (gz (jk n x1 i).x3)),(10,.box (gz (jk n x1 i).z3))]) [.keep [2,3,4,5,6,7,8,9,10,11,12]] ?_;simp[show jk n x1 0=⟨xk,Io,x1,xk,0⟩ from rfl];refine⟨λi hi K hK=> ?_,λK=> ?_⟩
 ·have df:=BJ n h1 i;have qH:jk n x1 (i+1)=if Eb n (254-i)=(jk n x1 i).last then Im x1 (jk n x1 i).x2 (jk n x1 i).z2 (jk n x1 i).x3 (jk n x1 i).z3 (Eb n (254-i))else Im x1 (jk n x1 i).x3 (jk n x1 i).z3 (jk n x1 i).x2 (jk n x1 i).z2 (Eb n (254-i)):=rfl
  rw[qH]at hK;clear qH;generalize jk n x1 i=L at*;obtain⟨x2,z2,x3,z3,last⟩:=L;obtain⟨a2,b2,a3,b3⟩:=df;dsimp only at a2 b2 a3 b3 hK⊢;have h0:(i:Int)≤254:=by omega
  have hw:IntKind.i64.wrap (254-(i:Int)-1)=254-((i:Int)+1):=by rw[wrap_i64 (by omega)];omega
  have ht:(254:Int)-i=((254-i:Nat):Int):=by omega
  have Fo:254-i<256:=by omega
  have hq:((254:Int)-i).tdiv 8=(((254-i)/8:Nat):Int):=by rw[ht];rfl
  have hr:((254:Int)-i).tmod 8=(((254-i)%8:Nat):Int):=by rw[ht];rfl
  have hbk:Eb n (254-i)=bits .and .u8 (((n.l.getD ((254-i)/8) 0).toNat:Int).fdiv (2^min ((254-i)%8) 8)) 1:=rfl;have yP:=n.h;have hx:n.l[(254-i)/8]? =some (n.l.getD ((254-i)/8) 0):=by rw[JaV,gJ (by omega)];rfl
  have aAr:(254-i)/8<32:=by omega
  generalize Eb n (254-i)=bit at*;generalize (254-i)/8=q at*;generalize (254-i)%8=r at*;generalize n.l.getD q 0=y at*;have aop:(q:Int)<32:=by omega
  have hqw:IntKind.i64.wrap (q:Int)=q:=wrap_i64 (by omega);clear ht Fo;simp[↓al,h0,hq,hr,hqw,hx,aop,aG,u8,←hbk,show IntKind.u8.bits=8 from rfl,-getElem?_pos];refine⟨λtI=> ?_,λtI=> ?_⟩
  ·rw[if_neg tI]at hK;refine lv.run [7,9] rfl ?_;simp;have ha:=jP a3 b3;have hb:=kP (b:=z3) a3;have k1:=Iv a3 b3;have k2:=Iw a3 b3;have k3:=Iv a2 b2;have k4:=Iw a2 b2;have hp:=jP a2 b2;have hm:=kP (b:=z2) a2;simp only[Im]at hK;generalize qM x3 z3=A at*;generalize pB x3 z3=B at*;generalize qM x2 z2=P at*;generalize pB x2 z2=M at*;have GY:=cV ha ha;have Fk:=cV hb hb;have k5:=cH ha ha;have k6:=cH hb hb;have k7:=cH hm ha;have k8:=cH hp hb;have KV:=cV hm ha;have Ml:=cV hp hb;generalize fV A A=AA at*;generalize fV B B=BB at*;generalize fV M A=DA at*;generalize fV P B=CB at*;have k9:=Iw GY Fk;have he:=kP (b:=BB) GY;have k10:=Iv KV Ml;have k11:=Iw KV Ml;have hs:=jP KV Ml;have hd:=kP (b:=CB) KV;generalize pB AA BB=E at*;generalize qM DA CB=S at*;generalize pB DA CB=D at*;have k12:=cH hs hs;have k13:=cH hd hd;have DW:=cV hd hd;have k14:=cH (DW.mono gQ) (h1.mono gQ);have k15:=cH (GY.mono gQ) (Fk.mono gQ);have k16:=cH he (Iy.mono gQ);have hec:=cV he (Iy.mono gQ);have k17:=Iv hec GY;have hea:=jP hec GY;have k18:=cH hea he;refine lv.run [14,15] rfl ?_;simp[z5];refine aM.rA k1 ?_;simp;refine aM.rA k2 ?_;simp;refine lv.run [16,17] rfl ?_;simp[z5];refine aM.rA k5 ?_;simp;refine aM.rA k6 ?_;simp;refine ai.rA k9 ?_;simp;refine lv.run [19,20] rfl ?_;simp[z5];refine aM.rA k4 ?_;simp;refine aM.rA k7 ?_;simp;refine aM.rA k3 ?_;simp;refine aM.rA k8 ?_;simp;refine aM.rA k10 ?_;simp;refine aM.rA k11 ?_;simp;refine aM.rA k12 ?_;simp;refine aM.rA k13 ?_;simp;refine aM.rA k14 ?_;simp;refine aM.rA k15 ?_;simp;refine aM.ret k16 (by simp;rfl) (by simp) (by simp) ?_;simp;refine aM.rA k17 ?_;simp;refine aM.rA k18 ?_;simp[hw];refine⟨[.keep [2,3,4,5,6,7,8,9,10,11,12],.dr 14,.dr 15,.dr 16,.dr 17,.dr 18,.dr 19,.dr 20],?_⟩;simp;exact hK _ (by simp[aG])
  ·rw[if_pos tI]at hK;have ha:=jP a2 b2;have hb:=kP (b:=z2) a2;have k1:=Iv a2 b2;have k2:=Iw a2 b2;have k3:=Iv a3 b3;have k4:=Iw a3 b3;have hp:=jP a3 b3;have hm:=kP (b:=z3) a3;simp only[Im]at hK;generalize qM x2 z2=A at*;generalize pB x2 z2=B at*;generalize qM x3 z3=P at*;generalize pB x3 z3=M at*;have GY:=cV ha ha;have Fk:=cV hb hb;have k5:=cH ha ha;have k6:=cH hb hb;have k7:=cH hm ha;have k8:=cH hp hb;have KV:=cV hm ha;have Ml:=cV hp hb;generalize fV A A=AA at*;generalize fV B B=BB at*;generalize fV M A=DA at*;generalize fV P B=CB at*;have k9:=Iw GY Fk;have he:=kP (b:=BB) GY;have k10:=Iv KV Ml;have k11:=Iw KV Ml;have hs:=jP KV Ml;have hd:=kP (b:=CB) KV;generalize pB AA BB=E at*;generalize qM DA CB=S at*;generalize pB DA CB=D at*;have k12:=cH hs hs;have k13:=cH hd hd;have DW:=cV hd hd;have k14:=cH (DW.mono gQ) (h1.mono gQ);have k15:=cH (GY.mono gQ) (Fk.mono gQ);have k16:=cH he (Iy.mono gQ);have hec:=cV he (Iy.mono gQ);have k17:=Iv hec GY;have hea:=jP hec GY;have k18:=cH hea he;refine lv.run [14,15] rfl ?_;simp[z5];refine aM.rA k1 ?_;simp;refine aM.rA k2 ?_;simp;refine lv.run [16,17] rfl ?_;simp[z5];refine aM.rA k5 ?_;simp;refine aM.rA k6 ?_;simp;refine ai.rA k9 ?_;simp;refine lv.run [19,20] rfl ?_;simp[z5];refine aM.rA k4 ?_;simp;refine aM.rA k7 ?_;simp;refine aM.rA k3 ?_;simp;refine aM.rA k8 ?_;simp;refine aM.rA k10 ?_;simp;refine aM.rA k11 ?_;simp;refine aM.rA k12 ?_;simp;refine aM.rA k13 ?_;simp;refine aM.rA k14 ?_;simp;refine aM.rA k15 ?_;simp;refine aM.ret k16 (by simp;rfl) (by simp) (by simp) ?_;simp;refine aM.rA k17 ?_;simp;refine aM.rA k18 ?_;simp[hw];refine⟨[.keep [2,3,4,5,6,7,8,9,10,11,12],.dr 14,.dr 15,.dr 16,.dr 17,.dr 18,.dr 19,.dr 20],?_⟩;simp;exact hK _ (by simp[aG])
 ·have df:=BJ n h1 255;generalize jk n x1 255=L at*;obtain⟨x2,z2,x3,z3,last⟩:=L;obtain⟨a2,b2,a3,b3⟩:=df;dsimp only at a2 b2 a3 b3⊢;have k1:=vh (b2.mono gQ);have k2:=cH (a2.mono gQ) ((tu (b2.mono gQ) 255).mono gQ);have k3:=AN (cV (a2.mono gQ) ((tu (b2.mono gQ) 255).mono gQ));have k4:=vh (b3.mono gQ);have k5:=cH (a3.mono gQ) ((tu (b3.mono gQ) 255).mono gQ);have k6:=AN (cV (a3.mono gQ) ((tu (b3.mono gQ) 255).mono gQ));simp[↓al];refine⟨λtI=> ?_,λtI=> ?_⟩
  ·refine lv.run [7] rfl ?_;simp[tI];refine aM.rA k4 ?_;simp;refine aM.rA k5 ?_;simp;refine aM.rA k6 ?_;simp;refine aA.plain [.keep [4],.dr 1] ?_;simp[tI]
  ·simp[tI];refine aM.rA k1 ?_;simp;refine aM.rA k2 ?_;simp;refine aM.rA k3 ?_;simp;refine aA.plain [.keep [4],.dr 1] ?_;simp[tI]
def iW (n:Nat) (f:Nat->Int):List PV:=(List.range n).map λi=> .int .i64 (f i)
theorem ac3 {n:Nat} (f:Nat->Int) {i:Nat} (h:i<n):(iW n f)[i]? =some (.int .i64 (f i)):=by simp[iW,h]
def upW (f:Nat->Int) (i:Nat) (x:Int):Nat->Int:=λj=>if j=i then x else f j
@[simp] theorem V9 (n:Nat) (f:Nat->Int):au (iW n f):=aF (λ_=>by simp) _
theorem Wa:zr 16 (PV.int IntKind.i64 0)=iW 16 λ_=>0:=by rw[cm];rfl
def zX (f:Nat->Int) (b:Int):Prop:=∀i,i<16-> -b≤f i∧f i≤b
def cX (f:Nat->Int):Nat->Int
 |0=>f 0
 |i+1=>f (i+1)+cX f i/65536
def rT (f:Nat->Int):Nat->Int:=λj=>if j=0 then f 0%65536+38*(cX f 15/65536)else cX f j%65536
theorem Zw {f:Nat->Int} {b:Int} (hf:zX f b) (hb:2≤b):∀i,i<16-> -(b+b)≤cX f i∧cX f i≤b+b
 |0,h=>by have:=hf 0 h;simp only[cX];omega
 |
  i+1,h=>by
  have h1:=Zw hf hb i (by omega)
  have:=hf (i+1) h
  simp only[cX]
  omega
def tC (t:Nat->Int) (x:Int) (b:Nat->Int) (i j:Nat):Nat->Int:=λk=>if i≤k∧k<i+j then t k+x*b (k-i)else t k
def tR (a b:Nat->Int):Nat->Nat->Int
 |0=>λ_=>0
 |i+1=>tC (tR a b i) (a i) b i 16
def tO (a b:Nat->Int):Nat->Int:=λk=>if k<15 then tR a b 16 k+38*tR a b 16 (k+16)else tR a b 16 k
def qO (a b:Nat->Int):Nat->Int:=rT (rT (tO a b))
theorem ac4 {x y b c:Int} (h1: -b≤x) (h2:x≤b) (h3: -c≤y) (h4:y≤c): -(b*c)≤x*y∧x*y≤b*c:=by
 have e1:0≤(b-x)*(c-y):=Int.mul_nonneg (by omega) (by omega);have e2:0≤(b+x)*(c-y):=Int.mul_nonneg (by omega) (by omega);have e3:0≤(b-x)*(c+y):=Int.mul_nonneg (by omega) (by omega);have e4:0≤(b+x)*(c+y):=Int.mul_nonneg (by omega) (by omega);simp only[Int.sub_mul,Int.mul_sub,Int.add_mul,Int.mul_add]at e1 e2 e3 e4;omega
theorem QW {a b:Nat->Int} (ha:zX a 262144) (hb:zX b 262144):∀i:Nat,i≤16->∀k,-((i:Int)*68719476736)≤tR a b i k∧tR a b i k≤(i:Int)*68719476736
 |0,_,k=>by simp[tR]
 |
  i+1,hi,k=>by
  have h:=QW ha hb i (by omega) k
  have he:tR a b (i+1) k=if i≤k∧k<i+16 then tR a b i k+a i*b (k-i)else tR a b i k:=rfl
  rw[he]
  split
  ·rename_i hk
   obtain⟨p1,p2⟩:=ha i (by omega)
   obtain⟨p3,p4⟩:=hb (k-i) (by omega)
   have:=ac4 p1 p2 p3 p4
   omega
  ·omega
theorem amk {a b:Nat->Int} (ha:zX a 262144) (hb:zX b 262144):zX (tO a b) 42880953483264:=by
 intro k hk;have h1:=QW ha hb 16 (by omega) k;have h2:=QW ha hb 16 (by omega) (k+16);unfold tO;split<;>omega
structure WS (f:Nat->Int):Prop where
 h0: -38≤f 0∧f 0≤65573
 hi:∀i,i<16->i≠0->0≤f i∧f i≤65535
theorem WS.le {f:Nat->Int} (h:WS f):zX f 65573:=λi hi=>by
 by_cases h0:i=0
 ·subst h0;have:=h.h0;omega
 ·have:=h.hi i hi h0;omega
theorem Zx {f:Nat->Int} (h0: -140737488355328≤f 0∧f 0≤140737488355328) (h:∀i,i<16->i≠0->0≤f i∧f i≤65535):∀i,i+2<16-> -1≤cX f (i+2)/65536∧cX f (i+2)/65536≤1
 |
  0,_=>by
  have:=h 1 (by decide) (by decide)
  have:=h 2 (by decide) (by decide)
  have e:cX f (0+2)=f 2+(f 1+f 0/65536)/65536:=rfl
  rw[e]
  omega
 |
  i+1,hi=>by
  have:=Zx h0 h i (by omega)
  have:=h (i+1+2) hi (by omega)
  have e:cX f (i+1+2)=f (i+1+2)+cX f (i+2)/65536:=rfl
  rw[e]
  omega
theorem Wb {a b:Nat->Int} (ha:zX a 262144) (hb:zX b 262144):WS (qO a b):=by
 have ho:=amk ha hb;have hx:=Zw ho (by decide) 15 (by decide);have h0:=ho 0 (by decide);have g0: -140737488355328≤rT (tO a b) 0∧rT (tO a b) 0≤140737488355328:=by simp only[rT];rw[if_pos trivial];omega
 have gi:∀i,i<16->i≠0->0≤rT (tO a b) i∧rT (tO a b) i≤65535:=λi _ hn=>by simp only[rT];rw[if_neg hn];omega
 have hc: -1≤cX (rT (tO a b)) 15/65536∧cX (rT (tO a b)) 15/65536≤1:=Zx g0 gi 13 (by decide);unfold qO;generalize rT (tO a b)=f at*;refine⟨?_,λi hi hn=> ?_⟩
 ·simp only[rT];rw[if_pos trivial];omega
 ·simp only[rT];rw[if_neg hn];omega
def iB (n:Nat) (g:Nat->UInt8):List PV:=(List.range n).map λi=>u8 (g i)
@[simp] theorem ac5 (n:Nat) (f:Nat->UInt8):(iB n f).length=n:=by simp[iB]
theorem Gy {n:Nat} (f:Nat->UInt8) {i:Nat} (h:i<n):(iB n f)[i]? =some (u8 (f i)):=by simp[iB,h]
def upB (f:Nat->UInt8) (i:Nat) (x:UInt8):Nat->UInt8:=λj=>if j=i then x else f j
theorem Iz {n:Nat} {f g:Nat->UInt8} (h:∀i,i<n->f i=g i):iB n f=iB n g:=by
 unfold iB;exact JqX λi hi=>by rw[h i (JiQ.1 hi)]
theorem ac6 (n:Nat) (f:Nat->UInt8) (i:Nat) (x:UInt8):(iB n f).set i (u8 x)=iB n (upB f i x):=by
 apply JkJ;intro j;by_cases hj:j<n
 ·rw[Gy _ hj,List.getElem?_set];by_cases h:i=j
  ·simp[h,hj,upB]
  ·rw[if_neg h,Gy _ hj,upB,if_neg (Ne.symm h)]
 ·rw[List.getElem?_eq_none (by simp;omega),List.getElem?_eq_none (by simp;omega)]
theorem E6:zr 32 (PV.int IntKind.u8 0)=iB 32 λ_=>0:=by rw[cm];rfl
end Go.Ab

/- Walks of functions, part 16. No condition. -/
import Derived.Test.YtddacpkeacbjfaaGreatDoorB14
import Derived.Test.YtddacpkeacbjfaaGreatDoorB15
set_option maxRecDepth 10000
set_option maxHeartbeats 4000000
set_option linter.all false
noncomputable section
namespace Go.Ab
theorem aey {l:Zz} (hl:l.length=2):∃n:Int,((0≤n∧n≤65535)∧n=(tP l:Nat))∧aP Pg 115 [cy l] (.int .i64 n):=by
 match l,hl with
 |
  [x,y],_=>
  refine⟨(tP [x,y]:Nat),⟨⟨by omega,?_⟩,rfl⟩,XB rfl⟩
  have:=x.toNat_lt;have:=y.toNat_lt
  simp[tP];omega
def Db (s:Bool) (l:WQ):PV:= .st 17 [.bl s,.ar 1 16 (gM l)]
@[simp] def aqH (s:Bool) (l:WQ):Pure (Db s l):=by simp[Db]
@[simp] theorem aA2 (s:Bool) (l:WQ):wk (Db s l)=Db s l:=by simp[Db]
@[simp] theorem aiC (s:Bool) (l:WQ):(Db s l).width=17:=_root_.id rfl
@[simp] theorem auY (s:Bool) (l:WQ):(Db s l).isAgg=true:=_root_.id rfl
@[simp] theorem aqI (s:Bool) (l:WQ):(Db s l).aV=true:=_root_.id rfl
@[simp↓] theorem auZ (g:Bool) (s:Bool) (l:WQ) (K:W7):eT g (Db s l) K=K (Db s l):=_root_.id rfl
def A4S:AV:= .st 17 [(.bl (some false)),(.ar 1 16 (uL .u8 4++List.replicate 12 (.int .u8 (some 0))))]
def aA3:AV:= .st 17 [(.bl (some true)),(.ar 1 16 (uL .u8 16++List.replicate 0 (.int .u8 (some 0))))]
def GA (s:Bool) (l:WQ):Prop:=gm A4S (Db s l)∨gm aA3 (Db s l)
theorem MC {k:IntKind}:∀ {a:Xe} {m:WG},(∀x∈a,∃o,x= .int k o)->bB a m->∃l:WQ,m=l.map (.int k)
 |[],[],_,_=>⟨[],rfl⟩
 |[],_::_,_,h=>by simp[bB]at h
 |_::_,[],_,h=>by simp[bB]at h
 |
  x::a,p::m,hk,h=>by
  obtain⟨h1,h2⟩:=h
  obtain⟨l,rfl⟩:=MC (λy hy=>hk y (List.mem_cons_of_mem _ hy)) h2
  obtain⟨o,rfl⟩:=hk x (JkV ..)
  cases p<;>simp only[gm]at h1
  obtain⟨rfl,_⟩:=h1
  exact⟨_::l,rfl⟩
def abf {s:Bool} {a:Xe} {p:PV} (ha:∀x∈a,∃o,x= .int .u8 o) (h:gm (.st 17 [(.bl (some s)),(.ar 1 16 a)]) p):∃l,p=Db s l:=by
 obtain⟨m,rfl,g⟩:=abb h;obtain⟨x1,m,rfl,h1,h⟩:=dY g;obtain⟨x2,m,rfl,h2,h⟩:=dY h;obtain rfl:=qA h;cases x1<;>simp only[gm]at h1;rename_i b;have hb:b=s:=by simpa using h1
 subst hb;cases x2<;>simp only[gm]at h2;obtain⟨⟨rfl,rfl⟩,h2⟩:=h2;obtain⟨l,rfl⟩:=MC ha h2;exact⟨l,rfl⟩
def EY {l:Zz} (hl:l.length=4∨l.length=16):∃(s:Bool) (a:WQ),GA s a∧aP Pg 114 [cy l] (Db s a):=by
 rw[MA];rcases hl with hl|hl
 ·obtain⟨_,v,h1,h2⟩:=an8 an6 (.head _) [bS (l.map λx=>(x.toNat:Int))] ⟨pX (by simpa using hl),trivial⟩;obtain⟨a,rfl⟩:=abf (by simp[uL]) h1;exact⟨_,a,.inl h1,h2⟩
 ·obtain⟨_,v,h1,h2⟩:=aoa z173 (.head _) [bS (l.map λx=>(x.toNat:Int))] ⟨pX (by simpa using hl),trivial⟩;obtain⟨a,rfl⟩:=abf (by simp[uL]) h1;exact⟨_,a,.inr h1,h2⟩
def qU:WQ:=List.replicate 16 0
def Gr:GA false qU:=by
 left;simp[A4S,Db,gm,bB,gM,uL,List.replicate,qU]
def j9:PV.st 17 [.bl false,.ar 1 16 (zr 16 (.int .u8 0))]=Db false qU:=by rw[dh];rfl
theorem aqJ (x:UInt8):0≤bits .and .u8 (x.toNat:Int) 15∧bits .and .u8 (x.toNat:Int) 15≤15:=by
 have hx:=x.toNat_lt
 have h1:(BitVec.ofInt 8 (x.toNat:Int)).toNat=x.toNat:=by
  rw[JlJ,BitVec.toNat_ofNat];exact JkQ (by omega)
 have h3:bits .and .u8 (x.toNat:Int) 15=IntKind.u8.wrap ((BitVec.ofInt 8 (x.toNat:Int)&&&BitVec.ofInt 8 15).toNat:Int):=rfl;rw[h3,BitVec.toNat_and,h1];have h2:(BitVec.ofInt 8 15).toNat=15:=rfl;rw[h2];have:=Nat.and_le_right (n:=x.toNat) (m:=15);rw[wrap_u8 (by omega)];omega
def RU {l:Zz} (hl:l.length≤80):∃(s1 s2:Bool) (l1 l2:WQ) (n e:Int),GA s2 l2∧(e=0->(20≤n∧n≤l.length)∧vH (l.take n.toNat))∧
  aP Pg 72 [cy l] (.tup [.st 35 [Db s1 l1,Db s2 l2,.int .i64 n],.int .i64 e]):=by
 by_cases h0:l.length=0
 ·refine⟨false,false,qU,qU,0,2,Gr,λh=>absurd h (by decide),?_⟩;refine ab.intro T.dF (by simp[F.dF]) ?_;simp[F.dF,ah,az,j9,cy,u8,h0];refine bH ?_;simp
 have h1:0<l.length:=by omega
 have hx:l[0]? =some l[0]:=gJ (by omega);have h2:¬(2016:Int)<l.length:=by omega
 generalize hv:((l[0]).toNat:Int).fdiv (2^min 4 IntKind.u8.bits)=v;by_cases Um:v=4
 ·have PF:¬v=6:=by omega
  by_cases hlen:l.length<20
  ·have mO:(l.length:Int)<20:=by omega
   refine⟨false,false,qU,qU,0,2,Gr,λh=>absurd h (by decide),?_⟩;refine ab.intro T.dF (by simp[F.dF]) ?_;simp[F.dF,ah,az,j9,cy,u8,h0,h1,h2,hx,hv,Um,PF,mO];refine bH ?_;simp
  ·have mO:¬(l.length:Int)<20:=by omega
   have g12:(16:Int)≤l.length:=by omega
   have g16:(20:Int)≤l.length:=by omega
   have g20:(4:Int)≤l.length:=by omega
   obtain⟨s1,a1,hG1,Zh⟩:=EY (l:=(l.take 16).drop 12) (by simp;omega);obtain⟨s2,a2,hG2,Zi⟩:=EY (l:=(l.take 20).drop 16) (by simp;omega);obtain⟨n,⟨hn,hnb⟩,Zj⟩:=aey (l:=(l.take 4).drop 2) (by simp;omega);simp only[cy,JjX,JmQ]at Zh Zi Zj;have hh:=aqJ l[0];generalize hhd:bits .and .u8 ((l[0]).toNat:Int) 15=h at hh;have AQ:IntKind.i64.wrap h=h:=wrap_i64 (by omega);have xc:IntKind.i64.wrap (4*h)=4*h:=wrap_i64 (by omega);by_cases hh5:h<5
   ·refine⟨false,false,qU,qU,0,5,Gr,λh=>absurd h (by decide),?_⟩;refine ab.intro T.dF (by simp[F.dF]) ?_;simp[F.dF,ah,az,j9,cy,u8,h0,h1,h2,hx,hv,Um,PF,mO,g16];refine oG.run [] rfl ?_;simp[g12,g16,g20];refine aK.rA Zh ?_;simp[g12,g16,g20];refine aK.rA Zi ?_;simp[g12,g16,g20];refine aK.rA Zj ?_;simp[h1,u8,hhd,AQ,hh5,j9];refine bH ?_;simp
   by_cases hq:n<4*h
   ·refine⟨false,false,qU,qU,0,5,Gr,λh=>absurd h (by decide),?_⟩;refine ab.intro T.dF (by simp[F.dF]) ?_;simp[F.dF,ah,az,j9,cy,u8,h0,h1,h2,hx,hv,Um,PF,mO,g16];refine oG.run [] rfl ?_;simp[g12,g16,g20];refine aK.rA Zh ?_;simp[g12,g16,g20];refine aK.rA Zi ?_;simp[g12,g16,g20];refine aK.rA Zj ?_;simp[h1,u8,hhd,AQ,xc,hh5,hq,j9];refine bH ?_;simp
   by_cases hr:(l.length:Int)<n
   ·refine⟨false,false,qU,qU,0,2,Gr,λh=>absurd h (by decide),?_⟩;refine ab.intro T.dF (by simp[F.dF]) ?_;simp[F.dF,ah,az,j9,cy,u8,h0,h1,h2,hx,hv,Um,PF,mO,g16];refine oG.run [] rfl ?_;simp[g12,g16,g20];refine aK.rA Zh ?_;simp[g12,g16,g20];refine aK.rA Zi ?_;simp[g12,g16,g20];refine aK.rA Zj ?_;simp[h1,u8,hhd,AQ,xc,hh5,hq,hr,j9];refine bH ?_;simp
   have hs:¬(2000:Int)<n:=by omega
   have e0:l.getD 0 0=l[0]:=by rw[JfQ,hx];rfl
   have f1:=aqK l[0] hhd;refine⟨s1,s2,a1,a2,n,0,hG2,λ_=>⟨⟨by omega,by omega⟩,pk4 (by omega) (by omega) (by omega) (by rw[e0];exact nib l[0] (v:=4) (by rw[hv,Um];rfl)) (by rw[e0];omega) (by rw[e0];omega) (by omega)⟩,?_⟩;refine ab.intro T.dF (by simp[F.dF]) ?_;simp[F.dF,ah,az,j9,cy,u8,h0,h1,h2,hx,hv,Um,PF,mO,g16];refine oG.run [] rfl ?_;simp[g12,g16,g20];refine aK.rA Zh ?_;simp[g12,g16,g20];refine aK.rA Zi ?_;simp[g12,g16,g20];refine aK.rA Zj ?_;simp[h1,u8,hhd,AQ,xc,hh5,hq,hr,hs,j9];refine bH ?_;simp
 by_cases PF:v=6
 ·by_cases hlen:l.length<20
  ·have mO:(l.length:Int)<20:=by omega
   refine⟨false,false,qU,qU,0,2,Gr,λh=>absurd h (by decide),?_⟩;refine ab.intro T.dF (by simp[F.dF]) ?_;simp[F.dF,ah,az,j9,cy,u8,h0,h1,h2,hx,hv,Um,PF,mO];refine bH ?_;simp
  have mO:¬(l.length:Int)<20:=by omega
  by_cases aFL:l.length<40
  ·have G3:(l.length:Int)<40:=by omega
   have Nr:(20:Int)≤l.length:=by omega
   refine⟨false,false,qU,qU,0,2,Gr,λh=>absurd h (by decide),?_⟩;refine ab.intro T.dF (by simp[F.dF]) ?_;simp[F.dF,ah,az,j9,cy,u8,h0,h1,h2,hx,hv,Um,PF,mO,G3,Nr];refine bH ?_;simp
  have G3:¬(l.length:Int)<40:=by omega
  have Nr:(20:Int)≤l.length:=by omega
  have abZ:(40:Int)≤l.length:=by omega
  have g12:(16:Int)≤l.length:=by omega
  have g16:(20:Int)≤l.length:=by omega
  have g20:(4:Int)≤l.length:=by omega
  have g24:(24:Int)≤l.length:=by omega
  have g40:(40:Int)≤l.length:=by omega
  have g6:(6:Int)≤l.length:=by omega
  obtain⟨s1,a1,hG1,Zh⟩:=EY (l:=(l.take 16).drop 12) (by simp;omega);obtain⟨s2,a2,hG2,Zi⟩:=EY (l:=(l.take 20).drop 16) (by simp;omega);obtain⟨n,⟨hn,hnb⟩,Zj⟩:=aey (l:=(l.take 4).drop 2) (by simp;omega);obtain⟨s3,a3,hG3,hB1⟩:=EY (l:=(l.take 24).drop 8) (by simp;omega);obtain⟨s4,a4,hG4,hB2⟩:=EY (l:=(l.take 40).drop 24) (by simp;omega);obtain⟨m,⟨hm,hmb⟩,hN2⟩:=aey (l:=(l.take 6).drop 4) (by simp;omega);simp only[cy,JjX,JmQ]at Zh Zi Zj hB1 hB2 hN2;have xc:IntKind.i64.wrap (40+m)=40+m:=wrap_i64 (by omega);by_cases hr:(l.length:Int)<40+m
  ·refine⟨false,false,qU,qU,0,2,Gr,λh=>absurd h (by decide),?_⟩;refine ab.intro T.dF (by simp[F.dF]) ?_;simp[F.dF,ah,az,j9,cy,u8,h0,h1,h2,hx,hv,Um,PF,mO,G3,Nr,abZ];refine oG.run [] rfl ?_;simp[g12,g16,g20];refine aK.rA Zh ?_;simp[g12,g16,g20];refine aK.rA Zi ?_;simp[g12,g16,g20];refine aK.rA Zj ?_;simp[g12,g16,g20,g24,g40,g6];refine aK.rA hB1 ?_;simp[g24,g40,g6];refine aK.rA hB2 ?_;simp[g24,g40,g6];refine aK.rA hN2 ?_;simp[h1,u8,xc,hr,j9];refine bH ?_;simp
  have hs:¬(2000:Int)<40+m:=by omega
  have e0:l.getD 0 0=l[0]:=by rw[JfQ,hx];rfl
  refine⟨s3,s4,a3,a4,40+m,0,hG4,λ_=>⟨⟨by omega,by omega⟩,pk6 (m:=m.toNat) (by omega) (by omega) (by omega) (by rw[e0];exact nib l[0] (v:=6) (by rw[hv,PF];rfl)) (by omega)⟩,?_⟩;refine ab.intro T.dF (by simp[F.dF]) ?_;simp[F.dF,ah,az,j9,cy,u8,h0,h1,h2,hx,hv,Um,PF,mO,G3,Nr,abZ];refine oG.run [] rfl ?_;simp[g12,g16,g20];refine aK.rA Zh ?_;simp[g12,g16,g20];refine aK.rA Zi ?_;simp[g12,g16,g20];refine aK.rA Zj ?_;simp[g12,g16,g20,g24,g40,g6];refine aK.rA hB1 ?_;simp[g24,g40,g6];refine aK.rA hB2 ?_;simp[g24,g40,g6];refine aK.rA hN2 ?_;simp[h1,u8,xc,hr,hs,j9];refine bH ?_;simp
 refine⟨false,false,qU,qU,0,4,Gr,λh=>absurd h (by decide),?_⟩;refine ab.intro T.dF (by simp[F.dF]) ?_;simp[F.dF,ah,az,j9,cy,u8,h0,h1,h2,hx,hv,Um,PF];refine bH ?_;simp
def aqL {l:Zz} (hl:l.length≤80):∃(p:Zz) (e:Int),(e=0->(20≤p.length∧p.length≤80)∧vH p)∧aP Pg 71 [cy l] (.tup [cy p,.int .i64 e]):=by
 obtain⟨s1,s2,l1,l2,n,e,hG,he,hC⟩:=RU hl;by_cases h0:e=0
 ·obtain⟨⟨Ft,PE⟩,Hg⟩:=he h0;subst h0;refine⟨l.take n.toNat,0,λ_=>⟨by simp;omega,Hg⟩,?_⟩;refine ab.intro (aA R.fY.2) (by simp[R.fY]) ?_;simp[R.fY,ah,az];refine aj.rA hC ?_;simp[cy];refine⟨⟨by omega,by omega⟩,⟨by omega,by omega⟩,?_⟩;refine bj.plain [.keep [2,3],.fz 19] ?_;simp;rw[tJ (by simp)]
 ·refine⟨[],e,λh=>absurd h h0,?_⟩;refine ab.intro (aA R.fY.2) (by simp[R.fY]) ?_;simp[R.fY,ah,az];refine aj.rA hC ?_;simp[h0];refine bj.plain [.wk 2] ?_;simp[cy]
def aqM {ll:List (Zz)} {n:Int} {p:Zz} (h:ll.length≤1000000000) (hb:∀b∈ll,b.length≤1073741824) (hp:p.length≤1073741824) (hn: -9223372036854775808≤n∧n≤9223372036854775807):
  aP Pg 74 [ey ll,.int .i64 n,cy p] (.tup [ey ((ll++[p]).drop (ll.length+1-n.toNat)),.int .i64 (ll.length+1-n.toNat:Nat)]):=by
 refine ab.intro (aA R.nr.2) (by simp[R.nr]) ?_;simp[R.nr,ah,az,ey,cy];refine fa.fN ll.length (λ_=>True) [0,1,2,6,7,8,12,13,14] (λi=>[(8,.rs 8 [] 0 i i 1 .tip),(14,.int .i64 i)]) (λi=>[(8,.arr 1 ((ll.take i).map cy))]) [.vt 8 8 1] ?_;simp;refine⟨λi hi K hK=> ?_,λK=> ?_⟩
 ·have hx:ll[i]? =some ll[i]:=gJ hi;have je:min i ll.length=i:=by omega
  simp(disch:=omega) [↓an,hx,hi,cy,je];have:=hb _ (JaJ hi);repeat (refine⟨by omega,?_⟩)
  refine⟨[.keep [0,1,2,6,7,8,12,13,14],.fz 21],?_⟩;simp
  exact hK _ (by
   have e:List.take (i+1) (ll.map cy)=(ll.map cy).take i++[cy ll[i]]:=by rw[JcJ (by simpa using hi)];simp
   simp[e,cy])
 ·simp(disch:=omega) [↓an];repeat (refine⟨by omega,?_⟩)
  have e:max ((ll.length:Int)+1-max n 0) 0=(ll.length+1-n.toNat:Nat):=by omega
  rw[e];have e2:ll.length+1-n.toNat+(ll.length+1-(ll.length+1-n.toNat))≤ll.length+1:=by omega
  refine bj.plain [.keep [6,7,8],.fz 28,.fz 8,.wk 6] ?_;simp[e2];exact tJ (by simp)
def PXS:AV:= .st 18 [.st 17 [(.bl (some false)),(.ar 1 16 (uL .u8 2++List.replicate 14 (.int .u8 (some 0))))],(kI 16)]
def abg {i:Nat} (h:i<3):gm PXS (gW (rt i).rq):=by
 rcases(by omega:i=0∨i=1∨i=2)with rfl|rfl|rfl<;>simp[PXS,rt,sY,iq,gW,cV,gm,bB,uL,kI,List.replicate,u8]
def abh {i:Nat} (h:i<3) {s:Bool} {a:WQ} (hG:GA s a):∃b:Bool,aP Pg 116 [gW (rt i).rq,Db s a] (.bl b):=by
 rcases hG with hG|hG
 ·obtain⟨_,v,h1,h2⟩:=aqF aqD (.head _) [gW (rt i).rq,Db s a] ⟨abg h,hG,trivial⟩;cases v<;>simp only[gm]at h1;exact⟨_,h2⟩
 ·obtain⟨_,v,h1,h2⟩:=aA1 aqG (.head _) [gW (rt i).rq,Db s a] ⟨abg h,hG,trivial⟩;cases v<;>simp only[gm]at h1;exact⟨_,h2⟩
def zo (c:Nat->Bool):Nat->Int
 |0=> -1
 |i+1=>if zo c i<0∧c i=true then i else zo c i
theorem RV (c:Nat->Bool):∀i,-1≤zo c i∧zo c i<i
 |0=>by simp[zo]
 |
  i+1=>by
  have:=RV c i
  simp only[zo]
  split<;>omega
theorem XC {l:List sc} (hl:Dc l) {s:Bool} {a:WQ} (hG:GA s a):∃(k:Key) (b:Bool),(b=true->∃i,i<l.length∧k=lK i)∧aP Pg 73 [cR l,Db s a] (.tup [bW k,.bl b]):=by
 have hl3:=hl.1;let c:Nat->Bool:=λi=>if h:i<3 then Classical.choose (abh h hG)else false
 have hc:∀i,(h:i<3)->aP Pg 116 [gW (rt i).rq,Db s a] (.bl (c i)):=by
  intro i h;have:=Classical.choose_spec (abh h hG);simp only[c,dif_pos h];exact this
 generalize c=c at hc;have hb:=RV c l.length;refine⟨if zo c l.length<0 then zK else lK (zo c l.length).toNat,decide (0≤zo c l.length),?_,?_⟩
 ·intro h;have h:0≤zo c l.length:=by simpa using h
  exact⟨(zo c l.length).toNat,by omega,by rw[if_neg (by omega)]⟩
 refine ab.intro (aA R.Gs.2) (by simp[R.Gs]) ?_;simp[R.Gs,ah,az];refine fa.fN l.length (λ_=>True) [0,3,4,5,6,9,10,11] (λi=>[(6,.int .i64 (zo c i)),(11,.int .i64 i)]) (λi=>[]) [.keep [0,3,4,5,6,9,10,11]] ?_;simp;refine⟨rfl,λi hi K hK=> ?_,λK=> ?_⟩
 ·have hx:l[i]? =some l[i]:=gJ hi;have Un:=hl.2 i hi;have Jh:zo c (i+1)=if zo c i<0∧c i=true then(i:Int)else zo c i:=rfl;have hbi:=RV c i;have hw:IntKind.i64.wrap ((i:Int)+1)=i+1:=wrap_i64 (by omega);by_cases h1:zo c i<0
  ·by_cases h2:c i=true
   ·simp[↓an,hx,hi,Un];refine aK.rA (hc i (by omega)) ?_;simp[h1,h2,hw];refine⟨[.keep [0,3,4,5,6,9,10,11],.dr 8],?_⟩;simp;rw[Jh,if_pos ⟨h1,h2⟩]at hK;exact hK _ (by simp)
   ·simp[↓an,hx,hi,Un];refine aK.rA (hc i (by omega)) ?_;simp[h1,h2,hw];refine⟨[.keep [0,3,4,5,6,9,10,11],.dr 8],?_⟩;simp;rw[Jh,if_neg (λe=>h2 e.2)]at hK;exact hK _ (by simp)
  ·have hk:(zo c i).toNat<l.length:=by omega
   have hxk:l[(zo c i).toNat]? =some l[(zo c i).toNat]:=gJ hk;have hrk:=hl.2 _ hk;have hg0:0≤zo c i:=by omega
   have Ul:zo c i<l.length:=by omega
   by_cases h2:c i=true
   ·simp[↓an,hx,hi,Un];refine aK.rA (hc i (by omega)) ?_;simp[h1,h2,hxk,hrk,hg0,Ul,rt,sY,hw];refine⟨[.keep [0,3,4,5,6,9,10,11],.dr 8],?_⟩;simp;rw[Jh,if_neg (λe=>h1 e.1)]at hK;exact hK _ (by simp)
   ·simp[↓an,hx,hi,Un];refine aK.rA (hc i (by omega)) ?_;simp[h1,h2,hg0,hw];refine⟨[.keep [0,3,4,5,6,9,10,11],.dr 8],?_⟩;simp;rw[Jh,if_neg (λe=>h1 e.1)]at hK;exact hK _ (by simp)
 ·by_cases h1:zo c l.length<0
  ·have h2:¬0≤zo c l.length:=by omega
   simp[↓an,h1,h2];refine bH ?_;simp[h1];rw[dh];rfl
  ·have h2:0≤zo c l.length:=by omega
   have h3:(zo c l.length).toNat<l.length:=by omega
   have hx:l[(zo c l.length).toNat]? =some l[(zo c l.length).toNat]:=gJ h3;have Un:=hl.2 _ h3;simp[↓an,h1,h2,hx,Un,hb.2,rt];refine bH ?_;simp[h1,h2]
def aez {d:aR} {ps:Xo} (hl:ps.length≤1048576) {k:Key} {f:Nat} (hf:f<ps.length) (he:ps[f].cK=k) (h:∀j (hj:j<ps.length),j<f->ps[j].cK≠k):
  ab Pg 61 [bq d (.rs KB [] 0 ps.length ps.length 464 .tip),bW k] [.arr 464 (ps.map aH)] (λr fp=>r= .int .i64 f∧fp=[.arr 464 (ps.map aH)]):=by
 refine ab.intro (aA R.fZ.2) (by simp[R.fZ]) ?_;simp[R.fZ,ah,az];refine fa.fN f (λ_=>True) [2,3,4,8,9,10] (λi=>[(10,.int .i64 i)]) (λi=>[]) [.keep [2,3,4,8,9,10]] ?_;simp;refine⟨λi hi K hK=> ?_,λK=> ?_⟩
 ·have jv:i<ps.length:=by omega
  have hx:ps[i]? =some ps[i]:=gJ jv;have he:=h i jv hi;simp[↓an,hx,jv,he,tG,cT jv hl];refine⟨[.keep [2,3,4,8,9,10],.dr 6],?_⟩;simp;exact hK _ (by simp)
 ·have hx:ps[f]? =some ps[f]:=gJ hf;simp[↓an,hx,hf,he,tG];refine bj.with [] [KB] ?_;simp[dN,aW,bA,ae,af,(aL bh ps).refs,(aL bh ps).aI]
structure aqN (p q:bE):Prop where
 cK:q.cK=p.cK
 stl:q.aM.length≤100
 stb:∀b∈q.aM,b.length≤80
def uv (ps qs:Xo):Prop:=qs.length=ps.length∧∀(i:Nat) (p:bE),ps[i]? =some p->∃q:bE,qs[i]? =some q∧aqN p q
def aqO (d:aR) (ps:Xo) (L:WG) (r:PV) (fp:WD):Prop:=r= .tup []∧∃d' tR L',(d'.timers.length≤d.timers.length+120∧d'.aE.length≤d.aE.length+120∧d'.aX=d.aX∧d'.aY=d.aY∧d'.buckets=d.buckets∧(qD (pe d ps)->Gd (pe d' tR)))∧uv ps tR∧aB L'∧L'.length≤L.length+120∧fp=MB d' tR L'
def RW (ps:Xo):Prop:=∀p∈ps,p.aM.length≤90∧∀b∈p.aM,17≤b.length∧b.length≤80
def uv.refl {ps:Xo} (h:RW ps):uv ps ps:=⟨rfl,λi p hp=>by
 obtain⟨h1,h2⟩:=h p (JcX hp);exact⟨p,hp,rfl,by omega,λb hb=>(h2 b hb).2⟩⟩
def uv.of {ps qs:Xo} {i:Nat} (hi:i<ps.length) {Ju:List (Zz)} (Be:RW ps) (h1:Ju.length≤100) (h2:∀b∈Ju,b.length≤80) (h:qC (ps.set i {ps[i]with aM:=Ju}) qs):uv ps qs:=by
 refine⟨by rw[h.1];simp,λj p hp=> ?_⟩
 have Y9:∀ {q:bE} {l:List (Zz)},q.aM<:+l->l.length≤100->(∀b∈l,b.length≤80)->q.aM.length≤100∧∀b∈q.aM,b.length≤80:=by
  intro q l hs g1 g2;have:=hs.length_le;exact⟨by omega,λb hb=>g2 b (hs.subset hb)⟩
 by_cases hj:i=j
 ·subst hj;rw[gJ hi]at hp;cases hp;obtain⟨q,hq,hs⟩:=h.2 i {ps[i]with aM:=Ju} (by simp[hi]);obtain⟨e1,e2⟩:=Y9 hs.aM h1 h2;exact⟨q,hq,hs.cK,e1,e2⟩
 ·obtain⟨q,hq,hs⟩:=h.2 j p (by rw[List.getElem?_set_ne hj];exact hp);obtain⟨g1,g2⟩:=Be p (JcX hp);obtain⟨e1,e2⟩:=Y9 hs.aM (by omega) (λb hb=>(g2 b hb).2);exact⟨q,hq,hs.cK,e1,e2⟩
def Gd.bd {d:aR} {ps:Xo} (h:Gd (pe d ps)) (hb:d.bad≤100):Gd (pe {d with bad:=IntKind.i64.wrap (d.bad+1)} ps):=by
 have b0:0≤d.bad:=h.b0;have hw:IntKind.i64.wrap (d.bad+1)=d.bad+1:=wrap_i64 (by omega);rw[hw];exact⟨h.ru,h.n0,h.n1,h.p0,h.p1,by show 0≤d.bad+1;omega,by show d.bad+1≤1000;omega,h.qV,h.Gq,h.u9,λp hp=>by obtain⟨c1,c2,c3⟩:=h.MD p hp;exact⟨cB.of (d:=pe d ps) (e:=pe {d with bad:=d.bad+1} ps) rfl rfl c1,cB.of (d:=pe d ps) (e:=pe {d with bad:=d.bad+1} ps) rfl rfl c2,cB.of (d:=pe d ps) (e:=pe {d with bad:=d.bad+1} ps) rfl rfl c3⟩,h.Jv,h.KN,h.so,h.s0,h.pm,h.tso,h.trg,h.tun,h.ME,h.ld⟩
def qD.psh {d:aR} {ps:Xo} (h:qD (pe d ps)) {i:Nat} (hi:i<ps.length) {p:Zz} (hp:vH p) {Ju:List (Zz)} (hs:(ps[i].aM++[p]).drop (ps[i].aM.length+1-d.rules.fU.toNat)=Ju):qD (pe d (ps.set i {ps[i]with aM:=Ju})):=by
 have xb:qE d.rules:=h.gd.ru;have h1:=xb.2.2.2.2.2.2.2.2.2.2.2.2.2.2.2.1;have hf:=h.gd.Gq ps[i] (JaJ hi);simp only[gZ,aJ]at hf;refine h.Ju hi ?_ λb hb=> ?_
 ·rw[←hs];simp;omega
 ·rw[←hs]at hb;rcases JaX.1 (JbW hb)with hb|hb
  ·exact zn.1 (JbJ.1 hf.2 b hb)
  ·rw[List.mem_singleton.1 hb];exact hp
def RX {d:aR} {ps:Xo} (hk:yd ps) (hr:Dc d.aX) (Hd:d.aX.length=ps.length) (hs:d.aE.length<32) (hb:∀s∈d.aE,s.index≤1000) (ht:d.timers.length≤900000) {L:WG} (hL:aB L) (hl:L.length≤100)
  (Be:RW ps) (hsg: -9223372036854775808≤d.rules.fU∧d.rules.fU≤9223372036854775807) {b:Zz} (agh:b.length≤80) (hbd:d.bad≤100) (JH:qD (pe d ps)):
  ab Pg 37 [.pt KB [] 0,cy b] (MB d ps L) (aqO d ps L):=by
 obtain⟨p,e,he,hT⟩:=aqL agh;refine ab.intro T.Dd (by simp[F.Dd]) ?_;simp[F.Dd,ah,az,MB];refine aj.rA hT ?_;simp;refine⟨λh0=> ?_,λh0=> ?_⟩
 ·refine bj.with [] [KB,KB+1,KB+2] ?_;simp[dN,hL.refs,hL.aI,aW,bA,ae,af,(aL bh ps).refs];exact⟨rfl,{d with bad:=IntKind.i64.wrap (d.bad+1)},ps,L,⟨by simp,by simp,rfl,rfl,rfl,λhz=>hz.gd.bd hbd⟩,uv.refl Be,hL,by omega,rfl⟩
 ·obtain⟨⟨hp1,vK⟩,Hg⟩:=he h0;obtain⟨s1,s2,l1,l2,n,e2,hG,_,hC⟩:=RU (l:=p) vK;obtain⟨k,f,hkf,hLk⟩:=XC hr hG;refine aj.rA hC ?_;simp;refine oG.run [] rfl ?_;simp;refine aK.rA hLk ?_;simp;refine⟨λhf=> ?_,λhf=> ?_⟩
  ·refine bj.with [] [KB,KB+1,KB+2] ?_;simp[dN,hL.refs,hL.aI,aW,bA,ae,af,(aL bh ps).refs];exact⟨rfl,{d with bad:=IntKind.i64.wrap (d.bad+1)},ps,L,⟨by simp,by simp,rfl,rfl,rfl,λhz=>hz.gd.bd hbd⟩,uv.refl Be,hL,by omega,rfl⟩
  obtain⟨i,hi,rfl⟩:=hkf hf;have hi:i<ps.length:=by omega
  have hx:ps[i]? =some ps[i]:=gJ hi;have asG:=Be _ (JaJ hi)
  have hF:=aez (d:=d) (ps:=ps) (by have:=hk.1;omega) (k:=lK i) hi (hk.2 i hi) (λj hj Fs=>by
   rw[hk.2 j hj];intro e;exact absurd (s5 (by have:=hk.1;omega) (by have:=hk.1;omega) e) (by omega))
  have hP:=aqM (ll:=ps[i].aM) (n:=d.rules.fU) (p:=p) (by omega) (λb hb=>by have:=asG.2 b hb;omega) (by omega) hsg;generalize Zk:(ps[i].aM++[p]).drop (ps[i].aM.length+1-d.rules.fU.toNat)=Ju at hP;refine aj.gen [KB+1] [] [.arr 464 (ps.map aH)] hF (by simp[getAll]) (by simp) (by simp) (by simp[al,ae,cW,idx,bq]) (by simp[af,(aL bh ps).refs]) (by simp[bw,aI,bV,idx,bq]) (by simp[aG,(aL bh ps).aI]) (by simp[ae,af,(aL bh ps).refs]) ?_;simp[aQ,aG,aI,(aL bh ps).aI,hx,hi];refine aK.rA hP ?_;simp[hx,hi];have xd:Ju.length≤100:=by rw[←Zk];simp;omega
  have hsb:∀x∈Ju,17≤x.length∧x.length≤80:=by
   intro x hx;rw[←Zk]at hx;rcases JaX.1 (JbW hx)with h|h
   ·exact asG.2 x h
   ·have:x=p:=by simpa using h
    subst this;omega
  have hFl:=RT (d:=d) (ps:=ps.set i {ps[i]with aM:=Ju}) (i:=i) (by simp[hi]) hs hb ht hL hl (by simpa using xd) (by simpa using hsb) (JH.psh hi Hg Zk);refine aj.Gm (h1:=by simp[JeJ]) hFl hL ?_;rintro r fp ⟨rfl,d',tR,L',hG,yC,AP,rfl⟩;refine⟨_,_,_,rfl,by simp,yC,?_⟩;refine bj.with [] [KB,KB+1,KB+2] ?_;simp[dN,yC.refs,yC.aI,aW,bA,ae,af,(aL bh tR).refs];exact⟨rfl,d',tR,L',⟨hG.1.timers,hG.1.aE,hG.1.aX,hG.1.aY,hG.1.buckets,λhz=>hG.2 (hz.psh hi Hg Zk)⟩,uv.of hi Be xd (λx hx=>(hsb x hx).2) hG.1.tO,yC,AP,rfl⟩
theorem OG {d:aR} (h:VD d) {i:Nat} (hi:i<d.aa.length) {s:jx} (hs:ye d s) (h1:1≤s.loc) (n7:∀x∈d.aE,x.index≠s.loc) (own:Bool):
  ab Pg 33 [bN d,bW (lK i),dQ s,.bl own] [] (λr fp=>r= .tup [bq (lL d i hi s own) (.rs KB [] 0 d.aa.length d.aa.length 464 .tip),.int .i64 0]∧fp=[.arr 464 ((lL d i hi s own).aa.map aH)]):=by
 refine ab.intro T.fI (by simp[F.fI]) ?_;have xd:=h.XD.len h.qV.1;have hni:¬(i:Int)<0:=by omega
 have T6:¬s.loc=0:=by omega
 have xb:=h.ru;have hx:d.aa[i]? =some d.aa[i]:=gJ hi
 have hw:IntKind.i64.wrap (3*d.rules.iP)=3*d.rules.iP:=by
  obtain⟨h1,h2,h3,h4,h5,h6,h7,h8,h9,h10,h11,_⟩:=xb;exact wrap_i64 (by omega)
 simp[F.fI,ah,az];refine aj.rA (XE h) ?_;simp;refine aj.rA (KO h.qV hi) ?_;simp[hni];refine aj.rA (uw (l:=d.aE) (by omega) n7) ?_;simp[T6];refine aj.rA (MF hs) ?_;simp;refine aj.gA [] [47] [] (eg h.Ix) (by simp) (by simp) (by simp[af,ae,dL]) ?_;simp[aQ,aG,aI,cN,hi];obtain⟨PS,hPS⟩:∃PS,PS=d.aa.set i (pR d.aa[i] (vZ d.aa[i].ring s own)):=⟨_,rfl⟩
 have hPl:PS.length=d.aa.length:=by rw[hPS,JnW]
 obtain⟨SD,hSD⟩:∃SD,SD=dD d.aE (ka d.aa[i].ring own):=⟨_,rfl⟩
 have aI4:SD.length≤9:=by have:=pY (ka d.aa[i].ring own) d.aE;rw[←hSD]at this;omega
 have hT:=Take (l:=SD) (by omega) h1 (λx hx=>n7 x (by rw[hSD]at hx;exact ux hx)) (lK i) true;obtain⟨SL,hSL⟩:∃SL,SL=oK SD ⟨s.loc,lK i,true⟩:=⟨_,rfl⟩
 rw[←hSL]at hT
 have hPi:PS[i].cK=lK i:=by
  simp only[hPS,List.getElem_set_self];exact h.qV.2 i hi
 have JF:=h.tis.len;have aI5:=h.n0;have aI6:=h.n1;obtain⟨q1,q2,q3,q4,q5,q6,q7,q8,q9,q10,q11,_⟩:=xb;cases own with
 |
  true=>
  have ky:(List.map aH d.aa).set i (aH {d.aa[i]with ring:=wQ d.aa[i].ring s})=PS.map aH:=by
   rw[hPS,JeJ];rfl
  have hD:=yf (d:=d) (by omega) (l:=s6 d.aa[i].ring) (EZ d.aa[i].ring true) PS
  have agi:dD d.aE (s6 d.aa[i].ring)=SD:=by rw[hSD];rfl
  have hS:=AG (d:=xg d SL) (by show d.timers.length≤1048575;omega) (ps:=PS) (i:=i) (by omega) 5 (n:=3*d.rules.iP) h.n0 h.n1 (by omega) (by omega)
  rw[hPi]at hS
  rw[hPl]at hD hS
  dsimp only at ky
  simp[abk]
  refine aK.rA (dT d.aa[i].ring s) ?_
  simp[hi]
  rw[ky]
  refine aj.gA [13,47] [] [.box (E0 d (.rs 47 [] 0 d.aa.length d.aa.length 464 .tip)),.arr 464 (PS.map aH)] hD (by simp[af,ae,cW,idx]) (by simp[aG,aI,bV,idx]) (by simp[af,ae,dL]) ?_
  simp[aQ,aG,aI,cN,agi]
  refine aj.rA hT ?_
  simp[hw]
  refine aj.gen [13,47] [] [.box (E0 (xg d SL) (.rs 47 [] 0 d.aa.length d.aa.length 464 .tip)),.arr 464 (PS.map aH)] hS (by simp[getAll];rfl) (by simp) (by simp) (by simp[al,ae,cW,idx]) (by simp[af,ae,cW,idx]) (by simp[bw,aI,bV,idx]) (by simp[aG,aI,bV,idx]) (by simp[af,ae,dL]) ?_
  simp[aQ,aG,aI,cN]
  refine bj.with [.keep [8,9],.dr 13] [47] ?_
  simp[aW,bA,ae,af]
  have he:lL d i hi s true= {vu (xg d SL) (im (xg d SL).timers ⟨(xg d SL).now+3*d.rules.iP,lK i,5⟩)with aa:=PS}:=by
   simp only[lL,hPS,hSL,hSD,vu,xg]
  rw[he]
  exact⟨rfl,rfl⟩
 |
  false=>
  have ky:(List.map aH d.aa).set i (aH {d.aa[i]with ring:=RY d.aa[i].ring s})=PS.map aH:=by
   rw[hPS,JeJ];rfl
  have hD:=yf (d:=d) (by omega) (l:=Iy d.aa[i].ring) (EZ d.aa[i].ring false) PS
  have agi:dD d.aE (Iy d.aa[i].ring)=SD:=by rw[hSD];rfl
  have hS:=AG (d:=xg d SL) (by show d.timers.length≤1048575;omega) (ps:=PS) (i:=i) (by omega) 5 (n:=3*d.rules.iP) h.n0 h.n1 (by omega) (by omega)
  rw[hPi]at hS
  rw[hPl]at hD hS
  dsimp only at ky
  simp[abk]
  refine aK.rA (gr d.aa[i].ring s) ?_
  simp[hi]
  rw[ky]
  refine aj.gA [13,47] [] [.box (E0 d (.rs 47 [] 0 d.aa.length d.aa.length 464 .tip)),.arr 464 (PS.map aH)] hD (by simp[af,ae,cW,idx]) (by simp[aG,aI,bV,idx]) (by simp[af,ae,dL]) ?_
  simp[aQ,aG,aI,cN,agi]
  refine aj.rA hT ?_
  simp[hw]
  refine aj.gen [13,47] [] [.box (E0 (xg d SL) (.rs 47 [] 0 d.aa.length d.aa.length 464 .tip)),.arr 464 (PS.map aH)] hS (by simp[getAll];rfl) (by simp) (by simp) (by simp[al,ae,cW,idx]) (by simp[af,ae,cW,idx]) (by simp[bw,aI,bV,idx]) (by simp[aG,aI,bV,idx]) (by simp[af,ae,dL]) ?_
  simp[aQ,aG,aI,cN]
  refine bj.with [.keep [8,9],.dr 13] [47] ?_
  simp[aW,bA,ae,af]
  have he:lL d i hi s false= {vu (xg d SL) (im (xg d SL).timers ⟨(xg d SL).now+3*d.rules.iP,lK i,5⟩)with aa:=PS}:=by
   simp only[lL,hPS,hSL,hSD,vu,xg]
  rw[he]
  exact⟨rfl,rfl⟩
theorem KP {d:aR} {c:ql} {n:Nat} (hV:VP d n) (hn:n=2∨n=3) (hC:eC c):
  aw Pg F.aeB (ends 1 [AK.load true 148 (AX.t 2)] λr fp=>∃a b,(VM a 40∧2≤a.aa.length∧eC b∧Bd a)∧r=bq a (.rs (KB+1) [] 0 a.aa.length a.aa.length 464 .tip)∧fp=[aU.box (dV b),aU.arr 464 (a.aa.map aH)])
   {
    env:=[(0,.pt KB [] 0),(2,.pt 2 [] 0),(3,.pt 3 [] 0),(4,.int .i64 n),(5,.int .i64 n),(38,.int .i64 n),(39,.int .i64 n),(40,.bl false)],
    bx:=[(2,.box zD),(3,.box (bq d (.rs 80 [] 0 n n 464 .tip))),(80,.arr 464 (d.aa.map aH)),(KB,.box (dV c))]}:=by
 simp[F.aeB];refine fa.iV n (d,c) (λi y=>(VM y.1 (3+3*i)∧y.1.aa.length=n∧aA4 y.1 (10*i))∧eC y.2) [0,2,3,4,7] (λi _=>[(7,.int .i64 i)]) (λi y=>[(3,.box (bq y.1 (.rs 80 [] 0 n n 464 .tip))),(80,.arr 464 (y.1.aa.map aH)),(KB,.box (dV y.2))]) [.keep [0,2,3,4,7]] ?_;simp;have hL:=hV.len;refine⟨⟨⟨⟨hV.vm.vd,hV.vm.ti.mono (by omega)⟩,hL,?_⟩,hC⟩,?_,?_⟩
 ·intro x hx;rw[hV.sl]at hx;simp at hx
 ·intro i d c hi hV hL hS hC K hK;have Aj:IntKind.i64.wrap ((i:Int)+1)=(i:Int)+1:=wrap_i64 (by omega);simp[F.aeC,hi];refine aj.fj KB (aT hC 4 (by omega)) ?_;have m1:=cS c (n:=4) (by omega);have p1:=cq hC 4;generalize lg c 4=y1 at*;simp;refine fa.iV y1.1 (d,y1.2) (λj y=>(VM y.1 (3+3*i+j)∧y.1.aa.length=n∧(∀x∈y.1.aE,0≤x.index∧(x.index<10*i∨10*(i:Int)+y1.1-j<x.index∧x.index≤10*i+3)))∧eC y.2) [0,2,3,4,7,8] (λj _=>[(8,.int .i64 ((y1.1:Int)-j))]) (λj y=>[(3,.box (bq y.1 (.rs 80 [] 0 n n 464 .tip))),(80,.arr 464 (y.1.aa.map aH)),(KB,.box (dV y.2))]) [.keep [0,2,3,4,7,8]] ?_;simp;refine⟨⟨⟨hV,hL,λx hx=>⟨(hS x hx).1,Or.inl (hS x hx).2⟩⟩,p1⟩,?_,?_⟩
  ·intro j d c hj hV hL hS hC K2 yu;have hgt:(0:Int)<(y1.1:Int)-j:=by omega
   have v1:IntKind.i64.wrap (10*(i:Int))=10*(i:Int):=wrap_i64 (by omega);have v2:IntKind.i64.wrap (10*(i:Int)+((y1.1:Int)-j))=10*(i:Int)+((y1.1:Int)-j):=wrap_i64 (by omega);obtain⟨m,hm⟩:∃m:Nat,m=10*i+(y1.1-j):=⟨_,rfl⟩
   have v3:IntKind.u32.wrap (10*(i:Int)+((y1.1:Int)-j))=(m:Int):=by rw[wrap_u32 (by omega)];omega
   have v4:IntKind.i64.wrap ((y1.1:Int)-j-1)=(y1.1:Int)-(j+1):=by rw[wrap_i64 (by omega)];omega
   have ht:List.take n (List.map aH d.aa)=List.map aH d.aa:=tJ (by simp[hL]);simp[F.aeD];refine Px.of (λs'=>s'=⟨[(0,.pt KB [] 0),(2,.pt 2 [] 0),(3,.pt 3 [] 0),(4,.int .i64 n),(7,.int .i64 i),(8,.int .i64 ((y1.1:Int)-j))],[(2,.box zD),(3,.box (bN d)),(KB,.box (dV c))]⟩) ?_ ?_
   ·simp[hj];refine⟨[.keep [0,2,3,4,7,8],.fz 80],?_⟩;simp;rw[if_pos ⟨hL.symm,by omega⟩,ht];rfl
   rintro s' rfl;simp;refine oG.run [KB] rfl ?_;simp;refine aK.rA (ie (i:=i) (by omega)) ?_;simp[v1,v2,v3];refine aj.tH KB (ef hC hV.vd.n0 hV.vd.n1 hV.vd.ru (n:=m) (by omega) (by omega)) ?_;rintro⟨s,c1⟩ ⟨hs,xd,o1⟩;simp at hs xd o1;simp;refine aj.fj KB (nu o1) ?_;have o2:eC (bool c1).2:=cq o1 2;generalize bool c1=x2 at*;simp;have hip:i<d.aa.length:=by omega
   have n7:∀x∈d.aE,x.index≠s.loc:=by
    intro x hx he;rcases(hS x hx).2 with h|h<;>omega
   refine aj.gA [] [120] [] (OG hV.vd hip hs (by omega) n7 x2.1) (by simp) (by simp) (by simp[af,ae,al,dL,bq]) ?_;have hil:(lL d i hip s x2.1).aa.length=n:=E1.trans hL;simp[aQ,aG,aI,bw,cN,hL,v4];refine⟨[.keep [0,2,3,4,7,8],.mv 120 80],?_⟩;simp;have q1:wA 120 80 KB=KB:=rfl;have q2:wA 120 80 2=2:=rfl;have q3:wA 120 80 3=3:=rfl;have q4:wA 120 80 120=80:=rfl;refine yu (lL d i hip s x2.1) x2.2 _ (by simp[q1,q2,q3,q4]) (hV.inst (by omega) hip hs (by omega) n7 x2.1) (E1.trans hL) ?_ o2;intro x hx;rcases OH hx with h|h
   ·exact⟨by omega,by right;omega⟩
   ·have g:=hS x h;exact⟨g.1,by rcases g.2 with h|h<;>omega⟩
  ·intro d c hV hL hS hC K2;simp[F.aeD];refine Px.of (λ_=>False) ?_ (λ_ h=>h.elim);simp[F.aqR,Aj];refine⟨[.keep [0,2,3,4,7]],?_⟩;simp;refine hK d c _ (by simp) ⟨hV.vd,hV.ti.mono (by omega)⟩ hL ?_ hC;intro x hx;have g:=hS x hx;exact⟨g.1,by rcases g.2 with h|h<;>omega⟩
 ·intro d c hV hL hS hC K;simp[F.aeC,F.aqS];refine bj.with [] [KB,80] ?_;simp[af,aG,ae];exact⟨d,c,⟨⟨hV.vd,hV.ti.mono (by omega)⟩,by omega,hC,λx hx=>⟨(hS x hx).1,by have:=(hS x hx).2;omega⟩⟩,by rw[hL],rfl,rfl⟩
def RZ {c:ql} (h:eC c):
  ab Pg 10 [.pt KB [] 0] [.box (dV c)] (λr fp=>∃w:aR×ql,(VM w.1 40∧w.1.aa.length≥2∧eC w.2∧Bd w.1)∧r=bq w.1 (.rs (KB+1) [] 0 w.1.aa.length w.1.aa.length 464 .tip)∧fp=[.box (dV w.2),.arr 464 (w.1.aa.map aH)]):=by
 refine ab.intro T.D2 (by simp[F.D2]) ?_;simp[F.D2,ah,az];refine aj.tH KB (Iz h) ?_;rintro⟨ru,c1⟩ ⟨xb,o1⟩;simp;refine aj.tH KB (pr o1) ?_;rintro⟨k1,c2⟩ o2;simp;refine aj.tH KB (pr o2) ?_;rintro⟨k2,c3⟩ o3;simp;refine aj.tH KB ((E2 o3 65536 (by omega) (by omega)).mono (R':=λr fp=>∃w:Nat×ql,(eC w.2∧w.1<65536)∧r= .int .i64 w.1∧fp=[.box (dV w.2)]) ?_) ?_
 ·rintro r fp ⟨m,c',a,b,e,f⟩;exact⟨⟨m,c'⟩,⟨a,b⟩,e,f⟩
 rintro⟨po,c4⟩ ⟨o4,hpo⟩;simp;refine aj.tH KB (pr o4) ?_;rintro⟨k3,c5⟩ o5;simp;refine aj.tH KB ((E2 o5 16777216 (by omega) (by omega)).mono (R':=λr fp=>∃w:Nat×ql,(eC w.2∧w.1<16777216)∧r= .int .i64 w.1∧fp=[.box (dV w.2)]) ?_) ?_
 ·rintro r fp ⟨m,c',a,b,e,f⟩;exact⟨⟨m,c'⟩,⟨a,b⟩,e,f⟩
 rintro⟨nw,c6⟩ ⟨o6,BM⟩;dsimp only at hpo BM o1 o2 o3 o4 o5 o6 xb;have w1:IntKind.i64.wrap (nw:Int)=(nw:Int):=wrap_i64 (by omega);simp;refine oG.run [KB] rfl ?_;simp;refine aj.tH KB (pr o6) ?_;rintro⟨k4,c7⟩ o7;simp;refine aj.fj KB (aT o7 2 (by omega)) ?_;have l8:=cS c7 (n:=2) (by omega);have o8:=cq o7 2;generalize lg c7 2=x8 at*;simp;refine aj.fj KB (aT o8 2 (by omega)) ?_;have l9:=cS x8.2 (n:=2) (by omega);have o9:=cq o8 2;generalize lg x8.2 2=x9 at*
 have w2:IntKind.i64.wrap ((x8.1:Int)*min (nw:Int) 20000)=(x8.1:Int)*min (nw:Int) 20000:=by
  rcases(by omega:x8.1=0∨x8.1=1)with e|e<;>rw[e]<;>exact wrap_i64 (by omega)
 have h3:0≤(nw:Int)-(x8.1:Int)*min (nw:Int) 20000∧(nw:Int)-(x8.1:Int)*min (nw:Int) 20000≤nw:=by
  rcases(by omega:x8.1=0∨x8.1=1)with e|e<;>rw[e]<;>omega
 have w3:IntKind.i64.wrap ((nw:Int)-(x8.1:Int)*min (nw:Int) 20000)=(nw:Int)-(x8.1:Int)*min (nw:Int) 20000:=wrap_i64 (by omega);have w4:IntKind.i64.wrap (2+(x9.1:Int))=((2+x9.1:Nat):Int):=by rw[wrap_i64 (by omega)];omega
 obtain⟨n,hn⟩:∃n,n=2+x9.1:=⟨_,rfl⟩
 obtain⟨sa,hsa⟩:∃sa,sa=(nw:Int)-(x8.1:Int)*min (nw:Int) 20000:=⟨_,rfl⟩
 rw[←hsa]at h3 w3;simp only[w2,w3,←hsa];simp;simp only[w4,←hn];obtain⟨d0,hd0⟩:∃d:aR,d=⟨ru,k1.fv,k2.fv,po,k3.fv,nw,[],[],[],[],k4.fv,sa,[],[],0⟩:=⟨_,rfl⟩
 refine fa.iV n (d0,x9.2) (λi y=>VP y.1 i∧eC y.2) [0,2,3,4,5] (λi _=>[(5,.int .i64 i)]) (λi y=>[(3,.box (bq y.1 (.rs 80 [] 0 i i 464 .tip))),(80,.arr 464 (y.1.aa.map aH)),(KB,.box (dV y.2))]) [.vb 3 [.f 6 108] 80 464,.wb 3,.keep [0,2,3,4,5]] ?_;simp;refine⟨by rw[hd0];exact⟨rfl,rfl⟩,⟨?_,o9⟩,?_,?_⟩
 ·rw[hd0];refine⟨⟨?_,⟨.nil,by simp,.nil,by simp⟩⟩,rfl,rfl,by simp⟩;exact⟨xb,by show(0:Int)≤nw;omega,by show(nw:Int)≤16777216;omega,by show(0:Int)≤po;omega,by show(po:Int)≤65535;omega,rfl,⟨by simp,by simp⟩,by simp,⟨by simp,by simp⟩,rfl,⟨⟨by simp,by simp⟩,by simp⟩,⟨by simp,by simp,by simp,by simp⟩,h3.1,h3.2,rfl,rfl⟩
 ·intro i d cc hi hV hC K hK;have Aj:IntKind.i64.wrap ((i:Int)+1)=((i+1:Nat):Int):=by rw[wrap_i64 (by omega)];omega
  have hu8:((UInt8.ofNat (i+1)).toNat:Int)=((i+1:Nat):Int):=by simp[UInt8.toNat_ofNat];omega
  have hH:=ed (UInt8.ofNat (i+1)) 0;obtain⟨u,hu⟩:∃u,u=UInt8.ofNat (i+1):=⟨_,rfl⟩
  have Un:rt i=⟨sY u,lK i⟩:=by rw[hu];rfl
  rw[hu8,show(((0:UInt8).toNat:Nat):Int)=0 from rfl]at hH;have hVv:=hV.vm.vd;have T6:=hVv.n0;have Ft:=hVv.n1;have Hd:d.aX.length=i:=by rw[hVv.KN,hV.len]
  have JF:=hVv.tis.len
  have hro:∀r∈d.aX,∃m,m<UInt8.ofNat (i+1)∧r.rq=sY m:=by
   intro r hr;obtain⟨j,hj,rfl⟩:=JiX.1 hr;refine⟨UInt8.ofNat (j+1),?_,by rw[hVv.Jv.2 j hj];rfl⟩;rw[JmJ];simp[UInt8.toNat_ofNat];omega
  rw[←hu]at hH hro;simp[F.aeE,hi];refine aj.rA (ie (i:=i) (by omega)) ?_;simp;refine aj.fj KB (aT hC 8 (by omega)) ?_;have m1:=cS cc (n:=8) (by omega);have p1:=cq hC 8;generalize lg cc 8=y1 at*;by_cases hb:0<y1.1
  ·simp[hb];refine aj.rA (kW (i:=i) (by omega)) ?_;simp;refine aj.fj KB (aT p1 4 (by omega)) ?_;have m2:=cS y1.2 (n:=4) (by omega);have p2:=cq p1 4;generalize lg y1.2 4=y2 at*;by_cases hc:(y2.1:Int)=1
   ·simp[hc];refine aj.fj KB (aT p2 30 (by omega)) ?_;have m3:=cS y2.2 (n:=30) (by omega);have p3:=cq p2 30;generalize lg y2.2 30=y3 at*;have v1:IntKind.i64.wrap (1+(y3.1:Int))=1+(y3.1:Int):=wrap_i64 (by omega);have v2:IntKind.i64.wrap (1000*(1+(y3.1:Int)))=1000*(1+(y3.1:Int)):=wrap_i64 (by omega);simp[v1,v2];refine oG.run [KB] rfl ?_;simp;refine aj.fj KB (aT p3 200 (by omega)) ?_;have m4:=cS y3.2 (n:=200) (by omega);have p4:=cq p3 200;generalize lg y3.2 200=y4 at*;have v3:IntKind.i64.wrap (d.now+1)=d.now+1:=wrap_i64 (by omega);have v4:IntKind.i64.wrap ((y4.1:Int)*10)=(y4.1:Int)*10:=wrap_i64 (by omega);have v5:IntKind.i64.wrap (d.now+1+(y4.1:Int)*10)=d.now+1+(y4.1:Int)*10:=wrap_i64 (by omega);simp[v3,v4,v5];obtain⟨A,hA⟩:∃A,A=d.now+1+(y4.1:Int)*10:=⟨_,rfl⟩
    rw[←hA];refine aK.ret (dI (l:=d.timers) (by omega) ⟨A,lK i,4⟩) (by simp;rfl) (by simp) (by simp) ?_;obtain⟨T,hT⟩:∃T,T=im d.timers ⟨A,lK i,4⟩:=⟨_,rfl⟩
    rw[←hT];simp[Aj,hV.len];refine⟨⟨by omega,by omega⟩,?_⟩;refine aK.rA hH ?_;simp;refine aK.rA (dU (a:=iq u 0) (vy _)) ?_;simp;refine aK.ret (bO (l:=d.aX) (n:=u) hro (by omega) (lK i)) (by simp;rfl) (by simp) (by simp) ?_;simp[Aj];refine⟨[.keep [0,2,3,4,5],.dr 6],?_⟩;simp[aW,bA,ae,af];refine hK (sd d (pz i true (1000*(1+(y3.1:Int)))) i T) y4.2 _ ?_ (hV.add (by omega) (MG (by omega) ?_) rfl rfl ?_) ?_
    ·simp[sd,Un];exact⟨rfl,rfl⟩
    ·exact Or.inr (by omega)
    ·exact Or.inr ⟨A,by omega,by omega,by show(1000*(1+(y3.1:Int)))≠0;omega,hT⟩
    ·assumption
   ·simp[hc];simp[Aj,hV.len];refine⟨⟨by omega,by omega⟩,?_⟩;refine aK.rA hH ?_;simp;refine aK.rA (dU (a:=iq u 0) (vy _)) ?_;simp;refine aK.ret (bO (l:=d.aX) (n:=u) hro (by omega) (lK i)) (by simp;rfl) (by simp) (by simp) ?_;simp[Aj];refine⟨[.keep [0,2,3,4,5],.dr 6],?_⟩;simp[aW,bA,ae,af];refine hK (sd d (pz i true 0) i d.timers) y2.2 _ ?_ (hV.add (by omega) (MG (by omega) ?_) rfl rfl ?_) ?_
    ·simp[sd,Un];exact⟨rfl,rfl⟩
    ·exact Or.inl rfl
    ·exact Or.inl rfl
    ·assumption
  ·simp[hb];refine aj.fj KB (aT p1 4 (by omega)) ?_;have m2:=cS y1.2 (n:=4) (by omega);have p2:=cq p1 4;generalize lg y1.2 4=y2 at*;by_cases hc:(y2.1:Int)=1
   ·simp[hc];refine aj.fj KB (aT p2 30 (by omega)) ?_;have m3:=cS y2.2 (n:=30) (by omega);have p3:=cq p2 30;generalize lg y2.2 30=y3 at*;have v1:IntKind.i64.wrap (1+(y3.1:Int))=1+(y3.1:Int):=wrap_i64 (by omega);have v2:IntKind.i64.wrap (1000*(1+(y3.1:Int)))=1000*(1+(y3.1:Int)):=wrap_i64 (by omega);simp[v1,v2];refine oG.run [KB] rfl ?_;simp;refine aj.fj KB (aT p3 200 (by omega)) ?_;have m4:=cS y3.2 (n:=200) (by omega);have p4:=cq p3 200;generalize lg y3.2 200=y4 at*;have v3:IntKind.i64.wrap (d.now+1)=d.now+1:=wrap_i64 (by omega);have v4:IntKind.i64.wrap ((y4.1:Int)*10)=(y4.1:Int)*10:=wrap_i64 (by omega);have v5:IntKind.i64.wrap (d.now+1+(y4.1:Int)*10)=d.now+1+(y4.1:Int)*10:=wrap_i64 (by omega);simp[v3,v4,v5];obtain⟨A,hA⟩:∃A,A=d.now+1+(y4.1:Int)*10:=⟨_,rfl⟩
    rw[←hA];refine aK.ret (dI (l:=d.timers) (by omega) ⟨A,lK i,4⟩) (by simp;rfl) (by simp) (by simp) ?_;obtain⟨T,hT⟩:∃T,T=im d.timers ⟨A,lK i,4⟩:=⟨_,rfl⟩
    rw[←hT];simp[Aj,hV.len];refine⟨⟨by omega,by omega⟩,?_⟩;refine aK.rA hH ?_;simp;refine aK.rA (dU (a:=iq u 0) (vy _)) ?_;simp;refine aK.ret (bO (l:=d.aX) (n:=u) hro (by omega) (lK i)) (by simp;rfl) (by simp) (by simp) ?_;simp[Aj];refine⟨[.keep [0,2,3,4,5],.dr 6],?_⟩;simp[aW,bA,ae,af];refine hK (sd d (pz i false (1000*(1+(y3.1:Int)))) i T) y4.2 _ ?_ (hV.add (by omega) (MG (by omega) ?_) rfl rfl ?_) ?_
    ·simp[sd,Un];exact⟨by first|rfl|(rw[dh];rfl),(aqT i _).symm⟩
    ·exact Or.inr (by omega)
    ·exact Or.inr ⟨A,by omega,by omega,by show(1000*(1+(y3.1:Int)))≠0;omega,hT⟩
    ·assumption
   ·simp[hc];simp[Aj,hV.len];refine⟨⟨by omega,by omega⟩,?_⟩;refine aK.rA hH ?_;simp;refine aK.rA (dU (a:=iq u 0) (vy _)) ?_;simp;refine aK.ret (bO (l:=d.aX) (n:=u) hro (by omega) (lK i)) (by simp;rfl) (by simp) (by simp) ?_;simp[Aj];refine⟨[.keep [0,2,3,4,5],.dr 6],?_⟩;simp[aW,bA,ae,af];refine hK (sd d (pz i false 0) i d.timers) y2.2 _ ?_ (hV.add (by omega) (MG (by omega) ?_) rfl rfl ?_) ?_
    ·simp[sd,Un];exact⟨by first|rfl|(rw[dh];rfl),(aqT i _).symm⟩
    ·exact Or.inl rfl
    ·exact Or.inl rfl
    ·assumption
 ·intro d cc hV hC K;simp[F.aeE];exact KP hV (by omega) hC
noncomputable def F.step2:dP:=⟨R.gf.1.nt,R.gf.1.res,mAt 1 R.gf.1.code⟩
def T.step2:eI Pg [] [] 16=some F.step2.er:=RS 1 (aA R.gf.2)
structure StW (d d':aR):Prop where
 timers:d'.timers.length≤d.timers.length+120
 aE:d'.aE.length≤d.aE.length+120
 aX:d'.aX=d.aX
 aY:d'.aY=d.aY
 buckets:d'.buckets=d.buckets
 tO:uv d.aa d'.aa
 gz:qD d->Gd d'
def aqU {d:aR} (hm:G9 d) (hk:yd d.aa) (hr:Dc d.aX) (Hd:d.aX.length=d.aa.length) (hs:d.aE.length<32) (hb:∀s∈d.aE,s.index≤1000) (ht:d.timers.length≤900000)
  (Be:RW d.aa) (hsg: -9223372036854775808≤d.rules.fU∧d.rules.fU≤9223372036854775807) {b:Zz} (agh:b.length≤80) (hbd:d.bad≤100) (JH:qD d) {x y:PV} (hx:Pure x) (hw:x.width=18) (hwk:wk x=x) (hy:Pure y) (U4:wk y=y) (a:Int):
  ab Pg 16 [bN d,.st 22 [.int .i64 1,x,cy b,.int .i64 a,y]] [] (λr fp=>fp=[]∧∃d' N,StW d d'∧aB N∧r= .tup [bN d',.sl 86 N false]):=by
 refine ab.intro T.step2 (by simp[F.step2,R.gf]) ?_;simp[F.step2,R.gf,mAt,ah,az,hx,hw,hwk,hy,U4];refine Px.of (λs'=>s'=⟨[(3,.pt 3 [] 0),(4,.pt 4 [] 0),(5,.sl 86 [] true),(6,.pt 6 [] 0)],[(3,.box (.st 22 [.int .i64 1,x,cy b,.int .i64 a,y])),(4,.box zD),(6,.box (AF d 8 d.aa.length 200 0)),(8,.arr 464 (d.aa.map aH)),(200,.arr 86 [])]⟩) ?_ ?_
 ·simp;refine aj.gA [] [8] [] (eg hm) (by simp) (by simp) (by simp[af,ae,dL]) ?_;simp[aQ,aG,aI,cN];refine⟨[.keep [3,4,5,6],.dr 2,.vb 6 [.f 1 148] 200 86],?_⟩;simp[aW,bA,ae,af,al];exact⟨⟨hx.refs _,hy.refs _⟩,rfl,rfl⟩
 rintro s' rfl;simp[hw];refine aj.mo 6 8 200 (L:=[]) (RX hk hr Hd hs hb ht nk (by simp) Be hsg agh hbd JH) (by simp) (by simp) (by simp) (by simp) nk (by simp[al,ae,cW,idx]) (by simp[bw,aI,bV,idx]) ?_;rintro r fp ⟨rfl,d',tR,L',⟨g1,g2,g3,g4,g5,g6⟩,hW,yC,AP,rfl⟩;refine⟨_,_,_,rfl,by simp,yC,?_⟩;simp[hw];refine oG.run [4] rfl ?_;simp;refine bj.plain [.keep [4,5],.dr 3,.dr 6,.fz 8,.fz 200] ?_;simp[aW,bA,ae,af,al,yC.refs,(aL bh tR).refs,hx.refs,hy.refs,yC.eG];exact⟨yC,{d' with aa:=tR},⟨by simpa using g1,by simpa using g2,g3,g4,g5,hW,g6⟩,yC,rfl⟩
def iW {l:Zz} {n:Nat} (hl:(l.length:Int)≤9223372036854775807) (hn:n≤1000):ab Pg 11 [cy l,.int .i64 n] [] (λr fp=>r= .pt KB [] 0∧fp=[.box (dV ⟨l.take n,0⟩)]):=by
 refine ab.intro (aA R.iW.2) (by simp[R.iW]) ?_;simp[R.iW,ah,az,cy];refine⟨⟨by omega,by omega⟩,?_⟩;refine bj.with [.keep [4]] [12] ?_;have e:(min (l.length:Int) (n:Int)).toNat=min l.length n:=by omega
 have e2:List.take (min l.length n) (List.map u8 l)=List.take n (List.map u8 l):=by
  rcases Nat.le_total l.length n with h|h
  ·rw[JdZ h,tJ (by simp),tJ (by simpa using h)]
  ·rw[Nat.min_eq_right h]
 simp[aW,bA,ae,af,al,aG,aI,bw,cN,e,e2,dV,cy]
def MH (x:Int):UInt8:=UInt8.ofNat (IntKind.u8.wrap x).toNat
def MI (x:Int):PV.int .u8 (IntKind.u8.wrap x)=u8 (MH x):=by
 have h:0≤IntKind.u8.wrap x∧IntKind.u8.wrap x<256:=by constructor<;>simp[IntKind.wrap,IntKind.bits,IntKind.signed]<;>omega
 simp[u8,MH,UInt8.toNat_ofNat];omega
def Jw (l:Zz) (v:Int):Nat->Zz
 |0=>l
 |i+1=>(Jw l v i).set (20+i) (MH (v+IntKind.u8.wrap ((20+i:Nat):Int)))
theorem vz (l:Zz) (v:Int):∀i,(Jw l v i).length=l.length
 |0=>rfl
 |i+1=>by simp[Jw,vz l v i]
def IA {a b:Zz} {k:Nat} (h:k<a.length):(a++b).getD k 0=a.getD k 0:=by simp[JfQ,List.getElem?_append_left h]
def MJ {a:Zz} {n k:Nat} (h:k<n):(a.take n).getD k 0=a.getD k 0:=by simp[JfQ,List.getElem?_take,h]
def BD {a:Zz} {n k:Nat} {x:UInt8} (h:n≠k):(a.set n x).getD k 0=a.getD k 0:=by simp[JfQ,List.getElem?_set_ne h]
def Gt {a:Zz} {n:Nat} {x:UInt8} (h:n<a.length):(a.set n x).getD n 0=x:=by simp[JfQ,h]
theorem MK (l:Zz) (v:Int) {k:Nat} (hk:k<20):∀i,(Jw l v i).getD k 0=l.getD k 0
 |0=>rfl
 |i+1=>by rw[Jw,BD (by omega),MK l v hk i]
def ML {m:Nat} (h:m<256):MH (m:Int)=UInt8.ofNat m:=by
 have e:IntKind.u8.wrap (m:Int)=m:=by simp[IntKind.wrap,IntKind.bits,IntKind.signed];omega
 rw[MH,e];rfl
def aeF {m:Nat} (h:m<256):MH ((m:Int).fdiv (2^min 8 IntKind.i64.bits))=0:=by
 have e:((m:Int).fdiv (2^min 8 IntKind.i64.bits))=((0:Nat):Int):=by
  show(m:Int).fdiv 256=0;rw[Int.fdiv_eq_ediv_of_nonneg _ (by omega)];omega
 rw[e,ML (by omega)];rfl
def Gu {s d:iC} {n:Nat} (hn:n≤60) (v:Int):∃b:Zz,(b.length=20+n∧vH b)∧uf Pg 13 [cV s,cV d,.int .i64 n,.int .u8 v] 1 (b.map u8):=by
 obtain⟨m,hm⟩:∃m,m=20+n:=⟨_,rfl⟩
 have hw:IntKind.i64.wrap (20+(n:Int))=(m:Int):=by rw[wrap_i64 (by omega)];omega
 have hz:List.replicate m (PV.int .u8 0)=(List.replicate m (0:UInt8)).map u8:=by simp[u8]
 have h0:(List.replicate m (0:UInt8)).length=m:=by simp
 have hmx:max (m:Int) 0=m:=by omega
 have b1:(m:Int)≤281474976710656:=by omega
 have b2:(m:Int)≤9223372036854775807:=by omega
 have b3:0<m:=by omega
 have b4:(2:Int)<m:=by omega
 have b5:(3:Int)<m:=by omega
 have b6:(16:Int)≤m:=by omega
 have b7:(20:Int)≤m:=by omega
 generalize hZ:List.replicate m (0:UInt8)=Z at hz h0;have z0:Z[0]? =some Z[0]:=gJ (by omega);have z2:Z[2]? =some Z[2]:=gJ (by omega);have z3:Z[3]? =some Z[3]:=gJ (by omega);have hs4:min 4 s.ip.length=4:=by have:=s.h;omega
 have hd4:min 4 d.ip.length=4:=by have:=d.h;omega
 obtain⟨Z1,hZ1⟩:∃Z1,Z1=((Z.set 0 69).set 2 (MH ((m:Int).fdiv (2^min 8 IntKind.i64.bits)))).set 3 (MH m):=⟨_,rfl⟩
 have l1:Z1.length=m:=by rw[hZ1];simp[h0]
 obtain⟨Z2,hZ2⟩:∃Z2,Z2=(Z1.take 12++(s.ip.take 4++Z1.drop 16)).take 16++(d.ip.take 4++(Z1.take 12++(s.ip.take 4++Z1.drop 16)).drop 20):=⟨_,rfl⟩
 have l2:Z2.length=m:=by rw[hZ2];simp[l1,s.h,d.h];omega
 refine⟨Jw Z2 v n,⟨by rw[vz,l2,hm],?_⟩,?_⟩
 ·have g:∀k,k<12->(Jw Z2 v n).getD k 0=Z1.getD k 0:=λk hk=>by
   rw[MK _ _ (by omega),hZ2,IA (by simp[l1];omega),MJ (by omega),IA (by simp[l1];omega),MJ hk]
  refine R0 (m:=m) (by rw[vz,l2]) (by omega) (by omega) ?_ ?_ ?_
  ·rw[g 0 (by omega),hZ1,BD (by omega),BD (by omega),Gt (by omega)]
  ·rw[g 2 (by omega),hZ1,BD (by omega),Gt (by simp;omega),aeF (by omega)]
  ·rw[g 3 (by omega),hZ1,Gt (by simp;omega),ML (by omega)]
 refine ab.intro (aA R.mr.2) (by simp[R.mr]) ?_;simp[R.mr,ah,az,hw,hz,hmx,b1,b2,b3,b4,b5,b6,b7,h0,z0,z2,z3]
 have e1:((((Z.map u8).set 0 (.int .u8 69)).set 2 (.int .u8 (IntKind.u8.wrap ((m:Int).fdiv (2^min 8 IntKind.i64.bits))))).set 3 (.int .u8 (IntKind.u8.wrap m)))=(((Z.set 0 69).set 2 (MH ((m:Int).fdiv (2^min 8 IntKind.i64.bits)))).set 3 (MH m)).map u8:=by
  rw[JeJ,JeJ,JeJ,←MI,←MI];rfl
 rw[e1,←hZ1];simp only[hs4,hd4]
 have e2:List.take 16 (List.take 12 (List.map u8 Z1)++(List.take 4 (List.take 4 (List.map u8 s.ip))++List.drop (12+4) (List.map u8 Z1)))++(List.take 4 (List.take 4 (List.map u8 d.ip))++List.drop (16+4) (List.take 12 (List.map u8 Z1)++(List.take 4 (List.take 4 (List.map u8 s.ip))++List.drop (12+4) (List.map u8 Z1))))=Z2.map u8:=by
  rw[hZ2];simp[JjX,JmQ,JoX]
 rw[e2];refine⟨by omega,by omega,⟨by omega,by omega⟩,?_⟩;refine fa.fN n (λ_=>True) [3,9,10] (λi=>[(10,.int .i64 ((20+i:Nat):Int))]) (λi=>[(13,.arr 1 ((Jw Z2 v i).map u8))]) [.keep [3,9,10],.dr 4,.dr 5] ?_;simp;refine⟨rfl,λi hi K hK=> ?_,λK=> ?_⟩
 ·have h20:((20+i:Nat):Int)<m:=by omega
  have jv:20+i<(Jw Z2 v i).length:=by rw[vz];omega
  have xc:IntKind.i64.wrap (20+(i:Int)+1)=20+(i:Int)+1:=wrap_i64 (by omega);have Nq:(Jw Z2 v i).length=m:=by rw[vz,l2]
  have hx:(Jw Z2 v i)[20+i]? =some (Jw Z2 v i)[20+i]:=gJ jv;have c1:20+(i:Int)<m:=by omega
  have c2:(20+(i:Int)).toNat=20+i:=by omega
  have c3:0≤20+(i:Int):=by omega
  simp[↓an,hx,xc,Nq,c1,c2,c3];refine⟨[.keep [3,8,9,10]],?_⟩;simp;refine hK _ ?_
  have e3:(List.map u8 (Jw Z2 v i)).set (20+i) (.int .u8 (IntKind.u8.wrap (v+IntKind.u8.wrap (20+(i:Int)))))=(Jw Z2 v (i+1)).map u8:=by
   rw[Jw,JeJ,←MI];push_cast;rfl
  simp[e3];try omega
 ·have hln:(Jw Z2 v n).length=m:=by rw[vz,l2]
  have c1:¬20+(n:Int)<m:=by omega
  have c2:(m:Int)≤20+(n:Int):=by omega
  simp[↓an,hln,c1,c2];refine bj.with [.keep [8]] [13] ?_;simp[hln]
end Go.Ab

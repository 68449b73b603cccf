/- Walks of functions, part 5. No condition. -/
import Derived.Test.YtddacpkeacbjfaaGreatDoorB4
set_option maxRecDepth 100000
set_option maxHeartbeats 4000000
set_option linter.all false
noncomputable section
namespace Go.Ab
def tP (l:Zz):Nat:=l.foldl (λn x=>n*256+x.toNat) 0
def SJ (l:Zz) (x:UInt8):tP (l++[x])=tP l*256+x.toNat:=by simp[tP]
def IU {l:Zz} {i:Nat} {x:UInt8} (h:l[i]? =some x):tP (l.take (i+1))=tP (l.take i)*256+x.toNat:=by
 rw[List.take_add_one,h];exact SJ _ _
theorem SM:∀(l:Zz) (n:Nat),l.foldl (λn x=>n*256+x.toNat) n<(n+1)*256^l.length
 |[],n=>by simp
 |
  x::l,n=>by
  have h:=SM l (n*256+x.toNat)
  have hx:=x.toNat_lt
  have h2:(n*256+x.toNat+1)*256^l.length≤((n+1)*256)*256^l.length:=JeZ _ (by omega)
  rw[List.foldl_cons,JbZ,Nat.pow_succ,Nat.mul_comm (256^l.length) 256,←Nat.mul_assoc]
  omega
def Dm (l:Zz):tP l<256^l.length:=by have:=SM l 0;simpa[tP]using this
def u64_or_nat (a b:Nat) (ha:a<18446744073709551616) (hb:b<18446744073709551616):bits .or .u64 (a:Int) (b:Int)=((a|||b:Nat):Int):=by
 have hx:a|||b<2^64:=Nat.or_lt_two_pow (by omega) (by omega)
 have h1:(BitVec.ofInt 64 (a:Int)).toNat=a:=by
  rw[JlJ,BitVec.toNat_ofNat];exact JkQ (by omega)
 have h2:(BitVec.ofInt 64 (b:Int)).toNat=b:=by
  rw[JlJ,BitVec.toNat_ofNat];exact JkQ (by omega)
 show IntKind.u64.wrap ((BitVec.ofInt 64 (a:Int)|||BitVec.ofInt 64 (b:Int)).toNat:Int)=_;rw[BitVec.toNat_or,h1,h2];exact wrap_u64 (by omega)
def orb {x y:Nat} (hy:y<256):(x*256)|||y=x*256+y:=by
 have:=Nat.shiftLeft_add_eq_or_of_lt (i:=8) (b:=y) (by omega) x;rw[Nat.shiftLeft_eq]at this;exact this.symm
def IV {l:Zz} (hl:l.length≤8):aP Pg 291 [cy l] (.int .u64 (tP l)):=by
 refine ab.intro (aA R.re.2) (by simp[R.re]) ?_;simp[R.re,ah,az];refine fa.fN l.length (λ_=>True) [3,6,7,8] (λi=>[(3,.int .u64 (tP (l.take i))),(8,.int .i64 i)]) (λi=>[]) [.keep [3,6,7,8]] ?_;simp[show tP []=0 from rfl];refine⟨λi hi K hK=> ?_,λK=> ?_⟩
 ·have hx:l[i]? =some l[i]:=gJ hi;have ht:=IU hx;have dx:=Dm (l.take i);rw[lJ,JdZ (by omega)]at dx;have agr:256^i≤256^7:=Nat.pow_le_pow_right (by omega) (by omega);have hb:=l[i].toNat_lt;generalize tP (l.take (i+1))=v at*;generalize tP (l.take i)=n at*;generalize l[i]=x at*;have hn:n<72057594037927936:=JgZ dx (by simpa using agr);have U9:=u64_or_nat (n*256) x.toNat (by omega) (by omega);rw[orb (by omega),←ht]at U9
  have xd:IntKind.u64.wrap ((n:Int)*2^min 8 IntKind.u64.bits)=((n*256:Nat):Int):=by
   rw[show min 8 IntKind.u64.bits=8 from rfl,wrap_u64 (by omega)];omega
  have w0:IntKind.u64.wrap ((x.toNat:Nat):Int)=x.toNat:=wrap_u64 (by omega);have w1:IntKind.i64.wrap ((i:Int)+1)=(i:Int)+1:=wrap_i64 (by omega);simp[↓an,hi,hx,u8,w0,w1,-getElem?_pos];refine⟨[.keep [3,6,7,8]],?_⟩;rw[xd,U9];simp;exact hK _ (by simp)
 ·simp[↓an];refine bH ?_;simp
def SN {l:Zz} (hl:l.length≤8):aP Pg 208 [cy l] (.int .u64 (tP l)):=by
 refine ab.intro (aA R.kM.2) (by simp[R.kM]) ?_;simp[R.kM,ah,az];refine fa.fN l.length (λ_=>True) [3,6,7,8] (λi=>[(3,.int .u64 (tP (l.take i))),(8,.int .i64 i)]) (λi=>[]) [.keep [3,6,7,8]] ?_;simp[show tP []=0 from rfl];refine⟨λi hi K hK=> ?_,λK=> ?_⟩
 ·have hx:l[i]? =some l[i]:=gJ hi;have ht:=IU hx;have dx:=Dm (l.take i);rw[lJ,JdZ (by omega)]at dx;have agr:256^i≤256^7:=Nat.pow_le_pow_right (by omega) (by omega);have hb:=l[i].toNat_lt;generalize tP (l.take (i+1))=v at*;generalize tP (l.take i)=n at*;generalize l[i]=x at*;have hn:n<72057594037927936:=JgZ dx (by simpa using agr);have U9:=u64_or_nat (n*256) x.toNat (by omega) (by omega);rw[orb (by omega),←ht]at U9
  have xd:IntKind.u64.wrap ((n:Int)*2^min 8 IntKind.u64.bits)=((n*256:Nat):Int):=by
   rw[show min 8 IntKind.u64.bits=8 from rfl,wrap_u64 (by omega)];omega
  have w0:IntKind.u64.wrap ((x.toNat:Nat):Int)=x.toNat:=wrap_u64 (by omega);have w1:IntKind.i64.wrap ((i:Int)+1)=(i:Int)+1:=wrap_i64 (by omega);simp[↓an,hi,hx,u8,w0,w1,-getElem?_pos];refine⟨[.keep [3,6,7,8]],?_⟩;rw[xd,U9];simp;exact hK _ (by simp)
 ·simp[↓an];refine bH ?_;simp
def X2 (l:Zz) (h:l.length=4):iC:=⟨false,l++List.replicate 12 0,by simp[h]⟩
def X3 (l:Zz) (h:l.length=16):iC:=⟨true,l,h⟩
theorem abx {l:Zz} (h:l.length=4):aP Pg 290 [cy l] (cV (X2 l h)):=by
 refine ab.intro (aA R.wW.2) (by simp[R.wW]) ?_;match l,h with
 |
  [a,b,c,d],h=>
  simp[R.wW,ah,az,cy,dh]
  refine bH ?_
  simp[X2,cV,u8]
def ari {l:Zz} (h:l.length=16):aP Pg 292 [cy l] (cV (X3 l h)):=by
 refine ab.intro (aA R.zO.2) (by simp[R.zO]) ?_;have ht:(l.map u8).take 16=l.map u8:=tJ (by simp[h]);simp[R.zO,ah,az,cy,h,ht];refine bH ?_;simp[X3,cV]
def XB {l:Zz} (h:l.length=2):aP Pg 115 [cy l] (.int .i64 (tP l)):=by
 refine ab.intro (aA R.lB.2) (by simp[R.lB]) ?_;have dx:=Dm l;rw[h]at dx;have w:IntKind.i64.wrap ((tP l:Nat):Int)=tP l:=wrap_i64 (by omega);have ht:(l.map u8).take 2=l.map u8:=tJ (by simp[h]);have hr:=SN (l:=l) (by omega);unfold cy at hr;simp[R.lB,ah,az,cy,h,ht];refine aj.rA hr ?_;simp[w];refine bH ?_;simp
def vH (b:Zz):Prop:=1≤b.length∧b.length≤2000∧
 (((b.getD 0 0).toNat/16=4∧20≤b.length∧5≤(b.getD 0 0).toNat%16∧4*((b.getD 0 0).toNat%16)≤tP ((b.take 4).drop 2)∧tP ((b.take 4).drop 2)=b.length)∨
  ((b.getD 0 0).toNat/16=6∧40≤b.length∧40+tP ((b.take 6).drop 4)=b.length))
def tN (b:Zz) (r:PV):Prop:=∃(x y:iC) (L e:Int),r= .tup [.st 35 [cV x,cV y,.int .i64 L],.int .i64 e]∧((e=0∧L=b.length)↔vH b)
def tN.bad {b:Zz} {e:Int} (he:e≠0) (h:¬vH b):tN b (.tup [.st 35 [.st 17 [.bl false,.ar 1 16 (zr 16 (.int .u8 0))],.st 17 [.bl false,.ar 1 16 (zr 16 (.int .u8 0))],.int .i64 0],.int .i64 e]):=by
 refine⟨zq,zq,0,e,?_,⟨λg=>absurd g.1 he,λg=>absurd g h⟩⟩;rw[show cV zq= .st 17 [.bl false,.ar 1 16 (zr 16 (.int .u8 0))] by rw[dh];rfl]
def hi4:∀b:Fin 256,(b.val:Int).fdiv (2^min 4 IntKind.u8.bits)=((b.val/16:Nat):Int):=by decide+kernel
def lo4:∀b:Fin 256,bits .and .u8 (b.val:Int) 15=((b.val%16:Nat):Int):=by decide+kernel
def mdt (b:Zz) (n m:Nat):((b.map u8).take m).drop n=((b.take m).drop n).map u8:=by rw[←JjX,←JmQ]
theorem X4 {b:Zz} (hb:b.length≤1048576):ab Pg 252 [cy b] [] (λr fp=>tN b r∧fp=[]):=by
 refine ab.intro T.fg (by simp[F.fg]) ?_;by_cases h0:b.length=0
 ·have he:b=[]:=JfZ.1 h0;subst he;simp[F.fg,ah,az];refine bH ?_;simp;exact tN.bad (by decide) (by simp[vH])
 by_cases h1:2016<b.length
 ·have Jg:(2016:Int)<b.length:=by omega
  have h0':¬b=[]:=by intro e;rw[e]at h0;simp at h0
  simp[F.fg,ah,az,h0',Jg];refine bH ?_;simp;exact tN.bad (by decide) (by intro h;have:=h.2.1;omega)
 have h0':¬b=[]:=by intro e;rw[e]at h0;simp at h0
 have Jg:¬(2016:Int)<b.length:=by omega
 have hp:0<b.length:=by omega
 have hx:b[0]? =some (b.getD 0 0):=by
  cases b with
  |nil=>exact absurd rfl h0'
  |cons x l=>rfl
 have Pt:vH b=(1≤b.length∧b.length≤2000∧
 (((b.getD 0 0).toNat/16=4∧20≤b.length∧5≤(b.getD 0 0).toNat%16∧4*((b.getD 0 0).toNat%16)≤tP ((b.take 4).drop 2)∧tP ((b.take 4).drop 2)=b.length)∨
  ((b.getD 0 0).toNat/16=6∧40≤b.length∧40+tP ((b.take 6).drop 4)=b.length))):=rfl
 have g1:=hi4 ⟨(b.getD 0 0).toNat,(b.getD 0 0).toNat_lt⟩;have g2:=lo4 ⟨(b.getD 0 0).toNat,(b.getD 0 0).toNat_lt⟩;simp only at g1 g2;generalize b.getD 0 0=x at*;generalize x.toNat/16=v at*;have hm:x.toNat%16<16:=Nat.mod_lt _ (by omega);generalize x.toNat%16=w at*;have w4:IntKind.i64.wrap (w:Int)=w:=wrap_i64 (by omega);have w5:IntKind.i64.wrap (4*(w:Int))=4*(w:Int):=wrap_i64 (by omega);by_cases h4:v=4
 ·by_cases h20:b.length<20
  ·have Up:(b.length:Int)<20:=by omega
   simp[F.fg,ah,az,h0,hp,Jg,hx,u8,g1,h4,Up,-getElem?_pos];refine bH ?_;simp;exact tN.bad (by decide) (by rw[Pt];omega)
  have Up:¬(b.length:Int)<20:=by omega
  have l12:((b.take 16).drop 12).length=4:=by simp;omega
  have l16:((b.take 20).drop 16).length=4:=by simp;omega
  have l2:((b.take 4).drop 2).length=2:=by simp;omega
  have a12:=abx l12;have a16:=abx l16;have n2:=IV (l:=(b.take 4).drop 2) (by omega);have hL:=Dm ((b.take 4).drop 2);rw[l2]at hL;unfold cy at a12 a16 n2;rw[←mdt]at a12 a16 n2;generalize X2 ((b.take 16).drop 12) l12=A at*;generalize X2 ((b.take 20).drop 16) l16=B at*;generalize tP ((b.take 4).drop 2)=L at*;have wL:IntKind.i64.wrap (L:Int)=L:=wrap_i64 (by omega);simp[F.fg,ah,az,h0,hp,Jg,hx,u8,g1,h4,Up,-getElem?_pos];simp[cy];refine⟨by omega,?_⟩;refine aK.rA a12 ?_;simp;refine⟨by omega,?_⟩;refine aK.rA a16 ?_;simp;refine⟨by omega,?_⟩;refine aK.rA n2 ?_;by_cases c1:w<5
  ·have c1':(w:Int)<5:=by omega
   simp[wL,w4,w5,hx,hp,g2,u8,c1',-getElem?_pos];refine bH ?_;simp;exact tN.bad (by decide) (by rw[Pt];omega)
  have c1':¬(w:Int)<5:=by omega
  by_cases c2:L<4*w
  ·have c2':(L:Int)<4*(w:Int):=by omega
   simp[wL,w4,w5,hx,hp,g2,u8,c1',c2',-getElem?_pos];refine bH ?_;simp;exact tN.bad (by decide) (by rw[Pt];omega)
  have c2':¬(L:Int)<4*(w:Int):=by omega
  by_cases c3:b.length<L
  ·have c3':(b.length:Int)<(L:Int):=by omega
   simp[wL,w4,w5,hx,hp,g2,u8,c1',c2',c3',-getElem?_pos];refine bH ?_;simp;exact tN.bad (by decide) (by rw[Pt];omega)
  have c3':¬(b.length:Int)<(L:Int):=by omega
  by_cases c4:2000<L
  ·have c4':(2000:Int)<(L:Int):=by omega
   simp[wL,w4,w5,hx,hp,g2,u8,c1',c2',c3',c4',-getElem?_pos];refine bH ?_;simp;exact tN.bad (by decide) (by rw[Pt];omega)
  have c4':¬(2000:Int)<(L:Int):=by omega
  simp[wL,w4,w5,hx,hp,g2,u8,c1',c2',c3',c4',-getElem?_pos];refine bH ?_;simp;exact⟨A,B,L,0,rfl,by rw[Pt];constructor<;>intro _<;>omega⟩
 by_cases h6:v=6
 ·by_cases h40:b.length<40
  ·have ags:(b.length:Int)<40:=by omega
   simp[F.fg,ah,az,h0,hp,Jg,hx,u8,g1,h6,ags,-getElem?_pos];refine bH ?_;simp;exact tN.bad (by decide) (by rw[Pt];omega)
  have ags:¬(b.length:Int)<40:=by omega
  have l8:((b.take 24).drop 8).length=16:=by simp;omega
  have l24:((b.take 40).drop 24).length=16:=by simp;omega
  have l4:((b.take 6).drop 4).length=2:=by simp;omega
  have a8:=ari l8;have a24:=ari l24;have n4:=IV (l:=(b.take 6).drop 4) (by omega);have hL:=Dm ((b.take 6).drop 4);rw[l4]at hL;unfold cy at a8 a24 n4;rw[←mdt]at a8 a24 n4;generalize X3 ((b.take 24).drop 8) l8=A at*;generalize X3 ((b.take 40).drop 24) l24=B at*;generalize tP ((b.take 6).drop 4)=L at*;have wL:IntKind.i64.wrap (L:Int)=L:=wrap_i64 (by omega);have wL2:IntKind.i64.wrap (40+(L:Int))=40+(L:Int):=wrap_i64 (by omega);simp[F.fg,ah,az,h0,hp,Jg,hx,u8,g1,h6,ags,-getElem?_pos];simp[cy];refine⟨by omega,?_⟩;refine aK.rA a8 ?_;simp;refine⟨by omega,?_⟩;refine aK.rA a24 ?_;simp;refine⟨by omega,?_⟩;refine aK.rA n4 ?_;by_cases c3:b.length<40+L
  ·have c3':(b.length:Int)<40+(L:Int):=by omega
   simp[wL,wL2,c3'];refine bH ?_;simp;exact tN.bad (by decide) (by rw[Pt];omega)
  have c3':¬(b.length:Int)<40+(L:Int):=by omega
  by_cases c4:2000<40+L
  ·have c4':(2000:Int)<40+(L:Int):=by omega
   simp[wL,wL2,c3',c4'];refine bH ?_;simp;exact tN.bad (by decide) (by rw[Pt];omega)
  have c4':¬(2000:Int)<40+(L:Int):=by omega
  simp[wL,wL2,c3',c4'];refine bH ?_;simp;exact⟨A,B,40+L,0,rfl,by rw[Pt];constructor<;>intro _<;>omega⟩
 have h4':¬(v:Int)=4:=by omega
 have h6':¬(v:Int)=6:=by omega
 simp[F.fg,ah,az,h0,hp,Jg,hx,u8,g1,h4',h6',-getElem?_pos];refine bH ?_;simp;exact tN.bad (by decide) (by rw[Pt];omega)
def mP:bT->Yx->bT
 | .seq x y,[]=> .seqm x y
 | .seq x y,0::p=> .seq (mP x p) y
 | .seq x y,_::p=> .seq x (mP y p)
 | .seqm x y,0::p=> .seqm (mP x p) y
 | .seqm x y,_::p=> .seqm x (mP y p)
 | .block i x,p=> .block i (mP x p)
 | .cond c x y,0::p=> .cond c (mP x p) y
 | .cond c x y,_::p=> .cond c x (mP y p)
 |c,_=>c
theorem arj:∀(c:bT) (p:Yx),erase (mP c p)=erase c:=by
 intro c;induction c with
 |seq x y hx hy=>intro p;match p with|[]=>rfl|0::p=>simp[mP,erase,hx]|(n+1)::p=>simp[mP,erase,hy]
 |seqm x y hx hy=>intro p;match p with|[]=>rfl|0::p=>simp[mP,erase,hx]|(n+1)::p=>simp[mP,erase,hy]
 |block i x hx=>intro p;simp[mP,erase,hx]
 |cond c x y hx hy=>intro p;match p with|[]=>rfl|0::p=>simp[mP,erase,hx]|(n+1)::p=>simp[mP,erase,hy]
 |_=>intro p;rfl
def M0 {own sp:Yx} {f:FuncId} {A:dP} (p:Yx) (h:eI Pg own sp f=some A.er):eI Pg own sp f=some (dP.er ⟨A.nt,A.res,mP A.code p⟩):=by
 rw[h];simp only[dP.er,arj]
def Px.of {P:Program} {s:St} {x y:bT} {Q:Exit->UD} {t:Tg (x,y,Q)} (M:UD) (h1:aw P x (DH Q λs'=>∃c:List Cut,fG c s' M) s) (h2:∀s',M s'->aw P y Q s'):Px P x y Q t s:=⟨M,h1,h2⟩
def A6 (b:Zz):Bool:=by classical exact decide (vH b)
def zn {b:Zz}:A6 b=true↔vH b:=by unfold A6;simp
def tN.pure {b:Zz} {r:PV} (h:tN b r):Pure r:=by
 obtain⟨x,y,L,e,rfl,_⟩:=h;simp
def tN.get {b:Zz} {r:PV} (h:tN b r):∃(x y:iC) (L e:Int),r= .tup [.st 35 [cV x,cV y,.int .i64 L],.int .i64 e]∧A6 b=(decide (e=0)&&decide (L=b.length)):=by
 obtain⟨x,y,L,e,h1,h2⟩:=h;refine⟨x,y,L,e,h1,?_⟩;cases h3:A6 b
 ·have h4:¬(e=0∧L=b.length):=λg=>by rw[zn.2 (h2.1 g)]at h3;cases h3
  symm;simpa using h4
 ·have h4:=h2.2 (zn.1 h3);simp[h4.1,h4.2]
def X5 {b:Zz} (hb:b.length≤1048576):aP Pg 179 [cy b] (.bl (A6 b)):=by
 refine ab.intro (aA R.tj.2) (by simp[R.tj]) ?_;simp[R.tj,ah,az];refine aj.aeI (X4 hb) (by simp) (by simp) (λr h=>h.pure) ?_;intro r hr;obtain⟨x,y,L,e,rfl,h⟩:=hr.get;by_cases he:e=0
 ·simp[he,au];refine bH ?_;simp[h,he]
 ·simp[he,au];refine bH ?_;simp[h,he]
def SO {b:Zz} (hb:b.length≤1048576):aP Pg 178 [cy b] (.bl (!A6 b)):=by
 refine ab.intro (aA R.nH.2) (by simp[R.nH]) ?_;simp[R.nH,ah,az];refine aj.rA (X5 hb) ?_;simp;refine bH ?_;simp
def O0 {l:List (Zz)} (h:l.length≤1048576):OT 1 false cy l:=⟨h,λx=>⟨⟨rfl,rfl⟩,by simp,by simp,λK=>by simp⟩⟩
def X6 {l:List (Zz)} (hl:l.length≤1048576) (hb:∀b∈l,b.length≤1048576):aP Pg 177 [ey l,.fn (.func 178) [] []] (.bl (!l.all A6)):=by
 have h:=aBf (f:=177) (ix:=251) (p:=λb=> !A6 b) (aA R.nY.2) (aA R.p8.2) (O0 hl) (g:=178) (λb hx=>SO (hb b hx));have e:l.any (λb=> !A6 b)= !l.all A6:=by rw[List.all_eq_not_any_not];simp
 rw[e]at h;exact h
def Dn (n:Int):Bool:=decide (n=0)||jV n 1000 1073741824
def GK (p:bE):Bool:=if p.ff=true then epB p.ep else PV.beq (fc p.ep) (fc uy)
def Ld (d:aR) (p:bE):Bool:=jV p.pW 0 d.now&&(p.oz||decide (p.pW=0))
def zp (d:aR) (p:bE):Bool:=jV p.kV 0 d.now&&(p.jj||(decide (p.kV=0)&&PV.beq p.kU.p v8.p))
def gZ (d:aR) (p:bE):Bool:=GK p&&Dn p.ik&&Ld d p&&zp d p&&decide ((p.aM.length:Int)≤d.rules.fU)&&p.aM.all A6
noncomputable def F.SQ:dP:=⟨R.jb.1.nt,R.jb.1.res,mP (mP (mP (mP (R.jb.1.code) [1,0]) [1,0,1,1]) [1,0,1,1,1,1]) [1,0,1,1,1,1,1,1]⟩
def T.SQ:eI Pg [] [8,9,10,11,18,19,20,21,22,29,30,31,32,46,47,48,49,67,68,69,70,71,72,82,83,84,85] 175=some F.SQ.er:=M0 [1,0,1,1,1,1,1,1] (M0 [1,0,1,1,1,1] (M0 [1,0,1,1] (M0 [1,0] ((aA R.jb.2)))))
theorem SS {d:aR} {p:bE} (hs:p.aM.length≤1048576) (hb:∀b∈p.aM,b.length≤1048576):ab Pg 175 [aH p,.pt KB [] 0] [.box (bN d)] (λr fp=>r= .bl (gZ d p)∧fp=[.box (bN d)]):=by
 refine ab.intro T.SQ (by simp[F.SQ,R.jb]) ?_;have hr:gZ d p=(GK p&&Dn p.ik&&Ld d p&&zp d p&&decide ((p.aM.length:Int)≤d.rules.fU)&&p.aM.all A6):=rfl;have f1:=abr;have f2:=zi p.ep;have f3:fits (Sh.ar 16 (Sh.i IntKind.u8)) (PV.ar 1 16 (zr 16 (PV.int IntKind.u8 0)))=true:=by rw[dh];rfl
 have f4:fits (Sh.ar 16 (Sh.i IntKind.u8)) p.kU.p=true:=p.kU.ok;have e1:=GF;have e2:=MT
 have hp:(p.ff=true∧epB p.ep=true)∨(p.ff=true∧epB p.ep=false)∨(p.ff=false∧PV.beq (fc p.ep) (fc uy)=true)∨(p.ff=false∧PV.beq (fc p.ep) (fc uy)=false):=by
  cases p.ff<;>cases epB p.ep<;>cases PV.beq (fc p.ep) (fc uy)<;>simp
 simp[F.SQ,R.jb,mP,ah,az];obtain⟨l,Jz,hlA⟩:=A5 p.ep;rw[e1]at hp;refine Px.of (λs'=>s'=⟨[(1,.pt KB [] 0),(2,.pt 2 [] 0),(3,.bl false),(4,.bl (!GK p))],[(2,.box (aH p)),(KB,.box (bN d))]⟩) ?_ ?_
 ·rcases hp with⟨a1,a2⟩|⟨a1,a2⟩|⟨a1,a2⟩|⟨a1,a2⟩
  ·have a3:¬l=[]:=λh=>by rw[Jz.1 h]at a2;cases a2
   simp[a1];refine aj.rA hlA ?_;simp[a3,a1];refine⟨[.keep [1,2,3,4]],?_⟩;simp[GK,a1,a2]
  ·have a3:l=[]:=Jz.2 a2;simp[a1];refine aj.rA hlA ?_;simp[a3];refine⟨[.keep [1,2,3,4]],?_⟩;simp[GK,a1,a2]
  ·simp[a1,a2,f1];refine⟨[.keep [1,2,3,4]],?_⟩;simp[GK,a1,a2,e1]
  ·simp[a1,a2,f1];refine⟨[.keep [1,2,3,4]],?_⟩;simp[GK,a1,a2,e1]
 rintro s' rfl;cases q1:GK p
 ·simp;refine bj.with [] [KB] ?_;simp[hr,q1,af,aG]
 simp;refine Px.of (λs'=>s'=⟨[(1,.pt KB [] 0),(2,.pt 2 [] 0),(3,.bl false),(24,.bl (!Dn p.ik))],[(2,.box (aH p)),(KB,.box (bN d))]⟩) ?_ ?_
 ·by_cases k0:p.ik=0
  ·simp[k0];refine⟨[.keep [1,2,3,24]],?_⟩;simp[Dn]
  ·simp[k0];refine IM ?_;simp;refine⟨[.keep [1,2,3,24]],?_⟩;simp[Dn,k0]
 rintro s' rfl;cases q2:Dn p.ik
 ·simp;refine bj.with [] [KB] ?_;simp[hr,q2,af,aG]
 simp;refine Px.of (λs'=>s'=⟨[(1,.pt KB [] 0),(2,.pt 2 [] 0),(3,.bl false),(34,.bl (!Ld d p))],[(2,.box (aH p)),(KB,.box (bN d))]⟩) ?_ ?_
 ·simp;refine IM ?_;have hi:Ld d p=(jV p.pW 0 d.now&&(p.oz||decide (p.pW=0))):=rfl;generalize jV p.pW 0 d.now=g1 at*;cases g1
  ·simp;refine⟨[.keep [1,2,3,34]],?_⟩;simp[hi]
  by_cases k1:p.oz=true
  ·simp[k1];refine⟨[.keep [1,2,3,34]],?_⟩;simp[hi,k1]
  by_cases k2:p.pW=0
  ·simp[k1,k2];refine⟨[.keep [1,2,3,34]],?_⟩;simp[hi,k1,k2]
  ·simp[k1,k2];refine⟨[.keep [1,2,3,34]],?_⟩;simp[hi,k1,k2]
 rintro s' rfl;cases q3:Ld d p
 ·simp;refine bj.with [] [KB] ?_;simp[hr,q3,af,aG]
 simp;refine Px.of (λs'=>s'=⟨[(1,.pt KB [] 0),(2,.pt 2 [] 0),(3,.bl false),(51,.bl (!zp d p))],[(2,.box (aH p)),(KB,.box (bN d))]⟩) ?_ ?_
 ·simp;refine IM ?_;have hi:zp d p=(jV p.kV 0 d.now&&(p.jj||(decide (p.kV=0)&&PV.beq p.kU.p v8.p))):=rfl;rw[e2]at hi;generalize jV p.kV 0 d.now=g1 at*;cases g1
  ·simp;refine⟨[.keep [1,2,3,51]],?_⟩;simp[hi]
  by_cases k1:p.jj=true
  ·simp[k1];refine⟨[.keep [1,2,3,51]],?_⟩;simp[hi,k1]
  by_cases k2:p.kV=0
  ·simp[k1,k2,f3,f4];refine⟨[.keep [1,2,3,51]],?_⟩;simp[hi,k1,k2]
  ·simp[k1,k2];refine⟨[.keep [1,2,3,51]],?_⟩;simp[hi,k1,k2]
 rintro s' rfl;cases q4:zp d p
 ·simp;refine bj.with [] [KB] ?_;simp[hr,q4,af,aG]
 by_cases k6:(p.aM.length:Int)≤d.rules.fU
 ·simp[k6];refine aj.rA (X6 hs hb) ?_;simp;refine bj.with [] [KB] ?_;simp[hr,q1,q2,q3,q4,k6,af,aG]
 ·simp[k6];refine bj.with [] [KB] ?_;simp[hr,k6,af,aG]
def r3 (d:aR):Bool:=d.aa.all (gZ d)
def X7 {d:aR} (hl:d.aa.length≤1048576) (hs:∀p∈d.aa,p.aM.length≤1048576∧∀b∈p.aM,b.length≤1048576):aP Pg 97 [bN d] (.bl (r3 d)):=by
 refine ab.intro (aA R.tk.2) (by simp[R.tk]) ?_;simp[R.tk,ah,az];refine th hl (by simp) (λx hx=>SS (d:=d) (hs x hx).1 (hs x hx).2) ?_;simp;refine bH ?_;simp[r3]
def GL {va vb:PV} {pa pb:Zy} {la lb:Zz} {n:Nat} (ha:aO va pa=some (.ar 1 n (la.map u8))) (hb:aO vb pb=some (.ar 1 n (lb.map u8))) (ea:la.length=n) (eb:lb.length=n):
  ab Pg 173 [.rs KB pa 0 n 0 1 .clip,.rs (KB+1) pb 0 n 0 1 .clip] [.box va,.box vb] (λr fp=>r= .int .i64 (tf la lb)∧fp=[.box va,.box vb]):=by
 have ta:(la.map u8).take n=la.map u8:=tJ (by simp[ea]);have tb:(lb.map u8).take n=lb.map u8:=tJ (by simp[eb])
 have h:=ab.view (args:=[.rs KB pa 0 n 0 1 .clip,.rs (KB+1) pb 0 n 0 1 .clip]) (fp:=[.box va,.box vb]) (Compare la lb false false)
  ⟨.inl (.inr ⟨KB,pa,0,n,0,1,.clip,la.map u8,rfl,by simp[get,az,ha,ta],(aL (λx=>by simp[u8]) la).refs _,by omega,rfl⟩),
   .inl (.inr ⟨KB+1,pb,0,n,0,1,.clip,lb.map u8,rfl,by simp[get,az,hb,tb],(aL (λx=>by simp[u8]) lb).refs _,by omega,rfl⟩),trivial⟩ (λr new e=>by
  obtain⟨rfl,rfl⟩:=e
  exact⟨rfl,rfl⟩)
 refine h.mono ?_;rintro r mW ⟨r0,new,⟨rfl,rfl⟩,rfl,rfl⟩;exact⟨by simp[aI],by simp⟩
def ym (a b:iC):Bool:=if a.lV=b.lV then Op.bytesLess a.ip b.ip else b.lV
def SU (a b:iC):aP Pg 199 [cV a,cV b] (.bl (ym a b)):=by
 refine ab.intro (aA R.tn.2) (by simp[R.tn]) ?_;have hv:=GL (va:=cV a) (vb:=cV b) (pa:=[.f 1 1]) (pb:=[.f 1 1]) (la:=a.ip) (lb:=b.ip) (n:=16) (by simp) (by simp) a.h b.h;by_cases h:a.lV=b.lV
 ·simp[R.tn,ah,az,h];refine aj.gA [2,3] [] [.box (cV a),.box (cV b)] hv (by simp[af]) (by simp[aG]) (by simp[af,ae]) ?_;simp[aQ,aG,aI];refine bH ?_;simp[ym,h,BG]
 ·simp[R.tn,ah,az,h];refine bH ?_;simp[ym,h]
def yn (p q:Ip):Bool:=if PV.beq (cV p.addr) (cV q.addr)=true then decide (p.bits<q.bits)else ym p.addr q.addr
def aby (p q:Ip):aP Pg 254 [gW p,gW q] (.bl (yn p q)):=by
 refine ab.intro (aA R.qH.2) (by simp[R.qH]) ?_;have f1:=vB p.addr;have f2:=vB q.addr;cases h:PV.beq (cV p.addr) (cV q.addr)
 ·simp[R.qH,ah,az,h,f1,f2];refine aj.rA (SU p.addr q.addr) ?_;simp;refine bH ?_;simp[yn,h]
 ·simp[R.qH,ah,az,h,f1,f2];refine bH ?_;simp[yn,h]
def zQ (l:List sc) (i:Nat):Bool:=match l[i]?with
 |none=>false
 |
  some r=> !uH r.rq||(match i with
  |0=>false
  |
   j+1=>match l[j]?with
   |none=>false
   |some q=> !yn q.rq r.rq)
def Lf {l:List sc} {r:sc} (h:l[0]? =some r):zQ l 0= !uH r.rq:=by simp only[zQ,h,Bool.or_false]
def Lg {l:List sc} {j:Nat} {q r:sc} (hq:l[j]? =some q) (hr:l[j+1]? =some r):zQ l (j+1)=(!uH r.rq|| !yn q.rq r.rq):=by simp only[zQ,hr,hq]
def SV (l:List sc):Bool:=decide (fst (zQ l) l.length=l.length)&&decide ((l.length:Int)≤16)
theorem X8 {l:List sc} (hl:l.length≤1048576):aP Pg 183 [cR l] (.bl (SV l)):=by
 refine ab.intro (aA R.tp.2) (by simp[R.tp]) ?_;have hle:=om (zQ l) l.length;have yw:∀i,i<fst (zQ l) l.length->zQ l i=false:=λi h=>oo h;have Hh:fst (zQ l) l.length<l.length->zQ l (fst (zQ l) l.length)=true:=qY;have hr:SV l=(decide (fst (zQ l) l.length=l.length)&&decide ((l.length:Int)≤16)):=rfl;generalize fst (zQ l) l.length=n at*;simp[R.tp,ah,az];refine fa.fN n (λ_=>True) [0,2,5,6,7] (λi=>[(7,.int .i64 i)]) (λi=>[]) [.keep [0,2,5,6,7]] ?_;simp;refine⟨λi hi K hK=> ?_,λK=> ?_⟩
 ·have jv:i<l.length:=by omega
  have hx:l[i]? =some l[i]:=gJ jv;have w2:IntKind.i64.wrap ((i:Int)+1)=(i:Int)+1:=wrap_i64 (by omega);have hb:=yw i hi;by_cases hz:i=0
  ·subst hz;rw[Lf hx]at hb;have hb:uH l[0].rq=true:=by simpa using hb
   have hv:=wV l[0].rq;rw[hb]at hv;generalize l[0]=r at*;simp[↓an,hx,jv,-getElem?_pos];refine aK.rA hv ?_;simp;refine⟨[.keep [0,2,5,6,7],.dr 4],?_⟩;simp;exact hK _ (by simp)
  ·obtain⟨j,rfl⟩:∃j,i=j+1:=⟨i-1,by omega⟩
   have hj:j<l.length:=by omega
   have hy:l[j]? =some l[j]:=gJ hj;rw[Lg hy hx]at hb;have JG:uH l[j+1].rq=true:=by cases h:uH l[j+1].rq<;>simp[h]at hb⊢
   have vM:yn l[j].rq l[j+1].rq=true:=by cases h:yn l[j].rq l[j+1].rq<;>simp[h]at hb⊢
   have hv:=wV l[j+1].rq;have mQ:=aby l[j].rq l[j+1].rq;rw[JG]at hv;rw[vM]at mQ;have hw:IntKind.i64.wrap (((j+1:Nat):Int)-1)=j:=by rw[wrap_i64 (by omega)];omega
   have dx:((j+1:Nat):Int)<l.length:=by omega
   have PH:(0:Int)<((j+1:Nat):Int):=by omega
   have DF:(0:Int)≤((j+1:Nat):Int):=by omega
   have Hi:(((j+1:Nat):Int)).toNat=j+1:=by omega
   generalize l[j]=q at*;generalize l[j+1]=r at*;generalize hz2:((j+1:Nat):Int)=z at*;simp[↓an,hx,dx,DF,Hi,-getElem?_pos];refine aK.rA hv ?_;simp[hy,hj,hw,PH,-getElem?_pos];refine aK.rA mQ ?_;simp[w2];refine⟨[.keep [0,2,5,6,7],.dr 4],?_⟩;simp;exact hK _ (by simp[←hz2])
 ·by_cases hn:n<l.length
  ·have hx:l[n]? =some l[n]:=gJ hn;have hb:=Hh hn;have bY:¬n=l.length:=by omega
   by_cases hz:n=0
   ·subst hz;rw[Lf hx]at hb;have hb:uH l[0].rq=false:=by simpa using hb
    have hv:=wV l[0].rq;rw[hb]at hv;generalize l[0]=r at*;simp[↓an,hx,hn,-getElem?_pos];refine aK.rA hv ?_;simp;refine bH ?_;simp[hr,bY]
   ·obtain⟨j,rfl⟩:∃j,n=j+1:=⟨n-1,by omega⟩
    have hj:j<l.length:=by omega
    have hy:l[j]? =some l[j]:=gJ hj;rw[Lg hy hx]at hb;have hv:=wV l[j+1].rq;have mQ:=aby l[j].rq l[j+1].rq;have hw:IntKind.i64.wrap (((j+1:Nat):Int)-1)=j:=by rw[wrap_i64 (by omega)];omega
    have dx:((j+1:Nat):Int)<l.length:=by omega
    have PH:(0:Int)<((j+1:Nat):Int):=by omega
    have DF:(0:Int)≤((j+1:Nat):Int):=by omega
    have Hi:(((j+1:Nat):Int)).toNat=j+1:=by omega
    generalize l[j]=q at*;generalize l[j+1]=r at*;generalize hz2:((j+1:Nat):Int)=z at*;simp[↓an,hx,dx,DF,Hi,-getElem?_pos];refine aK.rA hv ?_;cases g1:uH r.rq
    ·simp[PH,-getElem?_pos];refine bH ?_;simp[hr,bY]
    ·rw[g1]at hb;have vM:yn q.rq r.rq=false:=by simpa using hb
     rw[vM]at mQ;simp[hy,hj,hw,PH,-getElem?_pos];refine aK.rA mQ ?_;simp;refine bH ?_;simp[hr,bY]
  ·have hx:¬((n:Int)<l.length):=by omega
   have bY:n=l.length:=by omega
   simp[↓an,hx];refine bH ?_;simp[hr,bY]
def isP (k:Key) (p:bE):Bool:=decide (p.cK=k)
def tq (d:aR) (k:Key):Bool:=d.aa.any (isP k)
def ae9 (p:bE) (k:Key):ab Pg 256 [aH p,.pt KB [] 0] [.box (bW k)] (λr fp=>r= .bl (isP k p)∧fp=[.box (bW k)]):=by
 refine ab.intro (aA R.rf.2) (by simp[R.rf]) ?_;simp[R.rf,ah,az,tG];refine bj.with [] [KB] ?_;simp[af,aG,isP]
def SW {d:aR} (hl:d.aa.length≤1048576) (k:Key):aP Pg 186 [bN d,bW k] (.bl (tq d k)):=by
 refine ab.intro (aA R.uK.2) (by simp[R.uK]) ?_;have hc:=XQ (f:=247) (ix:=285) (p:=isP k) (aA R.fx.2) (aA R.gy.2) (E7 hl) (g:=256) (v:=bW k) (by simp) (λx _=>ae9 x k);simp[R.uK,ah,az];refine aj.gen [3] [] [.box (bW k)] hc (by simp[getAll]) (by simp) (by simp) (by simp[al,ae,cW,idx,gY]) (by simp[af]) (by simp[bw,aI,bV,idx,gY]) (by simp[aG]) (by simp[af,ae]) ?_;simp[aQ,aG,aI];refine bH ?_;simp[tq]
def r6 (d:aR):Bool:=SV d.aX&&d.aX.all λr=>tq d r.peer
def Lh {l:List sc} (h:l.length≤1048576):OT 50 true ji l:=⟨h,λx=>⟨⟨rfl,rfl⟩,by simp,by simp,λK=>by simp⟩⟩
def O1 {d:aR} (hl:d.aa.length≤1048576) (r:sc):ab Pg 185 [ji r,.pt KB [] 0] [.box (bN d)] (λx fp=>x= .bl (!tq d r.peer)∧fp=[.box (bN d)]):=by
 refine ab.intro (aA R.ou.2) (by simp[R.ou]) ?_;simp[R.ou,ah,az];refine aj.rA (SW hl r.peer) ?_;simp;refine bj.with [] [KB] ?_;simp[af,aG]
def SX {d:aR} (hl:d.aa.length≤1048576) (hr:d.aX.length≤1048576):aP Pg 100 [bN d] (.bl (r6 d)):=by
 refine ab.intro (aA R.rh.2) (by simp[R.rh]) ?_;have hc:=XQ (f:=184) (ix:=255) (p:=λr:sc=> !tq d r.peer) (aA R.jW.2) (aA R.kN.2) (Lh hr) (g:=185) (v:=bN d) (by simp) (λx _=>O1 hl x);have e:d.aX.any (λr:sc=> !tq d r.peer)= !(d.aX.all λr=>tq d r.peer):=by rw[List.all_eq_not_any_not];simp
 rw[e]at hc;simp[R.rh,ah,az];refine aj.rA (X8 hr) ?_;cases g1:SV d.aX
 ·simp;refine bH ?_;simp[r6,g1]
 simp;refine aj.gen [1] [] [.box (bN d)] hc (by simp[getAll]) (by simp) (by simp) (by simp[al,ae,cW,idx,cR]) (by simp[af]) (by simp[bw,aI,bV,idx,cR]) (by simp[aG]) (by simp[af,ae]) ?_;simp[aQ,aG,aI];refine bH ?_;simp[r6,g1]
def afa (x:Int):aP Pg 295 [.int .i64 x] (.bl false):=by
 refine ab.intro (aA R.ov.2) (by simp[R.ov]) ?_;simp[R.ov,ah,az];refine bH ?_;simp
def SY (x y:Int):aP Pg 261 [.int .i64 x,.int .i64 y] (.bl (decide (x<y))):=by
 refine ab.intro (aA R.p9.2) (by simp[R.p9]) ?_;simp[R.p9,ah,az];refine aj.rA (afa x) ?_;simp;refine bH ?_;simp
def A7 (l:WQ):Nat->Bool
 |0=>false
 |
  j+1=>match l[j]?,l[j+1]?with
  |some a,some b=>decide (b<a)
  |_,_=>false
def SZ {l:WQ} {j:Nat} {a b:Int} (ha:l[j]? =some a) (hb:l[j+1]? =some b):A7 l (j+1)=decide (b<a):=by simp only[A7,ha,hb]
def IW (l:WQ):Bool:=decide (fst (A7 l) l.length=l.length)
def O2 (l:WQ):IW l=decide (fst (λt=>A7 l (l.length-1-t)) (l.length-1)=l.length-1):=by
 unfold IW;congr 1;apply propext;rw[te,te];constructor
 ·intro h t ht;exact h _ (by omega)
 ·intro h i hi;by_cases h0:i=0
  ·subst h0;rfl
  ·have:=h (l.length-1-i) (by omega);rwa [show l.length-1-(l.length-1-i)=i by omega]at this
def O3 {l:WQ} (hl:l.length≤1048576):aP Pg 195 [ee l] (.bl (IW l)):=by
 refine ab.intro (aA R.fO.2) (by simp[R.fO]) ?_;have hle:=om (λt=>A7 l (l.length-1-t)) (l.length-1);have yw:∀t,t<fst (λt=>A7 l (l.length-1-t)) (l.length-1)->A7 l (l.length-1-t)=false:=λt h=>by have:=oo h;simpa using this
 have Hh:fst (λt=>A7 l (l.length-1-t)) (l.length-1)<l.length-1->A7 l (l.length-1-fst (λt=>A7 l (l.length-1-t)) (l.length-1))=true:=λh=>qY h;have hr:=O2 l;generalize fst (λt=>A7 l (l.length-1-t)) (l.length-1)=n at*;have w0:IntKind.i64.wrap ((l.length:Int)-1)=(l.length:Int)-1:=wrap_i64 (by omega);simp[R.fO,ah,az,w0];refine fa.fN n (λ_=>True) [0,2,3] (λi=>[(3,.int .i64 ((l.length:Int)-1-i))]) (λi=>[]) [.keep [0,2,3]] ?_;simp;refine⟨λi hi K hK=> ?_,λK=> ?_⟩
 ·obtain⟨j,hj⟩:∃j,l.length-1-i=j+1:=⟨l.length-2-i,by omega⟩
  have hj1:j+1<l.length:=by omega
  have hj0:j<l.length:=by omega
  have hx:l[j+1]? =some l[j+1]:=gJ hj1;have hy:l[j]? =some l[j]:=gJ hj0;have hb:=yw i hi;rw[hj,SZ hy hx]at hb;have e1:(l.length:Int)-1-i=(j:Int)+1:=by omega
  have e2:(l.length:Int)-1-((i:Int)+1)=(j:Int):=by omega
  rw[e1];rw[e2]at hK;have hw:IntKind.i64.wrap (j:Int)=j:=wrap_i64 (by omega);have Hi:((j:Int)+1).toNat=j+1:=by omega
  have dx:(j:Int)+1<l.length:=by omega
  have PH:(0:Int)<(j:Int)+1:=by omega
  have DF:(0:Int)≤(j:Int)+1:=by omega
  have hc:=SY l[j+1] l[j];rw[hb]at hc;generalize l[j+1]=x at*;generalize l[j]=y at*;simp[↓an,hx,hy,hw,Hi,dx,PH,DF,hj0,ee,-getElem?_pos];refine aK.rA hc ?_;simp[hw];refine⟨[.keep [0,2,3]],?_⟩;simp;exact hK _ (by simp[ee])
 ·by_cases hn:n<l.length-1
  ·obtain⟨j,hj⟩:∃j,l.length-1-n=j+1:=⟨l.length-2-n,by omega⟩
   have hj1:j+1<l.length:=by omega
   have hj0:j<l.length:=by omega
   have hx:l[j+1]? =some l[j+1]:=gJ hj1;have hy:l[j]? =some l[j]:=gJ hj0;have hb:=Hh hn;rw[hj,SZ hy hx]at hb;have e1:(l.length:Int)-1-n=(j:Int)+1:=by omega
   rw[e1];have hw:IntKind.i64.wrap (j:Int)=j:=wrap_i64 (by omega);have Hi:((j:Int)+1).toNat=j+1:=by omega
   have dx:(j:Int)+1<l.length:=by omega
   have PH:(0:Int)<(j:Int)+1:=by omega
   have DF:(0:Int)≤(j:Int)+1:=by omega
   have bY:¬n=l.length-1:=by omega
   have hc:=SY l[j+1] l[j];rw[hb]at hc;generalize l[j+1]=x at*;generalize l[j]=y at*;simp[↓an,hx,hy,hw,Hi,dx,PH,DF,hj0,ee,-getElem?_pos];refine aK.rA hc ?_;simp;refine bH ?_;simp[hr,bY]
  ·have bY:n=l.length-1:=by omega
   have Em:¬((0:Int)<(l.length:Int)-1-n):=by omega
   have aCE:¬((n:Int)<(l.length:Int)-1):=by omega
   simp[↓an,aCE];refine bH ?_;simp[hr,bY]
def afb (d:aR) (x:Int):ab Pg 197 [.int .i64 x,.pt KB [] 0] [.box (bN d)] (λr fp=>r= .bl (!jV x 0 d.now)∧fp=[.box (bN d)]):=by
 refine ab.intro (aA R.tt.2) (by simp[R.tt]) ?_;simp[R.tt,ah,az];refine IM ?_;simp;refine bj.with [] [KB] ?_;simp[af,aG]
def Ta {l:WQ} (h:l.length≤1048576):OT 1 false (λn:Int=>PV.int .i64 n) l:=⟨h,λx=>⟨⟨rfl,rfl⟩,by simp,by simp,λK=>by simp⟩⟩
def kY (b:Bool):iC:=⟨b,List.replicate 16 0,rfl⟩
def IX (b:Bool) (i:Nat):(kY b).n9 i=0:=by
 simp only[iC.n9,kY,List.getD,List.getElem?_replicate];split<;>rfl
def cb0:∀b:Fin 256,cb 0 (UInt8.ofNat b.val)=0:=by decide+kernel
def Tb (a:iC):(ot a 0).ip=(kY a.lV).ip:=by
 refine iC.K9 (ot a 0).h (kY a.lV).h λj hj=> ?_;show(ot a 0).n9 j=(kY a.lV).n9 j;have:=BH (tM a 0) a.ip 16 (j:=j) (by rw[a.h];exact hj);rw[if_pos hj]at this;rw[IX];have h2:(ot a 0).n9 j=tM a 0 j:=by simp only[iC.n9,ot,List.getD,this];rfl
 rw[h2];unfold tM;have hl:lf 0 j=0:=by unfold lf;omega
 rw[hl,if_neg (by omega)];have:=cb0 ⟨(a.n9 j).toNat,(a.n9 j).toNat_lt⟩;simpa using this
def Tc (b:Bool):uH ⟨kY b,0⟩=true:=by
 have h1:ly (kY b)=true:=by
  unfold ly;have:fst (λi=>(kY b).n9 (4+i) !=0) 12=12:=by rw[te];intro i _;simp[IX]
  rw[this];simp
 have h2:=Tb (kY b);have h3:(kY b).ip=(ot (kY b) 0).ip:=by rw[h2];rfl
 unfold uH;simp only[h1,Int.toNat_zero,←h3];cases b<;>simp[kY]
theorem zT (a:iC):aP Pg 198 [gW ⟨kY a.lV,0⟩,cV a] (.bl (ly a)):=by
 refine ab.intro T.ki (by simp[F.ki]) ?_;have hv:=wV ⟨kY a.lV,0⟩;rw[Tc]at hv;have hc:aP Pg 264 [cV a,.int .i64 0] (cV (ot a 0)):=ae4 a (n:=0) (by omega);have f1:=vB (ot a 0);have f2:=vB (kY a.lV)
 have hb:PV.beq (cV (ot a 0)) (cV (kY a.lV))=true:=by
  rw[K8];simp[Tb,show(ot a 0).lV=a.lV from rfl,show(kY a.lV).lV=a.lV from rfl]
 have h6:(kY a.lV).lV=a.lV:=rfl;simp[F.ki,ah,az];refine aK.rA hv ?_;simp;refine aK.rA (La a) ?_;cases g1:ly a
 ·simp;refine bH ?_;simp
 simp[h6];refine aK.rA hc ?_;simp[f1,f2,hb];refine bH ?_;simp
def Td (d:aR) (b:vW):Bool:=ly b.addr&&jV b.tokens 0 5000&&jV b.at_ 0 d.now
def zV (d:aR) (l:List vW) (i:Nat):Bool:=match l[i]?with
 |none=>false
 |
  some b=> !Td d b||(match i with
  |0=>false
  |
   j+1=>match l[j]?with
   |none=>false
   |some q=> !ym q.addr b.addr)
def Li {d:aR} {l:List vW} {b:vW} (h:l[0]? =some b):zV d l 0= !Td d b:=by simp only[zV,h,Bool.or_false]
def Te {d:aR} {l:List vW} {j:Nat} {q b:vW} (hq:l[j]? =some q) (hr:l[j+1]? =some b):zV d l (j+1)=(!Td d b|| !ym q.addr b.addr):=by simp only[zV,hr,hq]
def afc (d:aR):Bool:=decide (fst (zV d d.buckets) d.buckets.length=d.buckets.length)
def abz {d:aR} {b:vW} (h:Td d b=true):ly b.addr=true∧jV b.tokens 0 5000=true∧jV b.at_ 0 d.now=true:=by
 unfold Td at h;simp only[aJ]at h;exact⟨h.1.1,h.1.2,h.2⟩
def r9 (d:aR):Bool:=jV d.iM 0 d.now&&decide ((d.aY.length:Int)≤64)&&decide ((d.buckets.length:Int)≤16)&&IW d.aY&&d.aY.all (λt=>jV t 0 d.now)&&afc d
theorem arl {d:aR} (Hd:d.aY.length≤1048576) (JB:d.buckets.length≤1048576):aP Pg 103 [bN d] (.bl (r9 d)):=by
 refine ab.intro T.qa (by simp[F.qa]) ?_;have hle:=om (zV d d.buckets) d.buckets.length;have yw:∀i,i<fst (zV d d.buckets) d.buckets.length->zV d d.buckets i=false:=λi h=>oo h;have Hh:fst (zV d d.buckets) d.buckets.length<d.buckets.length->zV d d.buckets (fst (zV d d.buckets) d.buckets.length)=true:=qY;have hr9:r9 d=(jV d.iM 0 d.now&&decide ((d.aY.length:Int)≤64)&&decide ((d.buckets.length:Int)≤16)&&IW d.aY&&d.aY.all (λt=>jV t 0 d.now)&&decide (fst (zV d d.buckets) d.buckets.length=d.buckets.length)):=rfl;generalize fst (zV d d.buckets) d.buckets.length=n at*;have hc:=XQ (f:=196) (ix:=262) (p:=λt=> !jV t 0 d.now) (aA R.mU.2) (aA R.ow.2) (Ta Hd) (g:=197) (v:=bN d) (by simp) (λx _=>afb d x);have e:d.aY.any (λt=> !jV t 0 d.now)= !(d.aY.all λt=>jV t 0 d.now):=by rw[List.all_eq_not_any_not];simp
 rw[e]at hc;simp[F.qa,ah,az];refine IM ?_;cases a1:jV d.iM 0 d.now
 ·simp;refine bH ?_;simp[hr9,a1]
 by_cases a2:(64:Int)<d.aY.length
 ·simp[a2];refine bH ?_;simp[hr9,show¬(d.aY.length:Int)≤64 by omega];try omega
 by_cases a3:(16:Int)<d.buckets.length
 ·simp[a2,a3];refine bH ?_;simp[hr9,show¬(d.buckets.length:Int)≤16 by omega];try omega
 simp[a2,a3];refine aj.rA (O3 Hd) ?_;cases a4:IW d.aY
 ·simp;refine bH ?_;simp[hr9,a4]
 simp;refine aj.gen [1] [] [.box (bN d)] hc (by simp[getAll]) (by simp) (by simp) (by simp[al,ae,cW,idx,ee]) (by simp[af]) (by simp[bw,aI,bV,idx,ee]) (by simp[aG]) (by simp[af,ae]) ?_;cases a5:d.aY.all (λt=>jV t 0 d.now)
 ·simp[aQ,aG,aI];refine bH ?_;simp[hr9,a5]
 simp[aQ,aG,aI]
 have hr:r9 d=decide (n=d.buckets.length):=by
  simp[hr9,a1,a4,a5,show(d.aY.length:Int)≤64 by omega,show(d.buckets.length:Int)≤16 by omega]
 refine fa.fN n (λ_=>True) [1,2,35,36,37] (λi=>[(37,.int .i64 i)]) (λi=>[]) [.keep [1,2,35,36,37]] ?_;simp;refine⟨λi hi K hK=> ?_,λK=> ?_⟩
 ·have jv:i<d.buckets.length:=by omega
  have hx:d.buckets[i]? =some d.buckets[i]:=gJ jv;have w2:IntKind.i64.wrap ((i:Int)+1)=(i:Int)+1:=wrap_i64 (by omega);have hb:=yw i hi;by_cases hz:i=0
  ·subst hz;rw[Li hx]at hb;have hb:Td d d.buckets[0]=true:=by simpa using hb
   obtain⟨g1,g2,g3⟩:=abz hb;generalize d.buckets[0]=b at*;have Y4:PV.st 18 [PV.st 17 [PV.bl b.addr.lV,PV.ar 1 16 (zr 16 (PV.int IntKind.u8 0))],PV.int IntKind.i64 0]=gW ⟨kY b.addr.lV,0⟩:=by rw[dh];rfl
   simp[↓an,hx,jv,-getElem?_pos];rw[Y4];refine aK.rA (zT b.addr) ?_;simp[g1];refine aK.rA (pw b.tokens 0 5000) ?_;simp[g2];refine aK.rA (pw b.at_ 0 d.now) ?_;simp[g3];refine⟨[.keep [1,2,35,36,37],.dr 4,.dr 5],?_⟩;simp;exact hK _ (by simp)
  ·obtain⟨j,rfl⟩:∃j,i=j+1:=⟨i-1,by omega⟩
   have hj:j<d.buckets.length:=by omega
   have hy:d.buckets[j]? =some d.buckets[j]:=gJ hj;rw[Te hy hx]at hb;have JG:Td d d.buckets[j+1]=true:=by cases h:Td d d.buckets[j+1]<;>simp[h]at hb⊢
   have vM:ym d.buckets[j].addr d.buckets[j+1].addr=true:=by cases h:ym d.buckets[j].addr d.buckets[j+1].addr<;>simp[h]at hb⊢
   obtain⟨g1,g2,g3⟩:=abz JG;have mQ:=SU d.buckets[j].addr d.buckets[j+1].addr;rw[vM]at mQ;have hw:IntKind.i64.wrap (((j+1:Nat):Int)-1)=j:=by rw[wrap_i64 (by omega)];omega
   have dx:((j+1:Nat):Int)<d.buckets.length:=by omega
   have PH:(0:Int)<((j+1:Nat):Int):=by omega
   have DF:(0:Int)≤((j+1:Nat):Int):=by omega
   have Hi:(((j+1:Nat):Int)).toNat=j+1:=by omega
   generalize d.buckets[j]=q at*;generalize d.buckets[j+1]=b at*;generalize hz2:((j+1:Nat):Int)=z at*;have Y4:PV.st 18 [PV.st 17 [PV.bl b.addr.lV,PV.ar 1 16 (zr 16 (PV.int IntKind.u8 0))],PV.int IntKind.i64 0]=gW ⟨kY b.addr.lV,0⟩:=by rw[dh];rfl
   simp[↓an,hx,dx,DF,Hi,-getElem?_pos];rw[Y4];refine aK.rA (zT b.addr) ?_;simp[g1];refine aK.rA (pw b.tokens 0 5000) ?_;simp[g2];refine aK.rA (pw b.at_ 0 d.now) ?_;simp[g3,hy,hj,hw,PH,-getElem?_pos];refine aK.rA mQ ?_;simp[w2];refine⟨[.keep [1,2,35,36,37],.dr 4,.dr 5],?_⟩;simp;exact hK _ (by simp[←hz2])
 ·by_cases hn:n<d.buckets.length
  ·have hx:d.buckets[n]? =some d.buckets[n]:=gJ hn;have hb:=Hh hn;have bY:¬n=d.buckets.length:=by omega
   have dx:(n:Int)<d.buckets.length:=by omega
   generalize hbe:d.buckets[n]=b at*;have Y4:PV.st 18 [PV.st 17 [PV.bl b.addr.lV,PV.ar 1 16 (zr 16 (PV.int IntKind.u8 0))],PV.int IntKind.i64 0]=gW ⟨kY b.addr.lV,0⟩:=by rw[dh];rfl
   simp[↓an,hx,hn,-getElem?_pos];rw[Y4];refine aK.rA (zT b.addr) ?_;cases g1:ly b.addr
   ·simp;refine bH ?_;simp[hr,bY]
   simp;refine aK.rA (pw b.tokens 0 5000) ?_;cases g2:jV b.tokens 0 5000
   ·simp;refine bH ?_;simp[hr,bY]
   simp;refine aK.rA (pw b.at_ 0 d.now) ?_;cases g3:jV b.at_ 0 d.now
   ·simp;refine bH ?_;simp[hr,bY]
   have U5:Td d b=true:=by simp[Td,g1,g2,g3]
   obtain⟨j,rfl⟩:∃j,n=j+1:=by
    cases n with
    |zero=>rw[Li hx,U5]at hb;simp at hb
    |succ j=>exact⟨j,rfl⟩
   have hj:j<d.buckets.length:=by omega
   have hy:d.buckets[j]? =some d.buckets[j]:=gJ hj;rw[Te hy hx,U5]at hb;have vM:ym d.buckets[j].addr b.addr=false:=by simpa using hb
   have mQ:=SU d.buckets[j].addr b.addr;rw[vM]at mQ;have hw:IntKind.i64.wrap (((j+1:Nat):Int)-1)=j:=by rw[wrap_i64 (by omega)];omega
   have PH:(0:Int)<((j+1:Nat):Int):=by omega
   generalize d.buckets[j]=q at*;generalize ((j+1:Nat):Int)=z at*;simp[hy,hj,hw,PH,-getElem?_pos];refine aK.rA mQ ?_;simp;refine bH ?_;simp[hr,bY]
  ·have bY:n=d.buckets.length:=by omega
   have Em:¬((n:Int)<d.buckets.length):=by omega
   simp[↓an,Em];refine bH ?_;simp[hr,bY]
end Go.Ab

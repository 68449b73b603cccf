/- Base points, digests' words, keys of the program. No condition. -/
import Derived.Test.YtkbdeacknefoaaaGreatDoorB2
set_option maxRecDepth 10000
set_option maxHeartbeats 4000000
set_option linter.all false
noncomputable section Y16s
namespace Go.Ab
open Go.Ab
theorem E0 (k:Key):a8 Pg I.fa [aW k] (aW (xL k)):=by
 refine af.intro T.fa (by simp[F.fa]) ?_
 have hl:=k.h
 have h0:k.l[0]? =some (k.l.getD 0 0):=by rw[List.getD_eq_getElem?_getD,gJ (by omega)];rfl
 have h31:k.l[31]? =some (k.l.getD 31 0):=by rw[List.getD_eq_getElem?_getD,gJ (by omega)];rfl
 have hc:aW (xL k)= .ar 1 32 (((k.l.map u8).set 0 (u8 (k.l.getD 0 0&&&248))).set 31 (u8 (k.l.getD 31 0&&&127|||64))):=by simp[aW,xL,List.map_set]
 rw[hc]
 generalize k.l.getD 0 0=x at*
 generalize k.l.getD 31 0=y at*
 have b0:=u8_and_nat x.toNat 248 x.toNat_lt (by decide)
 have b1:=u8_and_nat y.toNat 127 y.toNat_lt (by decide)
 have hy:y.toNat&&&127<256:=Nat.lt_of_le_of_lt Nat.and_le_right (by decide)
 have b2:=u8_or_nat (y.toNat&&&127) 64 hy (by decide)
 rw[←b1]at b2
 have e0:u8 (x&&&248)= .int .u8 (bits .and .u8 (x.toNat:Int) 248):=by rw[show(248:Int)=((248:Nat):Int) from rfl,b0];rfl
 have e1:u8 (y&&&127|||64)= .int .u8 (bits .or .u8 (bits .and .u8 (y.toNat:Int) 127) 64):=by rw[show(127:Int)=((127:Nat):Int) from rfl,show(64:Int)=((64:Nat):Int) from rfl,b2];rfl
 have hp:aB (k.l.map u8):=aS (λ_=>by simp[u8]) _
 rw[e0,e1]
 simp[F.fa,ai,aG,aW,hl,h0,h31,u8,-getElem?_pos]
 have hPV:∀X Y:PV,Pure X->Pure Y->aB (((k.l.map u8).set 0 X).set 31 Y):=λX Y hX hY=>aB.mk' λq hq=>by
  rcases List.mem_or_eq_of_mem_set hq with hq|rfl
  ·rcases List.mem_or_eq_of_mem_set hq with hq|rfl
   ·obtain⟨b,_,rfl⟩:=List.mem_map.1 hq
    simp[u8]
   ·exact hX
  ·exact hY
 have hV:=hPV (PV.int IntKind.u8 (bits BinOp.and IntKind.u8 (↑x.toNat) 248)) (PV.int IntKind.u8 (bits BinOp.or IntKind.u8 (bits BinOp.and IntKind.u8 (↑y.toNat) 127) 64)) (by simp) (by simp)
 generalize (((k.l.map u8).set 0 (PV.int IntKind.u8 (bits BinOp.and IntKind.u8 (↑x.toNat) 248))).set 31 (PV.int IntKind.u8 (bits BinOp.or IntKind.u8 (bits BinOp.and IntKind.u8 (↑y.toNat) 127) 64)))=V at*
 refine aC.plain [.keep [2],.dr 1] ?_
 simp[ab,hV.refs]
 exact hV
def Mr:Nat->Int:=λj=>if j=0 then 1 else 0
def H2:Nat->Int:=λ_=>0
theorem H3:oA Mr 65573:=λi _=>by simp only[Mr];split<;>omega
theorem Ms:oA H2 65573:=λi _=>by simp only[H2];omega
theorem H4 (k:Key):WN (ug k):=λi _=>by
 have:=Mo k 15
 have:=Mo k i
 simp only[ug]
 split<;>omega
def lY (n:Key) (x1:Nat->Int):Nat->nT×Int
 |0=>(⟨Mr,H2,x1,Mr⟩,0)
 |i+1=>((if qM n (254-i)=(lY n x1 i).2 then(lY n x1 i).1 else(lY n x1 i).1.sw).st x1,qM n (254-i))
theorem nT.Ok.sw {L:nT} (h:L.Ok):L.sw.Ok:=⟨h.Tq,h.Tr,h.BK,h.EP⟩
theorem yM (n:Key) {x1:Nat->Int} (h1:oA x1 65573):∀i,(lY n x1 i).1.Ok
 |0=>⟨H3,Ms,h1,H3⟩
 |
  i+1=>by
  have h:=yM n h1 i
  unfold lY
  dsimp only
  split
  ·exact h.st h1
  ·exact h.sw.st h1
def mulR (scalar point:Key):Key:=
 let L:=lY (xL scalar) (ug point) 255
 let M:=if L.2=1 then L.1.sw else L.1
 GP (ko M.x2 (nb M.z2 254))
theorem JP (scalar point:Key):a8 Pg I.fU [aW scalar,aW point] (aW (mulR scalar point)):=by
 refine af.intro T.fU (by simp[F.fU]) ?_
 have h1:=(H4 point).ws.le
 have qV:=E0 scalar
 have hld:=GM point
 have hm:mulR scalar point=GP (ko (if(lY (xL scalar) (ug point) 255).2=1 then(lY (xL scalar) (ug point) 255).1.sw else(lY (xL scalar) (ug point) 255).1).x2 (nb (if(lY (xL scalar) (ug point) 255).2=1 then(lY (xL scalar) (ug point) 255).1.sw else(lY (xL scalar) (ug point) 255).1).z2 254)):=rfl
 rw[hm]
 clear hm
 generalize xL scalar=n at*
 generalize ug point=x1 at*
 have e1:PV.st 64 [PV.ar 1 16 [.int .i64 1,.int .i64 0,.int .i64 0,.int .i64 0,.int .i64 0,.int .i64 0,.int .i64 0,.int .i64 0,.int .i64 0,.int .i64 0,.int .i64 0,.int .i64 0,.int .i64 0,.int .i64 0,.int .i64 0,.int .i64 0],PV.ar 1 16 [.int .i64 0,.int .i64 0,.int .i64 0,.int .i64 0,.int .i64 0,.int .i64 0,.int .i64 0,.int .i64 0,.int .i64 0,.int .i64 0,.int .i64 0,.int .i64 0,.int .i64 0,.int .i64 0,.int .i64 0,.int .i64 0],di x1,PV.ar 1 16 [.int .i64 1,.int .i64 0,.int .i64 0,.int .i64 0,.int .i64 0,.int .i64 0,.int .i64 0,.int .i64 0,.int .i64 0,.int .i64 0,.int .i64 0,.int .i64 0,.int .i64 0,.int .i64 0,.int .i64 0,.int .i64 0]]=lv (lY n x1 0).1:=rfl
 simp[F.fU,ai,aG]
 refine oJ.run [5,6] rfl ?_
 simp
 refine aU.ret qV (by simp) (by simp) (by simp) ?_
 simp
 refine aU.ret hld (by simp) (by simp) (by simp) ?_
 simp[QN,e1,av]
 refine gR.iw 255 (λ_=>True) [2,3,4,5,6,7,8,9] (λi=>[(8,.int .u8 (lY n x1 i).2),(9,.int .i64 (254-(i:Int)))]) (λi=>[(7,.box (lv (lY n x1 i).1))]) [.keep [2,3,4,5,6,7,8,9]] ?_
 simp[show(lY n x1 0).2=0 from rfl]
 refine⟨λi hi K hK=> ?_,λK=> ?_⟩
 ·have cY:=yM n h1 i
  have rT:lY n x1 (i+1)=((if qM n (254-i)=(lY n x1 i).2 then(lY n x1 i).1 else(lY n x1 i).1.sw).st x1,qM n (254-i)):=rfl
  rw[rT]at hK
  clear rT
  generalize lY n x1 i=L at*
  obtain⟨L,last⟩:=L
  dsimp only at cY hK⊢
  have h0:(i:Int)≤254:=by omega
  have hw:IntKind.i64.wrap (254-(i:Int)-1)=254-((i:Int)+1):=by rw[wrap_i64 (by omega)];omega
  have ht:(254:Int)-i=((254-i:Nat):Int):=by omega
  have FU:254-i<256:=by omega
  have hq:((254:Int)-i).tdiv 8=(((254-i)/8:Nat):Int):=by rw[ht];rfl
  have hr:((254:Int)-i).tmod 8=(((254-i)%8:Nat):Int):=by rw[ht];rfl
  have Ku:qM n (254-i)=bits .and .u8 (((n.l.getD ((254-i)/8) 0).toNat:Int).fdiv (2^min ((254-i)%8) 8)) 1:=rfl
  have xY:=n.h
  have hx:n.l[(254-i)/8]? =some (n.l.getD ((254-i)/8) 0):=by rw[List.getD_eq_getElem?_getD,gJ (by omega)];rfl
  have XU:(254-i)/8<32:=by omega
  generalize qM n (254-i)=bit at*
  generalize (254-i)/8=q at*
  generalize (254-i)%8=r at*
  generalize n.l.getD q 0=y at*
  have NM:(q:Int)<32:=by omega
  have hqw:IntKind.i64.wrap (q:Int)=q:=wrap_i64 (by omega)
  clear ht FU
  have c0:=tE L
  have c1:=tF cY h1
  have c2:=tF cY.sw h1
  have hcK:aW n= .ar 1 32 (n.l.map u8):=rfl
  simp[↓an,h0,hq,hr,hqw,hx,XU,NM,hcK,u8,←Ku,show IntKind.u8.bits=8 from rfl,-getElem?_pos]
  refine⟨λqS=> ?_,λqS=> ?_⟩
  ·rw[if_neg qS]at hK
   refine al.ret c0 (by simp) (by simp) (by simp) ?_
   simp
   refine al.ret c2 (by simp) (by simp) (by simp) ?_
   simp[hw]
   refine⟨[.keep [2,3,4,5,6,7,8,9]],?_⟩
   simp
   exact hK _ (by simp[hcK,u8])
  ·rw[if_pos qS]at hK
   refine al.ret c1 (by simp) (by simp) (by simp) ?_
   simp[hw]
   refine⟨[.keep [2,3,4,5,6,7,8,9]],?_⟩
   simp
   exact hK _ (by simp[hcK,u8])
 ·have cY:=yM n h1 255
  generalize lY n x1 255=L at*
  obtain⟨L,last⟩:=L
  dsimp only at cY⊢
  have c0:=tE L
  by_cases qS:last=1
  ·have c1:=tD cY.sw.EP
   have hi:=vC cY.sw.EP 254
   have c2:=fP (cY.sw.BK.mono W2) (hi.mono W2)
   have c3:=xN (yK (cY.sw.BK.mono W2) (hi.mono W2))
   simp[↓an,qS]
   refine al.ret c0 (by simp) (by simp) (by simp) ?_
   generalize L.sw=M at*
   have hM:lv M= .st 64 [di M.x2,di M.z2,di M.x3,di M.z3]:=rfl
   simp[hM,av]
   refine aU.ret c1 (by simp) (by simp) (by simp) ?_
   simp
   refine aU.ret c2 (by simp) (by simp) (by simp) ?_
   simp
   refine aU.ret c3 (by simp) (by simp) (by simp) ?_
   simp
   refine aC.plain [.keep [4],.dr 1] ?_
   simp[qS]
  ·have c1:=tD cY.EP
   have hi:=vC cY.EP 254
   have c2:=fP (cY.BK.mono W2) (hi.mono W2)
   have c3:=xN (yK (cY.BK.mono W2) (hi.mono W2))
   have hM:lv L= .st 64 [di L.x2,di L.z2,di L.x3,di L.z3]:=rfl
   simp[↓an,qS,hM,av]
   refine aU.ret c1 (by simp) (by simp) (by simp) ?_
   simp
   refine aU.ret c2 (by simp) (by simp) (by simp) ?_
   simp
   refine aU.ret c3 (by simp) (by simp) (by simp) ?_
   simp
   refine aC.plain [.keep [4],.dr 1] ?_
   simp[qS]
def pU:Key:=⟨9::List.replicate 31 0,rfl⟩
theorem adB:zr 32 (PV.int IntKind.u8 0)=[.int .u8 0,.int .u8 0,.int .u8 0,.int .u8 0,.int .u8 0,.int .u8 0,.int .u8 0,.int .u8 0,.int .u8 0,.int .u8 0,.int .u8 0,.int .u8 0,.int .u8 0,.int .u8 0,.int .u8 0,.int .u8 0,.int .u8 0,.int .u8 0,.int .u8 0,.int .u8 0,.int .u8 0,.int .u8 0,.int .u8 0,.int .u8 0,.int .u8 0,.int .u8 0,.int .u8 0,.int .u8 0,.int .u8 0,.int .u8 0,.int .u8 0,.int .u8 0]:=by rw[iq];rfl
theorem H5:PV.ar 1 32 [.int .u8 9,.int .u8 0,.int .u8 0,.int .u8 0,.int .u8 0,.int .u8 0,.int .u8 0,.int .u8 0,.int .u8 0,.int .u8 0,.int .u8 0,.int .u8 0,.int .u8 0,.int .u8 0,.int .u8 0,.int .u8 0,.int .u8 0,.int .u8 0,.int .u8 0,.int .u8 0,.int .u8 0,.int .u8 0,.int .u8 0,.int .u8 0,.int .u8 0,.int .u8 0,.int .u8 0,.int .u8 0,.int .u8 0,.int .u8 0,.int .u8 0,.int .u8 0]=aW pU:=rfl
theorem C9 (k:Key):a8 Pg I.ew [aW k] (aW (mulR k pU)):=by
 refine af.intro T.ew (by simp[F.ew]) ?_
 simp[F.ew,ai,aG,adB,H5]
 refine al.ret (JP k pU) (by simp) (by simp) (by simp) ?_
 simp
 refine aC.plain [.keep [2],.dr 1] ?_
 simp
theorem gz (k:Key):a8 Pg I.gz [aW k] (aW (JN k pU)):=by
 refine af.intro T.gz (by simp[F.gz]) ?_
 simp[F.gz,ai,aG,adB,H5]
 refine al.ret (jS k pU) (by simp) (by simp) (by simp) ?_
 simp
 refine aC.plain [.keep [2],.dr 1] ?_
 simp
end Go.Ab
end Y16s
noncomputable section Y17s
namespace Go.Ab
open Go.Ab
def tl:Int:=57896044618658097711785492504343953926634992332820282019728792003956564819949
def vF (a:Fe):Int:=a.a0+a.a1*2251799813685248+a.a2*5070602400912917605986812821504+a.a3*11417981541647679048466287755595961091061972992+a.a4*25711008708143844408671393477458601640355247900524685364822016
theorem Mt (a b:Fe):vF (pE a b)=vF a+vF b:=by
 simp only[vF,pE]
 omega
theorem Mu (a:Fe):vF a=vF (qK a)+((a.a4/2251799813685248:Nat):Int)*tl:=by
 simp only[vF,qK,tl]
 omega
theorem Wh {a b:Fe} (hb:b.Le 4503599627370458):vF (pe a b)=vF a-vF b+2*tl:=by
 obtain⟨h0,h1,h2,h3,h4⟩:=hb
 simp only[vF,pe,tl]
 omega
theorem Wi (s0 s1 s2 s3 s4:Nat):vF (C4 [s0,s1,s2,s3,s4])=s0+s1*2251799813685248+s2*5070602400912917605986812821504+s3*11417981541647679048466287755595961091061972992+s4*25711008708143844408671393477458601640355247900524685364822016-((s4/2251799813685248:Nat):Int)*tl:=by
 simp only[vF,C4,tl,List.getD_cons_zero,List.getD_cons_succ]
 omega
theorem GQ (a b:Fe):∃k:Int,vF (iE a b)=vF a*vF b+k*tl:=by
 have h1:=Mu (C4 (tk a b 5))
 rw[show qK (C4 (tk a b 5))=iE a b from rfl,Mj,Wi]at h1
 obtain⟨a0,a1,a2,a3,a4⟩:=a
 obtain⟨b0,b1,b2,b3,b4⟩:=b
 dsimp only at h1
 generalize vF (iE ⟨a0,a1,a2,a3,a4⟩ ⟨b0,b1,b2,b3,b4⟩)=v at*
 simp only[vF]
 generalize (C4 _).a4/2251799813685248=q1 at*
 generalize (0+a0*b4+a1*b3+a2*b2+a3*b1+a4*b0)/2251799813685248=q2 at*
 simp only[Int.natCast_add,Int.natCast_mul,Int.natCast_zero,Int.cast_ofNat_Int]at h1
 refine⟨-(q1:Int)-q2-((a1:Int)*b4+a2*b3+a3*b2+a4*b1)-((a2:Int)*b4+a3*b3+a4*b2)*2251799813685248-((a3:Int)*b4+a4*b3)*5070602400912917605986812821504-(a4:Int)*b4*11417981541647679048466287755595961091061972992,?_⟩
 rw[show v=(a0:Int)*b0+19*a1*b4+19*a2*b3+19*a3*b2+19*a4*b1+((a0:Int)*b1+a1*b0+19*a2*b4+19*a3*b3+19*a4*b2)*2251799813685248+((a0:Int)*b2+a1*b1+a2*b0+19*a3*b4+19*a4*b3)*5070602400912917605986812821504+((a0:Int)*b3+a1*b2+a2*b1+a3*b0+19*a4*b4)*11417981541647679048466287755595961091061972992+((a0:Int)*b4+a1*b3+a2*b2+a3*b1+a4*b0)*25711008708143844408671393477458601640355247900524685364822016-q2*tl-q1*tl by omega,show tl=2251799813685248*25711008708143844408671393477458601640355247900524685364822016-19 by decide]
 clear h1
 grind
end Go.Ab
end Y17s
noncomputable section Y18s
namespace Go.Ab
open Go.Ab
def ek (f:Nat->Int):Nat->Int
 |0=>0
 |n+1=>ek f n+f n*65536^n
def vW (f:Nat->Int):Int:=ek f 16
theorem uh {f g:Nat->Int}:∀ {n:Nat},(∀i,i<n->f i=g i)->ek f n=ek g n
 |0,_=>rfl
 |n+1,h=>by simp only[ek];rw[uh λi hi=>h i (by omega),h n (by omega)]
theorem Av (a b:Nat->Int):∀n,ek (HZ a b) n=ek a n+ek b n
 |0=>rfl
 |n+1=>by have:=Av a b n;simp only[ek,this,HZ];grind
theorem E1 (a b:Nat->Int):∀n,ek (H0 a b) n=ek a n-ek b n
 |0=>rfl
 |n+1=>by have:=E1 a b n;simp only[ek,this,H0];grind
theorem E2 (f:Nat->Int) (k:Nat) (d:Int):∀n,ek (oj f k (f k+d)) n=ek f n+if k<n then d*65536^k else 0
 |0=>by simp[ek]
 |
  n+1=>by
  have h:=E2 f k d n
  simp only[ek,h,oj]
  by_cases e:n=k
  ·subst e
   rw[if_neg (Nat.lt_irrefl _),if_pos rfl,if_pos (by omega)]
   grind
  ·rw[if_neg e]
   by_cases h1:k<n
   ·rw[if_pos h1,if_pos (by omega)]
    omega
   ·rw[if_neg h1,if_neg (by omega)]
    omega
theorem QO (t:Nat->Int) (x:Int) (b:Nat->Int) (i j:Nat):tC t x b i (j+1)=oj (tC t x b i j) (i+j) (tC t x b i j (i+j)+x*b j):=by
 funext k
 simp only[tC,oj]
 by_cases h:k=i+j
 ·subst h
  rw[if_pos (by omega),if_pos rfl,if_neg (by omega),show i+j-i=j by omega]
 ·rw[if_neg h]
  by_cases h1:i≤k∧k<i+j
  ·rw[if_pos (by omega),if_pos h1]
  ·rw[if_neg (by omega),if_neg h1]
theorem H6 (t:Nat->Int) (x:Int) (b:Nat->Int) (i:Nat):∀j,i+j≤31->ek (tC t x b i j) 31=ek t 31+x*65536^i*ek b j
 |
  0,_=>by
  have:tC t x b i 0=t:=by funext k;simp only[tC];rw[if_neg (by omega)]
  rw[this];simp[ek]
 |
  j+1,h=>by
  rw[QO,E2,if_pos (by omega),H6 t x b i j (by omega),Int.pow_add]
  simp only[ek]
  generalize (65536:Int)^i=p
  generalize (65536:Int)^j=q
  grind
theorem H7 (a b:Nat->Int):∀i,i≤16->ek (tR a b i) 31=ek a i*vW b
 |0,_=>by simp only[ek];rw[Int.zero_mul];rfl
 |
  i+1,h=>by
  have e:tR a b (i+1)=tC (tR a b i) (a i) b i 16:=rfl
  rw[e,H6 _ _ _ _ _ (by omega),H7 a b i (by omega),vW]
  simp only[show ek a (i+1)=ek a i+a i*65536^i from rfl]
  grind
theorem Aw (t:Nat->Int) (m:Nat):∀n,ek t (m+n)=ek t m+65536^m*ek (λk=>t (k+m)) n
 |0=>by simp[ek]
 |
  n+1=>by
  have h:=Aw t m n
  rw[show m+(n+1)=m+n+1 from rfl]
  simp only[ek,h,Int.pow_add]
  rw[Nat.add_comm n m]
  generalize (65536:Int)^m=p
  generalize (65536:Int)^n=q
  grind
theorem H8 (a b:Nat->Int):∀n,n≤15->ek (tO a b) n=ek (tR a b 16) n+38*ek (λk=>tR a b 16 (k+16)) n
 |0,_=>by simp[ek]
 |
  n+1,h=>by
  have ih:=H8 a b n (by omega)
  simp only[ek,ih,tO]
  rw[if_pos (by omega)]
  grind
theorem adC (a b:Nat->Int):vW (tO a b)=vW a*vW b-2*ek (λk=>tR a b 16 (k+16)) 15*tl:=by
 have h1:=H8 a b 15 (by decide)
 have h2:=H7 a b 16 (by decide)
 have h3:=Aw (tR a b 16) 16 15
 have h4:vW (tO a b)=ek (tO a b) 15+tO a b 15*65536^15:=rfl
 have h5:ek (tR a b 16) 16=ek (tR a b 16) 15+tR a b 16 15*65536^15:=rfl
 have h6:tO a b 15=tR a b 16 15:=rfl
 rw[show(16+15:Nat)=31 from rfl,h2,h5]at h3
 rw[h4,h1,h6,show tl=2^255-19 by decide]
 change vW a*vW b=_ at h3
 rw[h3]
 generalize ek (λk=>tR a b 16 (k+16)) 15=s
 grind
theorem E3 (f:Nat->Int):∀n,ek f (n+1)=ek (λj=>cX f j%65536) (n+1)+(cX f n/65536)*65536^(n+1)
 |0=>by simp only[ek,cX];omega
 |
  n+1=>by
  have h:=E3 f n
  have e:cX f (n+1)=f (n+1)+cX f n/65536:=rfl
  have e2:=Int.mul_ediv_add_emod (cX f (n+1)) 65536
  rw[ek,h,show ek (λj=>cX f j%65536) (n+1+1)=ek (λj=>cX f j%65536) (n+1)+cX f (n+1)%65536*65536^(n+1) from rfl,Int.pow_succ _ (n+1)]
  generalize (65536:Int)^(n+1)=p at*
  generalize cX f (n+1)%65536=r at*
  generalize cX f (n+1)/65536=q at*
  generalize cX f n/65536=q' at*
  generalize cX f (n+1)=c at*
  generalize f (n+1)=x at*
  generalize ek (λj=>cX f j%65536) (n+1)=s at*
  rw[show x=65536*q+r-q' by omega]
  grind
theorem Mv (f g:Nat->Int) (h:∀i,i≠0->f i=g i):∀n,ek f (n+1)=ek g (n+1)+(f 0-g 0)
 |0=>by simp only[ek];omega
 |
  n+1=>by
  have:=Mv f g h n
  rw[ek,this,ek,ek,h (n+1) (by omega),ek]
  omega
theorem GR (f:Nat->Int):vW f=vW (jX f)+2*(cX f 15/65536)*tl:=by
 have h1:=E3 f 15
 have h2:=Mv (jX f) (λj=>cX f j%65536) (λi hi=>by simp only[jX];rw[if_neg hi]) 15
 have e0:jX f 0-cX f 0%65536=38*(cX f 15/65536):=by
  have:jX f 0=f 0%65536+38*(cX f 15/65536):=rfl
  rw[this,show cX f 0=f 0 from rfl]
  omega
 rw[e0]at h2
 change vW f=_ at h1
 change vW (jX f)=_ at h2
 rw[h1,h2,show tl=2^255-19 by decide]
 change _=(ek (λj=>cX f j%65536) (15+1)+_)+_
 generalize ek (λj=>cX f j%65536) (15+1)=s
 generalize cX f 15/65536=c
 grind
theorem Mw (a b:Nat->Int):∃k:Int,vW (ko a b)=vW a*vW b+k*tl:=by
 have h1:=adC a b
 have h2:=GR (tO a b)
 have h3:=GR (jX (tO a b))
 unfold ko
 refine⟨-2*ek (λk=>tR a b 16 (k+16)) 15-2*(cX (tO a b) 15/65536)-2*(cX (jX (tO a b)) 15/65536),?_⟩
 grind
theorem GS (f:Nat->Int):vW (jX f)%tl=vW f%tl:=by
 rw[GR f,Int.add_mul_emod_self_right]
theorem E4 (f:Nat->Int):∀n,n<15->ek f (n+1)=ek (λj=>yX f j%65536) (n+1)+(65536^(n+1)-19)+(yX f n/65536)*65536^(n+1)
 |0,_=>by simp only[ek,yX];omega
 |
  n+1,hn=>by
  have h:=E4 f n (by omega)
  have e:yX f (n+1)=f (n+1)-65535+yX f n/65536:=rfl
  have e2:=Int.mul_ediv_add_emod (yX f (n+1)) 65536
  rw[ek,h,show ek (λj=>yX f j%65536) (n+1+1)=ek (λj=>yX f j%65536) (n+1)+yX f (n+1)%65536*65536^(n+1) from rfl,Int.pow_succ _ (n+1)]
  generalize (65536:Int)^(n+1)=p at*
  generalize yX f (n+1)%65536=r at*
  generalize yX f (n+1)/65536=q at*
  generalize yX f n/65536=q' at*
  generalize yX f (n+1)=c at*
  generalize f (n+1)=x at*
  generalize ek (λj=>yX f j%65536) (n+1)=s at*
  rw[show x=65536*q+r-q'+65535 by omega]
  grind
theorem Wj (f:Nat->Int):vW f=vW (FO f)+tl:=by
 have h:=E4 f 14 (by decide)
 have h1:ek (FO f) 15=ek (λj=>yX f j%65536) 15:=uh λi hi=>by simp only[FO];rw[if_pos hi]
 have h2:vW (FO f)=ek (FO f) 15+A3 f*65536^15:=rfl
 have h3:vW f=ek f 15+f 15*65536^15:=rfl
 have h4:A3 f=f 15-32767+yX f 14/65536:=rfl
 rw[h3,h2,h1,h4]
 rw[show(14+1:Nat)=15 from rfl]at h
 rw[h,show tl=2^255-19 by decide]
 generalize yX f 14/65536=q
 generalize f 15=x
 generalize ek (λj=>yX f j%65536) 15=s
 grind
end Go.Ab
end Y18s
noncomputable section Y19s
namespace Go.Ab
open Go.Ab
def Rl (a:Fe) (f:Nat->Int):Prop:=vF a%tl=vW f%tl
theorem Rl.mul {a b:Fe} {f g:Nat->Int} (h1:Rl a f) (h2:Rl b g):Rl (iE a b) (ko f g):=by
 obtain⟨k,hk⟩:=GQ a b
 obtain⟨l,hl⟩:=Mw f g
 unfold Rl at*
 rw[hk,hl,Int.add_mul_emod_self_right,Int.add_mul_emod_self_right,Int.mul_emod,h1,h2,←Int.mul_emod]
theorem Rl.mul' {a b:Fe} {f g:Nat->Int} (h1:Rl a f) (h2:Rl b g):Rl (iE a b) (ko g f):=by
 obtain⟨k,hk⟩:=GQ a b
 obtain⟨l,hl⟩:=Mw g f
 unfold Rl at*
 rw[hk,hl,Int.add_mul_emod_self_right,Int.add_mul_emod_self_right,Int.mul_comm (vW g),Int.mul_emod,h1,h2,←Int.mul_emod]
theorem Rl.add {a b:Fe} {f g:Nat->Int} (h1:Rl a f) (h2:Rl b g):Rl (pE a b) (HZ f g):=by
 unfold Rl at*
 rw[Mt,vW,Av]
 change _=(vW f+vW g)%tl
 rw[Int.add_emod,h1,h2,←Int.add_emod]
theorem Rl.aj3 {a b:Fe} {f g:Nat->Int} (h1:Rl a f) (h2:Rl b g):Rl (pE a b) (HZ g f):=by
 unfold Rl at*
 rw[Mt,vW,Av]
 change _=(vW g+vW f)%tl
 rw[Int.add_comm (vW g),Int.add_emod,h1,h2,←Int.add_emod]
theorem Rl.sub {a b:Fe} {f g:Nat->Int} (h1:Rl a f) (h2:Rl b g) (hb:b.Le PB):Rl (pe a b) (H0 f g):=by
 unfold Rl at*
 rw[Wh (hb.mono (by decide)),vW,E1,Int.add_mul_emod_self_right]
 change _=(vW f-vW g)%tl
 rw[Int.sub_emod,h1,h2,←Int.sub_emod]
theorem Rl.inv {a:Fe} {f:Nat->Int} (h:Rl a f):∀i,Rl (nD a (i+1)) (nb f i)
 |
  0=>by
  have e:nD a 1=iE (iE uf uf) a:=rfl
  obtain⟨k,hk⟩:=GQ (iE uf uf) a
  have e1:vF (iE uf uf)=1:=by decide
  unfold Rl at*
  rw[e,hk,e1,Int.one_mul,Int.add_mul_emod_self_right,h]
  rfl
 |
  i+1=>by
  have ih:=Rl.inv h i
  have e1:nD a (i+1+1)=if i+1=252∨i+1=250 then iE (nD a (i+1)) (nD a (i+1))else iE (iE (nD a (i+1)) (nD a (i+1))) a:=rfl
  have e2:nb f (i+1)=if i=251∨i=249 then ko (nb f i) (nb f i)else ko (ko (nb f i) (nb f i)) f:=rfl
  rw[e1,e2]
  by_cases hi:i=251∨i=249
  ·rw[if_pos hi,if_pos (by omega)]
   exact ih.mul ih
  ·rw[if_neg hi,if_neg (by omega)]
   exact(ih.mul ih).mul h
structure RlL (L:Lad) (M:nT):Prop where
 x2:Rl L.x2 M.x2
 z2:Rl L.z2 M.z2
 x3:Rl L.x3 M.x3
 z3:Rl L.z3 M.z3
theorem adD:Rl cF cW:=by unfold Rl;decide
theorem Mx:Rl uf Mr:=by unfold Rl;decide
theorem QP:Rl EO H2:=by unfold Rl;decide
theorem My {x1 x2 z2 x3 z3:Fe} {f1:Nat->Int} {M:nT} (h1:Rl x1 f1) (r2:Rl x2 M.x2) (s2:Rl z2 M.z2) (r3:Rl x3 M.x3) (s3:Rl z3 M.z3) (a2:x2.Le PB) (b2:z2.Le PB) (a3:x3.Le PB) (b3:z3.Le PB) (bit:Int):RlL (Bp x1 x2 z2 x3 z3 bit) (M.st f1):=by
 have ha:=kt a2 b2
 have hb:=ld (b:=z2) a2
 have BD:=eP hb hb
 have DL:=eP (kt a3 b3) hb
 have ra:=r2.add s2
 have rb:=r2.sub s2 b2
 have raa:=ra.mul ra
 have rbb:=rb.mul rb
 have re:=raa.sub rbb BD
 have rda:=(r3.sub s3 b3).mul ra
 have rcb:=(r3.add s3).mul rb
 have rs:=rda.add rcb
 have rd:=rda.sub rcb DL
 exact⟨raa.mul rbb,((re.mul' adD).aj3 raa).mul' re,rs.mul rs,(rd.mul rd).mul' h1⟩
theorem Mz (n:Key) {x1:Fe} {f1:Nat->Int} (h1:Rl x1 f1) (hx:x1.Le PB):∀i,RlL (iM n x1 i) (lY n f1 i).1∧(iM n x1 i).last=(lY n f1 i).2
 |0=>⟨⟨Mx,QP,h1,Mx⟩,rfl⟩
 |
  i+1=>by
  obtain⟨ih,il⟩:=Mz n h1 hx i
  have ho:=yJ n hx i
  have e1:iM n x1 (i+1)=if qM n (254-i)=(iM n x1 i).last then Bp x1 (iM n x1 i).x2 (iM n x1 i).z2 (iM n x1 i).x3 (iM n x1 i).z3 (qM n (254-i))else Bp x1 (iM n x1 i).x3 (iM n x1 i).z3 (iM n x1 i).x2 (iM n x1 i).z2 (qM n (254-i)):=rfl
  have e2:lY n f1 (i+1)=((if qM n (254-i)=(lY n f1 i).2 then(lY n f1 i).1 else(lY n f1 i).1.sw).st f1,qM n (254-i)):=rfl
  rw[e1,e2,il]
  dsimp only
  by_cases hb:qM n (254-i)=(lY n f1 i).2
  ·rw[if_pos hb,if_pos hb]
   exact⟨My h1 ih.x2 ih.z2 ih.x3 ih.z3 ho.BK ho.EP ho.Tq ho.Tr _,rfl⟩
  ·rw[if_neg hb,if_neg hb]
   exact⟨My h1 (M:=(lY n f1 i).1.sw) ih.x3 ih.z3 ih.x2 ih.z2 ho.Tq ho.Tr ho.BK ho.EP _,rfl⟩
theorem H9:∀(n:Nat) {l m:List UInt8},mC l n=mC m n->∀i,i<n->l.getD i 0=m.getD i 0
 |0,_,_,_,i,hi=>by omega
 |
  n+1,l,m,h,i,hi=>by
  have h1:=wX l n
  have h2:=wX m n
  have e:mC l n+(l.getD n 0).toNat*256^n=mC m n+(m.getD n 0).toNat*256^n:=h
  have hp:0<256^n:=Nat.pow_pos (by decide)
  generalize 256^n=p at*
  have q1:(mC l n+(l.getD n 0).toNat*p)/p=(l.getD n 0).toNat:=by rw[Nat.add_mul_div_right _ _ hp,Nat.div_eq_of_lt h1,Nat.zero_add]
  have q2:(mC m n+(m.getD n 0).toNat*p)/p=(m.getD n 0).toNat:=by rw[Nat.add_mul_div_right _ _ hp,Nat.div_eq_of_lt h2,Nat.zero_add]
  rw[e,q2]at q1
  have q3:l.getD n 0=m.getD n 0:=UInt8.toNat_inj.1 q1.symm
  by_cases hn:i=n
  ·subst hn;exact q3
  ·rw[q3]at e
   exact H9 n (by omega) i (by omega)
theorem key_inj {k l:Key} (h:mC k.l 32=mC l.l 32):k=l:=by
 have hi:=H9 32 h
 obtain⟨k,hk⟩:=k
 obtain⟨l,hl⟩:=l
 dsimp only at hi
 have:k=l:=List.ext_getElem (by rw[hk,hl]) λi h1 h2=>by
  have:=hi i (by omega)
  rw[List.getD_eq_getElem?_getD,List.getD_eq_getElem?_getD,gJ h1,gJ h2]at this
  exact this
 subst this
 rfl
theorem yN (A B:List UInt8):∀m,mC (A++B) (A.length+m)=mC A A.length+256^A.length*mC B m
 |
  0=>by
  have:∀n,n≤A.length->mC (A++B) n=mC A n:=λn=>by
   induction n with
   |zero=>intro _;rfl
   |
    succ n ih=>
    intro hn
    rw[mC,mC,ih (by omega),List.getD_eq_getElem?_getD,List.getD_eq_getElem?_getD,List.getElem?_append_left (by omega)]
  rw[Nat.add_zero,this _ (Nat.le_refl _)]
  simp[mC]
 |
  m+1=>by
  have ih:=yN A B m
  have e:mC (A++B) (A.length+(m+1))=mC (A++B) (A.length+m)+((A++B).getD (A.length+m) 0).toNat*256^(A.length+m):=rfl
  have e2:(A++B).getD (A.length+m) 0=B.getD m 0:=by
   rw[List.getD_eq_getElem?_getD,List.getD_eq_getElem?_getD,List.getElem?_append_right (by omega),Nat.add_sub_cancel_left]
  rw[e,ih,e2,Nat.pow_add,mC]
  generalize 256^A.length=p
  generalize 256^m=q
  generalize (B.getD m 0).toNat=x
  grind
theorem Ia (n K:Nat):∀k,k≤K->mC (js n K) k=n%256^k
 |0,_=>by simp[mC,Nat.mod_one]
 |
  k+1,h=>by
  have ih:=Ia n K k (by omega)
  have e:(js n K).getD k 0=Ml n k:=by
   rw[List.getD_eq_getElem?_getD,js,List.getElem?_map,List.getElem?_range (by omega)];rfl
  have e2:(Ml n k).toNat=n/256^k%256:=by rw[Ml,UInt8.toNat_ofNat'];simp
  rw[mC,ih,e,e2,Nat.pow_succ,Nat.mod_mul,Nat.mul_comm (256^k)]
theorem QQ (a:Fe):mC (JM a).l 32=Oj a%18446744073709551616+18446744073709551616*(Ol a%18446744073709551616)+340282366920938463463374607431768211456*(QF a%18446744073709551616)+6277101735386680763835789423207666416102355444464034512896*(Tp a%18446744073709551616):=by
 have e:(JM a).l=js (Oj a) 8++js (Ol a) 8++js (QF a) 8++js (Tp a) 8:=rfl
 have h:=λn=>kg n 8
 have h3:=yN (js (Oj a) 8++js (Ol a) 8++js (QF a) 8) (js (Tp a) 8) 8
 have h2:=yN (js (Oj a) 8++js (Ol a) 8) (js (QF a) 8) 8
 have h1:=yN (js (Oj a) 8) (js (Ol a) 8) 8
 simp only[List.length_append,h]at h1 h2 h3
 rw[show 8+8=16 from rfl]at h1 h2 h3
 rw[show 16+8=24 from rfl]at h2 h3
 rw[show 24+8=32 from rfl]at h3
 have p8:(256:Nat)^8=18446744073709551616:=by decide
 have l:=λn=>Ia n 8 8 (by decide)
 rw[e,h3,h2,h1,l,l,l,l,p8,show(256:Nat)^16=340282366920938463463374607431768211456 by decide,show(256:Nat)^24=6277101735386680763835789423207666416102355444464034512896 by decide]
end Go.Ab
end Y19s
noncomputable section Y20s
namespace Go.Ab
open Go.Ab
theorem adE {c:Fe} (hc:c.Le 2251799813685247):((mC (JM c).l 32:Nat):Int)=vF c:=by
 obtain⟨h0,h1,h2,h3,h4⟩:=hc
 rw[QQ]
 simp only[Oj,Ol,QF,Tp,vF]
 obtain⟨a0,a1,a2,a3,a4⟩:=c
 dsimp only at*
 have e0:a0+a1*2251799813685248%18446744073709551616=a0+(a1%8192)*2251799813685248:=by omega
 have e1:a1/8192+a2*274877906944%18446744073709551616=a1/8192+(a2%67108864)*274877906944:=by omega
 have e2:a2/67108864+a3*33554432%18446744073709551616=a2/67108864+(a3%549755813888)*33554432:=by omega
 have e3:a3/549755813888+a4*4096%18446744073709551616=a3/549755813888+a4*4096:=by omega
 have l0:a0+(a1%8192)*2251799813685248<18446744073709551616:=by omega
 have l1:a1/8192+(a2%67108864)*274877906944<18446744073709551616:=by omega
 have l2:a2/67108864+(a3%549755813888)*33554432<18446744073709551616:=by omega
 have l3:a3/549755813888+a4*4096<18446744073709551616:=by omega
 rw[e0,e1,e2,e3,Nat.mod_eq_of_lt l0,Nat.mod_eq_of_lt l1,Nat.mod_eq_of_lt l2,Nat.mod_eq_of_lt l3]
 clear l0 l1 l2 l3
 clear e0 e1 e2 e3
 have q1:=Nat.div_add_mod a1 8192
 have q2:=Nat.div_add_mod a2 67108864
 have q3:=Nat.div_add_mod a3 549755813888
 generalize a1/8192=u1 at*
 generalize a1%8192=v1 at*
 generalize a2/67108864=u2 at*
 generalize a2%67108864=v2 at*
 generalize a3/549755813888=u3 at*
 generalize a3%549755813888=v3 at*
 omega
theorem JQ {a:Fe} (h:a.Le PB):(qK a).a0≤2251799813685266∧(qK a).a1≤2251799813685248∧(qK a).a2≤2251799813685248∧(qK a).a3≤2251799813685248∧(qK a).a4≤2251799813685248:=by
 obtain⟨h0,h1,h2,h3,h4⟩:=h
 unfold PB at*
 simp only[qK]
 omega
theorem adF {b:Fe} (h0:b.a0≤2251799813685266) (h1:b.a1≤2251799813685248) (h2:b.a2≤2251799813685248) (h3:b.a3≤2251799813685248) (h4:b.a4≤2251799813685248):vF (rW b)=vF b%tl:=by
 obtain⟨a0,a1,a2,a3,a4⟩:=b
 dsimp only at h0 h1 h2 h3 h4
 have hq:∃t1 t2 t3 t4 r0 r1 r2 r3 r4:Nat,a0+19=t1*2251799813685248+r0∧a1+t1=t2*2251799813685248+r1∧a2+t2=t3*2251799813685248+r2∧a3+t3=t4*2251799813685248+r3∧a4+t4=EN ⟨a0,a1,a2,a3,a4⟩*2251799813685248+r4∧r0<2251799813685248∧r1<2251799813685248∧r2<2251799813685248∧r3<2251799813685248∧r4<2251799813685248:=by
  refine⟨(a0+19)/2251799813685248,(a1+(a0+19)/2251799813685248)/2251799813685248,(a2+(a1+(a0+19)/2251799813685248)/2251799813685248)/2251799813685248,(a3+(a2+(a1+(a0+19)/2251799813685248)/2251799813685248)/2251799813685248)/2251799813685248,(a0+19)%2251799813685248,(a1+(a0+19)/2251799813685248)%2251799813685248,(a2+(a1+(a0+19)/2251799813685248)/2251799813685248)%2251799813685248,(a3+(a2+(a1+(a0+19)/2251799813685248)/2251799813685248)/2251799813685248)%2251799813685248,(a4+(a3+(a2+(a1+(a0+19)/2251799813685248)/2251799813685248)/2251799813685248)/2251799813685248)%2251799813685248,?_⟩
  simp only[EN]
  omega
 have hb:∃s0 s1 s2 s3 s4:Nat,a0+19*EN ⟨a0,a1,a2,a3,a4⟩=s0*2251799813685248+(rW ⟨a0,a1,a2,a3,a4⟩).a0∧a1+s0=s1*2251799813685248+(rW ⟨a0,a1,a2,a3,a4⟩).a1∧a2+s1=s2*2251799813685248+(rW ⟨a0,a1,a2,a3,a4⟩).a2∧a3+s2=s3*2251799813685248+(rW ⟨a0,a1,a2,a3,a4⟩).a3∧a4+s3=s4*2251799813685248+(rW ⟨a0,a1,a2,a3,a4⟩).a4∧(rW ⟨a0,a1,a2,a3,a4⟩).a0<2251799813685248∧(rW ⟨a0,a1,a2,a3,a4⟩).a1<2251799813685248∧(rW ⟨a0,a1,a2,a3,a4⟩).a2<2251799813685248∧(rW ⟨a0,a1,a2,a3,a4⟩).a3<2251799813685248∧(rW ⟨a0,a1,a2,a3,a4⟩).a4<2251799813685248:=by
  refine⟨QB ⟨a0,a1,a2,a3,a4⟩/2251799813685248,QC ⟨a0,a1,a2,a3,a4⟩/2251799813685248,QD ⟨a0,a1,a2,a3,a4⟩/2251799813685248,QE ⟨a0,a1,a2,a3,a4⟩/2251799813685248,Z7 ⟨a0,a1,a2,a3,a4⟩/2251799813685248,?_⟩
  have x0:QB ⟨a0,a1,a2,a3,a4⟩=a0+19*EN ⟨a0,a1,a2,a3,a4⟩:=rfl
  have x1:QC ⟨a0,a1,a2,a3,a4⟩=a1+QB ⟨a0,a1,a2,a3,a4⟩/2251799813685248:=rfl
  have x2:QD ⟨a0,a1,a2,a3,a4⟩=a2+QC ⟨a0,a1,a2,a3,a4⟩/2251799813685248:=rfl
  have x3:QE ⟨a0,a1,a2,a3,a4⟩=a3+QD ⟨a0,a1,a2,a3,a4⟩/2251799813685248:=rfl
  have x4:Z7 ⟨a0,a1,a2,a3,a4⟩=a4+QE ⟨a0,a1,a2,a3,a4⟩/2251799813685248:=rfl
  simp only[rW]
  rw[←x0,←x1,←x2,←x3,←x4]
  omega
 generalize rW ⟨a0,a1,a2,a3,a4⟩=c at*
 generalize EN ⟨a0,a1,a2,a3,a4⟩=q at*
 obtain⟨c0,c1,c2,c3,c4⟩:=c
 dsimp only at hb
 obtain⟨t1,t2,t3,t4,r0,r1,r2,r3,r4,u0,u1,u2,u3,u4,b0,b1,b2,b3,b4⟩:=hq
 obtain⟨s0,s1,s2,s3,s4,v0,v1,v2,v3,v4,d0,d1,d2,d3,d4⟩:=hb
 have q2:q≤1:=by omega
 have hU:(a0:Int)+a1*2251799813685248+a2*5070602400912917605986812821504+a3*11417981541647679048466287755595961091061972992+a4*25711008708143844408671393477458601640355247900524685364822016+19=q*57896044618658097711785492504343953926634992332820282019728792003956564819968+(r0+r1*2251799813685248+r2*5070602400912917605986812821504+r3*11417981541647679048466287755595961091061972992+r4*25711008708143844408671393477458601640355247900524685364822016):=by omega
 have hV:(a0:Int)+a1*2251799813685248+a2*5070602400912917605986812821504+a3*11417981541647679048466287755595961091061972992+a4*25711008708143844408671393477458601640355247900524685364822016+19*q=s4*57896044618658097711785492504343953926634992332820282019728792003956564819968+(c0+c1*2251799813685248+c2*5070602400912917605986812821504+c3*11417981541647679048466287755595961091061972992+c4*25711008708143844408671393477458601640355247900524685364822016):=by omega
 have hR:(r0:Int)+r1*2251799813685248+r2*5070602400912917605986812821504+r3*11417981541647679048466287755595961091061972992+r4*25711008708143844408671393477458601640355247900524685364822016<57896044618658097711785492504343953926634992332820282019728792003956564819968:=by omega
 have hC:(c0:Int)+c1*2251799813685248+c2*5070602400912917605986812821504+c3*11417981541647679048466287755595961091061972992+c4*25711008708143844408671393477458601640355247900524685364822016<57896044618658097711785492504343953926634992332820282019728792003956564819968:=by omega
 have XG:0≤(r0:Int)+r1*2251799813685248+r2*5070602400912917605986812821504+r3*11417981541647679048466287755595961091061972992+r4*25711008708143844408671393477458601640355247900524685364822016:=by omega
 have hC0:0≤(c0:Int)+c1*2251799813685248+c2*5070602400912917605986812821504+c3*11417981541647679048466287755595961091061972992+c4*25711008708143844408671393477458601640355247900524685364822016:=by omega
 have hv0:0≤(a0:Int)+a1*2251799813685248+a2*5070602400912917605986812821504+a3*11417981541647679048466287755595961091061972992+a4*25711008708143844408671393477458601640355247900524685364822016:=by omega
 have v7:(a0:Int)+a1*2251799813685248+a2*5070602400912917605986812821504+a3*11417981541647679048466287755595961091061972992+a4*25711008708143844408671393477458601640355247900524685364822016<2*57896044618658097711785492504343953926634992332820282019728792003956564819949:=by omega
 simp only[vF]
 generalize (a0:Int)+a1*2251799813685248+a2*5070602400912917605986812821504+a3*11417981541647679048466287755595961091061972992+a4*25711008708143844408671393477458601640355247900524685364822016=v at*
 generalize (c0:Int)+c1*2251799813685248+c2*5070602400912917605986812821504+c3*11417981541647679048466287755595961091061972992+c4*25711008708143844408671393477458601640355247900524685364822016=w at*
 generalize (r0:Int)+r1*2251799813685248+r2*5070602400912917605986812821504+r3*11417981541647679048466287755595961091061972992+r4*25711008708143844408671393477458601640355247900524685364822016=r at*
 clear u0 u1 u2 u3 u4 v0 v1 v2 v3 v4 h0 h1 h2 h3 h4 d0 d1 d2 d3 d4 b0 b1 b2 b3 b4
 unfold tl
 rcases(by omega:q=0∨q=1)with rfl|rfl<;>omega
theorem adG {a:Fe} (ha:a.Le PB):((mC (C7 a).l 32:Nat):Int)=vF a%tl:=by
 obtain⟨t0,t1,t2,t3,t4⟩:=JQ ha
 have hv:=adF t0 t1 t2 t3 t4
 have hc:(rW (qK a)).Le 2251799813685247:=by constructor<;>(simp only[rW];omega)
 have h:=Mu a
 unfold C7
 rw[adE hc,hv,h,Int.add_mul_emod_self_right]
theorem E5 {f:Nat->Int} (hf:WN f):∀n,n≤16->((mC (Mp (tc f)).l (2*n):Nat):Int)=ek f n
 |0,_=>rfl
 |
  n+1,h=>by
  have ih:=E5 hf n (by omega)
  have g:∀j,j<32->(Mp (tc f)).l.getD j 0=tc f j:=λj hj=>by
   rw[List.getD_eq_getElem?_getD,Mp,List.getElem?_map,List.getElem?_range hj];rfl
  have e:mC (Mp (tc f)).l (2*(n+1))=mC (Mp (tc f)).l (2*n)+((Mp (tc f)).l.getD (2*n) 0).toNat*256^(2*n)+((Mp (tc f)).l.getD (2*n+1) 0).toNat*256^(2*n+1):=rfl
  have hb:=hf n (by omega)
  have x0:(tc f (2*n)).toNat=(f n).toNat%256:=by
   rw[tc,show 2*n/2=n by omega,show 2*n%2=0 by omega,UInt8.toNat_ofNat'];simp
  have x1:(tc f (2*n+1)).toNat=(f n).toNat/256%256:=by
   rw[tc,show(2*n+1)/2=n by omega,show(2*n+1)%2=1 by omega,UInt8.toNat_ofNat'];simp
  have p1:(256:Nat)^(2*n)=65536^n:=by rw[Nat.pow_mul]
  rw[e,g _ (by omega),g _ (by omega),x0,x1,Nat.pow_succ,p1,ek,←ih]
  have hy:(65536:Int)^n=((65536^n:Nat):Int):=by simp
  rw[hy]
  obtain⟨y,hy2⟩:=Int.eq_ofNat_of_zero_le hb.1
  have hy3:(f n).toNat=y:=by omega
  rw[hy3,hy2]
  have hq:y=y%256+256*(y/256%256):=by omega
  generalize 65536^n=p
  generalize mC (Mp (tc f)).l (2*n)=r
  have hm:y%256*p+y/256%256*(p*256)=y*p:=by
   generalize y%256=u at*
   generalize y/256%256=v at*
   subst hq
   grind
  rw[Nat.add_assoc,hm,Int.natCast_add,Int.natCast_mul]
theorem vD {f:Nat->Int} (hf:WN f):∀n,n≤16->0≤ek f n∧ek f n<65536^n
 |0,_=>by simp[ek]
 |
  n+1,h=>by
  have ih:=vD hf n (by omega)
  have hb:=hf n (by omega)
  rw[ek,Int.pow_succ]
  have hp:0<(65536:Int)^n:=by omega
  generalize (65536:Int)^n=p at*
  have h1:=Int.mul_nonneg hb.1 (Int.le_of_lt hp)
  have h2:f n*p≤65535*p:=Int.mul_le_mul_of_nonneg_right hb.2 (Int.le_of_lt hp)
  omega
theorem Tw {f:Nat->Int} (hf:WN f):(A3 f<0->vW f<tl)∧vW (rD f)=if A3 f<0 then vW f else vW f-tl:=by
 have hv:=Wj f
 refine⟨λh=> ?_,?_⟩
 ·have hy:=GN hf
  have e:vW (FO f)=ek (FO f) 15+A3 f*65536^15:=rfl
  have hg:ek (FO f) 15<65536^15:=by
   have e2:ek (FO f) 15=ek (λj=>if j<15 then FO f j else 0) 15:=uh λi hi=>by rw[if_pos hi]
   rw[e2]
   refine(vD (f:=λj=>if j<15 then FO f j else 0) (λi hi=> ?_) 15 (by decide)).2
   by_cases h:i<15
   ·simp only[FO];rw[if_pos h,if_pos h];omega
   ·simp only;rw[if_neg h];omega
  have hp:(0:Int)<65536^15:=by decide
  generalize (65536:Int)^15=p at*
  have h1:A3 f*p≤(-1)*p:=Int.mul_le_mul_of_nonneg_right (by omega) (Int.le_of_lt hp)
  omega
 ·unfold rD
  by_cases h:A3 f<0
  ·rw[if_pos h,if_pos h]
  ·rw[if_neg h,if_neg h];omega
theorem adH {f:Nat->Int} (hf:WS f):((mC (GP f).l 32:Nat):Int)=vW f%tl:=by
 have h1:=HY hf
 have h2:=yL h1
 have h3:=yL h2
 have hm:=GS f
 have v1:=Tw h1
 have v2:=Tw h2
 have b1:=vD h1 16 (by decide)
 have b2:=vD h2 16 (by decide)
 have b3:=vD h3 16 (by decide)
 have e:=E5 h3 16 (by decide)
 have e':((mC (GP f).l 32:Nat):Int)=vW (rD (rD (jX f))):=e
 rw[e',←hm]
 clear e e' hm
 change 0≤vW _∧vW _<_ at b1 b2 b3
 rw[show(65536:Int)^16=2*tl+38 by decide]at b1 b2 b3
 obtain⟨n1,v1⟩:=v1
 obtain⟨n2,v2⟩:=v2
 generalize vW (rD (rD (jX f)))=x3 at*
 generalize vW (rD (jX f))=x2 at*
 generalize vW (jX f)=x1 at*
 generalize A3 (jX f)=y1 at*
 generalize A3 (rD (jX f))=y2 at*
 have hP:(100:Int)<tl:=by decide
 generalize tl=p at*
 have key:0≤x3∧x3<p∧∃k:Int,x1=x3+p*k:=by
  by_cases c1:y1<0
  ·rw[if_pos c1]at v1
   by_cases c2:y2<0
   ·rw[if_pos c2]at v2
    have:=n1 c1
    exact⟨by omega,by omega,0,by omega⟩
   ·rw[if_neg c2]at v2
    have:=n1 c1
    omega
  ·rw[if_neg c1]at v1
   by_cases c2:y2<0
   ·rw[if_pos c2]at v2
    have:=n2 c2
    exact⟨by omega,by omega,1,by omega⟩
   ·rw[if_neg c2]at v2
    exact⟨by omega,by omega,2,by omega⟩
 obtain⟨k0,k1,k,hk⟩:=key
 rw[hk,Int.add_mul_emod_self_left,Int.emod_eq_of_lt k0 k1]
theorem QR:Rl (qL pU) (ug pU):=by unfold Rl;decide
theorem MA (k:Key):JN k pU=mulR k pU:=by
 have hx:=EM pU
 have hf:=(H4 pU).ws.le
 obtain⟨h,hl⟩:=Mz (xL k) QR hx 255
 have ho:=yJ (xL k) hx 255
 have hr:=yM (xL k) hf 255
 apply key_inj
 unfold JN mulR
 generalize iM (xL k) (qL pU) 255=L at*
 generalize lY (xL k) (ug pU) 255=M at*
 dsimp only
 rw[hl]
 have fin:∀ {x z:Fe} {f g:Nat->Int},Rl x f->Rl z g->x.Le PB->z.Le PB->oA f 65573->oA g 65573->mC (C7 (iE x (nD z 255))).l 32=mC (GP (ko f (nb g 254))).l 32:=λhx hz bx bz bf bg=>by
  have h1:=adG (eP (bx.mono jF) ((s9 (bz.mono jF) 255).mono jF))
  have h2:=adH (yK (bf.mono W2) ((vC bg 254).mono W2))
  have h3:Rl _ _:=hx.mul (hz.inv 254)
  unfold Rl at h3
  rw[h3,←h2]at h1
  exact Int.ofNat.inj h1
 by_cases hb:M.2=1
 ·rw[if_pos hb,if_pos hb]
  exact fin h.x3 h.z3 ho.Tq ho.Tr hr.Tq hr.Tr
 ·rw[if_neg hb,if_neg hb]
  exact fin h.x2 h.z2 ho.BK ho.EP hr.BK hr.EP
end Go.Ab
end Y20s
noncomputable section Y21s
namespace Go.Ab
open Go.Ab
def nU (x:UInt32):Int:=(x.toNat:Int)
def uW (n:Nat) (f:Nat->UInt32):List PV:=(List.range n).map λi=> .int .u32 (nU (f i))
@[simp] theorem aj4 (n:Nat) (f:Nat->UInt32):(uW n f).length=n:=by simp[uW]
theorem en {n:Nat} (f:Nat->UInt32) {i:Nat} (h:i<n):(uW n f)[i]? =some (.int .u32 (nU (f i))):=by simp[uW,h]
def oB (f:Nat->UInt32) (i:Nat) (x:UInt32):Nat->UInt32:=λj=>if j=i then x else f j
theorem iX {n:Nat} {f g:Nat->UInt32} (h:∀i,i<n->f i=g i):uW n f=uW n g:=by
 unfold uW
 exact List.map_congr_left λi hi=>by rw[h i (List.mem_range.1 hi)]
theorem iG (n:Nat) (f:Nat->UInt32) (i:Nat) (x:UInt32):(uW n f).set i (.int .u32 (nU x))=uW n (oB f i x):=by
 apply List.ext_getElem?
 intro j
 by_cases hj:j<n
 ·rw[en _ hj,List.getElem?_set]
  by_cases h:i=j
  ·simp[h,hj,oB]
  ·rw[if_neg h,en _ hj,oB,if_neg (Ne.symm h)]
 ·rw[List.getElem?_eq_none (by simp;omega),List.getElem?_eq_none (by simp;omega)]
@[simp] theorem nJ (n:Nat) (f:Nat->UInt32):aB (uW n f):=aS (λ_=>by simp) _
@[simp] theorem Ib (n:Nat) (f:Nat->UInt32):jE (uW n f)=uW n f:=rv (λ_=>by simp) _
theorem qj (x y:UInt32):IntKind.u32.wrap (nU x+nU y)=nU (x+y):=by
 rw[IntKind.wrap_u32',nU,nU,nU,UInt32.toNat_add]
 omega
theorem j8 (x y:UInt32):bits .xor .u32 (nU x) (nU y)=nU (x^^^y):=by
 rw[nU,nU,nU,u32_xor_nat _ _ x.toNat_lt y.toNat_lt,UInt32.toNat_xor]
def ro (x:UInt32) (k:Nat):UInt32:=UInt32.ofNat (x.toNat/2^k|||x.toNat*2^(32-k)%4294967296)
theorem E6 (x:UInt32) (k:Nat) (s:Int) (hk:k<32) (hs:s=((2^(32-k):Nat):Int)) (r:Int) (hr:r=((2^k:Nat):Int)):bits .or .u32 ((nU x).fdiv r) (IntKind.u32.wrap (nU x*s))=nU (ro x k):=by
 have hx:=x.toNat_lt
 subst hs hr
 have e1:(nU x).fdiv ((2^k:Nat):Int)=((x.toNat/2^k:Nat):Int):=by
  rw[nU,Int.fdiv_eq_ediv_of_nonneg _ (Int.natCast_nonneg _),←Int.natCast_ediv]
 have e2:IntKind.u32.wrap (nU x*((2^(32-k):Nat):Int))=((x.toNat*2^(32-k)%4294967296:Nat):Int):=by
  rw[IntKind.wrap_u32',nU,←Int.natCast_mul];omega
 have l1:x.toNat/2^k<4294967296:=Nat.lt_of_le_of_lt (Nat.div_le_self _ _) hx
 have l2:x.toNat*2^(32-k)%4294967296<4294967296:=Nat.mod_lt _ (by decide)
 have l3:x.toNat/2^k|||x.toNat*2^(32-k)%4294967296<2^32:=Nat.or_lt_two_pow (n:=32) l1 l2
 have e3:(ro x k).toNat=x.toNat/2^k|||x.toNat*2^(32-k)%4294967296:=by rw[ro,UInt32.toNat_ofNat',Nat.mod_eq_of_lt l3]
 rw[e1,e2,u32_or_nat _ _ l1 l2,nU,e3]
theorem vE (a b:Int):bits .or .u32 a b=bits .or .u32 b a:=by simp only[bits,BitVec.or_comm]
theorem QS {x:UInt32} {k:Nat} (hk:k=16∨k=12∨k=8∨k=7):a8 Pg I.aT [.int .u32 (nU x),.int .i64 (-(k:Int))] (.int .u32 (nU (ro x k))):=by
 refine af.intro T.aT (by simp[F.aT]) ?_
 have XW:bits .and .u64 18446744073709551600 31=16:=by decide+kernel
 have XX:bits .and .u64 18446744073709551604 31=20:=by decide+kernel
 have h8:bits .and .u64 18446744073709551608 31=24:=by decide+kernel
 have h7:bits .and .u64 18446744073709551609 31=25:=by decide+kernel
 have Ax:IntKind.u64.wrap (-16)=18446744073709551600:=by decide+kernel
 have w12:IntKind.u64.wrap (-12)=18446744073709551604:=by decide+kernel
 have w8:IntKind.u64.wrap (-8)=18446744073709551608:=by decide+kernel
 have w7:IntKind.u64.wrap (-7)=18446744073709551609:=by decide+kernel
 rcases hk with rfl|rfl|rfl|rfl
 ·have h:=E6 x 16 65536 (by decide) rfl 65536 rfl
  rw[vE]at h
  simp[F.aT,ai,aG,XW,Ax,show IntKind.u32.bits=32 from rfl,show IntKind.u64.wrap 16=16 from rfl,h]
  refine aC.plain [] ?_
  simp
 ·have h:=E6 x 12 1048576 (by decide) rfl 4096 rfl
  rw[vE]at h
  simp[F.aT,ai,aG,XX,w12,show IntKind.u32.bits=32 from rfl,show IntKind.u64.wrap 12=12 from rfl,h]
  refine aC.plain [] ?_
  simp
 ·have h:=E6 x 8 16777216 (by decide) rfl 256 rfl
  rw[vE]at h
  simp[F.aT,ai,aG,h8,w8,show IntKind.u32.bits=32 from rfl,show IntKind.u64.wrap 8=8 from rfl,h]
  refine aC.plain [] ?_
  simp
 ·have h:=E6 x 7 33554432 (by decide) rfl 128 rfl
  rw[vE]at h
  simp[F.aT,ai,aG,h7,w7,show IntKind.u32.bits=32 from rfl,show IntKind.u64.wrap 7=7 from rfl,h]
  refine aC.plain [] ?_
  simp
theorem pV {x:UInt32} {k:Nat} (hk:k=16∨k=12∨k=8∨k=7):a8 Pg I.bD [.int .u32 (nU x),.int .i64 (k:Int)] (.int .u32 (nU (ro x k))):=by
 refine af.intro T.bD (by simp[F.bD]) ?_
 rcases hk with rfl|rfl|rfl|rfl
 ·have h:=E6 x 16 65536 (by decide) rfl 65536 rfl
  simp[F.bD,ai,aG,show IntKind.u32.bits=32 from rfl,h]
  refine aC.plain [] ?_
  simp
 ·have h:=E6 x 12 1048576 (by decide) rfl 4096 rfl
  simp[F.bD,ai,aG,show IntKind.u32.bits=32 from rfl,h]
  refine aC.plain [] ?_
  simp
 ·have h:=E6 x 8 16777216 (by decide) rfl 256 rfl
  simp[F.bD,ai,aG,show IntKind.u32.bits=32 from rfl,h]
  refine aC.plain [] ?_
  simp
 ·have h:=E6 x 7 33554432 (by decide) rfl 128 rfl
  simp[F.bD,ai,aG,show IntKind.u32.bits=32 from rfl,h]
  refine aC.plain [] ?_
  simp
end Go.Ab
end Y21s
noncomputable section Y22s
namespace Go.Ab
open Go.Ab
def Tx (v:Nat->UInt32) (a b:Nat) (x:UInt32):Nat->UInt32:=oB v a (v a+v b+x)
def Ic (v:Nat->UInt32) (d a k:Nat):Nat->UInt32:=oB v d (ro (v d^^^v a) k)
def Ty (v:Nat->UInt32) (c d:Nat):Nat->UInt32:=oB v c (v c+v d)
def gA (v:Nat->UInt32) (a b c d:Nat) (x y:UInt32):Nat->UInt32:=Ic (Ty (Ic (Tx (Ic (Ty (Ic (Tx v a b x) d a 16) c d) b c 12) a b y) d a 8) c d) b c 7
theorem Bq (x y z:UInt32):x+(y+z)=x+y+z:=(UInt32.add_assoc _ _ _).symm
theorem iN (v:Nat->UInt32) {a b c d:Nat} (ha:a<16) (hb:b<16) (hc:c<16) (hd:d<16) (x y:UInt32):
  af Pg I.iN [.pt KB [.i a 1] 0,.pt KB [.i b 1] 0,.pt KB [.i c 1] 0,.pt KB [.i d 1] 0,.int .u32 (nU x),.int .u32 (nU y)] [.box (.ar 1 16 (uW 16 v))] (λr fp=>r= .tup []∧fp=[.box (.ar 1 16 (uW 16 (gA v a b c d x y)))]):=by
 refine af.intro T.iN (by simp[F.iN]) ?_
 have r16:∀z,a8 Pg I.aT [.int .u32 (nU z),.int .i64 (-16)] (.int .u32 (nU (ro z 16))):=λz=>QS (x:=z) (k:=16) (by simp)
 have r12:∀z,a8 Pg I.aT [.int .u32 (nU z),.int .i64 (-12)] (.int .u32 (nU (ro z 12))):=λz=>QS (x:=z) (k:=12) (by simp)
 have r8:∀z,a8 Pg I.aT [.int .u32 (nU z),.int .i64 (-8)] (.int .u32 (nU (ro z 8))):=λz=>QS (x:=z) (k:=8) (by simp)
 have r7:∀z,a8 Pg I.aT [.int .u32 (nU z),.int .i64 (-7)] (.int .u32 (nU (ro z 7))):=λz=>QS (x:=z) (k:=7) (by simp)
 have g:=λ(f:Nat->UInt32)=>en (n:=16) f ha
 have g1:=λ(f:Nat->UInt32)=>en (n:=16) f hb
 have g2:=λ(f:Nat->UInt32)=>en (n:=16) f hc
 have g3:=λ(f:Nat->UInt32)=>en (n:=16) f hd
 have eA:∀(v:Nat->UInt32) (x:UInt32),oB v a (v a+v b+x)=Tx v a b x:=λ_ _=>rfl
 have eD:∀(v:Nat->UInt32) (k:Nat),oB v d (ro (v d^^^v a) k)=Ic v d a k:=λ_ _=>rfl
 have eC:∀(v:Nat->UInt32),oB v c (v c+v d)=Ty v c d:=λ_=>rfl
 have eB:∀(v:Nat->UInt32) (k:Nat),oB v b (ro (v b^^^v c) k)=Ic v b c k:=λ_ _=>rfl
 simp[F.iN,ai,aG,g,g1,g2,g3,qj,j8,Bq,iG,eA,eD,eC,eB,-getElem?_pos]
 generalize v7:Tx v a b x=v1 at*
 refine aU.ret (r16 (v1 d^^^v1 a)) (by simp) (by simp) (by simp) ?_
 simp[g,g1,g2,g3,qj,j8,Bq,iG,eA,eD,eC,eB,-getElem?_pos]
 generalize mD:Ty (Ic v1 d a 16) c d=v2 at*
 refine aU.ret (r12 (v2 b^^^v2 c)) (by simp) (by simp) (by simp) ?_
 simp[g,g1,g2,g3,qj,j8,Bq,iG,eA,eD,eC,eB,-getElem?_pos]
 generalize hv3:Tx (Ic v2 b c 12) a b y=v3 at*
 refine aU.ret (r8 (v3 d^^^v3 a)) (by simp) (by simp) (by simp) ?_
 simp[g,g1,g2,g3,qj,j8,Bq,iG,eA,eD,eC,eB,-getElem?_pos]
 generalize hv4:Ty (Ic v3 d a 8) c d=v4 at*
 refine aU.ret (r7 (v4 b^^^v4 c)) (by simp) (by simp) (by simp) ?_
 simp[g,g1,g2,g3,qj,j8,Bq,iG,eA,eD,eC,eB,-getElem?_pos]
 refine aC.with [] [KB] ?_
 simp[gF,ae,aO,gA,v7,mD,hv3,hv4,ah,ab,aM,az,(nJ 16 _).refs,(nJ 16 _).az]
theorem gE (v:Nat->UInt32) {a b c d:Nat} (ha:a<16) (hb:b<16) (hc:c<16) (hd:d<16) (x y:UInt32):
  a8 Pg I.aQ [.ar 1 16 (uW 16 v),.int .i64 a,.int .i64 b,.int .i64 c,.int .i64 d,.int .u32 (nU x),.int .u32 (nU y)] (.ar 1 16 (uW 16 (gA v a b c d x y))):=by
 refine af.intro T.aQ (by simp[F.aQ]) ?_
 have r16:∀z,a8 Pg I.bD [.int .u32 (nU z),.int .i64 16] (.int .u32 (nU (ro z 16))):=λz=>pV (x:=z) (k:=16) (by simp)
 have r12:∀z,a8 Pg I.bD [.int .u32 (nU z),.int .i64 12] (.int .u32 (nU (ro z 12))):=λz=>pV (x:=z) (k:=12) (by simp)
 have r8:∀z,a8 Pg I.bD [.int .u32 (nU z),.int .i64 8] (.int .u32 (nU (ro z 8))):=λz=>pV (x:=z) (k:=8) (by simp)
 have r7:∀z,a8 Pg I.bD [.int .u32 (nU z),.int .i64 7] (.int .u32 (nU (ro z 7))):=λz=>pV (x:=z) (k:=7) (by simp)
 have g:=λ(f:Nat->UInt32)=>en (n:=16) f ha
 have g1:=λ(f:Nat->UInt32)=>en (n:=16) f hb
 have g2:=λ(f:Nat->UInt32)=>en (n:=16) f hc
 have g3:=λ(f:Nat->UInt32)=>en (n:=16) f hd
 have eA:∀(v:Nat->UInt32) (x:UInt32),oB v a (v a+v b+x)=Tx v a b x:=λ_ _=>rfl
 have eD:∀(v:Nat->UInt32) (k:Nat),oB v d (ro (v d^^^v a) k)=Ic v d a k:=λ_ _=>rfl
 have eC:∀(v:Nat->UInt32),oB v c (v c+v d)=Ty v c d:=λ_=>rfl
 have eB:∀(v:Nat->UInt32) (k:Nat),oB v b (ro (v b^^^v c) k)=Ic v b c k:=λ_ _=>rfl
 have ia:(a:Int)<16:=by omega
 have ib:(b:Int)<16:=by omega
 have ic:(c:Int)<16:=by omega
 have id':(d:Int)<16:=by omega
 simp[F.aQ,ai,aG,ha,hb,hc,hd,ia,ib,ic,id',g,g1,g2,g3,qj,j8,Bq,iG,eA,eD,eC,eB,-getElem?_pos]
 generalize v7:Tx v a b x=v1 at*
 refine aU.ret (r16 (v1 d^^^v1 a)) (by simp) (by simp) (by simp) ?_
 simp[ha,hb,hc,hd,ia,ib,ic,id',g,g1,g2,g3,qj,j8,Bq,iG,eA,eD,eC,eB,-getElem?_pos]
 generalize mD:Ty (Ic v1 d a 16) c d=v2 at*
 refine aU.ret (r12 (v2 b^^^v2 c)) (by simp) (by simp) (by simp) ?_
 simp[ha,hb,hc,hd,ia,ib,ic,id',g,g1,g2,g3,qj,j8,Bq,iG,eA,eD,eC,eB,-getElem?_pos]
 generalize hv3:Tx (Ic v2 b c 12) a b y=v3 at*
 refine aU.ret (r8 (v3 d^^^v3 a)) (by simp) (by simp) (by simp) ?_
 simp[ha,hb,hc,hd,ia,ib,ic,id',g,g1,g2,g3,qj,j8,Bq,iG,eA,eD,eC,eB,-getElem?_pos]
 generalize hv4:Ty (Ic v3 d a 8) c d=v4 at*
 refine aU.ret (r7 (v4 b^^^v4 c)) (by simp) (by simp) (by simp) ?_
 simp[ha,hb,hc,hd,ia,ib,ic,id',g,g1,g2,g3,qj,j8,Bq,iG,eA,eD,eC,eB,-getElem?_pos]
 refine aC.plain [.keep [14],.dr 7] ?_
 simp[gA,v7,mD,hv3,hv4]
end Go.Ab
end Y22s
noncomputable section Y23s
namespace Go.Ab
open Go.Ab
def sgT:List (List Nat):=[[0,1,2,3,4,5,6,7,8,9,10,11,12,13,14,15],[14,10,4,8,9,15,13,6,1,12,0,2,11,7,5,3],[11,8,12,0,5,2,15,13,10,14,3,6,7,1,9,4],[7,9,3,1,13,12,11,14,2,6,5,10,4,0,15,8],[9,0,5,7,2,4,10,15,14,1,11,12,6,8,3,13],[2,12,6,10,0,11,8,3,4,13,7,5,15,14,1,9],[12,5,1,15,14,13,4,10,0,7,6,3,9,2,8,11],[13,11,7,14,12,1,3,9,5,0,15,4,8,6,2,10],[6,15,14,9,11,3,0,8,12,2,13,7,1,4,10,5],[10,2,8,4,7,6,1,5,15,11,9,14,3,12,13,0]]
def sg (r k:Nat):Nat:=(sgT.getD r []).getD k 0
theorem Cb:∀r,r<10->∀k,k<16->sg r k<16:=by decide
def JR (r:Nat):List PV:=iW 16 λk=>(sg r k:Int)
@[simp] theorem aad (r:Nat):aB (JR r):=QH _ _
def E7:List PV:=(List.range 10).map λr=>PV.ar 1 16 (JR r)
@[simp] theorem Wk:aB E7:=aS (λr=>by simp) _
theorem wZ {r:Nat} (h:r<10):E7[r]? =some (PV.ar 1 16 (JR r)):=by simp[E7,h]
def ivT:List UInt32:=[1779033703,3144134277,1013904242,2773480762,1359893119,2600822924,528734635,1541459225]
def FP (i:Nat):UInt32:=ivT.getD i 0
theorem eT:a8 Pg I.eT [] (.ar 1 8 (uW 8 FP)):=by
 refine af.intro T.eT (by simp[F.eT]) ?_
 have hz:zr 8 (PV.int IntKind.u32 0)=[.int .u32 0,.int .u32 0,.int .u32 0,.int .u32 0,.int .u32 0,.int .u32 0,.int .u32 0,.int .u32 0]:=by rw[iq];rfl
 have he:PV.ar 1 8 [.int .u32 1779033703,.int .u32 3144134277,.int .u32 1013904242,.int .u32 2773480762,.int .u32 1359893119,.int .u32 2600822924,.int .u32 528734635,.int .u32 1541459225]=PV.ar 1 8 (uW 8 FP):=rfl
 simp[F.eT,ai,aG,hz,he]
 refine aC.plain [] ?_
 simp
theorem tG:a8 Pg I.dB [] (.ar 1 8 (uW 8 FP)):=by
 refine af.intro T.dB (by simp[F.dB]) ?_
 have hz:zr 8 (PV.int IntKind.u32 0)=[.int .u32 0,.int .u32 0,.int .u32 0,.int .u32 0,.int .u32 0,.int .u32 0,.int .u32 0,.int .u32 0]:=by rw[iq];rfl
 have he:PV.ar 1 8 [.int .u32 1779033703,.int .u32 3144134277,.int .u32 1013904242,.int .u32 2773480762,.int .u32 1359893119,.int .u32 2600822924,.int .u32 528734635,.int .u32 1541459225]=PV.ar 1 8 (uW 8 FP):=rfl
 simp[F.dB,ai,aG,hz,he]
 refine aC.plain [] ?_
 simp
theorem z10 (x:PV):zr 10 x=[x,x,x,x,x,x,x,x,x,x]:=by rw[iq];rfl
theorem MB:PV.ar 16 10 [PV.ar 1 16 [.int .i64 0,.int .i64 1,.int .i64 2,.int .i64 3,.int .i64 4,.int .i64 5,.int .i64 6,.int .i64 7,.int .i64 8,.int .i64 9,.int .i64 10,.int .i64 11,.int .i64 12,.int .i64 13,.int .i64 14,.int .i64 15],PV.ar 1 16 [.int .i64 14,.int .i64 10,.int .i64 4,.int .i64 8,.int .i64 9,.int .i64 15,.int .i64 13,.int .i64 6,.int .i64 1,.int .i64 12,.int .i64 0,.int .i64 2,.int .i64 11,.int .i64 7,.int .i64 5,.int .i64 3],PV.ar 1 16 [.int .i64 11,.int .i64 8,.int .i64 12,.int .i64 0,.int .i64 5,.int .i64 2,.int .i64 15,.int .i64 13,.int .i64 10,.int .i64 14,.int .i64 3,.int .i64 6,.int .i64 7,.int .i64 1,.int .i64 9,.int .i64 4],PV.ar 1 16 [.int .i64 7,.int .i64 9,.int .i64 3,.int .i64 1,.int .i64 13,.int .i64 12,.int .i64 11,.int .i64 14,.int .i64 2,.int .i64 6,.int .i64 5,.int .i64 10,.int .i64 4,.int .i64 0,.int .i64 15,.int .i64 8],PV.ar 1 16 [.int .i64 9,.int .i64 0,.int .i64 5,.int .i64 7,.int .i64 2,.int .i64 4,.int .i64 10,.int .i64 15,.int .i64 14,.int .i64 1,.int .i64 11,.int .i64 12,.int .i64 6,.int .i64 8,.int .i64 3,.int .i64 13],PV.ar 1 16 [.int .i64 2,.int .i64 12,.int .i64 6,.int .i64 10,.int .i64 0,.int .i64 11,.int .i64 8,.int .i64 3,.int .i64 4,.int .i64 13,.int .i64 7,.int .i64 5,.int .i64 15,.int .i64 14,.int .i64 1,.int .i64 9],PV.ar 1 16 [.int .i64 12,.int .i64 5,.int .i64 1,.int .i64 15,.int .i64 14,.int .i64 13,.int .i64 4,.int .i64 10,.int .i64 0,.int .i64 7,.int .i64 6,.int .i64 3,.int .i64 9,.int .i64 2,.int .i64 8,.int .i64 11],PV.ar 1 16 [.int .i64 13,.int .i64 11,.int .i64 7,.int .i64 14,.int .i64 12,.int .i64 1,.int .i64 3,.int .i64 9,.int .i64 5,.int .i64 0,.int .i64 15,.int .i64 4,.int .i64 8,.int .i64 6,.int .i64 2,.int .i64 10],PV.ar 1 16 [.int .i64 6,.int .i64 15,.int .i64 14,.int .i64 9,.int .i64 11,.int .i64 3,.int .i64 0,.int .i64 8,.int .i64 12,.int .i64 2,.int .i64 13,.int .i64 7,.int .i64 1,.int .i64 4,.int .i64 10,.int .i64 5],PV.ar 1 16 [.int .i64 10,.int .i64 2,.int .i64 8,.int .i64 4,.int .i64 7,.int .i64 6,.int .i64 1,.int .i64 5,.int .i64 15,.int .i64 11,.int .i64 9,.int .i64 14,.int .i64 3,.int .i64 12,.int .i64 13,.int .i64 0]]=PV.ar 16 10 E7:=rfl
theorem cS:a8 Pg I.cS [] (.ar 16 10 E7):=by
 refine af.intro T.cS (by simp[F.cS]) ?_
 simp[F.cS,ai,aG,QN,z10,MB]
 refine aC.plain [] ?_
 simp
theorem xO {r:Nat} (h:r<10):a8 Pg I.fb [.int .i64 r] (.ar 1 16 (JR r)):=by
 refine af.intro T.fb (by simp[F.fb]) ?_
 have h':(r:Int)<10:=by omega
 have hg:=wZ h
 simp[F.fb,ai,aG,QN,z10,MB,h,h',hg,-getElem?_pos]
 refine aC.plain [] ?_
 simp
end Go.Ab
end Y23s

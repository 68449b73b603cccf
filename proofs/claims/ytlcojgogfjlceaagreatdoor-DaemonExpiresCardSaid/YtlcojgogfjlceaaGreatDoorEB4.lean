/- Functions of the program and of the document, as the abstract reading walks them, part 4. No condition. -/
import Derived.Test.YtlcojgogfjlceaaGreatDoorEB3
import Derived.Shelf.Spec.BitsCarry
import Derived.Test.YtlcojgogfjlceaaGreatDoorEB1
import Derived.Test.YtlcojgogfjlceaaGreatDoorEA5
set_option maxRecDepth 10000
set_option maxHeartbeats 4000000
set_option linter.all false
noncomputable section
namespace Go.Ab
theorem Wj [eE] {f:FuncId} {s:St} {dst:Option Nat} {K:St->Prop} {tg:Tg K} {k n:Nat} {c:ft} {c2:Bool} {A B:List PV} {v:PV} (hA:aL Pg f [.sl 1 [.sl 1 A false,.sl 1 B false] false] v)
  (hv:Pure v) (nJ:gf v=true) (hk:get s.bx k=some (.arr 1 A)) (hn:A.length=n) (I4:au A) (N6:au B) (hBw:fP B=B)
  (h:K ({s with bx:=put s.bx k (.arr 1 A)}.put dst v)):ai Pg s dst f [.sl 1 [.rs k [] 0 n n 1 c,.sl 1 B false] c2] K tg:=by
 subst hn;refine ai.view [k] [] [.arr 1 A] (bC:=[.sl 1 [.rs KB [] 0 A.length A.length 1 c,.sl 1 B false] false]) (args0:=[.sl 1 [.sl 1 A false,.sl 1 B false] false]) (cg:=[.arr 1 A]) hA (by simp[getAll,hk]) (by simp) (by simp) (by simp[ah,af,bT,idx,N6.refs]) (by simp[ab,I4.refs]) (by simp[aS,aE,bz,idx,N6.aE,hBw]) (by simp[az,I4.aE]) ?_ ?_ ?_
 ·refine⟨.inr (.inl ⟨1,_,[.sl 1 A false,.sl 1 B false],false,rfl,⟨.inr ⟨KB,[],0,A.length,A.length,1,c,A,rfl,?_,I4.refs _,by omega,rfl⟩,.inl ⟨rfl,by simp[af,N6.refs]⟩,trivial⟩,rfl⟩),trivial⟩;simp[av]
 ·rintro r new ⟨rfl,rfl⟩;exact⟨⟨nJ,by simp⟩,rfl⟩
 ·rintro r new ⟨rfl,rfl⟩;simp[hv.aE,hv.refs,ab,I4.refs,az,I4.aE,aI];exact h
theorem Wk [eE] {f:FuncId} {s:St} {dst:Option Nat} {K:St->Prop} {tg:Tg K} {k k2 n:Nat} {c c3:ft} {c2:Bool} {A B:List PV} {v:PV} (hA:aL Pg f [.sl 1 [.sl 1 A false,.sl 1 B false] false] v)
  (hv:Pure v) (nJ:gf v=true) (hk:get s.bx k=some (.arr 1 A)) (yT:get s.bx k2=some (.box (.ar 1 32 B))) (cS:k≠k2) (hn:A.length=n) (hm:B.length=32) (I4:au A) (N6:au B)
  (h:K ({s with bx:=put (put s.bx k (.arr 1 A)) k2 (.box (.ar 1 32 B))}.put dst v)):ai Pg s dst f [.sl 1 [.rs k [] 0 n n 1 c,.rs k2 [] 0 32 0 1 c3] c2] K tg:=by
 subst hn;have kX:B.take 32=B:=by rw[←hm,JcX]
 refine ai.view [k,k2] [] [.arr 1 A,.box (.ar 1 32 B)] (bC:=[.sl 1 [.rs KB [] 0 A.length A.length 1 c,.rs (KB+1) [] 0 32 0 1 c3] false]) (args0:=[.sl 1 [.sl 1 A false,.sl 1 B false] false]) (cg:=[.arr 1 A,.box (.ar 1 32 B)]) hA (by simp[getAll,hk,yT]) (by simp[cS]) (by simp) (by simp[ah,af,bT,idx,cS]) (by simp[ab,af,I4.refs,N6.refs]) (by simp[aS,aE,bz,idx,cS]) (by simp[az,aE,I4.aE,N6.aE]) ?_ ?_ ?_
 ·refine⟨.inr (.inl ⟨1,_,[.sl 1 A false,.sl 1 B false],false,rfl,⟨.inr ⟨KB,[],0,A.length,A.length,1,c,A,rfl,?_,I4.refs _,by omega,rfl⟩,.inr ⟨KB+1,[],0,32,0,1,c3,B,rfl,?_,N6.refs _,by omega,rfl⟩,trivial⟩,rfl⟩),trivial⟩
  ·simp[av]
  ·simp[av,kX]
 ·rintro r new ⟨rfl,rfl⟩;exact⟨⟨nJ,by simp⟩,rfl⟩
 ·rintro r new ⟨rfl,rfl⟩;simp[hv.aE,hv.refs,ab,af,I4.refs,N6.refs,az,aE,I4.aE,N6.aE,aI];exact h
theorem amq [eE] {s:St} {d:Option Nat} {K:St->Prop} {k n:Nat} {L ys L':List PV} {c:ft} {c2:Bool} (hk:get s.bx k=some (.arr 1 L)) (hn:L.length=n) (hy:ys.length≤n) (hL:ys++L.drop ys.length=L')
  (h:K ({s with bx:=put s.bx k (.arr 1 L')}.put d (.int .i64 ys.length))):XX s d 1 (.rs k [] 0 n n 1 c) K (.sl 1 ys c2):=by
 have hm:min ys.length n=ys.length:=JdW hy;rw[zp,JW,hk];refine⟨.inr rfl,⟨hn.symm,rfl,rfl,rfl,by omega⟩,?_⟩;rw[hm,JnJ,JlQ,JcX,JhX,hL];exact h
def kx (key:List UInt8) (j:Nat):UInt8:=key.getD j 0
def xx (key:List UInt8) (c:UInt8) (i:Nat):Nat->UInt8:=λj=>if j<i then kx key j^^^c else kx key j
def um (key:List UInt8) (c:UInt8):List UInt8:=(List.range 64).map λj=>kx key j^^^c
theorem vQ (key:List UInt8) (c:UInt8):(um key c).length=64:=by simp[um]
theorem ZB (key:List UInt8) (c:UInt8):iB 64 (xx key c 64)=mB (um key c):=by
 rw[Iz (g:=λj=>kx key j^^^c) λj hj=>by simp only[xx];rw[if_pos hj],mB,um,List.map_map];rfl
def qq (key:List UInt8) (ps:List (List UInt8)):Key:=iU (um key 92++(iU (um key 54++ps.flatten)).l)
theorem u8x (x:UInt8) (c:UInt8) (k:Int) (hk:k=(c.toNat:Int)):bits .xor .u8 (x.toNat:Int) k=((x^^^c).toNat:Int):=by
 subst hk;rw[u8_xor_nat _ _ x.toNat_lt c.toNat_lt,UInt8.toNat_xor]
theorem Wl {key:List UInt8} (h:key.length≤64):key.map u8++(List.replicate 64 (PV.int .u8 0)).drop key.length=iB 64 (kx key):=by
 rw[List.drop_replicate];apply JkJ;intro i;by_cases hi:i<64
 ·rw[Gy _ hi];by_cases h1:i<key.length
  ·rw[List.getElem?_append_left (by simpa using h1),List.getElem?_map,gJ h1,kx,JaV,gJ h1];rfl
  ·rw[List.getElem?_append_right (by simp;omega),List.getElem?_replicate,if_pos (by simp;omega),kx,JaV,List.getElem?_eq_none (by omega)];rfl
 ·rw[List.getElem?_eq_none (by simp;omega),List.getElem?_eq_none (by simp;omega)]
theorem nu {key:List UInt8} (DO:key.length≤64) {ps:List (List UInt8)} (hn:ps.length≤1024) (h2:ps.flatten.length≤1048576):aL Pg 80 [aQ key,.sl 1 (ps.map aQ) false] (aG (qq key ps)):=by
 refine ae.intro (aC R.nu.2) (by simp[R.nu]) ?_;have qF:=Wl DO;have hle:¬(64:Int)<key.length:=by omega
 have hlm:(key.map u8).length=key.length:=JaX _;have x0:xx key 54 0=kx key:=by funext j;simp[xx]
 have x1:xx key 92 0=kx key:=by funext j;simp[xx]
 have G9:(List.replicate 64 (PV.int .u8 0)).length=64:=JcW;generalize hRz:List.replicate 64 (PV.int .u8 0)=Z at*;have hke:aQ key= .sl 1 (key.map u8) false:=rfl;simp[R.nu,aj,av,hle];refine lv.run [] rfl ?_;simp[hke,hRz,-zp,-List.reduceReplicate];refine amq (k:=17) (L':=iB 64 (kx key)) rfl G9 (by rw[hlm];exact DO) (by rw[hlm];exact qF) ?_;simp[-zp];refine amq (k:=18) (L':=iB 64 (kx key)) rfl G9 (by rw[hlm];exact DO) (by rw[hlm];exact qF) ?_;simp;refine eW.fM 64 (λ_=>True) [1,4,6,7,25] (λi=>[(25,.int .i64 i)]) (λi=>[(17,.arr 1 (iB 64 (xx key 54 i))),(18,.arr 1 (iB 64 (xx key 92 i)))]) [.keep [1,4,6,7,25]] ?_;simp[x0,x1];refine⟨λi hi K hK=> ?_,λK=> ?_⟩
 ·have hs:∀c:UInt8,iB 64 (xx key c (i+1))=(iB 64 (xx key c i)).set i (u8 (kx key i^^^c)):=λc=>by
   rw[ac6]
   exact Iz λj hj=>by
    simp only[upB,xx];by_cases h:j=i
    ·rw[if_pos h,if_pos (by omega),h]
    ·rw[if_neg h];by_cases h':j<i
     ·rw[if_pos h',if_pos (by omega)]
     ·rw[if_neg h',if_neg (by omega)]
  have hg:∀c:UInt8,(iB 64 (xx key c i))[i]? =some (u8 (kx key i)):=λc=>by
   rw[Gy _ hi];simp[xx]
  have hl:∀c:UInt8,(iB 64 (xx key c i)).length=64:=λc=>ac5 _ _;have ha:=hg 54;have hb:=hg 92;have la:=hl 54;have lb:=hl 92;rw[hs,hs]at hK;clear hs hg hl;have k1:=u8x (kx key i) 54 54 rfl;have k2:=u8x (kx key i) 92 92 rfl;simp only[u8]at*;generalize kx key i^^^54=p at*;generalize kx key i^^^92=q at*;generalize kx key i=y at*;generalize iB 64 (xx key 54 i)=U at*;generalize iB 64 (xx key 92 i)=V at*;have jR:(i:Int)<64:=by omega
  have w1:IntKind.i64.wrap ((i:Int)+1)=i+1:=wrap_i64 (by omega);simp[↓al,jR,ha,hb,la,lb,k1,k2,w1,-getElem?_pos];refine⟨[.keep [1,4,6,7,25]],?_⟩;simp;exact hK _ (by simp)
 ·have hj:ps.flatten.length≤1099511627776:=by omega
  have c1:=fh ps hj (by omega);have c2:=gv (ps:=[um key 54,ps.flatten]) (by simp) (by simp[vQ];omega) (by simp[vQ,-List.length_flatten];omega);have c3:=gv (ps:=[um key 92,(iU (um key 54++ps.flatten)).l]) (by simp) (by simp[vQ];omega) (by simp[vQ,(iU (um key 54++ps.flatten)).h]);have f2:[um key 54,ps.flatten].flatten=um key 54++ps.flatten:=by simp
  have f3:[um key 92,(iU (um key 54++ps.flatten)).l].flatten=um key 92++(iU (um key 54++ps.flatten)).l:=by simp
  rw[f2]at c2;rw[f3]at c3;have Ak:qq key ps=iU (um key 92++(iU (um key 54++ps.flatten)).l):=rfl;rw[←Ak]at c3;clear f2 f3 Ak;have a1:=ZB key 54;have a2:=ZB key 92;have p1:au (mB (um key 54)):=aF (λ_=>by simp[u8]) _;have p2:au (mB (um key 92)):=aF (λ_=>by simp[u8]) _;have p3:au (mB ps.flatten):=aF (λ_=>by simp[u8]) _;have q3:fP (mB ps.flatten)=mB ps.flatten:=mY (λ_=>by simp[u8]) _;have l1:(mB (um key 54)).length=64:=by rw[mB,JaX,vQ]
  have l2:(mB (um key 92)).length=64:=by rw[mB,JaX,vQ]
  have he:aQ ps.flatten= .sl 1 (mB ps.flatten) false:=rfl;have pV:aG (iU (um key 54++ps.flatten))= .ar 1 32 (mB (iU (um key 54++ps.flatten)).l):=rfl;have l4:(mB (iU (um key 54++ps.flatten)).l).length=32:=by rw[mB,JaX,(iU (um key 54++ps.flatten)).h]
  have p4:au (mB (iU (um key 54++ps.flatten)).l):=aF (λ_=>by simp[u8]) _;have n2:=dv (iU (um key 54++ps.flatten));have n3:=dv (qq key ps);change aL Pg 164 [.sl 1 [.sl 1 (mB (um key 54)) false,.sl 1 (mB ps.flatten) false] false] _ at c2;change aL Pg 164 [.sl 1 [.sl 1 (mB (um key 92)) false,.sl 1 (mB (iU (um key 54++ps.flatten)).l) false] false] _ at c3;rw[he]at c1;rw[a1,a2];generalize iU (um key 54++ps.flatten)=H at*;generalize qq key ps=R at*;simp[↓al];refine ai.ret c1 (by simp) (by simp) (by simp[p3]) ?_;simp[q3];refine Wj c2 (by simp) n2 (by simp) l1 p1 p3 q3 ?_;simp[pV];refine Wk c3 (by simp) n3 (by simp) (by simp) (by decide) l2 l4 p2 p4 ?_;simp;refine aA.plain [.keep [4],.dr 9] ?_;simp[af,p1.refs,p2.refs]
def Ki (key input:List UInt8):Key:=qq key [input]
def uh (key input:List UInt8):Key:=qq (Ki key input).l [[],[1]]
def Gf (key input:List UInt8):Key:=qq (Ki key input).l [(uh key input).l,[2]]
theorem ZC [eE] {f:FuncId} {s:St} {dst:Option Nat} {K:St->Prop} {tg:Tg K} {k:Nat} {pth:List Step} {M:PV} {c:ft} {c2:Bool} {L:List PV} {ls:List (List PV)} {v:PV} (hA:aL Pg f [.sl 1 L false,.sl 1 (ls.map λl=> .sl 1 l false) false] v)
  (hv:Pure v) (nJ:gf v=true) (hk:get s.bx k=some (.box M)) (hM:aO M pth=some (.ar 1 32 L)) (hl:L.length=32) (hMp:Pure M) (Tf:au L) (hp:∀l∈ls,au l∧fP l=l)
  (h:K ({s with bx:=put s.bx k (.box M)}.put dst v)):ai Pg s dst f [.rs k pth 0 32 0 1 c,.sl 1 (ls.map λl=> .sl 1 l false) c2] K tg:=by
 have kX:L.take 32=L:=by rw[←hl,JcX]
 have hP:au (ls.map λl=>PV.sl 1 l false):=au.mk' λq hq=>by
  obtain⟨l,hl,rfl⟩:=JgX.1 hq;simp[(hp l hl).1]
 have hW:fP (ls.map λl=>PV.sl 1 l false)=ls.map λl=>PV.sl 1 l false:=by
  clear hA hP h;induction ls with
  |nil=>rfl
  |cons a t ih=>simp only[JdX,fP];rw[ih λl hl=>hp l (by simp[hl])];simp[(hp a (by simp)).2]
 refine ai.view [k] [] [.box M] (bC:=[.rs KB pth 0 32 0 1 c,.sl 1 (ls.map λl=> .sl 1 l false) false]) (args0:=[.sl 1 L false,.sl 1 (ls.map λl=> .sl 1 l false) false]) (cg:=[.box M]) hA (by simp[getAll,hk]) (by simp) (by simp) (by simp[ah,af,bT,idx,hP.refs]) (by simp[ab,hMp.refs]) (by simp[aS,aE,bz,idx,hP.aE,hW]) (by simp[az,hMp.aE]) ?_ ?_ ?_
 ·refine⟨.inl (.inr ⟨KB,pth,0,32,0,1,c,L,rfl,?_,Tf.refs _,by omega,rfl⟩),.inl (.inl ⟨rfl,by simp[af,hP.refs]⟩),trivial⟩;simp[av,hM,kX]
 ·rintro r new ⟨rfl,rfl⟩;exact⟨⟨nJ,by simp⟩,rfl⟩
 ·rintro r new ⟨rfl,rfl⟩;simp[hv.aE,hv.refs,ab,hMp.refs,az,hMp.aE,aI];exact h
theorem amr [eE] {f:FuncId} {s:St} {dst:Option Nat} {K:St->Prop} {tg:Tg K} {k k2:Nat} {c c3:ft} {c2:Bool} {L A B:List PV} {v:PV} (hA:aL Pg f [.sl 1 L false,.sl 1 [.sl 1 A false,.sl 1 B false] false] v)
  (hv:Pure v) (nJ:gf v=true) (hk:get s.bx k=some (.box (.ar 1 32 L))) (yT:get s.bx k2=some (.box (.ar 1 32 A))) (cS:k≠k2) (hl:L.length=32) (hm:A.length=32) (Tf:au L) (I4:au A) (N6:au B) (hBw:fP B=B)
  (h:K ({s with bx:=put (put s.bx k (.box (.ar 1 32 L))) k2 (.box (.ar 1 32 A))}.put dst v)):ai Pg s dst f [.rs k [] 0 32 0 1 c,.sl 1 [.rs k2 [] 0 32 0 1 c3,.sl 1 B false] c2] K tg:=by
 have kX:L.take 32=L:=by rw[←hl,JcX]
 have av1:A.take 32=A:=by rw[←hm,JcX]
 refine ai.view [k,k2] [] [.box (.ar 1 32 L),.box (.ar 1 32 A)] (bC:=[.rs KB [] 0 32 0 1 c,.sl 1 [.rs (KB+1) [] 0 32 0 1 c3,.sl 1 B false] false]) (args0:=[.sl 1 L false,.sl 1 [.sl 1 A false,.sl 1 B false] false]) (cg:=[.box (.ar 1 32 L),.box (.ar 1 32 A)]) hA (by simp[getAll,hk,yT]) (by simp[cS]) (by simp) (by simp[ah,af,bT,idx,cS,N6.refs]) (by simp[ab,af,Tf.refs,I4.refs]) (by simp[aS,aE,bz,idx,cS,N6.aE,hBw]) (by simp[az,aE,Tf.aE,I4.aE]) ?_ ?_ ?_
 ·refine⟨.inl (.inr ⟨KB,[],0,32,0,1,c,L,rfl,?_,Tf.refs _,by omega,rfl⟩),.inr (.inl ⟨1,_,[.sl 1 A false,.sl 1 B false],false,rfl,⟨.inr ⟨KB+1,[],0,32,0,1,c3,A,rfl,?_,I4.refs _,by omega,rfl⟩,.inl ⟨rfl,by simp[af,N6.refs]⟩,trivial⟩,rfl⟩),trivial⟩
  ·simp[av,kX]
  ·simp[av,av1]
 ·rintro r new ⟨rfl,rfl⟩;exact⟨⟨nJ,by simp⟩,rfl⟩
 ·rintro r new ⟨rfl,rfl⟩;simp[hv.aE,hv.refs,ab,af,Tf.refs,I4.refs,az,aE,Tf.aE,I4.aE,aI];exact h
def mH (P:Program) [cK] [eE] (x:cq) (Q:Exit->St->Prop):Nat->Tg (x,Q)->St->Prop
 |0,_,s=>∀K:St->Prop,aw P x (AD Q K) s
 |n+1,_,s=>aw P x (AD Q λs'=>∃c:List Cut,iR c s' (mH P x Q n .mk)) s
theorem mH.G3 [cK] {P:Program} [eE] {s:St} {x:cq} {Q:Exit->St->Prop} {t:Tg (x,Q)} (n:Nat) (h:mH P x Q n .mk s):eW P x Q t s:=by
 refine⟨λm st=>mH P x Q m .mk st,[],⟨n,h⟩,?_⟩;intro m st hm;cases m with
 |zero=>exact hm _
 |
  succ m=>
  refine F3 (λe s' he=> ?_) hm
  cases e with
  |
   normal=>
   obtain⟨c,hc⟩:=he
   exact⟨c,ff c (λs0 hs=>⟨m,by omega,hs⟩) hc⟩
  |_=>exact he
theorem mH.z [cK] {P:Program} [eE] {s:St} {x:cq} {Q:Exit->St->Prop} {t:Tg (x,Q)} (h:∀K:St->Prop,aw P x (AD Q K) s):mH P x Q 0 t s:=h
theorem mH.s [cK] {P:Program} [eE] {s:St} {x:cq} {Q:Exit->St->Prop} {t:Tg (x,Q)} {n:Nat} (h:aw P x (AD Q λs'=>∃c:List Cut,iR c s' (mH P x Q n .mk)) s):mH P x Q (n+1) t s:=h
theorem iy (key:Key) {input:List UInt8} (hi:input.length≤1048576):uL Pg 29 [aQ key.l,aQ input,.int .i64 2] 32 [aG (uh key.l input),aG (Gf key.l input)]:=by
 refine ae.intro (aC R.iy.2) (by simp[R.iy]) ?_;have h0:=nu (key:=key.l) (by rw[key.h];omega) (ps:=[input]) (by simp) (by simpa using hi);have h1:=nu (key:=(Ki key.l input).l) (by rw[(Ki key.l input).h];omega) (ps:=[[],[1]]) (by simp) (by simp);have h2:=nu (key:=(Ki key.l input).l) (by rw[(Ki key.l input).h];omega) (ps:=[(uh key.l input).l,[2]]) (by simp) (by simp[(uh key.l input).h]);rw[show qq key.l [input]=Ki key.l input from rfl]at h0;rw[show qq (Ki key.l input).l [[],[1]]=uh key.l input from rfl]at h1;rw[show qq (Ki key.l input).l [(uh key.l input).l,[2]]=Gf key.l input from rfl]at h2;generalize Ki key.l input=kT at*;generalize uh key.l input=kA at*;generalize Gf key.l input=kB at*;simp[R.iy,aj,av];refine ai.rA h0 ?_;simp;refine mH.G3 2 (mH.s ?_);simp[↓al];have g1:aL Pg 80 [.sl 1 (mB kT.l) false,.sl 1 (([[],[.int .u8 1]]:List (List PV)).map λl=> .sl 1 l false) false] (aG kA):=h1;have lT:(mB kT.l).length=32:=by rw[mB,JaX,kT.h]
 have lA:(mB kA.l).length=32:=by rw[mB,JaX,kA.h]
 have pT:au (mB kT.l):=aF (λ_=>by simp[u8]) _;have pA:au (mB kA.l):=aF (λ_=>by simp[u8]) _;have nA:=dv kA;have nB:=dv kB;refine ZC (pth:=[]) (M:=aG kT) (L:=mB kT.l) (ls:=[[],[.int .u8 1]]) g1 (by simp) nA (by simp) (by simp;rfl) lT (by simp) pT (by simp) ?_;simp;refine⟨[.keep [0,1,2,6,7,8,9,22,23],.mv 11 90,.mv 37 91],?_⟩;simp[ze];refine mH.s ?_;simp[↓al];have g2:aL Pg 80 [.sl 1 (mB kT.l) false,.sl 1 [.sl 1 (mB kA.l) false,.sl 1 [.int .u8 2] false] false] (aG kB):=h2;refine amr g2 (by simp) nB (by simp;rfl) (by simp;rfl) (by decide) lT lA pT pA (by simp) (by simp) ?_;simp;refine⟨[.keep [0,1,2,6,8,22,23]],?_⟩;simp;refine mH.z ?_;simp[↓al];refine aA.with [.keep [6]] [91] ?_;simp[ab,ah,az,aS]
theorem Wm {x:UInt32} {k:Nat} (hk:k=16∨k=12∨k=8∨k=7):aL Pg 383 [.int .u32 (nU x),.int .i64 (k:Int)] (.int .u32 (nU (ro x (32-k)))):=by
 refine ae.intro (aC R.bt.2) (by simp[R.bt]) ?_;have Om:bits .and .u64 16 31=16:=by decide+kernel
 have Te:bits .and .u64 12 31=12:=by decide+kernel
 have h8:bits .and .u64 8 31=8:=by decide+kernel
 have h7:bits .and .u64 7 31=7:=by decide+kernel
 have w16:IntKind.u64.wrap 16=16:=by decide+kernel
 have w12:IntKind.u64.wrap 12=12:=by decide+kernel
 have w8:IntKind.u64.wrap 8=8:=by decide+kernel
 have w7:IntKind.u64.wrap 7=7:=by decide+kernel
 have v16:IntKind.u64.wrap 20=20:=by decide+kernel
 have v8:IntKind.u64.wrap 24=24:=by decide+kernel
 have v7:IntKind.u64.wrap 25=25:=by decide+kernel
 rcases hk with rfl|rfl|rfl|rfl
 ·have h:=IF x 16 65536 (by decide) rfl 65536 rfl;rw[oG]at h;simp[R.bt,aj,av,Om,w16,show IntKind.u32.bits=32 from rfl,h];refine aA.plain [] ?_;simp
 ·have h:=IF x 20 4096 (by decide) rfl 1048576 rfl;rw[oG]at h;simp[R.bt,aj,av,Te,w12,v16,show IntKind.u32.bits=32 from rfl,h];refine aA.plain [] ?_;simp
 ·have h:=IF x 24 256 (by decide) rfl 16777216 rfl;rw[oG]at h;simp[R.bt,aj,av,h8,w8,v8,show IntKind.u32.bits=32 from rfl,h];refine aA.plain [] ?_;simp
 ·have h:=IF x 25 128 (by decide) rfl 33554432 rfl;rw[oG]at h;simp[R.bt,aj,av,h7,w7,v7,show IntKind.u32.bits=32 from rfl,h];refine aA.plain [] ?_;simp
def qrA (a b c d:UInt32):UInt32:=a+b+ro (b^^^(c+ro (d^^^(a+b)) 16)) 20
def qrD (a b c d:UInt32):UInt32:=ro (ro (d^^^(a+b)) 16^^^qrA a b c d) 24
def qrC (a b c d:UInt32):UInt32:=c+ro (d^^^(a+b)) 16+qrD a b c d
def qrB (a b c d:UInt32):UInt32:=ro (ro (b^^^(c+ro (d^^^(a+b)) 16)) 20^^^qrC a b c d) 25
theorem II (a b c d:UInt32):aL Pg 389 [.int .u32 (nU a),.int .u32 (nU b),.int .u32 (nU c),.int .u32 (nU d)] (.tup [.int .u32 (nU (qrA a b c d)),.int .u32 (nU (qrB a b c d)),.int .u32 (nU (qrC a b c d)),.int .u32 (nU (qrD a b c d))]):=by
 refine ae.intro (aC R.qA.2) (by simp[R.qA]) ?_;have r16:∀z,aL Pg 383 [.int .u32 (nU z),.int .i64 16] (.int .u32 (nU (ro z 16))):=λz=>Wm (x:=z) (k:=16) (by simp);have r12:∀z,aL Pg 383 [.int .u32 (nU z),.int .i64 12] (.int .u32 (nU (ro z 20))):=λz=>Wm (x:=z) (k:=12) (by simp);have r8:∀z,aL Pg 383 [.int .u32 (nU z),.int .i64 8] (.int .u32 (nU (ro z 24))):=λz=>Wm (x:=z) (k:=8) (by simp);have r7:∀z,aL Pg 383 [.int .u32 (nU z),.int .i64 7] (.int .u32 (nU (ro z 25))):=λz=>Wm (x:=z) (k:=7) (by simp);simp[R.qA,aj,av,rU,nj];generalize ha1:a+b=a1;refine ai.rA (r16 (d^^^a1)) ?_;simp[rU,nj];generalize SY:ro (d^^^a1) 16=d1;generalize Bl:c+d1=c1;refine ai.rA (r12 (b^^^c1)) ?_;simp[rU,nj];generalize R6:ro (b^^^c1) 20=b1;generalize ha2:a1+b1=a2;refine ai.rA (r8 (d1^^^a2)) ?_;simp[rU,nj];generalize G7:ro (d1^^^a2) 24=d2;generalize yR:c1+d2=c2;refine ai.rA (r7 (b1^^^c2)) ?_;simp;refine aA.plain [] ?_;simp[qrA,qrB,qrC,qrD,ha1,SY,Bl,R6,ha2,G7,yR]
def qrU (v:Nat->UInt32) (a b c d:Nat):Nat->UInt32:=ox (ox (ox (ox v a (qrA (v a) (v b) (v c) (v d))) b (qrB (v a) (v b) (v c) (v d))) c (qrC (v a) (v b) (v c) (v d))) d (qrD (v a) (v b) (v c) (v d))
def hfA (v:Nat->UInt32):Nat->(Nat->UInt32)
 |0=>v
 |i+1=>qrU (hfA v i) i (4+i) (8+i) (12+i)
def hfB (v:Nat->UInt32):Nat->(Nat->UInt32)
 |0=>v
 |i+1=>qrU (hfB v i) i (4+(i+1)%4) (8+(i+2)%4) (12+(i+3)%4)
def ZD (v:Nat->UInt32):Nat->(Nat->UInt32)
 |0=>v
 |i+1=>hfB (hfA (ZD v i) 4) 4
theorem amu (v:Nat->UInt32):aL Pg 377 [.ar 1 16 (uW 16 v)] (.ar 1 16 (uW 16 (ZD v 10))):=by
 refine ae.intro T.oH (by simp[F.oH]) ?_;simp[F.oH,aj,av,zU];refine eW.fM 10 (λ_=>True) [2,3,10] (λi=>[(10,.int .i64 i)]) (λi=>[(3,.box (.ar 1 16 (uW 16 (ZD v i))))]) [.keep [2,3,10],.dr 1] ?_;simp;refine⟨rfl,λi hi K hK=> ?_,λK=> ?_⟩
 ·have jR:(i:Int)<10:=by omega
  have wi:IntKind.i64.wrap ((i:Int)+1)=i+1:=wrap_i64 (by omega);rw[ZD]at hK;generalize ZD v i=u at*;simp[↓al,jR];refine eW.fM 4 (λ_=>True) [2,3,10,12] (λj=>[(12,.int .i64 j)]) (λj=>[(3,.box (.ar 1 16 (uW 16 (hfA u j))))]) [.keep [2,3,10,12]] ?_;simp;refine⟨rfl,λj hj K1 hK1=> ?_,λK1=> ?_⟩
  ·have Jf:(j:Int)<4:=by omega
   have wj:IntKind.i64.wrap ((j:Int)+1)=j+1:=wrap_i64 (by omega);have w4:IntKind.i64.wrap (4+(j:Int))=((4+j:Nat):Int):=by rw[wrap_i64 (by omega)];omega
   have w8:IntKind.i64.wrap (8+(j:Int))=((8+j:Nat):Int):=by rw[wrap_i64 (by omega)];omega
   have w12:IntKind.i64.wrap (12+(j:Int))=((12+j:Nat):Int):=by rw[wrap_i64 (by omega)];omega
   rw[hfA]at hK1;generalize hfA u j=x at*;have ha:j<16:=by omega
   have hb:4+j<16:=by omega
   have hc:8+j<16:=by omega
   have hd:12+j<16:=by omega
   have ga:=λf:Nat->UInt32=>du (n:=16) f ha;have gb:=λf:Nat->UInt32=>du (n:=16) f hb;have gc:=λf:Nat->UInt32=>du (n:=16) f hc;have gd:=λf:Nat->UInt32=>du (n:=16) f hd;have IZ:(j:Int)<16:=by omega
   have sN:((4+j:Nat):Int)<16:=by omega
   have GP:((8+j:Nat):Int)<16:=by omega
   have Bo:((12+j:Nat):Int)<16:=by omega
   have hq:=II (x j) (x (4+j)) (x (8+j)) (x (12+j));have hu:ox (ox (ox (ox x j (qrA (x j) (x (4+j)) (x (8+j)) (x (12+j)))) (4+j) (qrB (x j) (x (4+j)) (x (8+j)) (x (12+j)))) (8+j) (qrC (x j) (x (4+j)) (x (8+j)) (x (12+j)))) (12+j) (qrD (x j) (x (4+j)) (x (8+j)) (x (12+j)))=qrU x j (4+j) (8+j) (12+j):=rfl;simp[↓al,Jf];refine lv.run [3] rfl ?_;simp[w4,w8,w12,IZ,sN,GP,Bo,ga,gb,gc,gd,-getElem?_pos,-Int.natCast_add];refine aM.rA hq ?_;simp[IZ,sN,GP,Bo,wj,ga,gb,gc,gd,kj,hu,-getElem?_pos,-Int.natCast_add];refine⟨[.keep [2,3,10,12]],?_⟩;simp;exact hK1 _ (by simp)
  ·simp[↓al];refine eW.fM 4 (λ_=>True) [2,3,10,48] (λj=>[(48,.int .i64 j)]) (λj=>[(3,.box (.ar 1 16 (uW 16 (hfB (hfA u 4) j))))]) [.keep [2,3,10,48]] ?_;simp;refine⟨rfl,λj hj K2 qQ=> ?_,λK2=> ?_⟩
   ·have Jf:(j:Int)<4:=by omega
    have wj:IntKind.i64.wrap ((j:Int)+1)=j+1:=wrap_i64 (by omega);have v1:IntKind.i64.wrap ((j:Int)+1)=((j+1:Nat):Int):=by rw[wrap_i64 (by omega)];omega
    have v2:IntKind.i64.wrap ((j:Int)+2)=((j+2:Nat):Int):=by rw[wrap_i64 (by omega)];omega
    have v3:IntKind.i64.wrap ((j:Int)+3)=((j+3:Nat):Int):=by rw[wrap_i64 (by omega)];omega
    have tm:∀n:Nat,(n:Int).tmod 4=((n%4:Nat):Int):=λn=>by rw[JlX (by omega)];omega
    have w4:IntKind.i64.wrap (4+(((j+1)%4:Nat):Int))=((4+(j+1)%4:Nat):Int):=by rw[wrap_i64 (by omega)];omega
    have w8:IntKind.i64.wrap (8+(((j+2)%4:Nat):Int))=((8+(j+2)%4:Nat):Int):=by rw[wrap_i64 (by omega)];omega
    have w12:IntKind.i64.wrap (12+(((j+3)%4:Nat):Int))=((12+(j+3)%4:Nat):Int):=by rw[wrap_i64 (by omega)];omega
    rw[hfB]at qQ;generalize hfB (hfA u 4) j=x at*;have ha:j<16:=by omega
    have IZ:(j:Int)<16:=by omega
    obtain⟨jb,hjb,hb⟩:∃b,b=4+(j+1)%4∧b<16:=⟨_,rfl,by omega⟩
    obtain⟨jc,Td,hc⟩:∃b,b=8+(j+2)%4∧b<16:=⟨_,rfl,by omega⟩
    obtain⟨jd,hjd,hd⟩:∃b,b=12+(j+3)%4∧b<16:=⟨_,rfl,by omega⟩
    rw[←hjb]at w4 qQ;rw[←Td]at w8 qQ;rw[←hjd]at w12 qQ;have sN:(jb:Int)<16:=by omega
    have GP:(jc:Int)<16:=by omega
    have Bo:(jd:Int)<16:=by omega
    have ga:=λf:Nat->UInt32=>du (n:=16) f ha;have gb:=λf:Nat->UInt32=>du (n:=16) f hb;have gc:=λf:Nat->UInt32=>du (n:=16) f hc;have gd:=λf:Nat->UInt32=>du (n:=16) f hd;have hq:=II (x j) (x jb) (x jc) (x jd);have hu:ox (ox (ox (ox x j (qrA (x j) (x jb) (x jc) (x jd))) jb (qrB (x j) (x jb) (x jc) (x jd))) jc (qrC (x j) (x jb) (x jc) (x jd))) jd (qrD (x j) (x jb) (x jc) (x jd))=qrU x j jb jc jd:=rfl;clear hjb Td hjd;simp[↓al,Jf,v1,v2,v3,tm,w4,w8,w12,IZ,sN,GP,Bo,ga,gb,gc,gd,-getElem?_pos,-Int.natCast_add,-Int.natCast_emod];refine aM.rA hq ?_;simp[IZ,sN,GP,Bo,wj,ga,gb,gc,gd,kj,hu,-getElem?_pos,-Int.natCast_add];refine⟨[.keep [2,3,10,48]],?_⟩;simp;exact qQ _ (by simp)
   ·simp[↓al,wi];refine⟨[.keep [2,3,10]],?_⟩;simp;exact hK _ (by simp)
 ·simp[↓al];refine aA.plain [] ?_;simp
def cc0:Nat->UInt32:=λi=>if i=0 then 1634760805 else if i=1 then 857760878 else if i=2 then 2036477234 else if i=3 then 1797285236 else 0
def SV (k:List UInt8) (n:Nat):Nat->UInt32:=λi=>if 4≤i∧i<4+n then tf k (i-4)else cc0 i
def NC (k:List UInt8) (c:UInt32) (no:List UInt8) (n:Nat):Nat->UInt32:=λi=>if 13≤i∧i<13+n then tf no (i-13)else if i=12 then c else SV k 8 i
def Wn (k:List UInt8) (c:UInt32) (no:List UInt8):Nat->UInt32:=λi=>ZD (NC k c no 3) 10 i+NC k c no 3 i
def Dx (k:List UInt8) (c:UInt32) (no:List UInt8):List UInt8:=xu (Wn k c no) 16
theorem Dy (k:List UInt8) (c:UInt32) (no:List UInt8):(Dx k c no).length=64:=oi _ 16
theorem at0:zr 16 (PV.int IntKind.u32 0)=[.int .u32 0,.int .u32 0,.int .u32 0,.int .u32 0,.int .u32 0,.int .u32 0,.int .u32 0,.int .u32 0,.int .u32 0,.int .u32 0,.int .u32 0,.int .u32 0,.int .u32 0,.int .u32 0,.int .u32 0,.int .u32 0]:=by rw[cm];rfl
theorem z64:zr 64 (PV.int IntKind.u8 0)=zB 64:=by rw[cm];rfl
def ji (n:List UInt8):PV:= .ar 1 12 (n.map u8)
theorem ZE (l:List UInt8) {i:Nat} (h:4*i+4≤l.length):aL Pg 207 [.sl 1 (((l.drop (4*i)).take 4).map u8) false] (.int .u64 (sP ((l.drop (4*i)).take 4) 4:Nat)):=by
 have hl:((l.drop (4*i)).take 4).length=4:=by rw[lJ,JbV];omega
 have:=dx (l:=(l.drop (4*i)).take 4) (by omega);rw[hl]at this;exact this
theorem amv [eE] {s:St} {d:Option Nat} {K:St->Prop} {k n off len:Nat} {L ys L':List PV} {c:ft} {c2:Bool} (hk:get s.bx k=some (.box (.ar 1 n L))) (h1:off+len≤n)
  (hL:L.take off++ys.take (min ys.length len)++L.drop (off+min ys.length len)=L') (h:K ({s with bx:=put s.bx k (.box (.ar 1 n L'))}.put d (.int .i64 (min ys.length len:Nat)))):XX s d 1 (.rs k [] off len 0 1 c) K (.sl 1 ys c2):=by
 rw[zp,JW,hk];show _∧bF (bO (PV.ar 1 n L) [] (PV.ar 1 n _)) _;rw[show∀X,bO (PV.ar 1 n L) [] (PV.ar 1 n X)=some (PV.ar 1 n X) from λX=>if_pos rfl];refine⟨.inr rfl,⟨rfl,rfl,rfl,h1⟩,?_⟩;rw[hL];exact h
theorem Q1 {k:List UInt8} (hk:k.length=32) (c:UInt32) {no:List UInt8} (hn:no.length=12):
  aL Pg 355 [.ar 1 32 (k.map u8),.int .u32 (nU c),ji no] (.ar 1 64 ((Dx k c no).map u8)):=by
 refine ae.intro (aC R.tB.2) (by simp[R.tB]) ?_;have wv:au (k.map u8):=aF (λ_=>by simp[u8]) _;have hpn:au (no.map u8):=aF (λ_=>by simp[u8]) _;have e0:[PV.int .u32 1634760805,.int .u32 857760878,.int .u32 2036477234,.int .u32 1797285236,.int .u32 0,.int .u32 0,.int .u32 0,.int .u32 0,.int .u32 0,.int .u32 0,.int .u32 0,.int .u32 0,.int .u32 0,.int .u32 0,.int .u32 0,.int .u32 0]=uW 16 cc0:=rfl;have ezk:([PV.int .u32 0,.int .u32 0,.int .u32 0,.int .u32 0,.int .u32 0,.int .u32 0,.int .u32 0,.int .u32 0,.int .u32 0,.int .u32 0,.int .u32 0,.int .u32 0,.int .u32 0,.int .u32 0,.int .u32 0,.int .u32 0]:List PV)=uW 16 λ_=>0:=rfl;have k0:uW 16 (SV k 0)=uW 16 cc0:=lI λj _=>by unfold SV;rw[if_neg (by omega)]
 simp[R.tB,aj,av,ji,at0,z64,e0];refine eW.fM 8 (λ_=>True) [1,3,5,6,7,15] (λi=>[(15,.int .i64 i)]) (λi=>[(7,.box (.ar 1 16 (uW 16 (SV k i))))]) [.keep [1,3,5,6,7,15]] ?_;simp[k0];refine⟨λi hi K hK=> ?_,λK=> ?_⟩
 ·have jR:(i:Int)<8:=by omega
  have wi:IntKind.i64.wrap ((i:Int)+1)=i+1:=wrap_i64 (by omega);have w4:IntKind.i64.wrap (4+(i:Int))=((4+i:Nat):Int):=by rw[wrap_i64 (by omega)];omega
  have w5:IntKind.i64.wrap (4*(i:Int))=((4*i:Nat):Int):=by rw[wrap_i64 (by omega)];omega
  have w6:IntKind.i64.wrap (((4*i:Nat):Int)+4)=((4*i+4:Nat):Int):=by rw[wrap_i64 (by omega)];omega
  have Om:((4+i:Nat):Int)<16:=by omega
  have h32:((4*i+4:Nat):Int)≤32:=by omega
  have hs:uW 16 (ox (SV k i) (4+i) (tf k i))=uW 16 (SV k (i+1)):=lI λj hj=>by
   simp only[ox,SV];by_cases h:j=4+i
   ·rw[if_pos h,if_pos (by omega),show j-4=i by omega]
   ·rw[if_neg h];by_cases h':4≤j∧j<4+i
    ·rw[if_pos h',if_pos (by omega)]
    ·rw[if_neg h',if_neg (by omega)]
  have hT:=du (n:=16) (SV k i) (i:=4+i) (by omega);have hrd:=ZE k (i:=i) (by omega);have hd:((k.map u8).drop (4*i)).take 4=((k.drop (4*i)).take 4).map u8:=by rw[JfQ,JjW]
  rw[←hs,←kj,show tf k i=UInt32.ofNat (sP ((k.drop (4*i)).take 4) 4) from rfl,←yI]at hK;simp[↓al,jR,w4,w5,w6,h32,-Int.natCast_add,-Int.natCast_mul];refine ai.vw (N:=32) hrd (by simp) wv (aF (λ_=>by simp[u8]) _) (by omega) hd (by simp) rfl ?_;simp[Om,hT,wi,-getElem?_pos,-Int.natCast_add,-Int.natCast_mul];refine⟨[.keep [1,3,5,6,7,15]],?_⟩;simp;exact hK _ (by simp)
 have hT:=du (n:=16) (SV k 8) (i:=12) (by omega)
 have hs:uW 16 (ox (SV k 8) 12 c)=uW 16 (NC k c no 0):=lI λj hj=>by
  simp only[ox,NC];rw[if_neg (by omega:¬(13≤j∧j<13+0))]
 simp[↓al,hT,kj,hs,-getElem?_pos];refine eW.fM 3 (λ_=>True) [3,5,6,7,32] (λi=>[(32,.int .i64 i)]) (λi=>[(7,.box (.ar 1 16 (uW 16 (NC k c no i))))]) [.keep [3,5,6,7,32]] ?_;simp;refine⟨λi hi K hK=> ?_,λK=> ?_⟩
 ·have jR:(i:Int)<3:=by omega
  have wi:IntKind.i64.wrap ((i:Int)+1)=i+1:=wrap_i64 (by omega);have w4:IntKind.i64.wrap (13+(i:Int))=((13+i:Nat):Int):=by rw[wrap_i64 (by omega)];omega
  have w5:IntKind.i64.wrap (4*(i:Int))=((4*i:Nat):Int):=by rw[wrap_i64 (by omega)];omega
  have w6:IntKind.i64.wrap (((4*i:Nat):Int)+4)=((4*i+4:Nat):Int):=by rw[wrap_i64 (by omega)];omega
  have Om:((13+i:Nat):Int)<16:=by omega
  have h32:((4*i+4:Nat):Int)≤12:=by omega
  have hs:uW 16 (ox (NC k c no i) (13+i) (tf no i))=uW 16 (NC k c no (i+1)):=lI λj hj=>by
   simp only[ox,NC];by_cases h:j=13+i
   ·rw[if_pos h,if_pos (by omega),show j-13=i by omega]
   ·rw[if_neg h];by_cases h':13≤j∧j<13+i
    ·rw[if_pos h',if_pos (by omega)]
    ·rw[if_neg h',if_neg (show¬(13≤j∧j<13+(i+1)) by omega)]
  have hT:=du (n:=16) (NC k c no i) (i:=13+i) (by omega);have hrd:=ZE no (i:=i) (by omega);have hd:((no.map u8).drop (4*i)).take 4=((no.drop (4*i)).take 4).map u8:=by rw[JfQ,JjW]
  rw[←hs,←kj,show tf no i=UInt32.ofNat (sP ((no.drop (4*i)).take 4) 4) from rfl,←yI]at hK;simp[↓al,jR,w4,w5,w6,h32,-Int.natCast_add,-Int.natCast_mul];refine ai.vw (N:=12) hrd (by simp) hpn (aF (λ_=>by simp[u8]) _) (by omega) hd (by simp) rfl ?_;simp[Om,hT,wi,-getElem?_pos,-Int.natCast_add,-Int.natCast_mul];refine⟨[.keep [3,5,6,7,32]],?_⟩;simp;exact hK _ (by simp)
 have hC:=amu (NC k c no 3);have hB:∀i,Wn k c no i=ZD (NC k c no 3) 10 i+NC k c no 3 i:=λ_=>rfl;rw[show Dx k c no=xu (Wn k c no) 16 from rfl];generalize NC k c no 3=A at*;generalize ZD A 10=B at*;generalize Wn k c no=R at*;simp[↓al];refine ai.rA hC ?_;simp;have hz:∀i,i≤16->((xu R i).map u8++zB (64-4*i)).length=64:=λi hi=>by rw[JaJ,JaX,oi,zB,JcW];omega
 refine eW.fM 16 (λ_=>True) [6,10,11,49,50] (λi=>[(50,.int .i64 i)]) (λi=>[(11,.box (.ar 1 64 ((xu R i).map u8++zB (64-4*i))))]) [.keep [6,10,11,49,50]] ?_;simp[show xu R 0=[] from rfl];refine⟨λi hi K hK=> ?_,λK=> ?_⟩
 ·have jR:(i:Int)<16:=by omega
  have wi:IntKind.i64.wrap ((i:Int)+1)=i+1:=wrap_i64 (by omega);have w5:IntKind.i64.wrap (4*(i:Int))=((4*i:Nat):Int):=by rw[wrap_i64 (by omega)];omega
  have h64:((4*i:Nat):Int)≤64:=by omega
  have gA:=du (n:=16) A hi;have gB:=du (n:=16) B hi;have hw:IntKind.u64.wrap (nU (R i))=(((R i).toNat:Nat):Int):=by rw[nU,wrap_u64];have:=(R i).toNat_lt;omega
  have hL:=cD (n:=(R i).toNat) (k:=4) (by omega) (by omega);simp[↓al,jR,w5,h64,gA,gB,rU,←hB,hw,-getElem?_pos,-Int.natCast_mul,-Int.natCast_add];refine aM.rA hL ?_;simp[-zp];refine amv (k:=11) (L':=(xu R (i+1)).map u8++zB (64-4*(i+1))) rfl (by omega) ?_ ?_
  ·have l1:((xu R i).map u8).length=4*i:=by rw[JaX,oi]
   have l2:((cG (R i).toNat 4).map u8).length=4:=by rw[JaX,db]
   rw[l2,show min 4 (64-4*i)=4 by omega,JrV l1,tJ (by omega),List.drop_append,JgV (by omega),l1,JqZ,BK,xu,JeV,JlQ,show 64-4*i-4=64-4*(i+1) by omega]
  simp[wi];refine⟨[.keep [6,10,11,49,50]],?_⟩;simp;exact hK _ (by simp)
 ·have e:(xu R 16).map u8++zB (64-4*16)=(xu R 16).map u8:=by simp[zB]
  simp[↓al,e];refine aA.plain [] ?_;simp
theorem Dz (a:Int):∃n:Nat,n<18446744073709551616∧IntKind.u64.wrap a=(n:Int):=by
 have h:0≤IntKind.u64.wrap a∧IntKind.u64.wrap a<18446744073709551616:=by constructor<;>simp[IntKind.wrap,IntKind.bits,IntKind.signed]<;>omega
 exact⟨(IntKind.u64.wrap a).toNat,by omega,by omega⟩
theorem bits_nat (op:BinOp) (a b:Int):∃n:Nat,n<18446744073709551616∧bits op .u64 a b=(n:Int):=Dz _
theorem xm {x y c:Nat} (hx:x<18446744073709551616) (hy:y<18446744073709551616) (hc:c≤1):∃s d:Nat,(s<18446744073709551616∧d≤1)∧aL Pg 362 [.int .u64 x,.int .u64 y,.int .u64 c] (.tup [.int .u64 s,.int .u64 d]):=
 ⟨_,_,⟨JdZ _ (by decide),by omega⟩,bits_Add64 x y c hc⟩
theorem Kj {x y c:Nat} (hc:c≤1):∃s d:Nat,(s<18446744073709551616∧d≤1)∧aL Pg 392 [.int .u64 x,.int .u64 y,.int .u64 c] (.tup [.int .u64 s,.int .u64 d]):=by
 refine⟨_,if x<y+c then 1 else 0,⟨JdZ (x+18446744073709551616-y-c) (by decide),by split<;>omega⟩,aL.pair λw=> ?_⟩;rw[run_callFunc_extern (fn:=(Pg.funcs[392]?).getD default) (by kernel_rfl) (by kernel_rfl) (by kernel_rfl) (by kernel_rfl) (e:=Go.Proofs.sub64Entry) (by kernel_rfl),Go.Proofs.run_sub64 x y c hc];rfl
structure wo where
 a:Nat
 b:Nat
 c:Nat
 ha:a<18446744073709551616
 hb:b<18446744073709551616
 hc:c<18446744073709551616
def wo.e (h:wo):PV:= .ar 1 3 [.int .u64 h.a,.int .u64 h.b,.int .u64 h.c]
structure ND where
 a:Nat
 b:Nat
 ha:a<18446744073709551616
 hb:b<18446744073709551616
def ND.e (h:ND):PV:= .st 2 [.int .u64 h.a,.int .u64 h.b]
theorem z3:zr 3 (PV.int IntKind.u64 0)=[.int .u64 0,.int .u64 0,.int .u64 0]:=by rw[cm];rfl
theorem E8 {x y:Nat} (hx:x<18446744073709551616) (hy:y<18446744073709551616):∃w:ND,aL Pg 390 [.int .u64 x,.int .u64 y] w.e:=by
 refine⟨⟨x*y/18446744073709551616,x*y%18446744073709551616,?_,JdZ _ (by decide)⟩,?_⟩
 ·have:=Nat.mul_lt_mul'' hx hy;exact Nat.div_lt_of_lt_mul this
 refine ae.intro (aC R.tD.2) (by simp[R.tD]) ?_;have hm:=bits_Mul64 hx hy;simp[R.tD,aj,av];refine ai.rA hm ?_;simp;refine aA.plain [] ?_;simp[ND.e]
theorem ZF (a b:ND):∃w:ND,aL Pg 391 [a.e,b.e] w.e:=by
 obtain⟨s,c,⟨hs,hc⟩,k1⟩:=xm a.hb b.hb (c:=0) (by omega);obtain⟨t,d,⟨ht,hd⟩,k2⟩:=xm a.ha b.ha hc;refine⟨⟨t,s,ht,hs⟩,?_⟩;refine ae.intro (aC R.qB.2) (by simp[R.qB]) ?_;simp[R.qB,aj,av,ND.e];refine ai.rA k1 ?_;simp;refine ai.rA k2 ?_;simp;refine aA.plain [] ?_;simp
theorem Wo (h:wo) (x:ND):∃w:wo,aL Pg 380 [h.e,x.e] w.e:=by
 obtain⟨s,c,⟨hs,hc⟩,k1⟩:=xm h.ha x.hb (c:=0) (by omega);obtain⟨t,d,⟨ht,hd⟩,k2⟩:=xm h.hb x.ha hc;obtain⟨u,hu,hw⟩:=Dz ((h.c:Int)+d);refine⟨⟨s,t,u,hs,ht,hu⟩,?_⟩;refine ae.intro (aC R.oZ.2) (by simp[R.oZ]) ?_;simp[R.oZ,aj,av,ND.e,wo.e,z3];refine ai.rA k1 ?_;simp;refine ai.rA k2 ?_;simp[hw];refine aA.plain [] ?_;simp
theorem adg (h:wo) {r0 r1:Nat} (h0:r0<18446744073709551616) (h1:r1<18446744073709551616):∃w:wo,aL Pg 381 [h.e,.int .u64 r0,.int .u64 r1] w.e:=by
 obtain⟨m0,a0⟩:=E8 h.ha h0;obtain⟨m1,a1⟩:=E8 h.hb h0;obtain⟨n1,b1⟩:=E8 h.ha h1;obtain⟨p1,c1⟩:=ZF m1 n1;obtain⟨m2,a2⟩:=E8 h.hc h0;obtain⟨n2,b2⟩:=E8 h.hb h1;obtain⟨p2,c2⟩:=ZF m2 n2;obtain⟨m3,a3⟩:=E8 h.hc h1;obtain⟨t1,d1,⟨ht1,SY⟩,k1⟩:=xm p1.hb m0.ha (c:=0) (by omega);obtain⟨t2,d2,⟨Hc,G7⟩,k2⟩:=xm p2.hb p1.ha SY;obtain⟨t3,d3,⟨ht3,hd3⟩,k3⟩:=xm m3.hb p2.ha G7;obtain⟨u1,Xa,e1⟩:=bits_nat .and t2 3;obtain⟨u2,hu2,e2⟩:=bits_nat .andNot t2 3;obtain⟨u3,hu3,e3⟩:=bits_nat .or (IntKind.u64.wrap ((t3:Int)*4611686018427387904)) ((t2:Int).fdiv 4);obtain⟨q,hq⟩:=Wo ⟨m0.b,t1,u1,m0.hb,ht1,Xa⟩ ⟨t3,u2,ht3,hu2⟩;have e4:(t3:Int).fdiv 4=((t3/4:Nat):Int):=by rw[JgW _ (by decide)];omega
 obtain⟨z,hz⟩:=Wo q ⟨t3/4,u3,by omega,hu3⟩;refine⟨z,?_⟩;refine ae.intro T.ij (by simp[F.ij]) ?_;simp[F.ij,aj,av,wo.e,z3];simp[wo.e,ND.e]at*;refine ai.rA a0 ?_;simp;refine lv.run [8] rfl ?_;simp;refine aM.rA a1 ?_;simp;refine aM.rA b1 ?_;simp;refine aM.rA c1 ?_;simp;refine lv.run [9] rfl ?_;simp;refine aM.rA a2 ?_;simp;refine aM.rA b2 ?_;simp;refine aM.rA c2 ?_;simp;refine ai.rA a3 ?_;simp;refine ai.rA k1 ?_;simp;refine ai.rA k2 ?_;simp;refine ai.rA k3 ?_;simp[e1,e2];refine ai.rA hq ?_;simp[show IntKind.u64.bits=64 from rfl,e3,e4];refine ai.rA hz ?_;simp;refine aA.plain [] ?_;simp
theorem at2 (h:wo):∃w:wo,aL Pg 382 [h.e] w.e:=by
 obtain⟨s,c,⟨hs,hc⟩,k1⟩:=Kj (x:=h.a) (y:=18446744073709551611) (c:=0) (by omega);obtain⟨t,d,⟨ht,hd⟩,k2⟩:=Kj (x:=h.b) (y:=18446744073709551615) hc;obtain⟨u,e,⟨hu,he⟩,k3⟩:=Kj (x:=h.c) (y:=3) hd;refine⟨if e=1 then h else⟨s,t,u,hs,ht,hu⟩,?_⟩;refine ae.intro (aC R.iM.2) (by simp[R.iM]) ?_;by_cases h1:e=1
 ·have RP:(e:Int)=1:=by omega
  simp[R.iM,aj,av,wo.e,z3,h1];refine ai.rA k1 ?_;simp;refine ai.rA k2 ?_;simp;refine ai.rA k3 ?_;simp[RP];refine aA.plain [] ?_;simp
 ·have RP:¬(e:Int)=1:=by omega
  simp[R.iM,aj,av,wo.e,z3,h1];refine ai.rA k1 ?_;simp;refine ai.rA k2 ?_;simp;refine ai.rA k3 ?_;simp[RP];refine aA.plain [] ?_;simp
@[simp] theorem amw (h:wo):h.e.width=3:=rfl
@[simp] theorem at3 (h:wo):h.e.isAgg=true:=rfl
@[simp] theorem aqT (h:wo):h.e.aT=true:=rfl
@[simp] theorem aqU (h:wo):h.e.flat=true:=rfl
@[simp] theorem aqV (h:wo):Pure h.e:=by simp[wo.e]
@[simp] theorem awR (h:wo):wk h.e=h.e:=by simp[wo.e]
@[simp↓] theorem at4 (g:Bool) (h:wo) (K:PV->Prop):ei g h.e K=K h.e:=_root_.id rfl
def Kk (d:List UInt8):List UInt8:=d.take 16++1::List.replicate (23-min 16 d.length) 0
theorem Wp (d:List UInt8):(Kk d).length=24:=by simp[Kk];omega
def wu (l:List UInt8) (i:Nat):Nat:=sP ((l.drop i).take 8) 8
theorem vR (l:List UInt8) (i:Nat):wu l i<18446744073709551616:=Gw _ 8
theorem rd8 (l:List UInt8) {i:Nat} (h:i+8≤l.length):aL Pg 207 [.sl 1 (((l.drop i).take 8).map u8) false] (.int .u64 (wu l i)):=by
 have hl:((l.drop i).take 8).length=8:=by rw[lJ,JbV];omega
 have:=dx (l:=(l.drop i).take 8) (by omega);rw[hl]at this;exact this
def Rnd (r0 r1:Nat) (h:wo) (p:List UInt8) (w:wo):Prop:=
 ∃
  (w1:wo) (u:Nat) (hu:u<18446744073709551616),aL Pg 380 [h.e,(ND.mk (wu p 8) (wu p 0) (vR p 8) (vR p 0)).e] w1.e∧IntKind.u64.wrap ((w1.c:Int)+(wu p 16:Nat))=u∧
  aL Pg 381 [(wo.mk w1.a w1.b u w1.ha w1.hb hu).e,.int .u64 r0,.int .u64 r1] w.e
theorem Q2 {r0 r1:Nat} (h0:r0<18446744073709551616) (h1:r1<18446744073709551616) (h:wo) (p:List UInt8):∃w,Rnd r0 r1 h p w:=by
 obtain⟨w1,k1⟩:=Wo h (ND.mk (wu p 8) (wu p 0) (vR p 8) (vR p 0));obtain⟨u,hu,e⟩:=Dz ((w1.c:Int)+(wu p 16:Nat));obtain⟨w,k2⟩:=adg ⟨w1.a,w1.b,u,w1.ha,w1.hb,hu⟩ h0 h1;exact⟨w,w1,u,hu,k1,e,k2⟩
def zW3:wo:=⟨0,0,0,by decide,by decide,by decide⟩
def Q3 (f:wo->List UInt8->wo) (d:List UInt8):Nat->wo
 |0=>zW3
 |i+1=>f (Q3 f d i) (Kk (d.drop (16*i)))
theorem at5 {k:List UInt8} (hk:k.length=32) {d:List UInt8} (hd:d.length≤1000000):∃t:List UInt8,t.length=16∧aL Pg 356 [.ar 1 32 (k.map u8),aQ d] (.ar 1 16 (t.map u8)):=by
 have wv:au (k.map u8):=aF (λ_=>by simp[u8]) _;have wB:∀l:List UInt8,au (l.map u8):=λl=>aF (λ_=>by simp[u8]) _;obtain⟨r0,hr0,e0⟩:=bits_nat .and (wu k 0) 1152921487695413247;obtain⟨r1,sQ,e1⟩:=bits_nat .and (wu k 8) 1152921487695413244;obtain⟨f,hf⟩:∃f:wo->List UInt8->wo,∀h p,Rnd r0 r1 h p (f h p):=⟨λh p=>Classical.choose (Q2 hr0 sQ h p),λh p=>Classical.choose_spec (Q2 hr0 sQ h p)⟩
 obtain⟨n,hn⟩:∃n,n=(d.length+15)/16:=⟨_,rfl⟩
 obtain⟨q,hq⟩:=at2 (Q3 f d n);obtain⟨z,hz⟩:=Wo q (ND.mk (wu k 24) (wu k 16) (vR k 24) (vR k 16));refine⟨cG z.a 8++cG z.b 8,by simp[db],?_⟩;refine ae.intro T.vi (by simp[F.vi]) ?_;have kd:∀i,((k.map u8).drop i).take 8=((k.drop i).take 8).map u8:=λi=>by rw[JfQ,JjW]
 have Si:zr 16 (PV.int IntKind.u8 0)=zB 16:=by rw[cm];rfl
 have av3:zr 24 (PV.int IntKind.u8 0)=zB 24:=by rw[cm];rfl
 have h0e:PV.ar 1 3 [.int .u64 0,.int .u64 0,.int .u64 0]=zW3.e:=rfl;simp[F.vi,aj,av,Si,av3,z3,h0e];refine ai.vw (N:=32) (rd8 k (i:=0) (by omega)) (by simp) wv (wB _) (by omega) (kd 0) (by simp) rfl ?_;simp[e0];refine ai.vw (N:=32) (rd8 k (i:=8) (by omega)) (by simp) wv (wB _) (by omega) (kd 8) (by simp) rfl ?_;simp[e1];obtain⟨g,hg⟩:∃g:Nat->List PV,∀i,g i=(d.drop (16*i)).map u8:=⟨_,λ_=>rfl⟩
 have g0:aQ d= .sl 1 (g 0) false:=by rw[hg];rfl
 rw[g0];refine eW.fM n (λ_=>True) [1,2,4,5,6,7] (λi=>[(1,.sl 1 (g i) false)]) (λi=>[(7,.box (Q3 f d i).e)]) [.keep [1,2,4,5,6,7]] ?_;simp;refine⟨rfl,λi hi K hK=> ?_,λK=> ?_⟩
 ·have W9:d.drop (16*(i+1))=(d.drop (16*i)).drop (min (d.drop (16*i)).length 16):=by
   rw[JiW];by_cases h:(d.drop (16*i)).length≤16
   ·rw[JdW h,JgV (by rw[JbV]at h;omega),JgV (by rw[JbV];omega)]
   ·rw[Nat.min_eq_right (by omega)];congr 1
  have hD:0<(d.drop (16*i)).length:=by rw[JbV];omega
  have hD2:(d.drop (16*i)).length≤1000000:=by rw[JbV];omega
  rw[hg (i+1),W9,Q3]at hK;rw[hg i];generalize d.drop (16*i)=D at*;generalize Q3 f d i=h at*;obtain⟨w1,u,hu,k1,e2,k2⟩:=hf h (Kk D);have wA:(min (D.length:Int) 16).toNat=min D.length 16:=by omega
  have oJ:=Wp D;have I2:=wB (Kk D);have r16:=rd8 (Kk D) (i:=16) (by omega);have r8:=rd8 (Kk D) (i:=8) (by omega);have r0':=rd8 (Kk D) (i:=0) (by omega);have dp:∀i,(((Kk D).map u8).drop i).take 8=(((Kk D).drop i).take 8).map u8:=λi=>by rw[JfQ,JjW]
  have hD':¬(D.length:Int)≤0:=by omega
  have c1:(min (D.length:Int) 16)≤D.length:=by omega
  have c0:0≤(min (D.length:Int) 16):=by omega
  have c2:(min (D.length:Int) 16)<24:=by omega
  simp[↓al,hD,wA,c0,c1,-zp];obtain⟨m,hm,aAC⟩:∃m,m=min D.length 16∧m≤16:=⟨_,rfl,by omega⟩
  have hmi:min (D.length:Int) 16=(m:Int):=by omega
  have wM:m≤D.length:=by omega
  have lz:((D.map u8).take m++zB (24-m)).length=24:=by rw[JaJ,lJ,JaX,zB,JcW];omega
  have Z1:((D.map u8).take m++zB (24-m))[m]? =some (.int .u8 0):=by
   have hl:((D.map u8).take m).length=m:=by rw[lJ,JaX];omega
   rw[List.getElem?_append_right (by omega),hl,Nat.sub_self,zB,List.getElem?_replicate,if_pos (by omega)]
  have qH:((D.map u8).take m++zB (24-m)).set m (.int .u8 1)=(Kk D).map u8:=by
   have hl:((D.map u8).take m).length=m:=by simp;omega
   rw[JsW _ _ (by omega),hl,Nat.sub_self];obtain⟨j,hj⟩:∃j,24-m=j+1:=⟨23-m,by omega⟩
   rw[hj,zB,List.replicate_succ,JqW,Kk,JeV,JfQ,JdX,JnV]
   have e1:(D.map u8).take m=(D.map u8).take 16:=by
    rw[hm];by_cases h:D.length≤16
    ·rw[JdW h,tJ (by simp),tJ (by simpa using h)]
    ·rw[Nat.min_eq_right (by omega)]
   rw[e1,show 23-min 16 D.length=j by omega];rfl
  rw[←hm]at*;refine amv (k:=9) (L':=(D.map u8).take m++zB (24-m)) rfl (by omega) ?_ ?_
  ·have hl:((D.map u8).take m).length=m:=by simp;omega
   rw[hl,show min m 24=m by omega,JnJ,JlQ,tJ (by omega),BK,JhX]
  have c3:(m:Int)<24:=by omega
  have c4:(m:Int)≤D.length:=by omega
  simp[hmi,c3,c4,Z1,qH,-getElem?_pos];refine lv.run [] rfl ?_;simp;refine ai.vw (N:=24) r8 (by simp) I2 (wB _) (by omega) (dp 8) (by simp) rfl ?_;simp;refine ai.vw (N:=24) r0' (by simp) I2 (wB _) (by omega) (dp 0) (by simp) rfl ?_;have k1':aL Pg 380 [h.e,.st 2 [.int .u64 (wu (Kk D) 8:Nat),.int .u64 (wu (Kk D) 0:Nat)]] (.ar 1 3 [.int .u64 w1.a,.int .u64 w1.b,.int .u64 w1.c]):=k1;have k2':aL Pg 381 [.ar 1 3 [.int .u64 w1.a,.int .u64 w1.b,.int .u64 u],.int .u64 r0,.int .u64 r1] (f h (Kk D)).e:=k2;simp;refine aM.rA k1' ?_;simp;refine lv.run [] rfl ?_;simp;refine ai.vw (N:=24) r16 (by simp) I2 (wB _) (by omega) (dp 16) (by simp) rfl ?_;simp[e2];refine ai.rA k2' ?_;simp;refine⟨[.keep [1,2,4,5,6,7],.dr 9],?_⟩;simp[bn,bU,af,ab];refine hK _ ?_;simp;omega
 ·have hgn:g n=[]:=by rw[hg,JgV (by omega)];rfl
  have lA:=cD (n:=z.a) (k:=8) (by omega) (by omega);have lB:=cD (n:=z.b) (k:=8) (by omega) (by omega);have hj:=fh [cG z.a 8,cG z.b 8] (by simp[db]) (by simp);have hze:z.e= .ar 1 3 [.int .u64 z.a,.int .u64 z.b,.int .u64 z.c]:=rfl;have hz':aL Pg 380 [q.e,.st 2 [.int .u64 (wu k 24:Nat),.int .u64 (wu k 16:Nat)]] (.ar 1 3 [.int .u64 z.a,.int .u64 z.b,.int .u64 z.c]):=hz;simp[↓al,hgn];refine lv.run [] rfl ?_;simp;refine aM.rA hq ?_;simp;refine ai.vw (N:=32) (rd8 k (i:=24) (by omega)) (by simp) wv (wB _) (by omega) (kd 24) (by simp) rfl ?_;simp;refine ai.vw (N:=32) (rd8 k (i:=16) (by omega)) (by simp) wv (wB _) (by omega) (kd 16) (by simp) rfl ?_;simp;refine aM.rA hz' ?_;simp;refine aM.rA lA ?_;simp;refine aM.rA lB ?_;simp;refine aM.rA hj ?_;have he:aQ [cG z.a 8,cG z.b 8].flatten= .sl 1 ((cG z.a 8).map u8++(cG z.b 8).map u8) false:=by simp[aQ]
  have hl:((cG z.a 8).map u8++(cG z.b 8).map u8).length=16:=by simp[db]
  have hpz:au ((cG z.a 8).map u8++(cG z.b 8).map u8):=(wB _).append (wB _);rw[he];generalize (cG z.a 8).map u8++(cG z.b 8).map u8=M at*;have kX:M.take 16=M:=by rw[←hl,JcX]
  simp[hl,kX];refine aA.plain [.keep [4]] ?_;simp;exact hpz
def G5 (k:List UInt8) (c:UInt32) (no:List UInt8) (i:Nat):List UInt8:=if i=0 then List.replicate 64 0 else Dx k (c+UInt32.ofNat ((i-1)/64)) no
theorem Wq (k:List UInt8) (c:UInt32) (no:List UInt8) (i:Nat):(G5 k c no i).length=64:=by
 unfold G5;split
 ·simp
 ·exact Dy _ _ _
def Oe (k:List UInt8) (c:UInt32) (no d:List UInt8):Nat->List UInt8
 |0=>[]
 |i+1=>Oe k c no d i++[d.getD i 0^^^(G5 k c no (i+1)).getD (i%64) 0]
theorem BO (k:List UInt8) (c:UInt32) (no d:List UInt8):∀i,(Oe k c no d i).length=i
 |0=>rfl
 |i+1=>by rw[Oe,JaJ,BO k c no d i];rfl
theorem at6 (c:UInt32) (n:Nat):IntKind.u32.wrap (nU (c+UInt32.ofNat n)+1)=nU (c+UInt32.ofNat (n+1)):=by
 rw[show(1:Int)=nU 1 from rfl,rU,UInt32.add_assoc];congr 2;apply UInt32.toNat_inj.1;simp[UInt32.toNat_add,JqQ]
theorem amx (x y:UInt8):bits .xor .u8 (x.toNat:Int) (y.toNat:Int)=((x^^^y).toNat:Int):=by
 rw[u8_xor_nat _ _ x.toNat_lt y.toNat_lt,UInt8.toNat_xor]
theorem at7 {k:List UInt8} (hk:k.length=32) (c:UInt32) {no:List UInt8} (hn:no.length=12) {d:List UInt8} (hd:d.length≤1000000):
  aL Pg 322 [.ar 1 32 (k.map u8),.int .u32 (nU c),ji no,aQ d] (aQ (Oe k c no d d.length)):=by
 refine ae.intro (aC R.xn.2) (by simp[R.xn]) ?_;have wB:∀l:List UInt8,au (l.map u8):=λl=>aF (λ_=>by simp[u8]) _;have wv:=wB k;have hpn:=wB no;have e0:zB 64=(G5 k c no 0).map u8:=by simp[G5,zB,u8]
 have ec:nU c=nU (c+UInt32.ofNat ((0+63)/64)):=by simp
 simp[R.xn,aj,av,ji,aQ,z64];rw[ec,e0];refine eW.fM d.length (λ_=>True) [1,4,6,8,9,10,13,14,15] (λi=>[(1,.int .u32 (nU (c+UInt32.ofNat ((i+63)/64)))),(9,.rs 60 [] 0 i i 1 .tip),(15,.int .i64 i)]) (λi=>[(10,.box (.ar 1 64 ((G5 k c no i).map u8))),(60,.arr 1 ((Oe k c no d i).map u8))]) [.keep [1,4,6,8,9,10,13,14,15],.vt 9 60 1] ?_;simp[show Oe k c no d 0=[] from rfl];refine⟨λi hi K hK=> ?_,λK=> ?_⟩
 ·have hx:d[i]? =some d[i]:=gJ hi;have A7:d.getD i 0=d[i]:=by rw[JaV,hx];rfl
  have wi:IntKind.i64.wrap ((i:Int)+1)=(i:Int)+1:=wrap_i64 (by omega);have jR:(i:Int)<d.length:=by omega
  have tm:(i:Int).tmod 64=((i%64:Nat):Int):=by rw[JlX (by omega)];omega
  have h64:i%64<64:=JdZ _ (by decide);have av4:((i%64:Nat):Int)<64:=by omega
  have hg:((G5 k c no (i+1)).map u8)[i%64]? =some (u8 ((G5 k c no (i+1)).getD (i%64) 0)):=by
   have hl:=Wq k c no (i+1);rw[List.getElem?_map,gJ (by omega),JaV,gJ (by omega)];rfl
  rw[Oe,A7,JeV,JrZ]at hK;generalize hb:(G5 k c no (i+1)).getD (i%64) 0=b at*;have hxb:=amx d[i] b;generalize d[i]=x at*;generalize hxo:(Oe k c no d i).map u8=X at*;have hXl:X.length=i:=by rw[←hxo,JaX,BO]
  by_cases h0:i%64=0
  ·have ct:(i+63)/64=i/64:=by omega
   have ct2:(i+1+63)/64=i/64+1:=by omega
   have hB:=Q1 hk (c+UInt32.ofNat (i/64)) hn;have hP:Dx k (c+UInt32.ofNat (i/64)) no=G5 k c no (i+1):=by unfold G5;rw[if_neg (by omega)];rfl
   rw[hP]at hB;rw[ct2]at hK;rw[ct];have AV:=(wB (G5 k c no (i+1)))
   generalize (G5 k c no (i+1)).map u8=Q at*;generalize (G5 k c no i).map u8=Q0 at*;have hu:=at6 c (i/64);generalize UInt32.ofNat (i/64)=y at*;simp only[u8]at hg hK;simp[↓al,jR,hx,tm,h0,u8,-getElem?_pos];refine ai.ret hB (by simp[ji]) (by simp[wv,hpn]) (by simp[AV]) ?_;rw[h0]at hg;simp[tm,h0,hg,hu,hxb,hXl,wi,-getElem?_pos];refine⟨⟨by omega,by omega⟩,[.keep [1,4,6,8,9,10,13,14,15]],?_⟩;simp;exact hK _ (by simp)
  ·have ct:(i+1+63)/64=(i+63)/64:=by omega
   have hP:G5 k c no (i+1)=G5 k c no i:=by
    unfold G5;rw[if_neg (by omega),if_neg (by omega),show(i+1-1)/64=(i-1)/64 by omega]
   have h0':¬((i%64:Nat):Int)=0:=by omega
   rw[hP]at hK hg;rw[ct]at hK;generalize (G5 k c no i).map u8=Q at*;simp only[u8]at hg hK;simp[↓al,jR,hx,tm,h0,av4,hg,hxb,hXl,wi,u8,-getElem?_pos,-Int.natCast_emod];refine⟨⟨by omega,by omega⟩,[.keep [1,4,6,8,9,10,13,14,15]],?_⟩;simp;exact hK _ (by simp)
 ·have hl:((Oe k c no d d.length).map u8).length=d.length:=by rw[JaX,BO]
  have hp:=wB (Oe k c no d d.length);generalize (Oe k c no d d.length).map u8=X at*;simp[↓al];refine aA.plain [.keep [8],.fz 60] ?_;simp[hp.refs,hl];have ht:X.take d.length=X:=by rw[←hl,JcX]
  rw[ht];exact⟨hp,rfl⟩
theorem ra (ps:List (List UInt8)) (h:ps.flatten.length≤1099511627776) (hn:ps.length≤1099511627776):uL Pg 165 [.sl 1 (ps.map aQ) false] 1 (mB ps.flatten):=by
 refine ae.intro (aC R.fh.2) (by simp[R.fh]) ?_;simp[R.fh,aj,av];refine eW.fM ps.length (λ_=>True) [3,6,7,8] (λi=>[(3,.rs 3 [] 0 (ps.take i).flatten.length (ps.take i).flatten.length 1 .tip),(8,.int .i64 i)]) (λi=>[(3,.arr 1 (mB (ps.take i).flatten))]) [.keep [3,6,7,8],.vt 3 3 1] ?_;simp[show mB []=[] from rfl,-List.length_flatten];refine⟨λi hi K hK=> ?_,λK=> ?_⟩
 ·have BU:IntKind.i64.wrap ((i:Int)+1)=(i:Int)+1:=wrap_i64 (by omega);have AW:=ZA (ps:=ps) (i+1);rw[BN hi,JaJ]at AW;rw[BN hi]at hK;have hx:ps[i]? =some ps[i]:=gJ hi;generalize ps[i]=p at*;generalize (ps.take i).flatten=A at*;have hl3:A.length+p.length≤ps.flatten.length:=AW;have Xl:mB (A++p)=mB A++mB p:=JeV;have wM:(mB A).length=A.length:=JaX _;have hmp:(mB p).length=p.length:=JaX _;have aev:aQ p= .sl 1 (mB p) false:=rfl;rw[Xl,JaJ]at hK;generalize mB A=mA at*;generalize mB p=mP at*;have jR:(i:Int)<ps.length:=by omega
  simp[↓al,jR,BU,hx,aev,wM,hmp,-getElem?_pos];refine⟨⟨by omega,by omega⟩,[.keep [3,6,7,8]],?_⟩;simp;exact hK _ (by simp)
 ·simp[↓al,-List.length_flatten];have wM:(mB ps.flatten).length=ps.flatten.length:=JaX _;have hp:au (mB ps.flatten):=aF (λ_=>by simp[u8]) _;have kX:(mB ps.flatten).take ps.flatten.length=mB ps.flatten:=by rw[←wM,JcX]
  generalize mB ps.flatten=L at*;refine aA.with [.keep [2]] [3] ?_;simp[ab,az,hp.refs,hp.aE,wM,-List.length_flatten]
theorem ai.jv [eE] {s:St} {dst:Option Nat} {K:St->Prop} {tg:Tg K} {k:Nat} {c3:ft} {c2:Bool} {A B:List UInt8} {n:Nat} (o:Nat) (hn:B.length=n) (hk:get s.bx k=some (.box (.ar 1 n (B.map u8)))) (ho:o≠k) (hf:get s.bx o=none) (hl:A.length+B.length≤1000000)
  (h:K ({s with bx:=put (put s.bx k (.box (.ar 1 n (B.map u8)))) o (.arr 1 ((A++B).map u8))}.put dst (.rs o [] 0 (A++B).length (A++B).length 1 .tip))):
  ai Pg s dst 165 [.sl 1 [aQ A,.rs k [] 0 n 0 1 c3] c2] K tg:=by
 subst hn;have hA:=ra [A,B] (by simp;omega) (by simp);have wB:∀l:List UInt8,au (l.map u8):=λl=>aF (λ_=>by simp[u8]) _;have hpA:=wB A;have I2:=wB B;have hwA:fP (A.map u8)=A.map u8:=mY (λ_=>by simp[u8]) _;have hC:=wB (A++B);have hCl:((A++B).map u8).length=(A++B).length:=JaX _;have SZ:eG ((A++B).map u8)=true:=kM (λ_=>rfl) _;have e:mB [A,B].flatten=(A++B).map u8:=by simp[mB]
 rw[e]at hA;generalize hCe:(A++B).map u8=C at*;refine ai.view [k] [o] [.box (.ar 1 B.length (B.map u8))] (bC:=[.sl 1 [aQ A,.rs KB [] 0 B.length 0 1 c3] false]) (args0:=[.sl 1 [aQ A,aQ B] false]) (cg:=[.box (.ar 1 B.length (B.map u8))]) hA (by simp[getAll,hk]) (by simp[Ne.symm ho]) (by simp[hf]) (by simp[ah,af,bT,idx,aQ]) (by simp[ab,af]) (by simp[aS,aE,bz,idx,aQ,hwA]) (by simp[az,aE]) ?_ ?_ ?_
 ·refine⟨.inr (.inl ⟨1,_,[aQ A,aQ B],false,rfl,⟨.inl ⟨rfl,by simp[aQ]⟩,.inr ⟨KB,[],0,B.length,0,1,c3,B.map u8,rfl,?_,I2.refs _,by omega,rfl⟩,trivial⟩,rfl⟩),trivial⟩;simp[av]
 ·rintro r new ⟨rfl,rfl⟩;exact⟨⟨by simp[gf,lR],by simp[tU,SZ]⟩,rfl⟩
 ·rintro r new ⟨rfl,rfl⟩;rw[hCl];simp only[JaJ]at h⊢;simpa[az,aE,aS,bz,idx,cL,ab,af,ah,cY,aI,I2.refs,I2.aE,hC.refs,hC.aE]using h
theorem ai.jv1 [eE] {s:St} {dst:Option Nat} {K:St->Prop} {tg:Tg K} {k:Nat} {c3:ft} {c2:Bool} {A B:List UInt8} {n:Nat} (o:Nat) (hn:A.length=n) (hk:get s.bx k=some (.arr 1 (A.map u8))) (ho:o≠k) (hf:get s.bx o=none) (hl:A.length+B.length≤1000000)
  (h:K ({s with bx:=put (put s.bx k (.arr 1 (A.map u8))) o (.arr 1 ((A++B).map u8))}.put dst (.rs o [] 0 (A++B).length (A++B).length 1 .tip))):
  ai Pg s dst 165 [.sl 1 [.rs k [] 0 n n 1 c3,aQ B] c2] K tg:=by
 subst hn;have hA:=ra [A,B] (by simp;omega) (by simp);have wB:∀l:List UInt8,au (l.map u8):=λl=>aF (λ_=>by simp[u8]) _;have hpA:=wB A;have I2:=wB B;have hwA:fP (B.map u8)=B.map u8:=mY (λ_=>by simp[u8]) _;have hC:=wB (A++B);have hCl:((A++B).map u8).length=(A++B).length:=JaX _;have SZ:eG ((A++B).map u8)=true:=kM (λ_=>rfl) _;have e:mB [A,B].flatten=(A++B).map u8:=by simp[mB]
 rw[e]at hA;generalize hCe:(A++B).map u8=C at*;refine ai.view [k] [o] [.arr 1 (A.map u8)] (bC:=[.sl 1 [.rs KB [] 0 A.length A.length 1 c3,aQ B] false]) (args0:=[.sl 1 [aQ A,aQ B] false]) (cg:=[.arr 1 (A.map u8)]) hA (by simp[getAll,hk]) (by simp[Ne.symm ho]) (by simp[hf]) (by simp[ah,af,bT,idx,aQ]) (by simp[ab]) (by simp[aS,aE,bz,idx,aQ,hwA]) (by simp[az]) ?_ ?_ ?_
 ·refine⟨.inr (.inl ⟨1,_,[aQ A,aQ B],false,rfl,⟨.inr ⟨KB,[],0,A.length,A.length,1,c3,A.map u8,rfl,?_,hpA.refs _,by omega,rfl⟩,.inl ⟨rfl,by simp[aQ]⟩,trivial⟩,rfl⟩),trivial⟩;simp[av]
 ·rintro r new ⟨rfl,rfl⟩;exact⟨⟨by simp[gf,lR],by simp[tU,SZ]⟩,rfl⟩
 ·rintro r new ⟨rfl,rfl⟩;rw[hCl];simp only[JaJ]at h⊢;simpa[az,aE,aS,bz,idx,cL,ab,af,ah,cY,aI,hpA.refs,hpA.aE,hC.refs,hC.aE]using h
theorem LQ {d:List UInt8} (hd:d.length≤1000000):∃z:List UInt8,z.length≤15∧aL Pg 357 [aQ d] (aQ z):=by
 obtain⟨n,hn⟩:∃n,n=(16-d.length%16)%16:=⟨_,rfl⟩
 refine⟨List.replicate n 0,by rw[JcW];omega,?_⟩;refine ae.intro (aC R.vj.2) (by simp[R.vj]) ?_;have t1:(d.length:Int).tmod 16=((d.length%16:Nat):Int):=by rw[JlX (by omega)];omega
 have t2:IntKind.i64.wrap (16-((d.length%16:Nat):Int))=((16-d.length%16:Nat):Int):=by rw[wrap_i64 (by omega)];omega
 have t3:((16-d.length%16:Nat):Int).tmod 16=(n:Int):=by rw[JlX (by omega)];omega
 simp[R.vj,aj,av,t1,t2,t3,-Int.natCast_emod];refine⟨⟨by omega,by omega⟩,?_⟩;refine aA.plain [.keep [2],.fz 8] ?_;have hz:(List.replicate n (0:UInt8)).map u8=List.replicate n (PV.int .u8 0):=by simp[u8]
 have hp:au (List.replicate n (PV.int .u8 0)):=by rw[←hz];exact aF (λ_=>by simp[u8]) _
 have hl:(List.replicate n (PV.int IntKind.u8 0)).length=n:=JcW;have he:aQ (List.replicate n 0)= .sl 1 (List.replicate n (PV.int .u8 0)) false:=by rw[aQ,hz]
 rw[he];clear he hz;generalize List.replicate n (PV.int .u8 0)=Z at*;have ht:Z.take n=Z:=by rw[←hl,JcX]
 simp[hp.refs,hl,ht];exact hp
theorem ZG (n:Nat) (h:n≤1000000):IntKind.u64.wrap (n:Int)=(n:Int):=wrap_u64 (by omega)
theorem aua {k:List UInt8} (hk:k.length=32) {no:List UInt8} (hn:no.length=12) {d m:List UInt8} (hd:d.length≤100000) (hm:m.length≤100000):
  ∃t:List UInt8,t.length=16∧aL Pg 321 [.ar 1 32 (k.map u8),ji no,aQ d,aQ m] (.ar 1 16 (t.map u8)):=by
 obtain⟨f1,l1,h1⟩:=LQ (d:=m) (by omega);obtain⟨f2,l2,h2⟩:=LQ (d:=d) (by omega);have g1:=cD (n:=m.length) (k:=8) (by omega) (by omega);have g2:=cD (n:=d.length) (k:=8) (by omega) (by omega);have hj:=fh [m,f1,d,f2,cG m.length 8,cG d.length 8] (by simp[db];omega) (by simp);have qF:((Dx k 0 no).take 32).length=32:=by rw[lJ,Dy];rfl
 obtain⟨t,ht,hs⟩:=at5 qF (d:=[m,f1,d,f2,cG m.length 8,cG d.length 8].flatten) (by simp[db];omega);refine⟨t,ht,?_⟩;refine ae.intro T.vk (by simp[F.vk]) ?_;have wB:∀l:List UInt8,au (l.map u8):=λl=>aF (λ_=>by simp[u8]) _;have wv:=wB k;have hpn:=wB no;have hB:=Q1 hk 0 hn;have Si:zr 16 (PV.int IntKind.u8 0)=zB 16:=by rw[cm];rfl
 have e0:nU 0=0:=rfl;rw[e0]at hB;rw[JfQ]at hs;have tI:((Dx k 0 no).map u8).length=64:=by rw[JaX,Dy]
 have I2:=wB (Dx k 0 no);have Oq:=wB t;have Fo:(t.map u8).length=16:=by rw[JaX,ht]
 have av7:fP (((Dx k 0 no).map u8).take 32)=((Dx k 0 no).map u8).take 32:=by rw[←JfQ];exact mY (λ_=>by simp[u8]) _
 generalize (Dx k 0 no).map u8=Q at*;generalize t.map u8=W at*;simp[F.vk,aj,av,ji,Si,z64];refine ai.ret hB (by simp[ji]) (by simp[wv,hpn]) (by simp[I2]) ?_;simp[tI];refine aM.rA h1 ?_;simp;refine aM.rA h2 ?_;simp[ZG _ (show m.length≤1000000 by omega)];refine aM.rA g1 ?_;simp[ZG _ (show d.length≤1000000 by omega)];refine aM.rA g2 ?_;simp;refine aM.rA hj ?_;have av8:au (Q.take 32):=I2.take _;generalize [m,f1,d,f2,cG m.length 8,cG d.length 8].flatten=J at*;generalize Q.take 32=Q32 at*;simp;refine aM.ret hs (by simp[av7]) (by simp[av8]) (by simp[Oq]) ?_;simp;refine aA.plain [.keep [8]] ?_;simp[Oq]
theorem Q4 {k:List UInt8} (hk:k.length=32) {no:List UInt8} (hn:no.length=12) {d m:List UInt8} (hd:d.length≤100000) (hm:m.length≤100000):
  ∃s:List UInt8,s.length=d.length+16∧uL Pg 292 [.ar 1 32 (k.map u8),ji no,aQ d,aQ m] 1 (s.map u8):=by
 have hx:=at7 hk 1 hn (d:=d) (by omega);have hxl:=BO k 1 no d d.length;generalize Oe k 1 no d d.length=x at*;obtain⟨t,ht,h1⟩:=aua hk hn (d:=x) (m:=m) (by omega) hm;refine⟨x++t,by rw[JaJ,hxl,ht],?_⟩;refine ae.intro (aC R.zY.2) (by simp[R.zY]) ?_;have wB:∀l:List UInt8,au (l.map u8):=λl=>aF (λ_=>by simp[u8]) _;have wv:=wB k;have hpn:=wB no;have Oq:=wB t;have Tc:=wB (x++t);have e1:nU 1=1:=rfl;rw[e1]at hx;have Si:zr 16 (PV.int IntKind.u8 0)=zB 16:=by rw[cm];rfl
 have hl:((x++t).map u8).length=(x++t).length:=JaX _;generalize hX:(x++t).map u8=X at hl Tc⊢;simp only[ji]at hx h1;simp[R.zY,aj,av,ji,Si];refine ai.ret hx (by simp) (by simp[wv,hpn]) (by simp) ?_;simp;refine ai.ret h1 (by simp) (by simp[wv,hpn]) (by simp[Oq]) ?_;simp;refine ai.jv 23 ht (by simp) (by simp) (by simp) (by omega) ?_;rw[hX];generalize (x++t).length=n at*;subst hl;simp;refine aA.with [.keep [8]] [23] ?_;simp[ab,az,Tc.refs,Tc.aE]
theorem ak6 {k:List UInt8} (hk:k.length=32) {no:List UInt8} (hn:no.length=12) {d m:List UInt8} (hd:d.length≤100000) (hm:m.length≤100000):
  ∃s:List UInt8,s.length=d.length+16∧aL Pg 292 [.ar 1 32 (k.map u8),ji no,aQ d,aQ m] (aQ s):=by
 obtain⟨s,h1,h2⟩:=Q4 hk hn hd hm;exact⟨s,h1,h2.iQ (aF (λ_=>by simp[u8]) _)⟩
theorem H9 (n:Nat):∃c:List UInt8,c.length=12∧aL Pg 245 [.int .u64 n] (ji c):=by
 refine⟨[0,0,0,0]++cG n 8,by simp[db],?_⟩;refine ae.intro (aC R.adi.2) (by simp[R.adi]) ?_;have g:=cD (n:=n) (k:=8) (by omega) (by omega);have hz:zr 12 (PV.int IntKind.u8 0)=zB 12:=by rw[cm];rfl
 simp[R.adi,aj,av,ji,hz];refine lv.run [] rfl ?_;simp;refine aM.rA g ?_;simp;refine ai.jv1 (A:=[0,0,0,0]) 7 rfl rfl (by simp) (by simp) (by simp[db]) ?_;have hl:(cG n 8).length=8:=db _ _;have ht:((cG n 8).map u8).take 8=(cG n 8).map u8:=tJ (by simp[hl]);have oJ:au ((cG n 8).map u8):=aF (λ_=>by simp[u8]) _;simp[hl,ht];refine aA.plain [.keep [2]] ?_;simp[oJ]
structure Qo (d:bh):Prop where
 an:d.an.length≤1048576
 bQ:d.bQ.length≤1048576
 aR:d.aR.length≤1048576
 timers:d.timers.length≤1048576
 fg:d.fg.length≤1048576
 buckets:d.buckets.length≤1048576
 ej:∀p∈d.an,p.ej.length≤1048576∧∀b∈p.ej,b.length≤1048576
theorem pU {f:FuncId} {sz bytes:Nat} {z:PV} (ht:mX Pg [] [] f=some (uI sz bytes z).er) (fA:0<sz) {l:List PV} (hr:au l) (h:l.length≤1048576) (hb:bytes≤100000):aL Pg f [.sl sz l false] (.sl sz l false):=
 (show uL Pg f [.sl sz l false] sz l from EL ht fA hr false (JeW (JhW h hb) (by decide)) (by omega)).iQ hr
theorem lV {f:FuncId} {sz bytes:Nat} {z:PV} (ht:mX Pg [] [] f=some (uI sz bytes z).er) (fA:0<sz) {l:List PV} (hr:au l) (h:l.length≤1048576) (hb:bytes≤100000):uL Pg f [.sl sz l false] sz l:=
 EL ht fA hr false (JeW (JhW h hb) (by decide)) (by omega)
theorem NF (l:List Int):au (l.map λn=>PV.int .i64 n):=aF (λ_=>by simp) l
theorem Dl {b:List UInt8} (h:b.length≤1048576):aL Pg 101 [aQ b] (aQ b):=
 pU (bytes:=1) (aC R.rV.2) (by omega) (by simp) (by simpa using h) (by omega)
theorem NG {l:List vY} (h:l.length≤1048576):aL Pg 56 [cU l] (cU l):=
 pU (bytes:=64) (aC R.ic.2) (by omega) (by simp) (by simpa using h) (by omega)
theorem Q5 {l:List gh} (h:l.length≤1048576):aL Pg 57 [bK l] (bK l):=
 pU (bytes:=40) (aC R.bW.2) (by omega) (by simp) (by simpa using h) (by omega)
theorem NH {l:List cT} (h:l.length≤1048576):aL Pg 58 [cE l] (cE l):=
 pU (bytes:=48) (aC R.eH.2) (by omega) (by simp) (by simpa using h) (by omega)
theorem Wr {l:List Int} (h:l.length≤1048576):aL Pg 59 [iC l] (iC l):=
 pU (bytes:=8) (aC R.rW.2) (by omega) (NF l) (by simpa using h) (by omega)
theorem Kl {l:List Lq} (h:l.length≤1048576):aL Pg 60 [eU l] (eU l):=
 pU (bytes:=40) (aC R.lX.2) (by omega) (by simp) (by simpa using h) (by omega)
theorem Q6 {l:List bM} (h:l.length≤1048576):uL Pg 54 [kh l] 464 (l.map aP):=
 lV (bytes:=808) (aC R.nZ.2) (by omega) (by simp) (by simpa using h) (by omega)
theorem NI {l:List (List UInt8)} (h:l.length≤1048576):uL Pg 100 [gq l] 1 (l.map aQ):=
 lV (bytes:=24) (aC R.tE.2) (by omega) (by simp) (by simpa using h) (by omega)
theorem tF {α β:Type} (f:α->β) (l:List α) (i:Nat) (h:i<l.length):(l.map f).set i (f l[i])=l.map f:=by
 rw[←JfJ,JoX]
theorem sH {l:List (List UInt8)} (h:l.length≤1048576) (hb:∀b∈l,b.length≤1048576):aL Pg 55 [gq l] (gq l):=by
 refine ae.intro (aC R.sH.2) (by simp[R.sH]) ?_;simp[R.sH,aj,av];refine ai.own 7 (NI h) (by simp) (by simp) (by simp) (by simp) ?_;simp;refine eW.fM l.length (λ_=>True) [3,8,9,10] (λi=>[(10,.int .i64 i)]) (λi=>[]) [.keep [3,8,9,10]] ?_;simp;refine⟨λi hi K hK=> ?_,λK=> ?_⟩
 ·have hx:l[i]? =some l[i]:=gJ hi;simp[↓al,hi];refine ai.rA (Dl (hb _ (JbJ hi))) ?_;simp(disch:=omega) [hi];refine⟨[.keep [3,8,9,10]],?_⟩;simp;exact hK _ (by simp[tF])
 ·simp[↓al,↓al];refine aA.plain [.keep [2],.fz 7,.wk 2] ?_;simp[gq]
theorem ky {d:bh} (h:Qo d):ae Pg 25 [gP d] [] (λr fp=>r=aY d (.rs KB [] 0 d.an.length d.an.length 464 .tip)∧fp=[.arr 464 (d.an.map aP)]):=by
 refine ae.intro T.ky (by simp[F.ky]) ?_;simp[F.ky,aj,av,gP];refine ai.own 6 (Q6 h.an) (by simp) (by simp) (by simp) (by simp) ?_;simp;refine eW.fM d.an.length (λ_=>True) [1,2,10,11] (λi=>[(11,.int .i64 i)]) (λi=>[]) [.keep [1,2,10,11]] ?_;simp;refine⟨λi hi K hK=> ?_,λK=> ?_⟩
 ·have hx:d.an[i]? =some d.an[i]:=gJ hi;have hs:=h.ej _ (JbJ hi);have hl:=h.an;simp[↓al,hi];refine aM.rA (sH hs.1 hs.2) ?_;simp(disch:=omega) [hi];refine⟨[.keep [1,2,10,11]],?_⟩;simp;exact hK _ (by simp;exact tF aP _ i hi)
 ·simp[↓al,↓al];refine aM.rA (NG h.bQ) ?_;simp;refine aM.rA (Q5 h.aR) ?_;simp;refine aM.rA (NH h.timers) ?_;simp;refine aM.rA (Wr h.fg) ?_;simp;refine aM.rA (Kl h.buckets) ?_;simp;refine aA.with [.keep [2],.dr 1] [6] ?_;simp
def pl (φ:kS->kS) (q:ue):ue:=if q.has=true then⟨true,φ q.mZ⟩else q
def U64 (n:Int):Prop:=0≤n∧n≤18446744073709551615
def amy (r:rF):Prop:=U64 r.p.mZ.next∧U64 r.c.mZ.next∧U64 r.n.mZ.next
structure ayB (d:bh):Prop extends Qo d where
 ring:∀p∈d.an,amy p.ring
theorem IJ (k sz:Nat) (l0:List PV):∀(l:List PV) (i:Nat) (x:PV),jf k sz l0 (l.set i x)=(jf k sz l0 l).set i (iQ k sz l0 x)
 |[],i,x=>by simp
 |p::l,0,x=>by simp
 |p::l,i+1,x=>by simp[IJ k sz l0 l i x]
@[simp] theorem SW (k sz:Nat) (l:List PV) (e:bM) (p:PV):iQ k sz l (nV e p)=nV e (iQ k sz l p):=by
 simp[nV,jf]
theorem Ee {l:List bM} {i:Nat} (h:i<l.length) {p:PV} (hp:p=aP l[i]):(l.map aP).set i p=l.map aP:=by
 rw[hp];exact tF aP l i h
theorem fj {d:bh} (h:Qo d):ae Pg 46 [gP d] [] (λr fp=>r=aY d (.rs KB [] 0 d.an.length d.an.length 464 .tip)∧fp=[.arr 464 (d.an.map aP)]):=by
 refine ae.intro T.fj (by simp[F.fj]) ?_;have hp:=h.an;simp(disch:=omega) [F.fj,aj,av,gP,aY,kh];refine⟨⟨by omega,by omega⟩,?_⟩;refine eW.fM d.an.length (λ_=>True) [1,2,13,14] (λi=>[(14,.int .i64 i)]) (λi=>[]) [.keep [1,2,13,14]] ?_;simp;refine⟨λi hi K hK=> ?_,λK=> ?_⟩
 ·have hx:d.an[i]? =some d.an[i]:=gJ hi;have hs:=h.ej _ (JbJ hi);obtain⟨m,hm⟩:∃m,d.an[i].ej=m:=⟨_,rfl⟩
  rw[hm]at hs;simp[↓al,hi,hm,gq];refine eW.fM m.length (λ_=>True) [1,2,3,4,13,14,22,23,24] (λj=>[(4,.rs 4 [] 0 j j 1 .tip),(24,.int .i64 j)]) (λj=>[(4,.arr 1 ((m.take j).map aQ))]) [.vt 4 4 1] ?_;simp;refine⟨λj hj K2 qQ=> ?_,λK2=> ?_⟩
  ·have hy:m[j]? =some m[j]:=gJ hj;have hb:=hs.2 _ (JbJ hj);have Jf:min j m.length=j:=by omega
   simp(disch:=omega) [↓al,hj,aQ];refine⟨⟨by omega,by omega⟩,⟨by omega,by omega⟩,[.keep [1,2,3,4,13,14,22,23,24],.fz 31],?_⟩;simp;exact qQ _ (by simp[List.take_add_one,hy,aQ])
  ·simp(disch:=omega) [↓al,↓al,hi,↓al];refine⟨[.keep [1,2,13,14],.fz 4],?_⟩;simp;refine hK _ ?_;simp[IJ];exact Ee hi (by rw[←hm];rfl)
 ·simp[↓al,↓al];have hr:=h.bQ;have DQ:=h.aR;have ht:=h.timers;have hrc:=h.fg;have hb:=h.buckets;refine lv.run [44,47] rfl ?_;simp(disch:=omega) [cU,bK,cE,iC,eU];refine⟨⟨by omega,by omega⟩,⟨by omega,by omega⟩,?_⟩;refine lv.run [52,55] rfl ?_;simp(disch:=omega);refine⟨⟨by omega,by omega⟩,⟨by omega,by omega⟩,⟨by omega,by omega⟩,?_⟩;refine aA.with [.keep [2],.dr 1,.fz 44,.fz 47,.fz 52,.fz 55,.fz 60] [9] ?_;simp
def Is (r:rF) (k:Nat):ue:=if k=1 then r.p else if k=2 then r.c else r.n
theorem gW (r:rF) {k:Nat} (h:k=1∨k=2∨k=3):aL Pg 35 [gO r,.int .i64 k] (gY (Is r k)):=by
 refine ae.intro (aC R.gW.2) (by simp[R.gW]) ?_;rcases h with rfl|rfl|rfl<;>
 ·simp[R.gW,aj,av];refine aA.plain [] ?_;simp[Is]
end Go.Ab

/- Functions of the program and of the document, as the abstract reading walks them, part 4. No condition. -/
import Derived.Test.YtlcojgogfjlceaaGreatDoorB3
import Derived.Shelf.Spec.BitsCarry
import Derived.Test.YtlcojgogfjlceaaGreatDoorB1
import Derived.Test.YtlcojgogfjlceaaGreatDoorA5
set_option maxRecDepth 10000
set_option maxHeartbeats 4000000
set_option linter.all false
noncomputable section
namespace Go.Ab
theorem WC [eJ] {f:FuncId} {s:St} {dst:Option Nat} {K:St->Prop} {tg:Tg K} {k n:Nat} {c:fB} {c2:Bool} {A B:List PV} {v:PV} (hA:aK Pg f [.sl 1 [.sl 1 A false,.sl 1 B false] false] v)
  (hv:Pure v) (nL:fL v=true) (hk:get s.bx k=some (.arr 1 A)) (hn:A.length=n) (I5:an A) (Ot:an B) (hBw:fI B=B)
  (h:K ({s with bx:=put s.bx k (.arr 1 A)}.put dst v)):ai Pg s dst f [.sl 1 [.rs k [] 0 n n 1 c,.sl 1 B false] c2] K tg:=by
 subst hn;refine ai.view [k] [] [.arr 1 A] (bC:=[.sl 1 [.rs KB [] 0 A.length A.length 1 c,.sl 1 B false] false]) (args0:=[.sl 1 [.sl 1 A false,.sl 1 B false] false]) (b6:=[.arr 1 A]) hA (by simp[getAll,hk]) (by simp) (by simp) (by simp[ah,af,bR,idx,Ot.refs]) (by simp[ab,I5.refs]) (by simp[aR,aE,bz,idx,Ot.aE,hBw]) (by simp[az,I5.aE]) ?_ ?_ ?_
 ·refine⟨.inr (.inl ⟨1,_,[.sl 1 A false,.sl 1 B false],false,rfl,⟨.inr ⟨KB,[],0,A.length,A.length,1,c,A,rfl,?_,I5.refs _,by omega,rfl⟩,.inl ⟨rfl,by simp[af,Ot.refs]⟩,trivial⟩,rfl⟩),trivial⟩;simp[av]
 ·rintro r new ⟨rfl,rfl⟩;exact⟨⟨nL,by simp⟩,rfl⟩
 ·rintro r new ⟨rfl,rfl⟩;simp[hv.aE,hv.refs,ab,I5.refs,az,I5.aE,aI];exact h
theorem WD [eJ] {f:FuncId} {s:St} {dst:Option Nat} {K:St->Prop} {tg:Tg K} {k k2 n:Nat} {c c3:fB} {c2:Bool} {A B:List PV} {v:PV} (hA:aK Pg f [.sl 1 [.sl 1 A false,.sl 1 B false] false] v)
  (hv:Pure v) (nL:fL v=true) (hk:get s.bx k=some (.arr 1 A)) (za:get s.bx k2=some (.box (.ar 1 32 B))) (cI:k≠k2) (hn:A.length=n) (hm:B.length=32) (I5:an A) (Ot:an B)
  (h:K ({s with bx:=put (put s.bx k (.arr 1 A)) k2 (.box (.ar 1 32 B))}.put dst v)):ai Pg s dst f [.sl 1 [.rs k [] 0 n n 1 c,.rs k2 [] 0 32 0 1 c3] c2] K tg:=by
 subst hn;have lW:B.take 32=B:=by rw[←hm,JcJ]
 refine ai.view [k,k2] [] [.arr 1 A,.box (.ar 1 32 B)] (bC:=[.sl 1 [.rs KB [] 0 A.length A.length 1 c,.rs (KB+1) [] 0 32 0 1 c3] false]) (args0:=[.sl 1 [.sl 1 A false,.sl 1 B false] false]) (b6:=[.arr 1 A,.box (.ar 1 32 B)]) hA (by simp[getAll,hk,za]) (by simp[cI]) (by simp) (by simp[ah,af,bR,idx,cI]) (by simp[ab,af,I5.refs,Ot.refs]) (by simp[aR,aE,bz,idx,cI]) (by simp[az,aE,I5.aE,Ot.aE]) ?_ ?_ ?_
 ·refine⟨.inr (.inl ⟨1,_,[.sl 1 A false,.sl 1 B false],false,rfl,⟨.inr ⟨KB,[],0,A.length,A.length,1,c,A,rfl,?_,I5.refs _,by omega,rfl⟩,.inr ⟨KB+1,[],0,32,0,1,c3,B,rfl,?_,Ot.refs _,by omega,rfl⟩,trivial⟩,rfl⟩),trivial⟩
  ·simp[av]
  ·simp[av,lW]
 ·rintro r new ⟨rfl,rfl⟩;exact⟨⟨nL,by simp⟩,rfl⟩
 ·rintro r new ⟨rfl,rfl⟩;simp[hv.aE,hv.refs,ab,af,I5.refs,Ot.refs,az,aE,I5.aE,Ot.aE,aI];exact h
theorem amT [eJ] {s:St} {d:Option Nat} {K:St->Prop} {k n:Nat} {L ys L':List PV} {c:fB} {c2:Bool} (hk:get s.bx k=some (.arr 1 L)) (hn:L.length=n) (hy:ys.length≤n) (hL:ys++L.drop ys.length=L')
  (h:K ({s with bx:=put s.bx k (.arr 1 L')}.put d (.int .i64 ys.length))):Yn s d 1 (.rs k [] 0 n n 1 c) K (.sl 1 ys c2):=by
 have hm:min ys.length n=ys.length:=JdW hy;rw[zQ,JU,hk];refine⟨.inr rfl,⟨hn.symm,rfl,rfl,rfl,by omega⟩,?_⟩;rw[hm,JnJ,JkW,JcJ,JhQ,hL];exact h
def kx (key:List UInt8) (j:Nat):UInt8:=key.getD j 0
def xx (key:List UInt8) (c:UInt8) (i:Nat):Nat->UInt8:=λj=>if j<i then kx key j^^^c else kx key j
def uH (key:List UInt8) (c:UInt8):List UInt8:=(List.range 64).map λj=>kx key j^^^c
theorem wt (key:List UInt8) (c:UInt8):(uH key c).length=64:=by simp[uH]
theorem Z0 (key:List UInt8) (c:UInt8):iB 64 (xx key c 64)=mB (uH key c):=by
 rw[Iy (g:=λj=>kx key j^^^c) λj hj=>by simp only[xx];rw[if_pos hj],mB,uH,List.map_map];rfl
def qH (key:List UInt8) (ps:List (List UInt8)):Key:=iV (uH key 92++(iV (uH key 54++ps.flatten)).l)
theorem u8x (x:UInt8) (c:UInt8) (k:Int) (hk:k=(c.toNat:Int)):bits .xor .u8 (x.toNat:Int) k=((x^^^c).toNat:Int):=by
 subst hk;rw[u8_xor_nat _ _ x.toNat_lt c.toNat_lt,UInt8.toNat_xor]
theorem WE {key:List UInt8} (h:key.length≤64):key.map u8++(List.replicate 64 (PV.int .u8 0)).drop key.length=iB 64 (kx key):=by
 rw[List.drop_replicate];apply JjW;intro i;by_cases hi:i<64
 ·rw[GC _ hi];by_cases h1:i<key.length
  ·rw[List.getElem?_append_left (by simpa using h1),List.getElem?_map,gJ h1,kx,JaV,gJ h1];rfl
  ·rw[List.getElem?_append_right (by simp;omega),List.getElem?_replicate,if_pos (by simp;omega),kx,JaV,List.getElem?_eq_none (by omega)];rfl
 ·rw[List.getElem?_eq_none (by simp;omega),List.getElem?_eq_none (by simp;omega)]
theorem nC {key:List UInt8} (DW:key.length≤64) {ps:List (List UInt8)} (hn:ps.length≤1024) (h2:ps.flatten.length≤1048576):aK Pg 80 [aP key,.sl 1 (ps.map aP) false] (aG (qH key ps)):=by
 refine ae.intro (aC R.nC.2) (by simp[R.nC]) ?_;have qR:=WE DW;have hle:¬(64:Int)<key.length:=by omega
 have hlm:(key.map u8).length=key.length:=JaX _;have x0:xx key 54 0=kx key:=by funext j;simp[xx]
 have x1:xx key 92 0=kx key:=by funext j;simp[xx]
 have Hd:(List.replicate 64 (PV.int .u8 0)).length=64:=JcW;generalize hRz:List.replicate 64 (PV.int .u8 0)=Z at*;have hke:aP key= .sl 1 (key.map u8) false:=rfl;simp[R.nC,aj,av,hle];refine lH.run [] rfl ?_;simp[hke,hRz,-zQ,-List.reduceReplicate];refine amT (k:=17) (L':=iB 64 (kx key)) rfl Hd (by rw[hlm];exact DW) (by rw[hlm];exact qR) ?_;simp[-zQ];refine amT (k:=18) (L':=iB 64 (kx key)) rfl Hd (by rw[hlm];exact DW) (by rw[hlm];exact qR) ?_;simp;refine eW.fD 64 (λ_=>True) [1,4,6,7,25] (λi=>[(25,.int .i64 i)]) (λi=>[(17,.arr 1 (iB 64 (xx key 54 i))),(18,.arr 1 (iB 64 (xx key 92 i)))]) [.keep [1,4,6,7,25]] ?_;simp[x0,x1];refine⟨λi hi K hK=> ?_,λK=> ?_⟩
 ·have hs:∀c:UInt8,iB 64 (xx key c (i+1))=(iB 64 (xx key c i)).set i (u8 (kx key i^^^c)):=λc=>by
   rw[ads]
   exact Iy λj hj=>by
    simp only[upB,xx];by_cases h:j=i
    ·rw[if_pos h,if_pos (by omega),h]
    ·rw[if_neg h];by_cases h':j<i
     ·rw[if_pos h',if_pos (by omega)]
     ·rw[if_neg h',if_neg (by omega)]
  have hg:∀c:UInt8,(iB 64 (xx key c i))[i]? =some (u8 (kx key i)):=λc=>by
   rw[GC _ hi];simp[xx]
  have hl:∀c:UInt8,(iB 64 (xx key c i)).length=64:=λc=>adr _ _;have ha:=hg 54;have hb:=hg 92;have la:=hl 54;have lb:=hl 92;rw[hs,hs]at hK;clear hs hg hl;have k1:=u8x (kx key i) 54 54 rfl;have k2:=u8x (kx key i) 92 92 rfl;simp only[u8]at*;generalize kx key i^^^54=p at*;generalize kx key i^^^92=q at*;generalize kx key i=y at*;generalize iB 64 (xx key 54 i)=U at*;generalize iB 64 (xx key 92 i)=V at*;have kY:(i:Int)<64:=by omega
  have w1:IntKind.i64.wrap ((i:Int)+1)=i+1:=wrap_i64 (by omega);simp[↓al,kY,ha,hb,la,lb,k1,k2,w1,-getElem?_pos];refine⟨[.keep [1,4,6,7,25]],?_⟩;simp;exact hK _ (by simp)
 ·have hj:ps.flatten.length≤1099511627776:=by omega
  have c1:=ft ps hj (by omega);have c2:=gE (ps:=[uH key 54,ps.flatten]) (by simp) (by simp[wt];omega) (by simp[wt,-List.length_flatten];omega);have c3:=gE (ps:=[uH key 92,(iV (uH key 54++ps.flatten)).l]) (by simp) (by simp[wt];omega) (by simp[wt,(iV (uH key 54++ps.flatten)).h]);have f2:[uH key 54,ps.flatten].flatten=uH key 54++ps.flatten:=by simp
  have f3:[uH key 92,(iV (uH key 54++ps.flatten)).l].flatten=uH key 92++(iV (uH key 54++ps.flatten)).l:=by simp
  rw[f2]at c2;rw[f3]at c3;have At:qH key ps=iV (uH key 92++(iV (uH key 54++ps.flatten)).l):=rfl;rw[←At]at c3;clear f2 f3 At;have a1:=Z0 key 54;have a2:=Z0 key 92;have p1:an (mB (uH key 54)):=aF (λ_=>by simp[u8]) _;have p2:an (mB (uH key 92)):=aF (λ_=>by simp[u8]) _;have p3:an (mB ps.flatten):=aF (λ_=>by simp[u8]) _;have q3:fI (mB ps.flatten)=mB ps.flatten:=nm (λ_=>by simp[u8]) _;have l1:(mB (uH key 54)).length=64:=by rw[mB,JaX,wt]
  have l2:(mB (uH key 92)).length=64:=by rw[mB,JaX,wt]
  have he:aP ps.flatten= .sl 1 (mB ps.flatten) false:=rfl;have qc:aG (iV (uH key 54++ps.flatten))= .ar 1 32 (mB (iV (uH key 54++ps.flatten)).l):=rfl;have l4:(mB (iV (uH key 54++ps.flatten)).l).length=32:=by rw[mB,JaX,(iV (uH key 54++ps.flatten)).h]
  have p4:an (mB (iV (uH key 54++ps.flatten)).l):=aF (λ_=>by simp[u8]) _;have n2:=dB (iV (uH key 54++ps.flatten));have n3:=dB (qH key ps);change aK Pg 164 [.sl 1 [.sl 1 (mB (uH key 54)) false,.sl 1 (mB ps.flatten) false] false] _ at c2;change aK Pg 164 [.sl 1 [.sl 1 (mB (uH key 92)) false,.sl 1 (mB (iV (uH key 54++ps.flatten)).l) false] false] _ at c3;rw[he]at c1;rw[a1,a2];generalize iV (uH key 54++ps.flatten)=H at*;generalize qH key ps=R at*;simp[↓al];refine ai.ret c1 (by simp) (by simp) (by simp[p3]) ?_;simp[q3];refine WC c2 (by simp) n2 (by simp) l1 p1 p3 q3 ?_;simp[qc];refine WD c3 (by simp) n3 (by simp) (by simp) (by decide) l2 l4 p2 p4 ?_;simp;refine aA.plain [.keep [4],.dr 9] ?_;simp[af,p1.refs,p2.refs]
def Ki (key input:List UInt8):Key:=qH key [input]
def uD (key input:List UInt8):Key:=qH (Ki key input).l [[],[1]]
def Gm (key input:List UInt8):Key:=qH (Ki key input).l [(uD key input).l,[2]]
theorem Z1 [eJ] {f:FuncId} {s:St} {dst:Option Nat} {K:St->Prop} {tg:Tg K} {k:Nat} {pth:List Step} {M:PV} {c:fB} {c2:Bool} {L:List PV} {ls:List (List PV)} {v:PV} (hA:aK Pg f [.sl 1 L false,.sl 1 (ls.map λl=> .sl 1 l false) false] v)
  (hv:Pure v) (nL:fL v=true) (hk:get s.bx k=some (.box M)) (hM:aM M pth=some (.ar 1 32 L)) (hl:L.length=32) (hMp:Pure M) (Tv:an L) (hp:∀l∈ls,an l∧fI l=l)
  (h:K ({s with bx:=put s.bx k (.box M)}.put dst v)):ai Pg s dst f [.rs k pth 0 32 0 1 c,.sl 1 (ls.map λl=> .sl 1 l false) c2] K tg:=by
 have lW:L.take 32=L:=by rw[←hl,JcJ]
 have hP:an (ls.map λl=>PV.sl 1 l false):=an.mk' λq hq=>by
  obtain⟨l,hl,rfl⟩:=JhW.1 hq;simp[(hp l hl).1]
 have hW:fI (ls.map λl=>PV.sl 1 l false)=ls.map λl=>PV.sl 1 l false:=by
  clear hA hP h;induction ls with
  |nil=>rfl
  |cons a t ih=>simp only[JdX,fI];rw[ih λl hl=>hp l (by simp[hl])];simp[(hp a (by simp)).2]
 refine ai.view [k] [] [.box M] (bC:=[.rs KB pth 0 32 0 1 c,.sl 1 (ls.map λl=> .sl 1 l false) false]) (args0:=[.sl 1 L false,.sl 1 (ls.map λl=> .sl 1 l false) false]) (b6:=[.box M]) hA (by simp[getAll,hk]) (by simp) (by simp) (by simp[ah,af,bR,idx,hP.refs]) (by simp[ab,hMp.refs]) (by simp[aR,aE,bz,idx,hP.aE,hW]) (by simp[az,hMp.aE]) ?_ ?_ ?_
 ·refine⟨.inl (.inr ⟨KB,pth,0,32,0,1,c,L,rfl,?_,Tv.refs _,by omega,rfl⟩),.inl (.inl ⟨rfl,by simp[af,hP.refs]⟩),trivial⟩;simp[av,hM,lW]
 ·rintro r new ⟨rfl,rfl⟩;exact⟨⟨nL,by simp⟩,rfl⟩
 ·rintro r new ⟨rfl,rfl⟩;simp[hv.aE,hv.refs,ab,hMp.refs,az,hMp.aE,aI];exact h
theorem amU [eJ] {f:FuncId} {s:St} {dst:Option Nat} {K:St->Prop} {tg:Tg K} {k k2:Nat} {c c3:fB} {c2:Bool} {L A B:List PV} {v:PV} (hA:aK Pg f [.sl 1 L false,.sl 1 [.sl 1 A false,.sl 1 B false] false] v)
  (hv:Pure v) (nL:fL v=true) (hk:get s.bx k=some (.box (.ar 1 32 L))) (za:get s.bx k2=some (.box (.ar 1 32 A))) (cI:k≠k2) (hl:L.length=32) (hm:A.length=32) (Tv:an L) (I5:an A) (Ot:an B) (hBw:fI B=B)
  (h:K ({s with bx:=put (put s.bx k (.box (.ar 1 32 L))) k2 (.box (.ar 1 32 A))}.put dst v)):ai Pg s dst f [.rs k [] 0 32 0 1 c,.sl 1 [.rs k2 [] 0 32 0 1 c3,.sl 1 B false] c2] K tg:=by
 have lW:L.take 32=L:=by rw[←hl,JcJ]
 have awz:A.take 32=A:=by rw[←hm,JcJ]
 refine ai.view [k,k2] [] [.box (.ar 1 32 L),.box (.ar 1 32 A)] (bC:=[.rs KB [] 0 32 0 1 c,.sl 1 [.rs (KB+1) [] 0 32 0 1 c3,.sl 1 B false] false]) (args0:=[.sl 1 L false,.sl 1 [.sl 1 A false,.sl 1 B false] false]) (b6:=[.box (.ar 1 32 L),.box (.ar 1 32 A)]) hA (by simp[getAll,hk,za]) (by simp[cI]) (by simp) (by simp[ah,af,bR,idx,cI,Ot.refs]) (by simp[ab,af,Tv.refs,I5.refs]) (by simp[aR,aE,bz,idx,cI,Ot.aE,hBw]) (by simp[az,aE,Tv.aE,I5.aE]) ?_ ?_ ?_
 ·refine⟨.inl (.inr ⟨KB,[],0,32,0,1,c,L,rfl,?_,Tv.refs _,by omega,rfl⟩),.inr (.inl ⟨1,_,[.sl 1 A false,.sl 1 B false],false,rfl,⟨.inr ⟨KB+1,[],0,32,0,1,c3,A,rfl,?_,I5.refs _,by omega,rfl⟩,.inl ⟨rfl,by simp[af,Ot.refs]⟩,trivial⟩,rfl⟩),trivial⟩
  ·simp[av,lW]
  ·simp[av,awz]
 ·rintro r new ⟨rfl,rfl⟩;exact⟨⟨nL,by simp⟩,rfl⟩
 ·rintro r new ⟨rfl,rfl⟩;simp[hv.aE,hv.refs,ab,af,Tv.refs,I5.refs,az,aE,Tv.aE,I5.aE,aI];exact h
def mM (P:Program) [cL] [eJ] (x:b7) (Q:Exit->St->Prop):Nat->Tg (x,Q)->St->Prop
 |0,_,s=>∀K:St->Prop,aw P x (AN Q K) s
 |n+1,_,s=>aw P x (AN Q λs'=>∃c:List Cut,iR c s' (mM P x Q n .mk)) s
theorem mM.G8 [cL] {P:Program} [eJ] {s:St} {x:b7} {Q:Exit->St->Prop} {t:Tg (x,Q)} (n:Nat) (h:mM P x Q n .mk s):eW P x Q t s:=by
 refine⟨λm st=>mM P x Q m .mk st,[],⟨n,h⟩,?_⟩;intro m st hm;cases m with
 |zero=>exact hm _
 |
  succ m=>
  refine F9 (λe s' he=> ?_) hm
  cases e with
  |
   normal=>
   obtain⟨c,hc⟩:=he
   exact⟨c,fo c (λs0 hs=>⟨m,by omega,hs⟩) hc⟩
  |_=>exact he
theorem mM.z [cL] {P:Program} [eJ] {s:St} {x:b7} {Q:Exit->St->Prop} {t:Tg (x,Q)} (h:∀K:St->Prop,aw P x (AN Q K) s):mM P x Q 0 t s:=h
theorem mM.s [cL] {P:Program} [eJ] {s:St} {x:b7} {Q:Exit->St->Prop} {t:Tg (x,Q)} {n:Nat} (h:aw P x (AN Q λs'=>∃c:List Cut,iR c s' (mM P x Q n .mk)) s):mM P x Q (n+1) t s:=h
theorem iA (key:Key) {input:List UInt8} (hi:input.length≤1048576):u9 Pg 29 [aP key.l,aP input,.int .i64 2] 32 [aG (uD key.l input),aG (Gm key.l input)]:=by
 refine ae.intro (aC R.iA.2) (by simp[R.iA]) ?_;have h0:=nC (key:=key.l) (by rw[key.h];omega) (ps:=[input]) (by simp) (by simpa using hi);have h1:=nC (key:=(Ki key.l input).l) (by rw[(Ki key.l input).h];omega) (ps:=[[],[1]]) (by simp) (by simp);have h2:=nC (key:=(Ki key.l input).l) (by rw[(Ki key.l input).h];omega) (ps:=[(uD key.l input).l,[2]]) (by simp) (by simp[(uD key.l input).h]);rw[show qH key.l [input]=Ki key.l input from rfl]at h0;rw[show qH (Ki key.l input).l [[],[1]]=uD key.l input from rfl]at h1;rw[show qH (Ki key.l input).l [(uD key.l input).l,[2]]=Gm key.l input from rfl]at h2;generalize Ki key.l input=kT at*;generalize uD key.l input=kA at*;generalize Gm key.l input=kB at*;simp[R.iA,aj,av];refine ai.rA h0 ?_;simp;refine mM.G8 2 (mM.s ?_);simp[↓al];have g1:aK Pg 80 [.sl 1 (mB kT.l) false,.sl 1 (([[],[.int .u8 1]]:List (List PV)).map λl=> .sl 1 l false) false] (aG kA):=h1;have lT:(mB kT.l).length=32:=by rw[mB,JaX,kT.h]
 have lA:(mB kA.l).length=32:=by rw[mB,JaX,kA.h]
 have pT:an (mB kT.l):=aF (λ_=>by simp[u8]) _;have pA:an (mB kA.l):=aF (λ_=>by simp[u8]) _;have nA:=dB kA;have nB:=dB kB;refine Z1 (pth:=[]) (M:=aG kT) (L:=mB kT.l) (ls:=[[],[.int .u8 1]]) g1 (by simp) nA (by simp) (by simp;rfl) lT (by simp) pT (by simp) ?_;simp;refine⟨[.keep [0,1,2,6,7,8,9,22,23],.mv 11 90,.mv 37 91],?_⟩;simp[CN];refine mM.s ?_;simp[↓al];have g2:aK Pg 80 [.sl 1 (mB kT.l) false,.sl 1 [.sl 1 (mB kA.l) false,.sl 1 [.int .u8 2] false] false] (aG kB):=h2;refine amU g2 (by simp) nB (by simp;rfl) (by simp;rfl) (by decide) lT lA pT pA (by simp) (by simp) ?_;simp;refine⟨[.keep [0,1,2,6,8,22,23]],?_⟩;simp;refine mM.z ?_;simp[↓al];refine aA.with [.keep [6]] [91] ?_;simp[ab,ah,az,aR]
theorem WG {x:UInt32} {k:Nat} (hk:k=16∨k=12∨k=8∨k=7):aK Pg 383 [.int .u32 (nU x),.int .i64 (k:Int)] (.int .u32 (nU (ro x (32-k)))):=by
 refine ae.intro (aC R.br.2) (by simp[R.br]) ?_;have OJ:bits .and .u64 16 31=16:=by decide+kernel
 have Hh:bits .and .u64 12 31=12:=by decide+kernel
 have h8:bits .and .u64 8 31=8:=by decide+kernel
 have h7:bits .and .u64 7 31=7:=by decide+kernel
 have w16:IntKind.u64.wrap 16=16:=by decide+kernel
 have w12:IntKind.u64.wrap 12=12:=by decide+kernel
 have w8:IntKind.u64.wrap 8=8:=by decide+kernel
 have w7:IntKind.u64.wrap 7=7:=by decide+kernel
 have v16:IntKind.u64.wrap 20=20:=by decide+kernel
 have v8:IntKind.u64.wrap 24=24:=by decide+kernel
 have v7:IntKind.u64.wrap 25=25:=by decide+kernel
 rcases hk with rfl|rfl|rfl|rfl
 ·have h:=IE x 16 65536 (by decide) rfl 65536 rfl;rw[oL]at h;simp[R.br,aj,av,OJ,w16,show IntKind.u32.bits=32 from rfl,h];refine aA.plain [] ?_;simp
 ·have h:=IE x 20 4096 (by decide) rfl 1048576 rfl;rw[oL]at h;simp[R.br,aj,av,Hh,w12,v16,show IntKind.u32.bits=32 from rfl,h];refine aA.plain [] ?_;simp
 ·have h:=IE x 24 256 (by decide) rfl 16777216 rfl;rw[oL]at h;simp[R.br,aj,av,h8,w8,v8,show IntKind.u32.bits=32 from rfl,h];refine aA.plain [] ?_;simp
 ·have h:=IE x 25 128 (by decide) rfl 33554432 rfl;rw[oL]at h;simp[R.br,aj,av,h7,w7,v7,show IntKind.u32.bits=32 from rfl,h];refine aA.plain [] ?_;simp
def qrA (a b c d:UInt32):UInt32:=a+b+ro (b^^^(c+ro (d^^^(a+b)) 16)) 20
def qrD (a b c d:UInt32):UInt32:=ro (ro (d^^^(a+b)) 16^^^qrA a b c d) 24
def qrC (a b c d:UInt32):UInt32:=c+ro (d^^^(a+b)) 16+qrD a b c d
def qrB (a b c d:UInt32):UInt32:=ro (ro (b^^^(c+ro (d^^^(a+b)) 16)) 20^^^qrC a b c d) 25
theorem IG (a b c d:UInt32):aK Pg 389 [.int .u32 (nU a),.int .u32 (nU b),.int .u32 (nU c),.int .u32 (nU d)] (.tup [.int .u32 (nU (qrA a b c d)),.int .u32 (nU (qrB a b c d)),.int .u32 (nU (qrC a b c d)),.int .u32 (nU (qrD a b c d))]):=by
 refine ae.intro (aC R.qM.2) (by simp[R.qM]) ?_;have r16:∀z,aK Pg 383 [.int .u32 (nU z),.int .i64 16] (.int .u32 (nU (ro z 16))):=λz=>WG (x:=z) (k:=16) (by simp);have r12:∀z,aK Pg 383 [.int .u32 (nU z),.int .i64 12] (.int .u32 (nU (ro z 20))):=λz=>WG (x:=z) (k:=12) (by simp);have r8:∀z,aK Pg 383 [.int .u32 (nU z),.int .i64 8] (.int .u32 (nU (ro z 24))):=λz=>WG (x:=z) (k:=8) (by simp);have r7:∀z,aK Pg 383 [.int .u32 (nU z),.int .i64 7] (.int .u32 (nU (ro z 25))):=λz=>WG (x:=z) (k:=7) (by simp);simp[R.qM,aj,av,sd,nq];generalize ha1:a+b=a1;refine ai.rA (r16 (d^^^a1)) ?_;simp[sd,nq];generalize OE:ro (d^^^a1) 16=d1;generalize Bu:c+d1=c1;refine ai.rA (r12 (b^^^c1)) ?_;simp[sd,nq];generalize Sm:ro (b^^^c1) 20=b1;generalize ha2:a1+b1=a2;refine ai.rA (r8 (d1^^^a2)) ?_;simp[sd,nq];generalize Hb:ro (d1^^^a2) 24=d2;generalize y9:c1+d2=c2;refine ai.rA (r7 (b1^^^c2)) ?_;simp;refine aA.plain [] ?_;simp[qrA,qrB,qrC,qrD,ha1,OE,Bu,Sm,ha2,Hb,y9]
def qrU (v:Nat->UInt32) (a b c d:Nat):Nat->UInt32:=oD (oD (oD (oD v a (qrA (v a) (v b) (v c) (v d))) b (qrB (v a) (v b) (v c) (v d))) c (qrC (v a) (v b) (v c) (v d))) d (qrD (v a) (v b) (v c) (v d))
def hfA (v:Nat->UInt32):Nat->(Nat->UInt32)
 |0=>v
 |i+1=>qrU (hfA v i) i (4+i) (8+i) (12+i)
def hfB (v:Nat->UInt32):Nat->(Nat->UInt32)
 |0=>v
 |i+1=>qrU (hfB v i) i (4+(i+1)%4) (8+(i+2)%4) (12+(i+3)%4)
def Z4 (v:Nat->UInt32):Nat->(Nat->UInt32)
 |0=>v
 |i+1=>hfB (hfA (Z4 v i) 4) 4
theorem amX (v:Nat->UInt32):aK Pg 377 [.ar 1 16 (uW 16 v)] (.ar 1 16 (uW 16 (Z4 v 10))):=by
 refine ae.intro T.oM (by simp[F.oM]) ?_;simp[F.oM,aj,av,zU];refine eW.fD 10 (λ_=>True) [2,3,10] (λi=>[(10,.int .i64 i)]) (λi=>[(3,.box (.ar 1 16 (uW 16 (Z4 v i))))]) [.keep [2,3,10],.dr 1] ?_;simp;refine⟨rfl,λi hi K hK=> ?_,λK=> ?_⟩
 ·have kY:(i:Int)<10:=by omega
  have wi:IntKind.i64.wrap ((i:Int)+1)=i+1:=wrap_i64 (by omega);rw[Z4]at hK;generalize Z4 v i=u at*;simp[↓al,kY];refine eW.fD 4 (λ_=>True) [2,3,10,12] (λj=>[(12,.int .i64 j)]) (λj=>[(3,.box (.ar 1 16 (uW 16 (hfA u j))))]) [.keep [2,3,10,12]] ?_;simp;refine⟨rfl,λj hj K1 hK1=> ?_,λK1=> ?_⟩
  ·have Sy:(j:Int)<4:=by omega
   have wj:IntKind.i64.wrap ((j:Int)+1)=j+1:=wrap_i64 (by omega);have w4:IntKind.i64.wrap (4+(j:Int))=((4+j:Nat):Int):=by rw[wrap_i64 (by omega)];omega
   have w8:IntKind.i64.wrap (8+(j:Int))=((8+j:Nat):Int):=by rw[wrap_i64 (by omega)];omega
   have w12:IntKind.i64.wrap (12+(j:Int))=((12+j:Nat):Int):=by rw[wrap_i64 (by omega)];omega
   rw[hfA]at hK1;generalize hfA u j=x at*;have ha:j<16:=by omega
   have hb:4+j<16:=by omega
   have hc:8+j<16:=by omega
   have hd:12+j<16:=by omega
   have ga:=λf:Nat->UInt32=>dA (n:=16) f ha;have gb:=λf:Nat->UInt32=>dA (n:=16) f hb;have gc:=λf:Nat->UInt32=>dA (n:=16) f hc;have gd:=λf:Nat->UInt32=>dA (n:=16) f hd;have I1:(j:Int)<16:=by omega
   have tc:((4+j:Nat):Int)<16:=by omega
   have GU:((8+j:Nat):Int)<16:=by omega
   have Ap:((12+j:Nat):Int)<16:=by omega
   have hq:=IG (x j) (x (4+j)) (x (8+j)) (x (12+j));have hu:oD (oD (oD (oD x j (qrA (x j) (x (4+j)) (x (8+j)) (x (12+j)))) (4+j) (qrB (x j) (x (4+j)) (x (8+j)) (x (12+j)))) (8+j) (qrC (x j) (x (4+j)) (x (8+j)) (x (12+j)))) (12+j) (qrD (x j) (x (4+j)) (x (8+j)) (x (12+j)))=qrU x j (4+j) (8+j) (12+j):=rfl;simp[↓al,Sy];refine lH.run [3] rfl ?_;simp[w4,w8,w12,I1,tc,GU,Ap,ga,gb,gc,gd,-getElem?_pos,-Int.natCast_add];refine aN.rA hq ?_;simp[I1,tc,GU,Ap,wj,ga,gb,gc,gd,ky,hu,-getElem?_pos,-Int.natCast_add];refine⟨[.keep [2,3,10,12]],?_⟩;simp;exact hK1 _ (by simp)
  ·simp[↓al];refine eW.fD 4 (λ_=>True) [2,3,10,48] (λj=>[(48,.int .i64 j)]) (λj=>[(3,.box (.ar 1 16 (uW 16 (hfB (hfA u 4) j))))]) [.keep [2,3,10,48]] ?_;simp;refine⟨rfl,λj hj K2 sr=> ?_,λK2=> ?_⟩
   ·have Sy:(j:Int)<4:=by omega
    have wj:IntKind.i64.wrap ((j:Int)+1)=j+1:=wrap_i64 (by omega);have v1:IntKind.i64.wrap ((j:Int)+1)=((j+1:Nat):Int):=by rw[wrap_i64 (by omega)];omega
    have v2:IntKind.i64.wrap ((j:Int)+2)=((j+2:Nat):Int):=by rw[wrap_i64 (by omega)];omega
    have v3:IntKind.i64.wrap ((j:Int)+3)=((j+3:Nat):Int):=by rw[wrap_i64 (by omega)];omega
    have tm:∀n:Nat,(n:Int).tmod 4=((n%4:Nat):Int):=λn=>by rw[JlQ (by omega)];omega
    have w4:IntKind.i64.wrap (4+(((j+1)%4:Nat):Int))=((4+(j+1)%4:Nat):Int):=by rw[wrap_i64 (by omega)];omega
    have w8:IntKind.i64.wrap (8+(((j+2)%4:Nat):Int))=((8+(j+2)%4:Nat):Int):=by rw[wrap_i64 (by omega)];omega
    have w12:IntKind.i64.wrap (12+(((j+3)%4:Nat):Int))=((12+(j+3)%4:Nat):Int):=by rw[wrap_i64 (by omega)];omega
    rw[hfB]at sr;generalize hfB (hfA u 4) j=x at*;have ha:j<16:=by omega
    have I1:(j:Int)<16:=by omega
    obtain⟨jb,hjb,hb⟩:∃b,b=4+(j+1)%4∧b<16:=⟨_,rfl,by omega⟩
    obtain⟨jc,Tu,hc⟩:∃b,b=8+(j+2)%4∧b<16:=⟨_,rfl,by omega⟩
    obtain⟨jd,hjd,hd⟩:∃b,b=12+(j+3)%4∧b<16:=⟨_,rfl,by omega⟩
    rw[←hjb]at w4 sr;rw[←Tu]at w8 sr;rw[←hjd]at w12 sr;have tc:(jb:Int)<16:=by omega
    have GU:(jc:Int)<16:=by omega
    have Ap:(jd:Int)<16:=by omega
    have ga:=λf:Nat->UInt32=>dA (n:=16) f ha;have gb:=λf:Nat->UInt32=>dA (n:=16) f hb;have gc:=λf:Nat->UInt32=>dA (n:=16) f hc;have gd:=λf:Nat->UInt32=>dA (n:=16) f hd;have hq:=IG (x j) (x jb) (x jc) (x jd);have hu:oD (oD (oD (oD x j (qrA (x j) (x jb) (x jc) (x jd))) jb (qrB (x j) (x jb) (x jc) (x jd))) jc (qrC (x j) (x jb) (x jc) (x jd))) jd (qrD (x j) (x jb) (x jc) (x jd))=qrU x j jb jc jd:=rfl;clear hjb Tu hjd;simp[↓al,Sy,v1,v2,v3,tm,w4,w8,w12,I1,tc,GU,Ap,ga,gb,gc,gd,-getElem?_pos,-Int.natCast_add,-Int.natCast_emod];refine aN.rA hq ?_;simp[I1,tc,GU,Ap,wj,ga,gb,gc,gd,ky,hu,-getElem?_pos,-Int.natCast_add];refine⟨[.keep [2,3,10,48]],?_⟩;simp;exact sr _ (by simp)
   ·simp[↓al,wi];refine⟨[.keep [2,3,10]],?_⟩;simp;exact hK _ (by simp)
 ·simp[↓al];refine aA.plain [] ?_;simp
def cc0:Nat->UInt32:=λi=>if i=0 then 1634760805 else if i=1 then 857760878 else if i=2 then 2036477234 else if i=3 then 1797285236 else 0
def Te (k:List UInt8) (n:Nat):Nat->UInt32:=λi=>if 4≤i∧i<4+n then tG k (i-4)else cc0 i
def NO (k:List UInt8) (c:UInt32) (no:List UInt8) (n:Nat):Nat->UInt32:=λi=>if 13≤i∧i<13+n then tG no (i-13)else if i=12 then c else Te k 8 i
def WH (k:List UInt8) (c:UInt32) (no:List UInt8):Nat->UInt32:=λi=>Z4 (NO k c no 3) 10 i+NO k c no 3 i
def DF (k:List UInt8) (c:UInt32) (no:List UInt8):List UInt8:=xH (WH k c no) 16
theorem DG (k:List UInt8) (c:UInt32) (no:List UInt8):(DF k c no).length=64:=ou _ 16
theorem auC:zr 16 (PV.int IntKind.u32 0)=[.int .u32 0,.int .u32 0,.int .u32 0,.int .u32 0,.int .u32 0,.int .u32 0,.int .u32 0,.int .u32 0,.int .u32 0,.int .u32 0,.int .u32 0,.int .u32 0,.int .u32 0,.int .u32 0,.int .u32 0,.int .u32 0]:=by rw[cg];rfl
theorem z64:zr 64 (PV.int IntKind.u8 0)=zB 64:=by rw[cg];rfl
def jl (n:List UInt8):PV:= .ar 1 12 (n.map u8)
theorem Z5 (l:List UInt8) {i:Nat} (h:4*i+4≤l.length):aK Pg 207 [.sl 1 (((l.drop (4*i)).take 4).map u8) false] (.int .u64 (te ((l.drop (4*i)).take 4) 4:Nat)):=by
 have hl:((l.drop (4*i)).take 4).length=4:=by rw[lJ,JbV];omega
 have:=dC (l:=(l.drop (4*i)).take 4) (by omega);rw[hl]at this;exact this
theorem amY [eJ] {s:St} {d:Option Nat} {K:St->Prop} {k n off len:Nat} {L ys L':List PV} {c:fB} {c2:Bool} (hk:get s.bx k=some (.box (.ar 1 n L))) (h1:off+len≤n)
  (hL:L.take off++ys.take (min ys.length len)++L.drop (off+min ys.length len)=L') (h:K ({s with bx:=put s.bx k (.box (.ar 1 n L'))}.put d (.int .i64 (min ys.length len:Nat)))):Yn s d 1 (.rs k [] off len 0 1 c) K (.sl 1 ys c2):=by
 rw[zQ,JU,hk];show _∧bF (bT (PV.ar 1 n L) [] (PV.ar 1 n _)) _;rw[show∀X,bT (PV.ar 1 n L) [] (PV.ar 1 n X)=some (PV.ar 1 n X) from λX=>if_pos rfl];refine⟨.inr rfl,⟨rfl,rfl,rfl,h1⟩,?_⟩;rw[hL];exact h
theorem Rh {k:List UInt8} (hk:k.length=32) (c:UInt32) {no:List UInt8} (hn:no.length=12):
  aK Pg 355 [.ar 1 32 (k.map u8),.int .u32 (nU c),jl no] (.ar 1 64 ((DF k c no).map u8)):=by
 refine ae.intro (aC R.tX.2) (by simp[R.tX]) ?_;have wM:an (k.map u8):=aF (λ_=>by simp[u8]) _;have hpn:an (no.map u8):=aF (λ_=>by simp[u8]) _;have e0:[PV.int .u32 1634760805,.int .u32 857760878,.int .u32 2036477234,.int .u32 1797285236,.int .u32 0,.int .u32 0,.int .u32 0,.int .u32 0,.int .u32 0,.int .u32 0,.int .u32 0,.int .u32 0,.int .u32 0,.int .u32 0,.int .u32 0,.int .u32 0]=uW 16 cc0:=rfl;have ezk:([PV.int .u32 0,.int .u32 0,.int .u32 0,.int .u32 0,.int .u32 0,.int .u32 0,.int .u32 0,.int .u32 0,.int .u32 0,.int .u32 0,.int .u32 0,.int .u32 0,.int .u32 0,.int .u32 0,.int .u32 0,.int .u32 0]:List PV)=uW 16 λ_=>0:=rfl;have k0:uW 16 (Te k 0)=uW 16 cc0:=lU λj _=>by unfold Te;rw[if_neg (by omega)]
 simp[R.tX,aj,av,jl,auC,z64,e0];refine eW.fD 8 (λ_=>True) [1,3,5,6,7,15] (λi=>[(15,.int .i64 i)]) (λi=>[(7,.box (.ar 1 16 (uW 16 (Te k i))))]) [.keep [1,3,5,6,7,15]] ?_;simp[k0];refine⟨λi hi K hK=> ?_,λK=> ?_⟩
 ·have kY:(i:Int)<8:=by omega
  have wi:IntKind.i64.wrap ((i:Int)+1)=i+1:=wrap_i64 (by omega);have w4:IntKind.i64.wrap (4+(i:Int))=((4+i:Nat):Int):=by rw[wrap_i64 (by omega)];omega
  have w5:IntKind.i64.wrap (4*(i:Int))=((4*i:Nat):Int):=by rw[wrap_i64 (by omega)];omega
  have w6:IntKind.i64.wrap (((4*i:Nat):Int)+4)=((4*i+4:Nat):Int):=by rw[wrap_i64 (by omega)];omega
  have OJ:((4+i:Nat):Int)<16:=by omega
  have h32:((4*i+4:Nat):Int)≤32:=by omega
  have hs:uW 16 (oD (Te k i) (4+i) (tG k i))=uW 16 (Te k (i+1)):=lU λj hj=>by
   simp only[oD,Te];by_cases h:j=4+i
   ·rw[if_pos h,if_pos (by omega),show j-4=i by omega]
   ·rw[if_neg h];by_cases h':4≤j∧j<4+i
    ·rw[if_pos h',if_pos (by omega)]
    ·rw[if_neg h',if_neg (by omega)]
  have hT:=dA (n:=16) (Te k i) (i:=4+i) (by omega);have hrd:=Z5 k (i:=i) (by omega);have hd:((k.map u8).drop (4*i)).take 4=((k.drop (4*i)).take 4).map u8:=by rw[JfQ,JjV]
  rw[←hs,←ky,show tG k i=UInt32.ofNat (te ((k.drop (4*i)).take 4) 4) from rfl,←yU]at hK;simp[↓al,kY,w4,w5,w6,h32,-Int.natCast_add,-Int.natCast_mul];refine ai.vw (N:=32) hrd (by simp) wM (aF (λ_=>by simp[u8]) _) (by omega) hd (by simp) rfl ?_;simp[OJ,hT,wi,-getElem?_pos,-Int.natCast_add,-Int.natCast_mul];refine⟨[.keep [1,3,5,6,7,15]],?_⟩;simp;exact hK _ (by simp)
 have hT:=dA (n:=16) (Te k 8) (i:=12) (by omega)
 have hs:uW 16 (oD (Te k 8) 12 c)=uW 16 (NO k c no 0):=lU λj hj=>by
  simp only[oD,NO];rw[if_neg (by omega:¬(13≤j∧j<13+0))]
 simp[↓al,hT,ky,hs,-getElem?_pos];refine eW.fD 3 (λ_=>True) [3,5,6,7,32] (λi=>[(32,.int .i64 i)]) (λi=>[(7,.box (.ar 1 16 (uW 16 (NO k c no i))))]) [.keep [3,5,6,7,32]] ?_;simp;refine⟨λi hi K hK=> ?_,λK=> ?_⟩
 ·have kY:(i:Int)<3:=by omega
  have wi:IntKind.i64.wrap ((i:Int)+1)=i+1:=wrap_i64 (by omega);have w4:IntKind.i64.wrap (13+(i:Int))=((13+i:Nat):Int):=by rw[wrap_i64 (by omega)];omega
  have w5:IntKind.i64.wrap (4*(i:Int))=((4*i:Nat):Int):=by rw[wrap_i64 (by omega)];omega
  have w6:IntKind.i64.wrap (((4*i:Nat):Int)+4)=((4*i+4:Nat):Int):=by rw[wrap_i64 (by omega)];omega
  have OJ:((13+i:Nat):Int)<16:=by omega
  have h32:((4*i+4:Nat):Int)≤12:=by omega
  have hs:uW 16 (oD (NO k c no i) (13+i) (tG no i))=uW 16 (NO k c no (i+1)):=lU λj hj=>by
   simp only[oD,NO];by_cases h:j=13+i
   ·rw[if_pos h,if_pos (by omega),show j-13=i by omega]
   ·rw[if_neg h];by_cases h':13≤j∧j<13+i
    ·rw[if_pos h',if_pos (by omega)]
    ·rw[if_neg h',if_neg (show¬(13≤j∧j<13+(i+1)) by omega)]
  have hT:=dA (n:=16) (NO k c no i) (i:=13+i) (by omega);have hrd:=Z5 no (i:=i) (by omega);have hd:((no.map u8).drop (4*i)).take 4=((no.drop (4*i)).take 4).map u8:=by rw[JfQ,JjV]
  rw[←hs,←ky,show tG no i=UInt32.ofNat (te ((no.drop (4*i)).take 4) 4) from rfl,←yU]at hK;simp[↓al,kY,w4,w5,w6,h32,-Int.natCast_add,-Int.natCast_mul];refine ai.vw (N:=12) hrd (by simp) hpn (aF (λ_=>by simp[u8]) _) (by omega) hd (by simp) rfl ?_;simp[OJ,hT,wi,-getElem?_pos,-Int.natCast_add,-Int.natCast_mul];refine⟨[.keep [3,5,6,7,32]],?_⟩;simp;exact hK _ (by simp)
 have hC:=amX (NO k c no 3);have hB:∀i,WH k c no i=Z4 (NO k c no 3) 10 i+NO k c no 3 i:=λ_=>rfl;rw[show DF k c no=xH (WH k c no) 16 from rfl];generalize NO k c no 3=A at*;generalize Z4 A 10=B at*;generalize WH k c no=R at*;simp[↓al];refine ai.rA hC ?_;simp;have hz:∀i,i≤16->((xH R i).map u8++zB (64-4*i)).length=64:=λi hi=>by rw[JaJ,JaX,ou,zB,JcW];omega
 refine eW.fD 16 (λ_=>True) [6,10,11,49,50] (λi=>[(50,.int .i64 i)]) (λi=>[(11,.box (.ar 1 64 ((xH R i).map u8++zB (64-4*i))))]) [.keep [6,10,11,49,50]] ?_;simp[show xH R 0=[] from rfl];refine⟨λi hi K hK=> ?_,λK=> ?_⟩
 ·have kY:(i:Int)<16:=by omega
  have wi:IntKind.i64.wrap ((i:Int)+1)=i+1:=wrap_i64 (by omega);have w5:IntKind.i64.wrap (4*(i:Int))=((4*i:Nat):Int):=by rw[wrap_i64 (by omega)];omega
  have h64:((4*i:Nat):Int)≤64:=by omega
  have gA:=dA (n:=16) A hi;have gB:=dA (n:=16) B hi;have hw:IntKind.u64.wrap (nU (R i))=(((R i).toNat:Nat):Int):=by rw[nU,wrap_u64];have:=(R i).toNat_lt;omega
  have hL:=cB (n:=(R i).toNat) (k:=4) (by omega) (by omega);simp[↓al,kY,w5,h64,gA,gB,sd,←hB,hw,-getElem?_pos,-Int.natCast_mul,-Int.natCast_add];refine aN.rA hL ?_;simp[-zQ];refine amY (k:=11) (L':=(xH R (i+1)).map u8++zB (64-4*(i+1))) rfl (by omega) ?_ ?_
  ·have l1:((xH R i).map u8).length=4*i:=by rw[JaX,ou]
   have l2:((cD (R i).toNat 4).map u8).length=4:=by rw[JaX,db]
   rw[l2,show min 4 (64-4*i)=4 by omega,JrX l1,tJ (by omega),List.drop_append,JgX (by omega),l1,JqJ,BT,xH,JeV,JkW,show 64-4*i-4=64-4*(i+1) by omega]
  simp[wi];refine⟨[.keep [6,10,11,49,50]],?_⟩;simp;exact hK _ (by simp)
 ·have e:(xH R 16).map u8++zB (64-4*16)=(xH R 16).map u8:=by simp[zB]
  simp[↓al,e];refine aA.plain [] ?_;simp
theorem DH (a:Int):∃n:Nat,n<18446744073709551616∧IntKind.u64.wrap a=(n:Int):=by
 have h:0≤IntKind.u64.wrap a∧IntKind.u64.wrap a<18446744073709551616:=by constructor<;>simp[IntKind.wrap,IntKind.bits,IntKind.signed]<;>omega
 exact⟨(IntKind.u64.wrap a).toNat,by omega,by omega⟩
theorem bits_nat (op:BinOp) (a b:Int):∃n:Nat,n<18446744073709551616∧bits op .u64 a b=(n:Int):=DH _
theorem xz {x y c:Nat} (hx:x<18446744073709551616) (hy:y<18446744073709551616) (hc:c≤1):∃s d:Nat,(s<18446744073709551616∧d≤1)∧aK Pg 362 [.int .u64 x,.int .u64 y,.int .u64 c] (.tup [.int .u64 s,.int .u64 d]):=
 ⟨_,_,⟨JdZ _ (by decide),by omega⟩,bits_Add64 x y c hc⟩
theorem Kj {x y c:Nat} (hc:c≤1):∃s d:Nat,(s<18446744073709551616∧d≤1)∧aK Pg 392 [.int .u64 x,.int .u64 y,.int .u64 c] (.tup [.int .u64 s,.int .u64 d]):=by
 refine⟨_,if x<y+c then 1 else 0,⟨JdZ (x+18446744073709551616-y-c) (by decide),by split<;>omega⟩,aK.pair λw=> ?_⟩;rw[run_callFunc_extern (fn:=(Pg.funcs[392]?).getD default) (by kernel_rfl) (by kernel_rfl) (by kernel_rfl) (by kernel_rfl) (e:=Go.Proofs.sub64Entry) (by kernel_rfl),Go.Proofs.run_sub64 x y c hc];rfl
structure wJ where
 a:Nat
 b:Nat
 c:Nat
 ha:a<18446744073709551616
 hb:b<18446744073709551616
 hc:c<18446744073709551616
def wJ.e (h:wJ):PV:= .ar 1 3 [.int .u64 h.a,.int .u64 h.b,.int .u64 h.c]
structure NP where
 a:Nat
 b:Nat
 ha:a<18446744073709551616
 hb:b<18446744073709551616
def NP.e (h:NP):PV:= .st 2 [.int .u64 h.a,.int .u64 h.b]
theorem z3:zr 3 (PV.int IntKind.u64 0)=[.int .u64 0,.int .u64 0,.int .u64 0]:=by rw[cg];rfl
theorem Fc {x y:Nat} (hx:x<18446744073709551616) (hy:y<18446744073709551616):∃w:NP,aK Pg 390 [.int .u64 x,.int .u64 y] w.e:=by
 refine⟨⟨x*y/18446744073709551616,x*y%18446744073709551616,?_,JdZ _ (by decide)⟩,?_⟩
 ·have:=Nat.mul_lt_mul'' hx hy;exact Nat.div_lt_of_lt_mul this
 refine ae.intro (aC R.tY.2) (by simp[R.tY]) ?_;have hm:=bits_Mul64 hx hy;simp[R.tY,aj,av];refine ai.rA hm ?_;simp;refine aA.plain [] ?_;simp[NP.e]
theorem Z6 (a b:NP):∃w:NP,aK Pg 391 [a.e,b.e] w.e:=by
 obtain⟨s,c,⟨hs,hc⟩,k1⟩:=xz a.hb b.hb (c:=0) (by omega);obtain⟨t,d,⟨ht,hd⟩,k2⟩:=xz a.ha b.ha hc;refine⟨⟨t,s,ht,hs⟩,?_⟩;refine ae.intro (aC R.qN.2) (by simp[R.qN]) ?_;simp[R.qN,aj,av,NP.e];refine ai.rA k1 ?_;simp;refine ai.rA k2 ?_;simp;refine aA.plain [] ?_;simp
theorem WJ (h:wJ) (x:NP):∃w:wJ,aK Pg 380 [h.e,x.e] w.e:=by
 obtain⟨s,c,⟨hs,hc⟩,k1⟩:=xz h.ha x.hb (c:=0) (by omega);obtain⟨t,d,⟨ht,hd⟩,k2⟩:=xz h.hb x.ha hc;obtain⟨u,hu,hw⟩:=DH ((h.c:Int)+d);refine⟨⟨s,t,u,hs,ht,hu⟩,?_⟩;refine ae.intro (aC R.pn.2) (by simp[R.pn]) ?_;simp[R.pn,aj,av,NP.e,wJ.e,z3];refine ai.rA k1 ?_;simp;refine ai.rA k2 ?_;simp[hw];refine aA.plain [] ?_;simp
theorem adA (h:wJ) {r0 r1:Nat} (h0:r0<18446744073709551616) (h1:r1<18446744073709551616):∃w:wJ,aK Pg 381 [h.e,.int .u64 r0,.int .u64 r1] w.e:=by
 obtain⟨m0,a0⟩:=Fc h.ha h0;obtain⟨m1,a1⟩:=Fc h.hb h0;obtain⟨n1,b1⟩:=Fc h.ha h1;obtain⟨p1,c1⟩:=Z6 m1 n1;obtain⟨m2,a2⟩:=Fc h.hc h0;obtain⟨n2,b2⟩:=Fc h.hb h1;obtain⟨p2,c2⟩:=Z6 m2 n2;obtain⟨m3,a3⟩:=Fc h.hc h1;obtain⟨t1,d1,⟨ht1,OE⟩,k1⟩:=xz p1.hb m0.ha (c:=0) (by omega);obtain⟨t2,d2,⟨Hg,Hb⟩,k2⟩:=xz p2.hb p1.ha OE;obtain⟨t3,d3,⟨ht3,hd3⟩,k3⟩:=xz m3.hb p2.ha Hb;obtain⟨u1,Xv,e1⟩:=bits_nat .and t2 3;obtain⟨u2,hu2,e2⟩:=bits_nat .andNot t2 3;obtain⟨u3,hu3,e3⟩:=bits_nat .or (IntKind.u64.wrap ((t3:Int)*4611686018427387904)) ((t2:Int).fdiv 4);obtain⟨q,hq⟩:=WJ ⟨m0.b,t1,u1,m0.hb,ht1,Xv⟩ ⟨t3,u2,ht3,hu2⟩;have e4:(t3:Int).fdiv 4=((t3/4:Nat):Int):=by rw[JgZ _ (by decide)];omega
 obtain⟨z,hz⟩:=WJ q ⟨t3/4,u3,by omega,hu3⟩;refine⟨z,?_⟩;refine ae.intro T.il (by simp[F.il]) ?_;simp[F.il,aj,av,wJ.e,z3];simp[wJ.e,NP.e]at*;refine ai.rA a0 ?_;simp;refine lH.run [8] rfl ?_;simp;refine aN.rA a1 ?_;simp;refine aN.rA b1 ?_;simp;refine aN.rA c1 ?_;simp;refine lH.run [9] rfl ?_;simp;refine aN.rA a2 ?_;simp;refine aN.rA b2 ?_;simp;refine aN.rA c2 ?_;simp;refine ai.rA a3 ?_;simp;refine ai.rA k1 ?_;simp;refine ai.rA k2 ?_;simp;refine ai.rA k3 ?_;simp[e1,e2];refine ai.rA hq ?_;simp[show IntKind.u64.bits=64 from rfl,e3,e4];refine ai.rA hz ?_;simp;refine aA.plain [] ?_;simp
theorem auE (h:wJ):∃w:wJ,aK Pg 382 [h.e] w.e:=by
 obtain⟨s,c,⟨hs,hc⟩,k1⟩:=Kj (x:=h.a) (y:=18446744073709551611) (c:=0) (by omega);obtain⟨t,d,⟨ht,hd⟩,k2⟩:=Kj (x:=h.b) (y:=18446744073709551615) hc;obtain⟨u,e,⟨hu,he⟩,k3⟩:=Kj (x:=h.c) (y:=3) hd;refine⟨if e=1 then h else⟨s,t,u,hs,ht,hu⟩,?_⟩;refine ae.intro (aC R.iM.2) (by simp[R.iM]) ?_;by_cases h1:e=1
 ·have R9:(e:Int)=1:=by omega
  simp[R.iM,aj,av,wJ.e,z3,h1];refine ai.rA k1 ?_;simp;refine ai.rA k2 ?_;simp;refine ai.rA k3 ?_;simp[R9];refine aA.plain [] ?_;simp
 ·have R9:¬(e:Int)=1:=by omega
  simp[R.iM,aj,av,wJ.e,z3,h1];refine ai.rA k1 ?_;simp;refine ai.rA k2 ?_;simp;refine ai.rA k3 ?_;simp[R9];refine aA.plain [] ?_;simp
@[simp] theorem amZ (h:wJ):h.e.width=3:=rfl
@[simp] theorem auF (h:wJ):h.e.isAgg=true:=rfl
@[simp] theorem arq (h:wJ):h.e.aT=true:=rfl
@[simp] theorem ars (h:wJ):h.e.flat=true:=rfl
@[simp] theorem art (h:wJ):Pure h.e:=by simp[wJ.e]
@[simp] theorem axw (h:wJ):wk h.e=h.e:=by simp[wJ.e]
@[simp↓] theorem auG (g:Bool) (h:wJ) (K:PV->Prop):ed g h.e K=K h.e:=_root_.id rfl
def Kk (d:List UInt8):List UInt8:=d.take 16++1::List.replicate (23-min 16 d.length) 0
theorem WK (d:List UInt8):(Kk d).length=24:=by simp[Kk];omega
def wK (l:List UInt8) (i:Nat):Nat:=te ((l.drop i).take 8) 8
theorem wu (l:List UInt8) (i:Nat):wK l i<18446744073709551616:=GA _ 8
theorem rd8 (l:List UInt8) {i:Nat} (h:i+8≤l.length):aK Pg 207 [.sl 1 (((l.drop i).take 8).map u8) false] (.int .u64 (wK l i)):=by
 have hl:((l.drop i).take 8).length=8:=by rw[lJ,JbV];omega
 have:=dC (l:=(l.drop i).take 8) (by omega);rw[hl]at this;exact this
def Rnd (r0 r1:Nat) (h:wJ) (p:List UInt8) (w:wJ):Prop:=
 ∃
  (w1:wJ) (u:Nat) (hu:u<18446744073709551616),aK Pg 380 [h.e,(NP.mk (wK p 8) (wK p 0) (wu p 8) (wu p 0)).e] w1.e∧IntKind.u64.wrap ((w1.c:Int)+(wK p 16:Nat))=u∧
  aK Pg 381 [(wJ.mk w1.a w1.b u w1.ha w1.hb hu).e,.int .u64 r0,.int .u64 r1] w.e
theorem Ri {r0 r1:Nat} (h0:r0<18446744073709551616) (h1:r1<18446744073709551616) (h:wJ) (p:List UInt8):∃w,Rnd r0 r1 h p w:=by
 obtain⟨w1,k1⟩:=WJ h (NP.mk (wK p 8) (wK p 0) (wu p 8) (wu p 0));obtain⟨u,hu,e⟩:=DH ((w1.c:Int)+(wK p 16:Nat));obtain⟨w,k2⟩:=adA ⟨w1.a,w1.b,u,w1.ha,w1.hb,hu⟩ h0 h1;exact⟨w,w1,u,hu,k1,e,k2⟩
def zW3:wJ:=⟨0,0,0,by decide,by decide,by decide⟩
def Rj (f:wJ->List UInt8->wJ) (d:List UInt8):Nat->wJ
 |0=>zW3
 |i+1=>f (Rj f d i) (Kk (d.drop (16*i)))
theorem auH {k:List UInt8} (hk:k.length=32) {d:List UInt8} (hd:d.length≤1000000):∃t:List UInt8,t.length=16∧aK Pg 356 [.ar 1 32 (k.map u8),aP d] (.ar 1 16 (t.map u8)):=by
 have wM:an (k.map u8):=aF (λ_=>by simp[u8]) _;have wO:∀l:List UInt8,an (l.map u8):=λl=>aF (λ_=>by simp[u8]) _;obtain⟨r0,hr0,e0⟩:=bits_nat .and (wK k 0) 1152921487695413247;obtain⟨r1,tf,e1⟩:=bits_nat .and (wK k 8) 1152921487695413244;obtain⟨f,hf⟩:∃f:wJ->List UInt8->wJ,∀h p,Rnd r0 r1 h p (f h p):=⟨λh p=>Classical.choose (Ri hr0 tf h p),λh p=>Classical.choose_spec (Ri hr0 tf h p)⟩
 obtain⟨n,hn⟩:∃n,n=(d.length+15)/16:=⟨_,rfl⟩
 obtain⟨q,hq⟩:=auE (Rj f d n);obtain⟨z,hz⟩:=WJ q (NP.mk (wK k 24) (wK k 16) (wu k 24) (wu k 16));refine⟨cD z.a 8++cD z.b 8,by simp[db],?_⟩;refine ae.intro T.vz (by simp[F.vz]) ?_;have kd:∀i,((k.map u8).drop i).take 8=((k.drop i).take 8).map u8:=λi=>by rw[JfQ,JjV]
 have Sz:zr 16 (PV.int IntKind.u8 0)=zB 16:=by rw[cg];rfl
 have awB:zr 24 (PV.int IntKind.u8 0)=zB 24:=by rw[cg];rfl
 have h0e:PV.ar 1 3 [.int .u64 0,.int .u64 0,.int .u64 0]=zW3.e:=rfl;simp[F.vz,aj,av,Sz,awB,z3,h0e];refine ai.vw (N:=32) (rd8 k (i:=0) (by omega)) (by simp) wM (wO _) (by omega) (kd 0) (by simp) rfl ?_;simp[e0];refine ai.vw (N:=32) (rd8 k (i:=8) (by omega)) (by simp) wM (wO _) (by omega) (kd 8) (by simp) rfl ?_;simp[e1];obtain⟨g,hg⟩:∃g:Nat->List PV,∀i,g i=(d.drop (16*i)).map u8:=⟨_,λ_=>rfl⟩
 have g0:aP d= .sl 1 (g 0) false:=by rw[hg];rfl
 rw[g0];refine eW.fD n (λ_=>True) [1,2,4,5,6,7] (λi=>[(1,.sl 1 (g i) false)]) (λi=>[(7,.box (Rj f d i).e)]) [.keep [1,2,4,5,6,7]] ?_;simp;refine⟨rfl,λi hi K hK=> ?_,λK=> ?_⟩
 ·have Xu:d.drop (16*(i+1))=(d.drop (16*i)).drop (min (d.drop (16*i)).length 16):=by
   rw[JiW];by_cases h:(d.drop (16*i)).length≤16
   ·rw[JdW h,JgX (by rw[JbV]at h;omega),JgX (by rw[JbV];omega)]
   ·rw[Nat.min_eq_right (by omega)];congr 1
  have hD:0<(d.drop (16*i)).length:=by rw[JbV];omega
  have hD2:(d.drop (16*i)).length≤1000000:=by rw[JbV];omega
  rw[hg (i+1),Xu,Rj]at hK;rw[hg i];generalize d.drop (16*i)=D at*;generalize Rj f d i=h at*;obtain⟨w1,u,hu,k1,e2,k2⟩:=hf h (Kk D);have wN:(min (D.length:Int) 16).toNat=min D.length 16:=by omega
  have oR:=WK D;have I4:=wO (Kk D);have r16:=rd8 (Kk D) (i:=16) (by omega);have r8:=rd8 (Kk D) (i:=8) (by omega);have r0':=rd8 (Kk D) (i:=0) (by omega);have dp:∀i,(((Kk D).map u8).drop i).take 8=(((Kk D).drop i).take 8).map u8:=λi=>by rw[JfQ,JjV]
  have hD':¬(D.length:Int)≤0:=by omega
  have c1:(min (D.length:Int) 16)≤D.length:=by omega
  have c0:0≤(min (D.length:Int) 16):=by omega
  have c2:(min (D.length:Int) 16)<24:=by omega
  simp[↓al,hD,wN,c0,c1,-zQ];obtain⟨m,hm,aA3⟩:∃m,m=min D.length 16∧m≤16:=⟨_,rfl,by omega⟩
  have hmi:min (D.length:Int) 16=(m:Int):=by omega
  have wY:m≤D.length:=by omega
  have lz:((D.map u8).take m++zB (24-m)).length=24:=by rw[JaJ,lJ,JaX,zB,JcW];omega
  have hz1:((D.map u8).take m++zB (24-m))[m]? =some (.int .u8 0):=by
   have hl:((D.map u8).take m).length=m:=by rw[lJ,JaX];omega
   rw[List.getElem?_append_right (by omega),hl,Nat.sub_self,zB,List.getElem?_replicate,if_pos (by omega)]
  have qT:((D.map u8).take m++zB (24-m)).set m (.int .u8 1)=(Kk D).map u8:=by
   have hl:((D.map u8).take m).length=m:=by simp;omega
   rw[JsZ _ _ (by omega),hl,Nat.sub_self];obtain⟨j,hj⟩:∃j,24-m=j+1:=⟨23-m,by omega⟩
   rw[hj,zB,List.replicate_succ,JqX,Kk,JeV,JfQ,JdX,JnV]
   have e1:(D.map u8).take m=(D.map u8).take 16:=by
    rw[hm];by_cases h:D.length≤16
    ·rw[JdW h,tJ (by simp),tJ (by simpa using h)]
    ·rw[Nat.min_eq_right (by omega)]
   rw[e1,show 23-min 16 D.length=j by omega];rfl
  rw[←hm]at*;refine amY (k:=9) (L':=(D.map u8).take m++zB (24-m)) rfl (by omega) ?_ ?_
  ·have hl:((D.map u8).take m).length=m:=by simp;omega
   rw[hl,show min m 24=m by omega,JnJ,JkW,tJ (by omega),BT,JhQ]
  have c3:(m:Int)<24:=by omega
  have c4:(m:Int)≤D.length:=by omega
  simp[hmi,c3,c4,hz1,qT,-getElem?_pos];refine lH.run [] rfl ?_;simp;refine ai.vw (N:=24) r8 (by simp) I4 (wO _) (by omega) (dp 8) (by simp) rfl ?_;simp;refine ai.vw (N:=24) r0' (by simp) I4 (wO _) (by omega) (dp 0) (by simp) rfl ?_;have k1':aK Pg 380 [h.e,.st 2 [.int .u64 (wK (Kk D) 8:Nat),.int .u64 (wK (Kk D) 0:Nat)]] (.ar 1 3 [.int .u64 w1.a,.int .u64 w1.b,.int .u64 w1.c]):=k1;have k2':aK Pg 381 [.ar 1 3 [.int .u64 w1.a,.int .u64 w1.b,.int .u64 u],.int .u64 r0,.int .u64 r1] (f h (Kk D)).e:=k2;simp;refine aN.rA k1' ?_;simp;refine lH.run [] rfl ?_;simp;refine ai.vw (N:=24) r16 (by simp) I4 (wO _) (by omega) (dp 16) (by simp) rfl ?_;simp[e2];refine ai.rA k2' ?_;simp;refine⟨[.keep [1,2,4,5,6,7],.dr 9],?_⟩;simp[bt,b8,af,ab];refine hK _ ?_;simp;omega
 ·have hgn:g n=[]:=by rw[hg,JgX (by omega)];rfl
  have lA:=cB (n:=z.a) (k:=8) (by omega) (by omega);have lB:=cB (n:=z.b) (k:=8) (by omega) (by omega);have hj:=ft [cD z.a 8,cD z.b 8] (by simp[db]) (by simp);have hze:z.e= .ar 1 3 [.int .u64 z.a,.int .u64 z.b,.int .u64 z.c]:=rfl;have hz':aK Pg 380 [q.e,.st 2 [.int .u64 (wK k 24:Nat),.int .u64 (wK k 16:Nat)]] (.ar 1 3 [.int .u64 z.a,.int .u64 z.b,.int .u64 z.c]):=hz;simp[↓al,hgn];refine lH.run [] rfl ?_;simp;refine aN.rA hq ?_;simp;refine ai.vw (N:=32) (rd8 k (i:=24) (by omega)) (by simp) wM (wO _) (by omega) (kd 24) (by simp) rfl ?_;simp;refine ai.vw (N:=32) (rd8 k (i:=16) (by omega)) (by simp) wM (wO _) (by omega) (kd 16) (by simp) rfl ?_;simp;refine aN.rA hz' ?_;simp;refine aN.rA lA ?_;simp;refine aN.rA lB ?_;simp;refine aN.rA hj ?_;have he:aP [cD z.a 8,cD z.b 8].flatten= .sl 1 ((cD z.a 8).map u8++(cD z.b 8).map u8) false:=by simp[aP]
  have hl:((cD z.a 8).map u8++(cD z.b 8).map u8).length=16:=by simp[db]
  have hpz:an ((cD z.a 8).map u8++(cD z.b 8).map u8):=(wO _).append (wO _);rw[he];generalize (cD z.a 8).map u8++(cD z.b 8).map u8=M at*;have lW:M.take 16=M:=by rw[←hl,JcJ]
  simp[hl,lW];refine aA.plain [.keep [4]] ?_;simp;exact hpz
def G9 (k:List UInt8) (c:UInt32) (no:List UInt8) (i:Nat):List UInt8:=if i=0 then List.replicate 64 0 else DF k (c+UInt32.ofNat ((i-1)/64)) no
theorem WL (k:List UInt8) (c:UInt32) (no:List UInt8) (i:Nat):(G9 k c no i).length=64:=by
 unfold G9;split
 ·simp
 ·exact DG _ _ _
def OA (k:List UInt8) (c:UInt32) (no d:List UInt8):Nat->List UInt8
 |0=>[]
 |i+1=>OA k c no d i++[d.getD i 0^^^(G9 k c no (i+1)).getD (i%64) 0]
theorem BW (k:List UInt8) (c:UInt32) (no d:List UInt8):∀i,(OA k c no d i).length=i
 |0=>rfl
 |i+1=>by rw[OA,JaJ,BW k c no d i];rfl
theorem auI (c:UInt32) (n:Nat):IntKind.u32.wrap (nU (c+UInt32.ofNat n)+1)=nU (c+UInt32.ofNat (n+1)):=by
 rw[show(1:Int)=nU 1 from rfl,sd,UInt32.add_assoc];congr 2;apply UInt32.toNat_inj.1;simp[UInt32.toNat_add,JpV]
theorem am0 (x y:UInt8):bits .xor .u8 (x.toNat:Int) (y.toNat:Int)=((x^^^y).toNat:Int):=by
 rw[u8_xor_nat _ _ x.toNat_lt y.toNat_lt,UInt8.toNat_xor]
theorem auJ {k:List UInt8} (hk:k.length=32) (c:UInt32) {no:List UInt8} (hn:no.length=12) {d:List UInt8} (hd:d.length≤1000000):
  aK Pg 322 [.ar 1 32 (k.map u8),.int .u32 (nU c),jl no,aP d] (aP (OA k c no d d.length)):=by
 refine ae.intro (aC R.xA.2) (by simp[R.xA]) ?_;have wO:∀l:List UInt8,an (l.map u8):=λl=>aF (λ_=>by simp[u8]) _;have wM:=wO k;have hpn:=wO no;have e0:zB 64=(G9 k c no 0).map u8:=by simp[G9,zB,u8]
 have ec:nU c=nU (c+UInt32.ofNat ((0+63)/64)):=by simp
 simp[R.xA,aj,av,jl,aP,z64];rw[ec,e0];refine eW.fD d.length (λ_=>True) [1,4,6,8,9,10,13,14,15] (λi=>[(1,.int .u32 (nU (c+UInt32.ofNat ((i+63)/64)))),(9,.rs 60 [] 0 i i 1 .tip),(15,.int .i64 i)]) (λi=>[(10,.box (.ar 1 64 ((G9 k c no i).map u8))),(60,.arr 1 ((OA k c no d i).map u8))]) [.keep [1,4,6,8,9,10,13,14,15],.vt 9 60 1] ?_;simp[show OA k c no d 0=[] from rfl];refine⟨λi hi K hK=> ?_,λK=> ?_⟩
 ·have hx:d[i]? =some d[i]:=gJ hi;have D0:d.getD i 0=d[i]:=by rw[JaV,hx];rfl
  have wi:IntKind.i64.wrap ((i:Int)+1)=(i:Int)+1:=wrap_i64 (by omega);have kY:(i:Int)<d.length:=by omega
  have tm:(i:Int).tmod 64=((i%64:Nat):Int):=by rw[JlQ (by omega)];omega
  have h64:i%64<64:=JdZ _ (by decide);have awC:((i%64:Nat):Int)<64:=by omega
  have hg:((G9 k c no (i+1)).map u8)[i%64]? =some (u8 ((G9 k c no (i+1)).getD (i%64) 0)):=by
   have hl:=WL k c no (i+1);rw[List.getElem?_map,gJ (by omega),JaV,gJ (by omega)];rfl
  rw[OA,D0,JeV,JrQ]at hK;generalize hb:(G9 k c no (i+1)).getD (i%64) 0=b at*;have hxb:=am0 d[i] b;generalize d[i]=x at*;generalize hxo:(OA k c no d i).map u8=X at*;have hXl:X.length=i:=by rw[←hxo,JaX,BW]
  by_cases h0:i%64=0
  ·have ct:(i+63)/64=i/64:=by omega
   have ct2:(i+1+63)/64=i/64+1:=by omega
   have hB:=Rh hk (c+UInt32.ofNat (i/64)) hn;have hP:DF k (c+UInt32.ofNat (i/64)) no=G9 k c no (i+1):=by unfold G9;rw[if_neg (by omega)];rfl
   rw[hP]at hB;rw[ct2]at hK;rw[ct];have Bb:=(wO (G9 k c no (i+1)))
   generalize (G9 k c no (i+1)).map u8=Q at*;generalize (G9 k c no i).map u8=Q0 at*;have hu:=auI c (i/64);generalize UInt32.ofNat (i/64)=y at*;simp only[u8]at hg hK;simp[↓al,kY,hx,tm,h0,u8,-getElem?_pos];refine ai.ret hB (by simp[jl]) (by simp[wM,hpn]) (by simp[Bb]) ?_;rw[h0]at hg;simp[tm,h0,hg,hu,hxb,hXl,wi,-getElem?_pos];refine⟨⟨by omega,by omega⟩,[.keep [1,4,6,8,9,10,13,14,15]],?_⟩;simp;exact hK _ (by simp)
  ·have ct:(i+1+63)/64=(i+63)/64:=by omega
   have hP:G9 k c no (i+1)=G9 k c no i:=by
    unfold G9;rw[if_neg (by omega),if_neg (by omega),show(i+1-1)/64=(i-1)/64 by omega]
   have h0':¬((i%64:Nat):Int)=0:=by omega
   rw[hP]at hK hg;rw[ct]at hK;generalize (G9 k c no i).map u8=Q at*;simp only[u8]at hg hK;simp[↓al,kY,hx,tm,h0,awC,hg,hxb,hXl,wi,u8,-getElem?_pos,-Int.natCast_emod];refine⟨⟨by omega,by omega⟩,[.keep [1,4,6,8,9,10,13,14,15]],?_⟩;simp;exact hK _ (by simp)
 ·have hl:((OA k c no d d.length).map u8).length=d.length:=by rw[JaX,BW]
  have hp:=wO (OA k c no d d.length);generalize (OA k c no d d.length).map u8=X at*;simp[↓al];refine aA.plain [.keep [8],.fz 60] ?_;simp[hp.refs,hl];have ht:X.take d.length=X:=by rw[←hl,JcJ]
  rw[ht];exact⟨hp,rfl⟩
theorem rv (ps:List (List UInt8)) (h:ps.flatten.length≤1099511627776) (hn:ps.length≤1099511627776):u9 Pg 165 [.sl 1 (ps.map aP) false] 1 (mB ps.flatten):=by
 refine ae.intro (aC R.ft.2) (by simp[R.ft]) ?_;simp[R.ft,aj,av];refine eW.fD ps.length (λ_=>True) [3,6,7,8] (λi=>[(3,.rs 3 [] 0 (ps.take i).flatten.length (ps.take i).flatten.length 1 .tip),(8,.int .i64 i)]) (λi=>[(3,.arr 1 (mB (ps.take i).flatten))]) [.keep [3,6,7,8],.vt 3 3 1] ?_;simp[show mB []=[] from rfl,-List.length_flatten];refine⟨λi hi K hK=> ?_,λK=> ?_⟩
 ·have B9:IntKind.i64.wrap ((i:Int)+1)=(i:Int)+1:=wrap_i64 (by omega);have Bc:=ZZ (ps:=ps) (i+1);rw[BV hi,JaJ]at Bc;rw[BV hi]at hK;have hx:ps[i]? =some ps[i]:=gJ hi;generalize ps[i]=p at*;generalize (ps.take i).flatten=A at*;have hl3:A.length+p.length≤ps.flatten.length:=Bc;have XG:mB (A++p)=mB A++mB p:=JeV;have wY:(mB A).length=A.length:=JaX _;have hmp:(mB p).length=p.length:=JaX _;have aeQ:aP p= .sl 1 (mB p) false:=rfl;rw[XG,JaJ]at hK;generalize mB A=mA at*;generalize mB p=mP at*;have kY:(i:Int)<ps.length:=by omega
  simp[↓al,kY,B9,hx,aeQ,wY,hmp,-getElem?_pos];refine⟨⟨by omega,by omega⟩,[.keep [3,6,7,8]],?_⟩;simp;exact hK _ (by simp)
 ·simp[↓al,-List.length_flatten];have wY:(mB ps.flatten).length=ps.flatten.length:=JaX _;have hp:an (mB ps.flatten):=aF (λ_=>by simp[u8]) _;have lW:(mB ps.flatten).take ps.flatten.length=mB ps.flatten:=by rw[←wY,JcJ]
  generalize mB ps.flatten=L at*;refine aA.with [.keep [2]] [3] ?_;simp[ab,az,hp.refs,hp.aE,wY,-List.length_flatten]
theorem ai.jv [eJ] {s:St} {dst:Option Nat} {K:St->Prop} {tg:Tg K} {k:Nat} {c3:fB} {c2:Bool} {A B:List UInt8} {n:Nat} (o:Nat) (hn:B.length=n) (hk:get s.bx k=some (.box (.ar 1 n (B.map u8)))) (ho:o≠k) (hf:get s.bx o=none) (hl:A.length+B.length≤1000000)
  (h:K ({s with bx:=put (put s.bx k (.box (.ar 1 n (B.map u8)))) o (.arr 1 ((A++B).map u8))}.put dst (.rs o [] 0 (A++B).length (A++B).length 1 .tip))):
  ai Pg s dst 165 [.sl 1 [aP A,.rs k [] 0 n 0 1 c3] c2] K tg:=by
 subst hn;have hA:=rv [A,B] (by simp;omega) (by simp);have wO:∀l:List UInt8,an (l.map u8):=λl=>aF (λ_=>by simp[u8]) _;have hpA:=wO A;have I4:=wO B;have hwA:fI (A.map u8)=A.map u8:=nm (λ_=>by simp[u8]) _;have hC:=wO (A++B);have hCl:((A++B).map u8).length=(A++B).length:=JaX _;have Ti:eM ((A++B).map u8)=true:=kS (λ_=>rfl) _;have e:mB [A,B].flatten=(A++B).map u8:=by simp[mB]
 rw[e]at hA;generalize hCe:(A++B).map u8=C at*;refine ai.view [k] [o] [.box (.ar 1 B.length (B.map u8))] (bC:=[.sl 1 [aP A,.rs KB [] 0 B.length 0 1 c3] false]) (args0:=[.sl 1 [aP A,aP B] false]) (b6:=[.box (.ar 1 B.length (B.map u8))]) hA (by simp[getAll,hk]) (by simp[Ne.symm ho]) (by simp[hf]) (by simp[ah,af,bR,idx,aP]) (by simp[ab,af]) (by simp[aR,aE,bz,idx,aP,hwA]) (by simp[az,aE]) ?_ ?_ ?_
 ·refine⟨.inr (.inl ⟨1,_,[aP A,aP B],false,rfl,⟨.inl ⟨rfl,by simp[aP]⟩,.inr ⟨KB,[],0,B.length,0,1,c3,B.map u8,rfl,?_,I4.refs _,by omega,rfl⟩,trivial⟩,rfl⟩),trivial⟩;simp[av]
 ·rintro r new ⟨rfl,rfl⟩;exact⟨⟨by simp[fL,lP],by simp[uj,Ti]⟩,rfl⟩
 ·rintro r new ⟨rfl,rfl⟩;rw[hCl];simp only[JaJ]at h⊢;simpa[az,aE,aR,bz,idx,cU,ab,af,ah,c9,aI,I4.refs,I4.aE,hC.refs,hC.aE]using h
theorem ai.jv1 [eJ] {s:St} {dst:Option Nat} {K:St->Prop} {tg:Tg K} {k:Nat} {c3:fB} {c2:Bool} {A B:List UInt8} {n:Nat} (o:Nat) (hn:A.length=n) (hk:get s.bx k=some (.arr 1 (A.map u8))) (ho:o≠k) (hf:get s.bx o=none) (hl:A.length+B.length≤1000000)
  (h:K ({s with bx:=put (put s.bx k (.arr 1 (A.map u8))) o (.arr 1 ((A++B).map u8))}.put dst (.rs o [] 0 (A++B).length (A++B).length 1 .tip))):
  ai Pg s dst 165 [.sl 1 [.rs k [] 0 n n 1 c3,aP B] c2] K tg:=by
 subst hn;have hA:=rv [A,B] (by simp;omega) (by simp);have wO:∀l:List UInt8,an (l.map u8):=λl=>aF (λ_=>by simp[u8]) _;have hpA:=wO A;have I4:=wO B;have hwA:fI (B.map u8)=B.map u8:=nm (λ_=>by simp[u8]) _;have hC:=wO (A++B);have hCl:((A++B).map u8).length=(A++B).length:=JaX _;have Ti:eM ((A++B).map u8)=true:=kS (λ_=>rfl) _;have e:mB [A,B].flatten=(A++B).map u8:=by simp[mB]
 rw[e]at hA;generalize hCe:(A++B).map u8=C at*;refine ai.view [k] [o] [.arr 1 (A.map u8)] (bC:=[.sl 1 [.rs KB [] 0 A.length A.length 1 c3,aP B] false]) (args0:=[.sl 1 [aP A,aP B] false]) (b6:=[.arr 1 (A.map u8)]) hA (by simp[getAll,hk]) (by simp[Ne.symm ho]) (by simp[hf]) (by simp[ah,af,bR,idx,aP]) (by simp[ab]) (by simp[aR,aE,bz,idx,aP,hwA]) (by simp[az]) ?_ ?_ ?_
 ·refine⟨.inr (.inl ⟨1,_,[aP A,aP B],false,rfl,⟨.inr ⟨KB,[],0,A.length,A.length,1,c3,A.map u8,rfl,?_,hpA.refs _,by omega,rfl⟩,.inl ⟨rfl,by simp[aP]⟩,trivial⟩,rfl⟩),trivial⟩;simp[av]
 ·rintro r new ⟨rfl,rfl⟩;exact⟨⟨by simp[fL,lP],by simp[uj,Ti]⟩,rfl⟩
 ·rintro r new ⟨rfl,rfl⟩;rw[hCl];simp only[JaJ]at h⊢;simpa[az,aE,aR,bz,idx,cU,ab,af,ah,c9,aI,hpA.refs,hpA.aE,hC.refs,hC.aE]using h
theorem LR {d:List UInt8} (hd:d.length≤1000000):∃z:List UInt8,z.length≤15∧aK Pg 357 [aP d] (aP z):=by
 obtain⟨n,hn⟩:∃n,n=(16-d.length%16)%16:=⟨_,rfl⟩
 refine⟨List.replicate n 0,by rw[JcW];omega,?_⟩;refine ae.intro (aC R.vB.2) (by simp[R.vB]) ?_;have t1:(d.length:Int).tmod 16=((d.length%16:Nat):Int):=by rw[JlQ (by omega)];omega
 have t2:IntKind.i64.wrap (16-((d.length%16:Nat):Int))=((16-d.length%16:Nat):Int):=by rw[wrap_i64 (by omega)];omega
 have t3:((16-d.length%16:Nat):Int).tmod 16=(n:Int):=by rw[JlQ (by omega)];omega
 simp[R.vB,aj,av,t1,t2,t3,-Int.natCast_emod];refine⟨⟨by omega,by omega⟩,?_⟩;refine aA.plain [.keep [2],.fz 8] ?_;have hz:(List.replicate n (0:UInt8)).map u8=List.replicate n (PV.int .u8 0):=by simp[u8]
 have hp:an (List.replicate n (PV.int .u8 0)):=by rw[←hz];exact aF (λ_=>by simp[u8]) _
 have hl:(List.replicate n (PV.int IntKind.u8 0)).length=n:=JcW;have he:aP (List.replicate n 0)= .sl 1 (List.replicate n (PV.int .u8 0)) false:=by rw[aP,hz]
 rw[he];clear he hz;generalize List.replicate n (PV.int .u8 0)=Z at*;have ht:Z.take n=Z:=by rw[←hl,JcJ]
 simp[hp.refs,hl,ht];exact hp
theorem Z7 (n:Nat) (h:n≤1000000):IntKind.u64.wrap (n:Int)=(n:Int):=wrap_u64 (by omega)
theorem auK {k:List UInt8} (hk:k.length=32) {no:List UInt8} (hn:no.length=12) {d m:List UInt8} (hd:d.length≤100000) (hm:m.length≤100000):
  ∃t:List UInt8,t.length=16∧aK Pg 321 [.ar 1 32 (k.map u8),jl no,aP d,aP m] (.ar 1 16 (t.map u8)):=by
 obtain⟨f1,l1,h1⟩:=LR (d:=m) (by omega);obtain⟨f2,l2,h2⟩:=LR (d:=d) (by omega);have g1:=cB (n:=m.length) (k:=8) (by omega) (by omega);have g2:=cB (n:=d.length) (k:=8) (by omega) (by omega);have hj:=ft [m,f1,d,f2,cD m.length 8,cD d.length 8] (by simp[db];omega) (by simp);have qR:((DF k 0 no).take 32).length=32:=by rw[lJ,DG];rfl
 obtain⟨t,ht,hs⟩:=auH qR (d:=[m,f1,d,f2,cD m.length 8,cD d.length 8].flatten) (by simp[db];omega);refine⟨t,ht,?_⟩;refine ae.intro T.vC (by simp[F.vC]) ?_;have wO:∀l:List UInt8,an (l.map u8):=λl=>aF (λ_=>by simp[u8]) _;have wM:=wO k;have hpn:=wO no;have hB:=Rh hk 0 hn;have Sz:zr 16 (PV.int IntKind.u8 0)=zB 16:=by rw[cg];rfl
 have e0:nU 0=0:=rfl;rw[e0]at hB;rw[JfQ]at hs;have ue:((DF k 0 no).map u8).length=64:=by rw[JaX,DG]
 have I4:=wO (DF k 0 no);have OL:=wO t;have Fw:(t.map u8).length=16:=by rw[JaX,ht]
 have awF:fI (((DF k 0 no).map u8).take 32)=((DF k 0 no).map u8).take 32:=by rw[←JfQ];exact nm (λ_=>by simp[u8]) _
 generalize (DF k 0 no).map u8=Q at*;generalize t.map u8=W at*;simp[F.vC,aj,av,jl,Sz,z64];refine ai.ret hB (by simp[jl]) (by simp[wM,hpn]) (by simp[I4]) ?_;simp[ue];refine aN.rA h1 ?_;simp;refine aN.rA h2 ?_;simp[Z7 _ (show m.length≤1000000 by omega)];refine aN.rA g1 ?_;simp[Z7 _ (show d.length≤1000000 by omega)];refine aN.rA g2 ?_;simp;refine aN.rA hj ?_;have awG:an (Q.take 32):=I4.take _;generalize [m,f1,d,f2,cD m.length 8,cD d.length 8].flatten=J at*;generalize Q.take 32=Q32 at*;simp;refine aN.ret hs (by simp[awF]) (by simp[awG]) (by simp[OL]) ?_;simp;refine aA.plain [.keep [8]] ?_;simp[OL]
theorem Rk {k:List UInt8} (hk:k.length=32) {no:List UInt8} (hn:no.length=12) {d m:List UInt8} (hd:d.length≤100000) (hm:m.length≤100000):
  ∃s:List UInt8,s.length=d.length+16∧u9 Pg 292 [.ar 1 32 (k.map u8),jl no,aP d,aP m] 1 (s.map u8):=by
 have hx:=auJ hk 1 hn (d:=d) (by omega);have hxl:=BW k 1 no d d.length;generalize OA k 1 no d d.length=x at*;obtain⟨t,ht,h1⟩:=auK hk hn (d:=x) (m:=m) (by omega) hm;refine⟨x++t,by rw[JaJ,hxl,ht],?_⟩;refine ae.intro (aC R.Ah.2) (by simp[R.Ah]) ?_;have wO:∀l:List UInt8,an (l.map u8):=λl=>aF (λ_=>by simp[u8]) _;have wM:=wO k;have hpn:=wO no;have OL:=wO t;have Tt:=wO (x++t);have e1:nU 1=1:=rfl;rw[e1]at hx;have Sz:zr 16 (PV.int IntKind.u8 0)=zB 16:=by rw[cg];rfl
 have hl:((x++t).map u8).length=(x++t).length:=JaX _;generalize hX:(x++t).map u8=X at hl Tt⊢;simp only[jl]at hx h1;simp[R.Ah,aj,av,jl,Sz];refine ai.ret hx (by simp) (by simp[wM,hpn]) (by simp) ?_;simp;refine ai.ret h1 (by simp) (by simp[wM,hpn]) (by simp[OL]) ?_;simp;refine ai.jv 23 ht (by simp) (by simp) (by simp) (by omega) ?_;rw[hX];generalize (x++t).length=n at*;subst hl;simp;refine aA.with [.keep [8]] [23] ?_;simp[ab,az,Tt.refs,Tt.aE]
theorem alD {k:List UInt8} (hk:k.length=32) {no:List UInt8} (hn:no.length=12) {d m:List UInt8} (hd:d.length≤100000) (hm:m.length≤100000):
  ∃s:List UInt8,s.length=d.length+16∧aK Pg 292 [.ar 1 32 (k.map u8),jl no,aP d,aP m] (aP s):=by
 obtain⟨s,h1,h2⟩:=Rk hk hn hd hm;exact⟨s,h1,h2.iQ (aF (λ_=>by simp[u8]) _)⟩
theorem Ie (n:Nat):∃c:List UInt8,c.length=12∧aK Pg 245 [.int .u64 n] (jl c):=by
 refine⟨[0,0,0,0]++cD n 8,by simp[db],?_⟩;refine ae.intro (aC R.adC.2) (by simp[R.adC]) ?_;have g:=cB (n:=n) (k:=8) (by omega) (by omega);have hz:zr 12 (PV.int IntKind.u8 0)=zB 12:=by rw[cg];rfl
 simp[R.adC,aj,av,jl,hz];refine lH.run [] rfl ?_;simp;refine aN.rA g ?_;simp;refine ai.jv1 (A:=[0,0,0,0]) 7 rfl rfl (by simp) (by simp) (by simp[db]) ?_;have hl:(cD n 8).length=8:=db _ _;have ht:((cD n 8).map u8).take 8=(cD n 8).map u8:=tJ (by simp[hl]);have oR:an ((cD n 8).map u8):=aF (λ_=>by simp[u8]) _;simp[hl,ht];refine aA.plain [.keep [2]] ?_;simp[oR]
structure Kb (d:bc):Prop where
 au:d.au.length≤1048576
 bH:d.bH.length≤1048576
 aS:d.aS.length≤1048576
 timers:d.timers.length≤1048576
 dT:d.dT.length≤1048576
 buckets:d.buckets.length≤1048576
 dI:∀p∈d.au,p.dI.length≤1048576∧∀b∈p.dI,b.length≤1048576
theorem qa {f:FuncId} {sz bytes:Nat} {z:PV} (ht:nk Pg [] [] f=some (u6 sz bytes z).er) (fH:0<sz) {l:List PV} (hr:an l) (h:l.length≤1048576) (hb:bytes≤100000):aK Pg f [.sl sz l false] (.sl sz l false):=
 (show u9 Pg f [.sl sz l false] sz l from EW ht fH hr false (JeW (JhJ h hb) (by decide)) (by omega)).iQ hr
theorem me {f:FuncId} {sz bytes:Nat} {z:PV} (ht:nk Pg [] [] f=some (u6 sz bytes z).er) (fH:0<sz) {l:List PV} (hr:an l) (h:l.length≤1048576) (hb:bytes≤100000):u9 Pg f [.sl sz l false] sz l:=
 EW ht fH hr false (JeW (JhJ h hb) (by decide)) (by omega)
theorem NQ (l:List Int):an (l.map λn=>PV.int .i64 n):=aF (λ_=>by simp) l
theorem Dx {b:List UInt8} (h:b.length≤1048576):aK Pg 101 [aP b] (aP b):=
 qa (bytes:=1) (aC R.se.2) (by omega) (by simp) (by simpa using h) (by omega)
theorem NR {l:List vi} (h:l.length≤1048576):aK Pg 56 [cY l] (cY l):=
 qa (bytes:=64) (aC R.ig.2) (by omega) (by simp) (by simpa using h) (by omega)
theorem Rm {l:List gr} (h:l.length≤1048576):aK Pg 57 [bL l] (bL l):=
 qa (bytes:=40) (aC R.bV.2) (by omega) (by simp) (by simpa using h) (by omega)
theorem NS {l:List cV} (h:l.length≤1048576):aK Pg 58 [cC l] (cC l):=
 qa (bytes:=48) (aC R.eN.2) (by omega) (by simp) (by simpa using h) (by omega)
theorem WM {l:List Int} (h:l.length≤1048576):aK Pg 59 [gQ l] (gQ l):=
 qa (bytes:=8) (aC R.sf.2) (by omega) (NQ l) (by simpa using h) (by omega)
theorem Kl {l:List EZ} (h:l.length≤1048576):aK Pg 60 [eG l] (eG l):=
 qa (bytes:=40) (aC R.mf.2) (by omega) (by simp) (by simpa using h) (by omega)
theorem Rn {l:List bO} (h:l.length≤1048576):u9 Pg 54 [kt l] 464 (l.map aQ):=
 me (bytes:=808) (aC R.oc.2) (by omega) (by simp) (by simpa using h) (by omega)
theorem NT {l:List (List UInt8)} (h:l.length≤1048576):u9 Pg 100 [gz l] 1 (l.map aP):=
 me (bytes:=24) (aC R.tZ.2) (by omega) (by simp) (by simpa using h) (by omega)
theorem ua {α β:Type} (f:α->β) (l:List α) (i:Nat) (h:i<l.length):(l.map f).set i (f l[i])=l.map f:=by
 rw[←JfJ,JsV]
theorem sV {l:List (List UInt8)} (h:l.length≤1048576) (hb:∀b∈l,b.length≤1048576):aK Pg 55 [gz l] (gz l):=by
 refine ae.intro (aC R.sV.2) (by simp[R.sV]) ?_;simp[R.sV,aj,av];refine ai.own 7 (NT h) (by simp) (by simp) (by simp) (by simp) ?_;simp;refine eW.fD l.length (λ_=>True) [3,8,9,10] (λi=>[(10,.int .i64 i)]) (λi=>[]) [.keep [3,8,9,10]] ?_;simp;refine⟨λi hi K hK=> ?_,λK=> ?_⟩
 ·have hx:l[i]? =some l[i]:=gJ hi;simp[↓al,hi];refine ai.rA (Dx (hb _ (JbQ hi))) ?_;simp(disch:=omega) [hi];refine⟨[.keep [3,8,9,10]],?_⟩;simp;exact hK _ (by simp[ua])
 ·simp[↓al,↓al];refine aA.plain [.keep [2],.fz 7,.wk 2] ?_;simp[gz]
theorem kH {d:bc} (h:Kb d):ae Pg 25 [eX d] [] (λr fp=>r=aZ d (.rs KB [] 0 d.au.length d.au.length 464 .tip)∧fp=[.arr 464 (d.au.map aQ)]):=by
 refine ae.intro T.kH (by simp[F.kH]) ?_;simp[F.kH,aj,av,eX];refine ai.own 6 (Rn h.au) (by simp) (by simp) (by simp) (by simp) ?_;simp;refine eW.fD d.au.length (λ_=>True) [1,2,10,11] (λi=>[(11,.int .i64 i)]) (λi=>[]) [.keep [1,2,10,11]] ?_;simp;refine⟨λi hi K hK=> ?_,λK=> ?_⟩
 ·have hx:d.au[i]? =some d.au[i]:=gJ hi;have hs:=h.dI _ (JbQ hi);have hl:=h.au;simp[↓al,hi];refine aN.rA (sV hs.1 hs.2) ?_;simp(disch:=omega) [hi];refine⟨[.keep [1,2,10,11]],?_⟩;simp;exact hK _ (by simp;exact ua aQ _ i hi)
 ·simp[↓al,↓al];refine aN.rA (NR h.bH) ?_;simp;refine aN.rA (Rm h.aS) ?_;simp;refine aN.rA (NS h.timers) ?_;simp;refine aN.rA (WM h.dT) ?_;simp;refine aN.rA (Kl h.buckets) ?_;simp;refine aA.with [.keep [2],.dr 1] [6] ?_;simp
def pl (φ:ld->ld) (q:uL):uL:=if q.has=true then⟨true,φ q.nn⟩else q
def U64 (n:Int):Prop:=0≤n∧n≤18446744073709551615
def am1 (r:ss):Prop:=U64 r.p.nn.next∧U64 r.c.nn.next∧U64 r.n.nn.next
structure azc (d:bc):Prop extends Kb d where
 ring:∀p∈d.au,am1 p.ring
theorem II (k sz:Nat) (l0:List PV):∀(l:List PV) (i:Nat) (x:PV),jh k sz l0 (l.set i x)=(jh k sz l0 l).set i (iQ k sz l0 x)
 |[],i,x=>by simp
 |p::l,0,x=>by simp
 |p::l,i+1,x=>by simp[II k sz l0 l i x]
@[simp] theorem Tf (k sz:Nat) (l:List PV) (e:bO) (p:PV):iQ k sz l (nZ e p)=nZ e (iQ k sz l p):=by
 simp[nZ,jh]
theorem El {l:List bO} {i:Nat} (h:i<l.length) {p:PV} (hp:p=aQ l[i]):(l.map aQ).set i p=l.map aQ:=by
 rw[hp];exact ua aQ l i h
theorem fx {d:bc} (h:Kb d):ae Pg 46 [eX d] [] (λr fp=>r=aZ d (.rs KB [] 0 d.au.length d.au.length 464 .tip)∧fp=[.arr 464 (d.au.map aQ)]):=by
 refine ae.intro T.fx (by simp[F.fx]) ?_;have hp:=h.au;simp(disch:=omega) [F.fx,aj,av,eX,aZ,kt];refine⟨⟨by omega,by omega⟩,?_⟩;refine eW.fD d.au.length (λ_=>True) [1,2,13,14] (λi=>[(14,.int .i64 i)]) (λi=>[]) [.keep [1,2,13,14]] ?_;simp;refine⟨λi hi K hK=> ?_,λK=> ?_⟩
 ·have hx:d.au[i]? =some d.au[i]:=gJ hi;have hs:=h.dI _ (JbQ hi);obtain⟨m,hm⟩:∃m,d.au[i].dI=m:=⟨_,rfl⟩
  rw[hm]at hs;simp[↓al,hi,hm,gz];refine eW.fD m.length (λ_=>True) [1,2,3,4,13,14,22,23,24] (λj=>[(4,.rs 4 [] 0 j j 1 .tip),(24,.int .i64 j)]) (λj=>[(4,.arr 1 ((m.take j).map aP))]) [.vt 4 4 1] ?_;simp;refine⟨λj hj K2 sr=> ?_,λK2=> ?_⟩
  ·have hy:m[j]? =some m[j]:=gJ hj;have hb:=hs.2 _ (JbQ hj);have Sy:min j m.length=j:=by omega
   simp(disch:=omega) [↓al,hj,aP];refine⟨⟨by omega,by omega⟩,⟨by omega,by omega⟩,[.keep [1,2,3,4,13,14,22,23,24],.fz 31],?_⟩;simp;exact sr _ (by simp[List.take_add_one,hy,aP])
  ·simp(disch:=omega) [↓al,↓al,hi,↓al];refine⟨[.keep [1,2,13,14],.fz 4],?_⟩;simp;refine hK _ ?_;simp[II];exact El hi (by rw[←hm];rfl)
 ·simp[↓al,↓al];have hr:=h.bH;have EA:=h.aS;have ht:=h.timers;have hrc:=h.dT;have hb:=h.buckets;refine lH.run [44,47] rfl ?_;simp(disch:=omega) [cY,bL,cC,gQ,eG];refine⟨⟨by omega,by omega⟩,⟨by omega,by omega⟩,?_⟩;refine lH.run [52,55] rfl ?_;simp(disch:=omega);refine⟨⟨by omega,by omega⟩,⟨by omega,by omega⟩,⟨by omega,by omega⟩,?_⟩;refine aA.with [.keep [2],.dr 1,.fz 44,.fz 47,.fz 52,.fz 55,.fz 60] [9] ?_;simp
def NU (r:ss) (k:Nat):uL:=if k=1 then r.p else if k=2 then r.c else r.n
theorem jB (r:ss) {k:Nat} (h:k=1∨k=2∨k=3):aK Pg 35 [iH r,.int .i64 k] (ib (NU r k)):=by
 refine ae.intro (aC R.jB.2) (by simp[R.jB]) ?_;rcases h with rfl|rfl|rfl<;>
 ·simp[R.jB,aj,av];refine aA.plain [] ?_;simp[NU]
end Go.Ab

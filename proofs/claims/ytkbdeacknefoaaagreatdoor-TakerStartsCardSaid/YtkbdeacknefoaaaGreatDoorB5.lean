/- Expansions; made states. No condition. -/
import Derived.Test.YtkbdeacknefoaaaGreatDoorB4
import Derived.Test.YtkbdeacknefoaaaGreatDoorB1
import Derived.Test.YtkbdeacknefoaaaGreatDoorA5
import Derived.Laws.BitsAllLaws
set_option maxRecDepth 10000
set_option maxHeartbeats 4000000
set_option linter.all false
noncomputable section Y30s
namespace Go.Ab
open Go.Ab
theorem AD {ps:List (List UInt8)} (hn:ps.length≤1024) (h1:1≤ps.flatten.length) (h2:ps.flatten.length≤1073741824):a8 Pg I.dk [.sl 1 (ps.map eY) false] (aW (gm ps.flatten)):=by
 refine af.intro T.dk (by simp[F.dk]) ?_
 have hl:=(gm ps.flatten).h
 have c1:=AB ps (by omega) (by omega)
 have c2:=JS h1 h2 false 0
 generalize gm ps.flatten=k at*
 generalize ps.flatten=d at*
 have hk:aW k= .ar 1 32 (k.l.map u8):=rfl
 have hp:aB (k.l.map u8):=aS (λ_=>by simp[u8]) _
 rw[hk]
 have oe:(k.l.map u8).length=32:=by rw[List.length_map,hl]
 generalize k.l.map u8=L at*
 have pB:L.take 32=L:=by rw[←oe,List.take_length]
 simp[F.dk,ai,aG]
 refine al.ret c1 (by simp) (by simp) (by simp) ?_
 simp
 refine al.ret c2 (by simp) (by simp) (by simp[hp]) ?_
 simp[oe,pB]
 refine aC.plain [.keep [2],.dr 5] ?_
 simp[pB,ab,hp.refs]
 exact hp
theorem Ie [gK] {f:FuncId} {s:St} {dst:Option Nat} {K:St->Prop} {tg:Tg K} {k n:Nat} {c:iC} {c2:Bool} {A B:List PV} {v:PV} (hA:a8 Pg f [.sl 1 [.sl 1 A false,.sl 1 B false] false] v)
  (hv:Pure v) (mD:lN v=true) (hk:get s.bx k=some (.arr 1 A)) (hn:A.length=n) (FG:aB A) (Kf:aB B) (hBw:jE B=B)
  (h:K ({s with bx:=put s.bx k (.arr 1 A)}.put dst v)):al Pg s dst f [.sl 1 [.rs k [] 0 n n 1 c,.sl 1 B false] c2] K tg:=by
 subst hn
 refine al.view [k] [] [.arr 1 A] (gI:=[.sl 1 [.rs KB [] 0 A.length A.length 1 c,.sl 1 B false] false]) (args0:=[.sl 1 [.sl 1 A false,.sl 1 B false] false]) (iK:=[.arr 1 A]) hA (by simp[getAll,hk]) (by simp) (by simp) (by simp[ae,ab,bS,idx,Kf.refs]) (by simp[ah,FG.refs]) (by simp[aO,az,bE,idx,Kf.az,hBw]) (by simp[aM,FG.az]) ?_ ?_ ?_
 ·refine⟨.inr (.inl ⟨1,_,[.sl 1 A false,.sl 1 B false],false,rfl,⟨.inr ⟨KB,[],0,A.length,A.length,1,c,A,rfl,?_,FG.refs _,by omega,rfl⟩,.inl ⟨rfl,by simp[ab,Kf.refs]⟩,trivial⟩,rfl⟩),trivial⟩
  simp[content,aG]
 ·rintro r new ⟨rfl,rfl⟩
  exact⟨⟨mD,by simp⟩,rfl⟩
 ·rintro r new ⟨rfl,rfl⟩
  simp[hv.az,hv.refs,ah,FG.refs,aM,FG.az,bB]
  exact h
theorem Ig [gK] {f:FuncId} {s:St} {dst:Option Nat} {K:St->Prop} {tg:Tg K} {k k2 n:Nat} {c c3:iC} {c2:Bool} {A B:List PV} {v:PV} (hA:a8 Pg f [.sl 1 [.sl 1 A false,.sl 1 B false] false] v)
  (hv:Pure v) (mD:lN v=true) (hk:get s.bx k=some (.arr 1 A)) (A8:get s.bx k2=some (.box (.ar 1 32 B))) (dF:k≠k2) (hn:A.length=n) (hm:B.length=32) (FG:aB A) (Kf:aB B)
  (h:K ({s with bx:=put (put s.bx k (.arr 1 A)) k2 (.box (.ar 1 32 B))}.put dst v)):al Pg s dst f [.sl 1 [.rs k [] 0 n n 1 c,.rs k2 [] 0 32 0 1 c3] c2] K tg:=by
 subst hn
 have pB:B.take 32=B:=by rw[←hm,List.take_length]
 refine al.view [k,k2] [] [.arr 1 A,.box (.ar 1 32 B)] (gI:=[.sl 1 [.rs KB [] 0 A.length A.length 1 c,.rs (KB+1) [] 0 32 0 1 c3] false]) (args0:=[.sl 1 [.sl 1 A false,.sl 1 B false] false]) (iK:=[.arr 1 A,.box (.ar 1 32 B)]) hA (by simp[getAll,hk,A8]) (by simp[dF]) (by simp) (by simp[ae,ab,bS,idx,dF]) (by simp[ah,ab,FG.refs,Kf.refs]) (by simp[aO,az,bE,idx,dF]) (by simp[aM,az,FG.az,Kf.az]) ?_ ?_ ?_
 ·refine⟨.inr (.inl ⟨1,_,[.sl 1 A false,.sl 1 B false],false,rfl,⟨.inr ⟨KB,[],0,A.length,A.length,1,c,A,rfl,?_,FG.refs _,by omega,rfl⟩,.inr ⟨KB+1,[],0,32,0,1,c3,B,rfl,?_,Kf.refs _,by omega,rfl⟩,trivial⟩,rfl⟩),trivial⟩
  ·simp[content,aG]
  ·simp[content,aG,aX,pB]
 ·rintro r new ⟨rfl,rfl⟩
  exact⟨⟨mD,by simp⟩,rfl⟩
 ·rintro r new ⟨rfl,rfl⟩
  simp[hv.az,hv.refs,ah,ab,FG.refs,Kf.refs,aM,az,FG.az,Kf.az,bB]
  exact h
end Go.Ab
end Y30s
noncomputable section Y31s
namespace Go.Ab
open Go.Ab
theorem adJ [gK] {s:St} {d:Option Nat} {K:St->Prop} {k n:Nat} {L ys L':List PV} {c:iC} {c2:Bool} (hk:get s.bx k=some (.arr 1 L)) (hn:L.length=n) (hy:ys.length≤n) (hL:ys++L.drop ys.length=L')
  (h:K ({s with bx:=put s.bx k (.arr 1 L')}.put d (.int .i64 ys.length))):Vn s d 1 (.rs k [] 0 n n 1 c) K (.sl 1 ys c2):=by
 have hm:min ys.length n=ys.length:=Nat.min_eq_left hy
 rw[GA,LW,hk]
 refine⟨.inr rfl,⟨hn.symm,rfl,rfl,rfl,by omega⟩,?_⟩
 rw[hm,List.take_zero,List.nil_append,List.take_length,Nat.zero_add,hL]
 exact h
def kx (key:List UInt8) (j:Nat):UInt8:=key.getD j 0
def xx (key:List UInt8) (c:UInt8) (i:Nat):Nat->UInt8:=λj=>if j<i then kx key j^^^c else kx key j
def kR (key:List UInt8) (c:UInt8):List UInt8:=(List.range 64).map λj=>kx key j^^^c
theorem jK (key:List UInt8) (c:UInt8):(kR key c).length=64:=by simp[kR]
theorem TD (key:List UInt8) (c:UInt8):iB 64 (xx key c 64)=mB (kR key c):=by
 rw[vB (g:=λj=>kx key j^^^c) λj hj=>by simp only[xx];rw[if_pos hj],mB,kR,List.map_map];rfl
def nV (key:List UInt8) (ps:List (List UInt8)):Key:=gm (kR key 92++(gm (kR key 54++ps.flatten)).l)
theorem u8x (x:UInt8) (c:UInt8) (k:Int) (hk:k=(c.toNat:Int)):bits .xor .u8 (x.toNat:Int) k=((x^^^c).toNat:Int):=by
 subst hk
 rw[u8_xor_nat _ _ x.toNat_lt c.toNat_lt,UInt8.toNat_xor]
theorem QU {key:List UInt8} (h:key.length≤64):key.map u8++(List.replicate 64 (PV.int .u8 0)).drop key.length=iB 64 (kx key):=by
 rw[List.drop_replicate]
 apply List.ext_getElem?
 intro i
 by_cases hi:i<64
 ·rw[wY _ hi]
  by_cases h1:i<key.length
  ·rw[List.getElem?_append_left (by simpa using h1),List.getElem?_map,gJ h1,kx,List.getD_eq_getElem?_getD,gJ h1];rfl
  ·rw[List.getElem?_append_right (by simp;omega),List.getElem?_replicate,if_pos (by simp;omega),kx,List.getD_eq_getElem?_getD,List.getElem?_eq_none (by omega)];rfl
 ·rw[List.getElem?_eq_none (by simp;omega),List.getElem?_eq_none (by simp;omega)]
theorem iy {key:List UInt8} (yu:key.length≤64) {ps:List (List UInt8)} (hn:ps.length≤1024) (h2:ps.flatten.length≤1048576):a8 Pg I.iy [eY key,.sl 1 (ps.map eY) false] (aW (nV key ps)):=by
 refine af.intro T.iy (by simp[F.iy]) ?_
 have oe:=QU yu
 have hle:¬(64:Int)<key.length:=by omega
 have hlm:(key.map u8).length=key.length:=List.length_map _
 have x0:xx key 54 0=kx key:=by funext j;simp[xx]
 have x1:xx key 92 0=kx key:=by funext j;simp[xx]
 have yV:(List.replicate 64 (PV.int .u8 0)).length=64:=List.length_replicate
 generalize hRz:List.replicate 64 (PV.int .u8 0)=Z at*
 have hke:eY key= .sl 1 (key.map u8) false:=rfl
 simp[F.iy,ai,aG,hle]
 refine oJ.run [] rfl ?_
 simp[hke,hRz,-GA,-List.reduceReplicate]
 refine adJ (k:=17) (L':=iB 64 (kx key)) rfl yV (by rw[hlm];exact yu) (by rw[hlm];exact oe) ?_
 simp[-GA]
 refine adJ (k:=18) (L':=iB 64 (kx key)) rfl yV (by rw[hlm];exact yu) (by rw[hlm];exact oe) ?_
 simp
 refine gR.iw 64 (λ_=>True) [1,4,6,7,25] (λi=>[(25,.int .i64 i)]) (λi=>[(17,.arr 1 (iB 64 (xx key 54 i))),(18,.arr 1 (iB 64 (xx key 92 i)))]) [.keep [1,4,6,7,25]] ?_
 simp[x0,x1]
 refine⟨λi hi K hK=> ?_,λK=> ?_⟩
 ·have hs:∀c:UInt8,iB 64 (xx key c (i+1))=(iB 64 (xx key c i)).set i (u8 (kx key i^^^c)):=λc=>by
   rw[GO]
   exact vB λj hj=>by
    simp only[QL,xx]
    by_cases h:j=i
    ·rw[if_pos h,if_pos (by omega),h]
    ·rw[if_neg h]
     by_cases h':j<i
     ·rw[if_pos h',if_pos (by omega)]
     ·rw[if_neg h',if_neg (by omega)]
  have hg:∀c:UInt8,(iB 64 (xx key c i))[i]? =some (u8 (kx key i)):=λc=>by
   rw[wY _ hi];simp[xx]
  have hl:∀c:UInt8,(iB 64 (xx key c i)).length=64:=λc=>We _ _
  have ha:=hg 54
  have hb:=hg 92
  have la:=hl 54
  have lb:=hl 92
  rw[hs,hs]at hK
  clear hs hg hl
  have k1:=u8x (kx key i) 54 54 rfl
  have k2:=u8x (kx key i) 92 92 rfl
  simp only[u8]at*
  generalize kx key i^^^54=p at*
  generalize kx key i^^^92=q at*
  generalize kx key i=y at*
  generalize iB 64 (xx key 54 i)=U at*
  generalize iB 64 (xx key 92 i)=V at*
  have jf:(i:Int)<64:=by omega
  have w1:IntKind.i64.wrap ((i:Int)+1)=i+1:=wrap_i64 (by omega)
  simp[↓an,hi,jf,ha,hb,la,lb,k1,k2,w1,-getElem?_pos]
  refine⟨[.keep [1,4,6,7,25]],?_⟩
  simp
  exact hK _ (by simp)
 ·have hj:ps.flatten.length≤1099511627776:=by omega
  have c1:=gB ps hj (by omega)
  have c2:=fO (ps:=[kR key 54,ps.flatten]) (by simp) (by simp[jK];omega) (by simp[jK,-List.length_flatten];omega)
  have c3:=fO (ps:=[kR key 92,(gm (kR key 54++ps.flatten)).l]) (by simp) (by simp[jK];omega) (by simp[jK,(gm (kR key 54++ps.flatten)).h])
  have f2:[kR key 54,ps.flatten].flatten=kR key 54++ps.flatten:=by simp
  have f3:[kR key 92,(gm (kR key 54++ps.flatten)).l].flatten=kR key 92++(gm (kR key 54++ps.flatten)).l:=by simp
  rw[f2]at c2
  rw[f3]at c3
  have nX:nV key ps=gm (kR key 92++(gm (kR key 54++ps.flatten)).l):=rfl
  rw[←nX]at c3
  clear f2 f3 nX
  have a1:=TD key 54
  have a2:=TD key 92
  have p1:aB (mB (kR key 54)):=aS (λ_=>by simp[u8]) _
  have p2:aB (mB (kR key 92)):=aS (λ_=>by simp[u8]) _
  have p3:aB (mB ps.flatten):=aS (λ_=>by simp[u8]) _
  have q3:jE (mB ps.flatten)=mB ps.flatten:=rv (λ_=>by simp[u8]) _
  have l1:(mB (kR key 54)).length=64:=by rw[mB,List.length_map,jK]
  have l2:(mB (kR key 92)).length=64:=by rw[mB,List.length_map,jK]
  have he:eY ps.flatten= .sl 1 (mB ps.flatten) false:=rfl
  have pr:aW (gm (kR key 54++ps.flatten))= .ar 1 32 (mB (gm (kR key 54++ps.flatten)).l):=rfl
  have l4:(mB (gm (kR key 54++ps.flatten)).l).length=32:=by rw[mB,List.length_map,(gm (kR key 54++ps.flatten)).h]
  have p4:aB (mB (gm (kR key 54++ps.flatten)).l):=aS (λ_=>by simp[u8]) _
  have n2:=jm (gm (kR key 54++ps.flatten))
  have n3:=jm (nV key ps)
  change a8 Pg I.fO [.sl 1 [.sl 1 (mB (kR key 54)) false,.sl 1 (mB ps.flatten) false] false] _ at c2
  change a8 Pg I.fO [.sl 1 [.sl 1 (mB (kR key 92)) false,.sl 1 (mB (gm (kR key 54++ps.flatten)).l) false] false] _ at c3
  rw[he]at c1
  rw[a1,a2]
  generalize gm (kR key 54++ps.flatten)=H at*
  generalize nV key ps=R at*
  simp[↓an]
  refine al.ret c1 (by simp) (by simp) (by simp[p3]) ?_
  simp[q3]
  refine Ie c2 (by simp) n2 (by simp) l1 p1 p3 q3 ?_
  simp[pr]
  refine Ig c3 (by simp) n3 (by simp) (by simp) (by decide) l2 l4 p2 p4 ?_
  simp
  refine aC.plain [.keep [4],.dr 9] ?_
  simp[ab,p4.refs,p1.refs,p2.refs]
theorem ui {key:List UInt8} (yu:key.length≤64) {ps:List (List UInt8)} (hn:ps.length≤1024) (h2:ps.flatten.length≤1048576):a8 Pg I.dI [eY key,.sl 1 (ps.map eY) false] (aW (nV key ps)):=by
 refine af.intro T.dI (by simp[F.dI]) ?_
 have hle:¬(64:Int)<key.length:=by omega
 have hlm:(key.map u8).length=key.length:=List.length_map _
 have hke:eY key= .sl 1 (key.map u8) false:=rfl
 simp[F.dI,ai,aG,hle,hke]
 refine gR.iw 64 (λ_=>True) [0,1,4,6,7,8] (λi=>[(6,.rs 6 [] 0 i i 1 .tip),(7,.rs 7 [] 0 i i 1 .tip),(8,.int .i64 i)]) (λi=>[(6,.arr 1 (mB ((kR key 54).take i))),(7,.arr 1 (mB ((kR key 92).take i)))]) [.keep [0,1,4,6,7,8],.vt 6 6 1,.vt 7 7 1] ?_
 simp[show mB []=[] from rfl]
 refine⟨λi hi K hK=> ?_,λK=> ?_⟩
 ·have hs:∀c:UInt8,mB ((kR key c).take (i+1))=mB ((kR key c).take i)++[u8 (kx key i^^^c)]:=λc=>by
   rw[List.take_succ_eq_append_getElem (by rw[jK];exact hi),mB,List.map_append]
   simp[kR,mB]
  have hl:∀c:UInt8,(mB ((kR key c).take i)).length=i:=λc=>by
   rw[mB,List.length_map,lJ,jK];omega
  have la:=hl 54
  have lb:=hl 92
  rw[hs,hs]at hK
  clear hs hl
  have k1:=u8x (kx key i) 54 54 rfl
  have k2:=u8x (kx key i) 92 92 rfl
  have hkx:kx key i=key.getD i 0:=rfl
  simp only[u8]at*
  generalize kx key i^^^54=p at*
  generalize kx key i^^^92=q at*
  generalize kx key i=y at*
  generalize mB ((kR key 54).take i)=U at*
  generalize mB ((kR key 92).take i)=V at*
  have jf:(i:Int)<64:=by omega
  have w1:IntKind.i64.wrap ((i:Int)+1)=i+1:=wrap_i64 (by omega)
  by_cases iP:i<key.length
  ·have hx:key[i]? =some y:=by rw[hkx,List.getD_eq_getElem?_getD,gJ iP];rfl
   have X6:(i:Int)<key.length:=by omega
   simp[↓an,hi,jf,iP,X6,hx,la,lb,k1,k2,w1,u8,-getElem?_pos]
   refine⟨⟨by omega,by omega⟩,[.keep [0,1,4,6,7,8]],?_⟩
   simp
   exact hK _ (by simp)
  ·have hy0:y=0:=by rw[hkx,List.getD_eq_getElem?_getD,List.getElem?_eq_none (by omega)];rfl
   subst hy0
   have X6:¬(i:Int)<key.length:=by omega
   simp only[UInt8.toNat_zero,Int.natCast_zero]at k1 k2
   simp[↓an,hi,jf,iP,X6,la,lb,k1,k2,w1,-getElem?_pos]
   refine⟨⟨by omega,by omega⟩,[.keep [0,1,4,6,7,8]],?_⟩
   simp
   exact hK _ (by simp)
 ·have hj:ps.flatten.length≤1099511627776:=by omega
  have c1:=AB ps hj (by omega)
  have c2:=AD (ps:=[kR key 54,ps.flatten]) (by simp) (by simp[jK];omega) (by simp[jK,-List.length_flatten];omega)
  have c3:=AD (ps:=[kR key 92,(gm (kR key 54++ps.flatten)).l]) (by simp) (by simp[jK];omega) (by simp[jK,(gm (kR key 54++ps.flatten)).h])
  have f2:[kR key 54,ps.flatten].flatten=kR key 54++ps.flatten:=by simp
  have f3:[kR key 92,(gm (kR key 54++ps.flatten)).l].flatten=kR key 92++(gm (kR key 54++ps.flatten)).l:=by simp
  rw[f2]at c2
  rw[f3]at c3
  have nX:nV key ps=gm (kR key 92++(gm (kR key 54++ps.flatten)).l):=rfl
  rw[←nX]at c3
  clear f2 f3 nX
  have a1:(kR key 54).take 64=kR key 54:=tJ (by rw[jK];decide)
  have a2:(kR key 92).take 64=kR key 92:=tJ (by rw[jK];decide)
  have p1:aB (mB (kR key 54)):=aS (λ_=>by simp[u8]) _
  have p2:aB (mB (kR key 92)):=aS (λ_=>by simp[u8]) _
  have p3:aB (mB ps.flatten):=aS (λ_=>by simp[u8]) _
  have q3:jE (mB ps.flatten)=mB ps.flatten:=rv (λ_=>by simp[u8]) _
  have l1:(mB (kR key 54)).length=64:=by rw[mB,List.length_map,jK]
  have l2:(mB (kR key 92)).length=64:=by rw[mB,List.length_map,jK]
  have he:eY ps.flatten= .sl 1 (mB ps.flatten) false:=rfl
  have pr:aW (gm (kR key 54++ps.flatten))= .ar 1 32 (mB (gm (kR key 54++ps.flatten)).l):=rfl
  have l4:(mB (gm (kR key 54++ps.flatten)).l).length=32:=by rw[mB,List.length_map,(gm (kR key 54++ps.flatten)).h]
  have p4:aB (mB (gm (kR key 54++ps.flatten)).l):=aS (λ_=>by simp[u8]) _
  have n2:=jm (gm (kR key 54++ps.flatten))
  have n3:=jm (nV key ps)
  change a8 Pg I.dk [.sl 1 [.sl 1 (mB (kR key 54)) false,.sl 1 (mB ps.flatten) false] false] _ at c2
  change a8 Pg I.dk [.sl 1 [.sl 1 (mB (kR key 92)) false,.sl 1 (mB (gm (kR key 54++ps.flatten)).l) false] false] _ at c3
  rw[he]at c1
  rw[a1,a2]
  generalize gm (kR key 54++ps.flatten)=H at*
  generalize nV key ps=R at*
  simp[↓an]
  refine al.ret c1 (by simp) (by simp) (by simp[p3]) ?_
  simp[q3]
  refine Ie c2 (by simp) n2 (by simp) l1 p1 p3 q3 ?_
  simp[pr]
  refine Ig c3 (by simp) n3 (by simp) (by simp) (by decide) l2 l4 p2 p4 ?_
  simp
  refine aC.plain [.keep [4],.dr 10] ?_
  simp[ab,p4.refs,p1.refs,p2.refs]
end Go.Ab
end Y31s
noncomputable section Y32s
namespace Go.Ab
open Go.Ab
def DN (key input:List UInt8):Key:=nV key [input]
def xP (key input:List UInt8):Key:=nV (DN key input).l [[],[1]]
def GU (key input:List UInt8):Key:=nV (DN key input).l [(xP key input).l,[2]]
theorem TE [gK] {f:FuncId} {s:St} {dst:Option Nat} {K:St->Prop} {tg:Tg K} {k:Nat} {pth:List Step} {M:PV} {c:iC} {c2:Bool} {L:List PV} {ls:List (List PV)} {v:PV} (hA:a8 Pg f [.sl 1 L false,.sl 1 (ls.map λl=> .sl 1 l false) false] v)
  (hv:Pure v) (mD:lN v=true) (hk:get s.bx k=some (.box M)) (hM:aX M pth=some (.ar 1 32 L)) (hl:L.length=32) (hMp:Pure M) (DS:aB L) (hp:∀l∈ls,aB l∧jE l=l)
  (h:K ({s with bx:=put s.bx k (.box M)}.put dst v)):al Pg s dst f [.rs k pth 0 32 0 1 c,.sl 1 (ls.map λl=> .sl 1 l false) c2] K tg:=by
 have pB:L.take 32=L:=by rw[←hl,List.take_length]
 have hP:aB (ls.map λl=>PV.sl 1 l false):=aB.mk' λq hq=>by
  obtain⟨l,hl,rfl⟩:=List.mem_map.1 hq
  simp[(hp l hl).1]
 have hW:jE (ls.map λl=>PV.sl 1 l false)=ls.map λl=>PV.sl 1 l false:=by
  clear hA hP h
  induction ls with
  |nil=>rfl
  |cons a t ih=>simp only[List.map_cons,jE];rw[ih λl hl=>hp l (by simp[hl])];simp[(hp a (by simp)).2]
 refine al.view [k] [] [.box M] (gI:=[.rs KB pth 0 32 0 1 c,.sl 1 (ls.map λl=> .sl 1 l false) false]) (args0:=[.sl 1 L false,.sl 1 (ls.map λl=> .sl 1 l false) false]) (iK:=[.box M]) hA (by simp[getAll,hk]) (by simp) (by simp) (by simp[ae,ab,bS,idx,hP.refs]) (by simp[ah,hMp.refs]) (by simp[aO,az,bE,idx,hP.az,hW]) (by simp[aM,hMp.az]) ?_ ?_ ?_
 ·refine⟨.inl (.inr ⟨KB,pth,0,32,0,1,c,L,rfl,?_,DS.refs _,by omega,rfl⟩),.inl (.inl ⟨rfl,by simp[ab,hP.refs]⟩),trivial⟩
  simp[content,aG,hM,pB]
 ·rintro r new ⟨rfl,rfl⟩
  exact⟨⟨mD,by simp⟩,rfl⟩
 ·rintro r new ⟨rfl,rfl⟩
  simp[hv.az,hv.refs,ah,hMp.refs,aM,hMp.az,bB]
  exact h
theorem TG [gK] {f:FuncId} {s:St} {dst:Option Nat} {K:St->Prop} {tg:Tg K} {k k2:Nat} {c c3:iC} {c2:Bool} {L A B:List PV} {v:PV} (hA:a8 Pg f [.sl 1 L false,.sl 1 [.sl 1 A false,.sl 1 B false] false] v)
  (hv:Pure v) (mD:lN v=true) (hk:get s.bx k=some (.box (.ar 1 32 L))) (A8:get s.bx k2=some (.box (.ar 1 32 A))) (dF:k≠k2) (hl:L.length=32) (hm:A.length=32) (DS:aB L) (FG:aB A) (Kf:aB B) (hBw:jE B=B)
  (h:K ({s with bx:=put (put s.bx k (.box (.ar 1 32 L))) k2 (.box (.ar 1 32 A))}.put dst v)):al Pg s dst f [.rs k [] 0 32 0 1 c,.sl 1 [.rs k2 [] 0 32 0 1 c3,.sl 1 B false] c2] K tg:=by
 have pB:L.take 32=L:=by rw[←hl,List.take_length]
 have alZ:A.take 32=A:=by rw[←hm,List.take_length]
 refine al.view [k,k2] [] [.box (.ar 1 32 L),.box (.ar 1 32 A)] (gI:=[.rs KB [] 0 32 0 1 c,.sl 1 [.rs (KB+1) [] 0 32 0 1 c3,.sl 1 B false] false]) (args0:=[.sl 1 L false,.sl 1 [.sl 1 A false,.sl 1 B false] false]) (iK:=[.box (.ar 1 32 L),.box (.ar 1 32 A)]) hA (by simp[getAll,hk,A8]) (by simp[dF]) (by simp) (by simp[ae,ab,bS,idx,dF,Kf.refs]) (by simp[ah,ab,DS.refs,FG.refs]) (by simp[aO,az,bE,idx,dF,Kf.az,hBw]) (by simp[aM,az,DS.az,FG.az]) ?_ ?_ ?_
 ·refine⟨.inl (.inr ⟨KB,[],0,32,0,1,c,L,rfl,?_,DS.refs _,by omega,rfl⟩),.inr (.inl ⟨1,_,[.sl 1 A false,.sl 1 B false],false,rfl,⟨.inr ⟨KB+1,[],0,32,0,1,c3,A,rfl,?_,FG.refs _,by omega,rfl⟩,.inl ⟨rfl,by simp[ab,Kf.refs]⟩,trivial⟩,rfl⟩),trivial⟩
  ·simp[content,aG,aX,pB]
  ·simp[content,aG,aX,alZ]
 ·rintro r new ⟨rfl,rfl⟩
  exact⟨⟨mD,by simp⟩,rfl⟩
 ·rintro r new ⟨rfl,rfl⟩
  simp[hv.az,hv.refs,ah,ab,DS.refs,FG.refs,aM,az,DS.az,FG.az,bB]
  exact h
end Go.Ab
end Y32s
noncomputable section Y33s
namespace Go.Ab
open Go.Ab
def uE (P:Program) [eo] [gK] (x:dD) (Q:Exit->St->Prop):Nat->Tg (x,Q)->St->Prop
 |0,_,s=>∀K:St->Prop,aw P x (th Q K) s
 |n+1,_,s=>aw P x (th Q λs'=>∃c:List Cut,gQ c s' (uE P x Q n .mk)) s
theorem uE.Wm [eo] {P:Program} [gK] {s:St} {x:dD} {Q:Exit->St->Prop} {t:Tg (x,Q)} (n:Nat) (h:uE P x Q n .mk s):gR P x Q t s:=by
 refine⟨λm st=>uE P x Q m .mk st,[],⟨n,h⟩,?_⟩
 intro m st hm
 cases m with
 |zero=>exact hm _
 |
  succ m=>
  refine vp (λe s' he=> ?_) hm
  cases e with
  |
   normal=>
   obtain⟨c,hc⟩:=he
   exact⟨c,gj c (λs0 hs=>⟨m,by omega,hs⟩) hc⟩
  |_=>exact he
theorem uE.z [eo] {P:Program} [gK] {s:St} {x:dD} {Q:Exit->St->Prop} {t:Tg (x,Q)} (h:∀K:St->Prop,aw P x (th Q K) s):uE P x Q 0 t s:=h
theorem uE.s [eo] {P:Program} [gK] {s:St} {x:dD} {Q:Exit->St->Prop} {t:Tg (x,Q)} {n:Nat} (h:aw P x (th Q λs'=>∃c:List Cut,gQ c s' (uE P x Q n .mk)) s):uE P x Q (n+1) t s:=h
theorem iY (key:Key) {input:List UInt8} (hi:input.length≤1048576):Bm Pg I.iY [eY key.l,eY input,.int .i64 2] 32 [aW (xP key.l input),aW (GU key.l input)]:=by
 refine af.intro T.iY (by simp[F.iY]) ?_
 have h0:=iy (key:=key.l) (by rw[key.h];omega) (ps:=[input]) (by simp) (by simpa using hi)
 have h1:=iy (key:=(DN key.l input).l) (by rw[(DN key.l input).h];omega) (ps:=[[],[1]]) (by simp) (by simp)
 have h2:=iy (key:=(DN key.l input).l) (by rw[(DN key.l input).h];omega) (ps:=[(xP key.l input).l,[2]]) (by simp) (by simp[(xP key.l input).h])
 rw[show nV key.l [input]=DN key.l input from rfl]at h0
 rw[show nV (DN key.l input).l [[],[1]]=xP key.l input from rfl]at h1
 rw[show nV (DN key.l input).l [(xP key.l input).l,[2]]=GU key.l input from rfl]at h2
 generalize DN key.l input=kT at*
 generalize xP key.l input=kA at*
 generalize GU key.l input=kB at*
 simp[F.iY,ai,aG]
 refine al.ret h0 (by simp) (by simp) (by simp) ?_
 simp
 refine uE.Wm 2 (uE.s ?_)
 simp[↓an]
 have g1:a8 Pg I.iy [.sl 1 (mB kT.l) false,.sl 1 (([[],[.int .u8 1]]:List (List PV)).map λl=> .sl 1 l false) false] (aW kA):=h1
 have lT:(mB kT.l).length=32:=by rw[mB,List.length_map,kT.h]
 have lA:(mB kA.l).length=32:=by rw[mB,List.length_map,kA.h]
 have pT:aB (mB kT.l):=aS (λ_=>by simp[u8]) _
 have pA:aB (mB kA.l):=aS (λ_=>by simp[u8]) _
 have nA:=jm kA
 have nB:=jm kB
 refine TE (pth:=[]) (M:=aW kT) (L:=mB kT.l) (ls:=[[],[.int .u8 1]]) g1 (by simp) nA (by simp) (by simp[aX];rfl) lT (by simp) pT (by simp) ?_
 simp
 refine⟨[.keep [0,1,2,6,7,8,9,22,23],.mv 11 90,.mv 37 91],?_⟩
 simp[zJ]
 refine uE.s ?_
 simp[↓an]
 have g2:a8 Pg I.iy [.sl 1 (mB kT.l) false,.sl 1 [.sl 1 (mB kA.l) false,.sl 1 [.int .u8 2] false] false] (aW kB):=h2
 refine TG g2 (by simp) nB (by simp;rfl) (by simp;rfl) (by decide) lT lA pT pA (by simp) (by simp) ?_
 simp
 refine⟨[.keep [0,1,2,6,8,22,23]],?_⟩
 simp
 refine uE.z ?_
 simp[↓an]
 refine aC.with [.keep [6]] [91] ?_
 simp[ah,ab,ae,aM,az,aO,(eR kA).az,(eR kB).az]
theorem Dc (key:Key) {input:List UInt8} (hi:input.length≤1048576):Bm Pg I.eE [eY key.l,eY input,.int .i64 2] 32 [aW (xP key.l input),aW (GU key.l input)]:=by
 refine af.intro T.eE (by simp[F.eE]) ?_
 have h0:=ui (key:=key.l) (by rw[key.h];omega) (ps:=[input]) (by simp) (by simpa using hi)
 have h1:=ui (key:=(DN key.l input).l) (by rw[(DN key.l input).h];omega) (ps:=[[],[1]]) (by simp) (by simp)
 have h2:=ui (key:=(DN key.l input).l) (by rw[(DN key.l input).h];omega) (ps:=[(xP key.l input).l,[2]]) (by simp) (by simp[(xP key.l input).h])
 rw[show nV key.l [input]=DN key.l input from rfl]at h0
 rw[show nV (DN key.l input).l [[],[1]]=xP key.l input from rfl]at h1
 rw[show nV (DN key.l input).l [(xP key.l input).l,[2]]=GU key.l input from rfl]at h2
 generalize DN key.l input=kT at*
 generalize xP key.l input=kA at*
 generalize GU key.l input=kB at*
 simp[F.eE,ai,aG]
 refine al.ret h0 (by simp) (by simp) (by simp) ?_
 simp
 refine uE.Wm 2 (uE.s ?_)
 simp[↓an]
 have g1:a8 Pg I.dI [.sl 1 (mB kT.l) false,.sl 1 (([[],[.int .u8 1]]:List (List PV)).map λl=> .sl 1 l false) false] (aW kA):=h1
 have lT:(mB kT.l).length=32:=by rw[mB,List.length_map,kT.h]
 have lA:(mB kA.l).length=32:=by rw[mB,List.length_map,kA.h]
 have pT:aB (mB kT.l):=aS (λ_=>by simp[u8]) _
 have pA:aB (mB kA.l):=aS (λ_=>by simp[u8]) _
 have nA:=jm kA
 have nB:=jm kB
 refine TE (pth:=[]) (M:=aW kT) (L:=mB kT.l) (ls:=[[],[.int .u8 1]]) g1 (by simp) nA (by simp) (by simp[aX];rfl) lT (by simp) pT (by simp) ?_
 simp
 refine oJ.run [] rfl ?_
 simp
 refine⟨[.keep [0,1,2,6,7,8,9,10],.mv 11 90,.mv 37 91],?_⟩
 simp[zJ]
 refine uE.s ?_
 simp[↓an]
 have g2:a8 Pg I.dI [.sl 1 (mB kT.l) false,.sl 1 [.sl 1 (mB kA.l) false,.sl 1 [.int .u8 2] false] false] (aW kB):=h2
 refine TG g2 (by simp) nB (by simp;rfl) (by simp;rfl) (by decide) lT lA pT pA (by simp) (by simp) ?_
 simp
 refine oJ.run [91] rfl ?_
 simp
 refine⟨[.keep [0,1,2,6,8,10]],?_⟩
 simp
 refine uE.z ?_
 simp[↓an]
 refine aC.with [.keep [6]] [91] ?_
 simp[ah,ab,ae,aM,az,aO,(eR kA).az,(eR kB).az]
end Go.Ab
end Y33s
namespace Go.Ab
open Go.Ab
structure Sml (d:gU):Prop where
 aj:d.aj.length≤1048576
 gL:d.gL.length≤1048576
 kN:d.kN.length≤1048576
 timers:d.timers.length≤1048576
 lD:d.lD.length≤1048576
 buckets:d.buckets.length≤1048576
 mR:∀p∈d.aj,p.mR.length≤1048576∧∀b∈p.mR,b.length≤1048576
theorem JT {f:FuncId} {sz bytes:Nat} {z:PV} (ht:kL Pg [] [] f=some (sn sz bytes z).er) (iA:0<sz) {l:List PV} (hr:aB l) (h:l.length≤1048576) (hb:bytes≤100000):a8 Pg f [.sl sz l false] (.sl sz l false):=
 (show Bm Pg f [.sl sz l false] sz l from BZ ht iA hr false (Nat.le_trans (Nat.mul_le_mul h hb) (by decide)) (by omega)).jI hr
theorem uj {f:FuncId} {sz bytes:Nat} {z:PV} (ht:kL Pg [] [] f=some (sn sz bytes z).er) (iA:0<sz) {l:List PV} (hr:aB l) (h:l.length≤1048576) (hb:bytes≤100000):Bm Pg f [.sl sz l false] sz l:=
 BZ ht iA hr false (Nat.le_trans (Nat.mul_le_mul h hb) (by decide)) (by omega)
theorem Dd {α β:Type} (f:α->β) (l:List α) (i:Nat) (h:i<l.length):(l.map f).set i (f l[i])=l.map f:=by
 rw[←List.map_set,List.set_getElem_self]
end Go.Ab
noncomputable section D3s
namespace Go.Ab
open Go.Ab
def pl (φ:GC->GC) (q:FK):FK:=if q.has=true then⟨true,φ q.FL⟩else q
def pk (φ:GC->GC) (k:Nat) (p:jy):jy:= {p with ring:=⟨if 0<k then pl φ p.ring.p else p.ring.p,if 1<k then pl φ p.ring.c else p.ring.c,if 2<k then pl φ p.ring.n else p.ring.n⟩}
end Go.Ab
end D3s
noncomputable section D4s
namespace Go.Ab
open Go.Ab
def U64 (n:Int):Prop:=0≤n∧n≤18446744073709551615
def adL (r:JC):Prop:=U64 r.p.FL.next∧U64 r.c.FL.next∧U64 r.n.FL.next
structure an5 (d:gU):Prop extends Sml d where
 ring:∀p∈d.aj,adL p.ring
end Go.Ab
end D4s
noncomputable section D5s
namespace Go.Ab
open Go.Ab
def adM (r:JC) (k:Nat):FK:=if k=1 then r.p else if k=2 then r.c else r.n
end Go.Ab
end D5s
namespace Go.Ab
open Go.Ab
end Go.Ab
noncomputable section E1s
namespace Go.Ab
open Go.Ab
@[simp] theorem aae:eX 1=[KB]:=rfl
structure qk where
 l:List UInt8
 at_:Nat
def hH (c:qk):PV:= .st 2 [eY c.l,.int .i64 c.at_]
@[simp] theorem bO (e:qk):Pure (hH e):=by simp[hH]
@[simp↓] theorem TH (e:qk) (r:List Step):aX (hH e) (.f 0 0::r)=aX (eY e.l) r:=by simp[hH,av]
@[simp↓] theorem TI (e:qk) (r:List Step):aX (hH e) (.f 1 1::r)=aX (.int .i64 e.at_) r:=by simp[hH,av]
@[simp↓] theorem TJ (e:qk) (n:Nat):gN (hH e) [.f 1 1] (.int .i64 n)=some (hH {e with at_:=n}):=by simp[hH,av]
structure im (c:qk):Prop where
 len:c.l.length≤1048576
 at_:c.at_≤c.l.length
theorem GV (c:qk):af Pg I.du [.pt KB [] 0] [.box (hH c)] (λr fp=>r= .bl (decide (c.at_<c.l.length))∧fp=[.box (hH c)]):=by
 refine af.intro T.du (by simp[F.du]) ?_
 simp[F.du,ai,aG]
 refine aC.with [] [KB] ?_
 simp
def rP (c:qk) (n:Nat):Nat×qk:=if h:c.at_<c.l.length∧1≤n then((c.l[c.at_]'h.1).toNat%n,{c with at_:=c.at_+1})else(0,c)
theorem gX {c:qk} (h:im c) (n:Nat):im (rP c n).2:=by
 unfold rP;split
 ·rename_i hh;exact⟨h.len,hh.1⟩
 ·exact h
theorem iZ (c:qk) {n:Nat} (h:1≤n):(rP c n).1<n:=by
 unfold rP;split
 ·exact Nat.mod_lt _ h
 ·exact h
theorem cD {c:qk} (h:im c) (n:Nat) (hn:n≤1048576):af Pg I.au [.pt KB [] 0,.int .i64 n] [.box (hH c)] (λr fp=>r= .int .i64 (rP c n).1∧fp=[.box (hH (rP c n).2)]):=by
 refine af.intro T.au (by simp[F.au]) ?_
 have hlen:=h.len
 simp[F.au,ai,aG]
 refine al.gen [KB] [] [.box (hH c)] (GV c) (by simp[getAll]) (by simp) (by simp) (by simp[ae,ab,bS,idx]) (by simp[ah,(bO c).refs]) (by simp[aO,az,bE,idx]) (by simp[aM,(bO c).az]) (by simp[ah,ab,(bO c).refs]) ?_
 simp[bB,aM,az,(bO c).az]
 by_cases hl:c.at_<c.l.length
 ·by_cases h1:1≤n
  ·have hw:IntKind.i64.wrap ((c.at_:Int)+1)=((c.at_+1:Nat):Int):=by rw[wrap_i64 (by omega)];rfl
   have hx:c.l[c.at_]? =some c.l[c.at_]:=gJ hl
   have hb:=(c.l[c.at_]).toNat_lt
   have hm:=Nat.mod_le (c.l[c.at_]).toNat n
   have hq:IntKind.i64.wrap (((c.at_+1:Nat):Int)-1)=(c.at_:Int):=by rw[wrap_i64 (by omega)];omega
   have R8:IntKind.i64.wrap (((c.l[c.at_]).toNat:Int))=((c.l[c.at_]).toNat:Int):=wrap_i64 (by omega)
   have hw4:IntKind.i64.wrap (((c.l[c.at_]).toNat:Int).tmod n)=((c.l[c.at_].toNat%n:Nat):Int):=by
    rw[←Int.ofNat_tmod];exact wrap_i64 (by omega)
   simp[hl,show¬(n:Int)<1 by omega,hw,hq,hx,R8,hw4,-Int.natCast_add,-Int.natCast_emod]
   refine⟨λh'=>absurd h' (by omega),λ_=> ?_⟩
   simp only[u8]
   simp[R8,show¬n=0 by omega]
   refine aC.with [] [KB] ?_
   simp[rP,hl,h1]
   rw[←Int.ofNat_tmod];rfl
  ·have h0:n=0:=by omega
   subst h0
   simp[hl]
   refine aC.with [] [KB] ?_
   simp[rP]
 ·simp[hl]
  intro _
  refine aC.with [] [KB] ?_
  simp[rP,hl]
theorem uk (a b:Nat) (ha:a<4611686018427387904) (hb:b<4611686018427387904):bits .or .i64 (a:Int) (b:Int)=((a|||b:Nat):Int):=by
 have hx:a|||b<2^62:=Nat.or_lt_two_pow (by omega) (by omega)
 have h1:(BitVec.ofInt 64 (a:Int)).toNat=a:=by
  rw[BitVec.ofInt_natCast,BitVec.toNat_ofNat];exact Nat.mod_eq_of_lt (by omega)
 have h2:(BitVec.ofInt 64 (b:Int)).toNat=b:=by
  rw[BitVec.ofInt_natCast,BitVec.toNat_ofNat];exact Nat.mod_eq_of_lt (by omega)
 show IntKind.i64.wrap ((BitVec.ofInt 64 (a:Int)|||BitVec.ofInt 64 (b:Int)).toNat:Int)=_
 rw[BitVec.toNat_or,h1,h2]
 exact wrap_i64 (by omega)
theorem al.vK {P:Program} {s:St} {α:Type} {d:Option Nat} {f:FuncId} {args gI:List PV} {c:qk} {Φ:α->Prop} {r:α->PV} {c':α->qk} {K:St->Prop} {t:Tg K} (k:Nat) (hA:af P f gI [.box (hH c)] λx fp=>∃w,Φ w∧x=r w∧fp=[.box (hH (c' w))]) (hb:get s.bx k=some (.box (hH c)))
  (NR:ae (bS [k]) args=true) (ha:jE (aO (bE [k]) args)=gI) (hr:∀w,Pure (r w)) (h:∀w,Φ w->K ({s with bx:=put s.bx k (.box (hH (c' w)))}.put d (r w))):al P s d f args K t:=by
 subst ha
 refine⟨[k],[],[.box (hH c)],_,by simp[getAll,hb],by simp,by simp,NR,by simp[ah,(bO c).refs],af.YR (by simpa[aM,(bO c).az]using hA),?_⟩
 rintro x fp ⟨w,hw,rfl,rfl⟩
 refine⟨⟨rfl,(hr w).refs _,by simp[ah,(bO _).refs]⟩,?_⟩
 simpa[bB,aM,(bO _).az,(hr w).az]using h w hw
theorem al.vZ {P:Program} {s:St} {d:Option Nat} {f:FuncId} {args gI:List PV} {c c':qk} {r:PV} {K:St->Prop} {t:Tg K} (k:Nat) (hA:af P f gI [.box (hH c)] λx fp=>x=r∧fp=[.box (hH c')]) (hb:get s.bx k=some (.box (hH c)))
  (NR:ae (bS [k]) args=true) (ha:jE (aO (bE [k]) args)=gI) (hr:Pure r) (h:K ({s with bx:=put s.bx k (.box (hH c'))}.put d r)):al P s d f args K t:=by
 refine al.gen [k] [] [.box (hH c)] hA (by simp[getAll,hb]) (by simp) (by simp) NR (by simp[ah,(bO c).refs]) ha (by simp[aM,(bO c).az]) ⟨rfl,hr.refs _,by simp[ah,(bO c').refs]⟩ ?_
 simpa[bB,aM,(bO c').az,hr.az]using h
def bool (c:qk):Bool×qk:=(decide ((rP c 2).1=1),(rP c 2).2)
theorem AE {c:qk} (h:im c):af Pg I.bZ [.pt KB [] 0] [.box (hH c)] (λr fp=>r= .bl (bool c).1∧fp=[.box (hH (bool c).2)]):=by
 refine af.intro T.bZ (by simp[F.bZ]) ?_
 simp[F.bZ,ai,aG]
 refine al.vZ KB (cD h 2 (by omega)) (by simp) (by simp[ae,ab,bS,idx]) (by simp[aO,az,bE,idx]) (by simp) ?_
 simp
 refine aC.with [] [KB] ?_
 simp[bool,ah,(bO _).refs,aM,(bO _).az]
 omega
theorem xd {c:qk} (h:im c) (n:Nat) (hn:n≤16777216) (h1:1≤n):af Pg I.bY [.pt KB [] 0,.int .i64 n] [.box (hH c)] (λr fp=>∃m c',im c'∧m<n∧r= .int .i64 (m:Nat)∧fp=[.box (hH c')]):=by
 refine af.intro T.bY (by simp[F.bY]) ?_
 simp[F.bY,ai,aG,show¬(n:Int)<1 by omega]
 refine al.vZ KB (cD h 256 (by omega)) (by simp) (by simp[ae,ab,bS,idx]) (by simp[aO,az,bE,idx]) (by simp) ?_
 have l1:=iZ c (n:=256) (by omega)
 have o1:=gX h 256
 generalize rP c 256=a at*
 simp
 refine al.vZ KB (cD o1 256 (by omega)) (by simp) (by simp[ae,ab,bS,idx]) (by simp[aO,az,bE,idx]) (by simp) ?_
 have l2:=iZ a.2 (n:=256) (by omega)
 have o2:=gX o1 256
 generalize rP a.2 256=b at*
 simp
 refine al.vZ KB (cD o2 256 (by omega)) (by simp) (by simp[ae,ab,bS,idx]) (by simp[aO,az,bE,idx]) (by simp) ?_
 have l3:=iZ b.2 (n:=256) (by omega)
 have o3:=gX o2 256
 generalize rP b.2 256=e at*
 simp
 refine⟨by omega,?_⟩
 have w1:IntKind.i64.wrap ((a.1:Int)*2^min 16 IntKind.i64.bits)=((a.1*65536:Nat):Int):=by
  simp[IntKind.bits];rw[wrap_i64 (by omega)]
 have w2:IntKind.i64.wrap ((b.1:Int)*2^min 8 IntKind.i64.bits)=((b.1*256:Nat):Int):=by
  simp[IntKind.bits];rw[wrap_i64 (by omega)]
 have hx:a.1*65536|||b.1*256<2^24:=Nat.or_lt_two_pow (by omega) (by omega)
 have hy:(a.1*65536|||b.1*256)|||e.1<2^24:=Nat.or_lt_two_pow hx (by omega)
 rw[w1,w2,uk _ _ (by omega) (by omega),uk _ _ (by omega) (by omega)]
 generalize (a.1*65536|||b.1*256)|||e.1=m at*
 generalize a.1*65536|||b.1*256=m2 at*
 have ht:((m:Int)).tmod n=((m%n:Nat):Int):=by rw[←Int.ofNat_tmod]
 refine aC.with [] [KB] ?_
 simp[ah,(bO _).refs,aM,(bO _).az,-Int.natCast_emod]
 exact⟨m%n,e.2,o3,Nat.mod_lt _ (by omega),ht,rfl⟩
end Go.Ab
end E1s
noncomputable section E2s
namespace Go.Ab
open Go.Ab
theorem om {i n:Nat} (h:i<n) (hn:n≤1048576):IntKind.i64.wrap ((i:Int)+1)=(i:Int)+1:=wrap_i64 (by omega)
theorem Ih (m:Int):∃b:UInt8,PV.int .u8 (IntKind.u8.wrap m)=u8 b:=by
 have h:0≤IntKind.u8.wrap m∧IntKind.u8.wrap m<256:=by
  simp only[IntKind.wrap,IntKind.bits,IntKind.signed];simp;omega
 refine⟨UInt8.ofNat (IntKind.u8.wrap m).toNat,?_⟩
 simp only[u8]
 congr 1
 rw[UInt8.toNat_ofNat']
 omega
def De (f:Nat->UInt8) (n i:Nat):List UInt8:=(List.range n).map λj=>if j<i then f j else 0
@[simp] theorem TK (f:Nat->UInt8) (n i:Nat):(De f n i).length=n:=by simp[De]
theorem JU (f:Nat->UInt8) (n:Nat):List.replicate n (PV.int .u8 0)=(De f n 0).map u8:=by
 apply List.ext_getElem<;>simp[De,u8]
theorem MF (f:Nat->UInt8) (n i:Nat):((De f n i).map u8).set i (u8 (f i))=(De f n (i+1)).map u8:=by
 rw[←List.map_set]
 congr 1
 apply List.ext_getElem
 ·simp
 ·intro j h1 h2
  simp only[De,List.getElem_set,List.getElem_map,List.getElem_range]
  by_cases e:i=j
  ·subst e;simp
  ·simp only[e,if_false]
   by_cases e2:j<i
   ·rw[if_pos e2,if_pos (by omega)]
   ·rw[if_neg e2,if_neg (by omega)]
theorem xQ {c:qk} (h:im c) (n:Nat) (hn:n≤1048576):af Pg I.cB [.pt KB [] 0,.int .i64 n] [.box (hH c)] (λr fp=>∃w:List UInt8×qk,(im w.2∧w.1.length=n)∧r=eY w.1∧fp=[.box (hH w.2)]):=by
 refine af.intro T.cB (by simp[F.cB]) ?_
 simp[F.cB,ai,aG]
 refine⟨⟨by omega,by omega⟩,?_⟩
 refine al.vZ KB (cD h 256 (by omega)) (by simp) (by simp[ae,ab,bS,idx]) (by simp[aO,az,bE,idx]) (by simp) ?_
 have o1:=gX h 256
 generalize rP c 256=a at*
 simp
 generalize IntKind.i64.wrap (IntKind.i64.wrap (2*↑a.snd.at_)+1)=st
 have hf:∃f:Nat->UInt8,∀i:Nat,PV.int .u8 (IntKind.u8.wrap (IntKind.i64.wrap ((a.1:Int)+IntKind.i64.wrap ((i:Int)*st))))=u8 (f i):=
  ⟨λi=>Classical.choose (Ih _),λi=>Classical.choose_spec (Ih _)⟩
 obtain⟨f,hf⟩:=hf
 rw[JU f]
 refine gR.iw n (λ_=>True) [0,4,5,6,7,20,21] (λi=>[(21,.int .i64 i)]) (λi=>[(10,.arr 1 ((De f n i).map u8))]) [.keep [0,4,5,6,7,20,21]] ?_
 simp
 refine⟨λi hi K hK=> ?_,λK=> ?_⟩
 ·simp[↓an,hi,hf,om hi hn]
  refine⟨⟨rfl,rfl⟩,[.keep [0,4,5,6,7,20,21]],?_⟩
  simp
  exact hK _ (by simp[MF])
 ·simp[↓an,↓an]
  refine aC.with [.keep [4],.fz 10] [KB] ?_
  simp[ah,(bO _).refs,aM,(bO _).az,ab,ae]
  exact⟨De f n n,a.2,⟨o1,by simp⟩,by rw[tJ (by simp)];rfl,rfl⟩
theorem Cc {c:qk} (h:im c):af Pg I.cg [.pt KB [] 0] [.box (hH c)] (λr fp=>∃w:Key×qk,im w.2∧r=aW w.1∧fp=[.box (hH w.2)]):=by
 refine af.intro T.cg (by simp[F.cg]) ?_
 simp[F.cg,ai,aG]
 refine oJ.run [KB] rfl ?_
 simp
 refine al.vK KB (xQ h 32 (by omega)) (by simp) (by simp[ae,ab,bS,idx]) (by simp[aO,az,bE,idx]) (by simp) ?_
 rintro⟨l,c'⟩ ⟨hc,hl⟩
 simp at hc hl
 have qU:l.take 32=l:=tJ (by omega)
 simp[hl,eY]
 have e:PV.ar 1 32 (List.take 32 (List.map u8 l)++List.drop 32 (zr 32 (PV.int .u8 0)))=aW ⟨l,hl⟩:=by
  rw[tJ (by simp[hl]),List.drop_of_length_le (by simp[iq])];simp[aW]
 rw[e]
 refine aC.with [] [KB] ?_
 simp[ah,(bO _).refs,aM,(bO _).az,(eR _).refs]
 exact⟨⟨l,hl⟩,c',hc,rfl,rfl⟩
def AF (r:nS):Prop:=1≤r.Al∧r.Al≤r.wU∧r.wU≤18446744073709543423∧1000≤r.ret∧r.ret≤3000∧2000≤r.EE∧r.EE≤6000∧r.Vx=30000∧20000≤r.wV∧r.wV≤r.rV∧r.rV≤100000∧r.ret≤r.SS∧r.SS≤20*r.ret∧1≤r.load∧r.load≤6∧1≤r.lq∧r.lq≤8
theorem AF.mk' {a b c d e f g i j k:Int} (h1:1≤a) (h2:a≤b) (h3:b≤18446744073709543423) (h4:1000≤f) (h5:f≤3000) (h6:2000≤g) (h7:g≤6000) (h8:20000≤c) (h9:c≤d) (h10:d≤100000) (h11:f≤e) (XX:e≤20*f) (h13:1≤j) (h14:j≤6) (h15:1≤k) (XW:k≤8) (h17:i=30000:=by rfl):AF ⟨a,b,c,d,e,f,g,i,j,k⟩:=
 ⟨h1,h2,h3,h4,h5,h6,h7,h17,h8,h9,h10,h11,XX,h13,h14,h15,XW⟩
theorem Fb {c:qk} (h:im c):af Pg I.dc [.pt KB [] 0] [.box (hH c)] (λr fp=>∃w:nS×qk,(AF w.1∧im w.2)∧r=dE w.1∧fp=[.box (hH w.2)]):=by
 refine af.intro T.dc (by simp[F.dc]) ?_
 simp[F.dc,ai,aG]
 refine al.vZ KB (cD h 40 (by omega)) (by simp) (by simp[ae,ab,bS,idx]) (by simp[aO,az,bE,idx]) (by simp) ?_
 have l0:=iZ c (n:=40) (by omega)
 have o0:=gX h 40
 generalize rP c 40=x0 at*
 simp(disch:=omega)
 refine al.vZ KB (cD o0 20 (by omega)) (by simp) (by simp[ae,ab,bS,idx]) (by simp[aO,az,bE,idx]) (by simp) ?_
 have l1:=iZ x0.2 (n:=20) (by omega)
 have o1:=gX o0 20
 generalize rP x0.2 20=x1 at*
 simp(disch:=omega)
 refine al.vZ KB (cD o1 5 (by omega)) (by simp) (by simp[ae,ab,bS,idx]) (by simp[aO,az,bE,idx]) (by simp) ?_
 have l2:=iZ x1.2 (n:=5) (by omega)
 have o2:=gX o1 5
 generalize rP x1.2 5=x2 at*
 simp(disch:=omega)
 refine al.vZ KB (cD o2 5 (by omega)) (by simp) (by simp[ae,ab,bS,idx]) (by simp[aO,az,bE,idx]) (by simp) ?_
 have l3:=iZ x2.2 (n:=5) (by omega)
 have o3:=gX o2 5
 generalize rP x2.2 5=x3 at*
 simp(disch:=omega)
 refine al.vZ KB (cD o3 6 (by omega)) (by simp) (by simp[ae,ab,bS,idx]) (by simp[aO,az,bE,idx]) (by simp) ?_
 have l4:=iZ x3.2 (n:=6) (by omega)
 have o4:=gX o3 6
 generalize rP x3.2 6=x4 at*
 simp(disch:=omega)
 refine al.vZ KB (cD o4 8 (by omega)) (by simp) (by simp[ae,ab,bS,idx]) (by simp[aO,az,bE,idx]) (by simp) ?_
 have l5:=iZ x4.2 (n:=8) (by omega)
 have o5:=gX o4 8
 generalize rP x4.2 8=x5 at*
 simp(disch:=omega)
 refine oJ.run [KB] rfl ?_
 simp(disch:=omega)
 refine al.vZ KB (cD o5 60 (by omega)) (by simp) (by simp[ae,ab,bS,idx]) (by simp[aO,az,bE,idx]) (by simp) ?_
 have l6:=iZ x5.2 (n:=60) (by omega)
 have o6:=gX o5 60
 generalize rP x5.2 60=x6 at*
 simp(disch:=omega)
 refine oJ.run [KB] rfl ?_
 simp(disch:=omega)
 refine al.vZ KB (cD o6 40 (by omega)) (by simp) (by simp[ae,ab,bS,idx]) (by simp[aO,az,bE,idx]) (by simp) ?_
 have l7:=iZ x6.2 (n:=40) (by omega)
 have o7:=gX o6 40
 generalize rP x6.2 40=x7 at*
 simp(disch:=omega)
 refine oJ.run [KB] rfl ?_
 simp(disch:=omega)
 refine al.vZ KB (cD o7 5 (by omega)) (by simp) (by simp[ae,ab,bS,idx]) (by simp[aO,az,bE,idx]) (by simp) ?_
 have l8:=iZ x7.2 (n:=5) (by omega)
 have o8:=gX o7 5
 generalize rP x7.2 5=x8 at*
 simp(disch:=omega)
 refine al.vZ KB (cD o8 4 (by omega)) (by simp) (by simp[ae,ab,bS,idx]) (by simp[aO,az,bE,idx]) (by simp) ?_
 have l9:=iZ x8.2 (n:=4) (by omega)
 have o9:=gX o8 4
 generalize rP x8.2 4=x9 at*
 simp(disch:=omega)
 have hP:∃Q:Int,IntKind.i64.wrap ((1000+(x2.1:Int)*500)*(1+(x8.1:Int)))=Q∧1000+(x2.1:Int)*500≤Q∧Q≤20*(1000+(x2.1:Int)*500):=by
  have hc:x8.1=0∨x8.1=1∨x8.1=2∨x8.1=3∨x8.1=4:=by omega
  rcases hc with h|h|h|h|h<;>rw[h]
  ·exact⟨_,wrap_i64 (by omega),by omega,by omega⟩
  ·exact⟨_,wrap_i64 (by omega),by omega,by omega⟩
  ·exact⟨_,wrap_i64 (by omega),by omega,by omega⟩
  ·exact⟨_,wrap_i64 (by omega),by omega,by omega⟩
  ·exact⟨_,wrap_i64 (by omega),by omega,by omega⟩
 obtain⟨Q,hQ,hQ1,hQ2⟩:=hP
 rw[hQ]
 refine⟨λhz=> ?_,λhz=> ?_⟩
 ·refine aC.with [] [KB] ?_
  simp[ah,(bO _).refs,aM,(bO _).az,ab,ae]
  exact⟨⟨1152921504606846976,18446744073709543423,20000+(x1.1:Int)*1000,20000+(x1.1:Int)*1000+(x7.1:Int)*1000,Q,1000+(x2.1:Int)*500,2000+(x3.1:Int)*1000,30000,1+(x4.1:Int),1+(x5.1:Int)⟩,x9.2,⟨AF.mk' (by omega) (by omega) (by omega) (by omega) (by omega) (by omega) (by omega) (by omega) (by omega) (by omega) (by omega) (by omega) (by omega) (by omega) (by omega) (by omega),o9⟩,rfl,rfl⟩
 ·refine aC.with [] [KB] ?_
  simp[ah,(bO _).refs,aM,(bO _).az,ab,ae]
  exact⟨⟨1+(x0.1:Int),1+(x0.1:Int)+(x6.1:Int),20000+(x1.1:Int)*1000,20000+(x1.1:Int)*1000+(x7.1:Int)*1000,Q,1000+(x2.1:Int)*500,2000+(x3.1:Int)*1000,30000,1+(x4.1:Int),1+(x5.1:Int)⟩,x9.2,⟨AF.mk' (by omega) (by omega) (by omega) (by omega) (by omega) (by omega) (by omega) (by omega) (by omega) (by omega) (by omega) (by omega) (by omega) (by omega) (by omega) (by omega),o9⟩,rfl,rfl⟩
end Go.Ab
end E2s
noncomputable section E3s
namespace Go.Ab
open Go.Ab
theorem Df:∀l m:List UInt8,PV.oN (l.map u8) (m.map u8)=decide (l=m)
 |[],[]=>by simp[PV.oN]
 |[],_::_=>by simp[PV.oN]
 |_::_,[]=>by simp[PV.oN]
 |
  a::l,b::m=>by
  have ih:=Df l m
  simp only[List.map_cons,PV.oN,ih,u8,PV.beq]
  by_cases h:a=b
  ·subst h;simp
  ·have:¬(a.toNat=b.toNat):=λe=>h (UInt8.toNat_inj.1 e)
   simp[h,this]
   intro e;exact absurd (by omega) this
theorem Key.ext' {a b:Key} (h:a.l=b.l):a=b:=by cases a;cases b;simp_all
instance:DecidableEq Key:=λa b=>if h:a.l=b.l then isTrue (Key.ext' h)else isFalse (λe=>h (by rw[e]))
theorem tH (a b:Key):PV.beq (aW a) (aW b)=decide (a=b):=by
 have:(a=b)↔a.l=b.l:=⟨λe=>by rw[e],Key.ext'⟩
 simp[aW,PV.beq,Df,this]
def xR (a b:Key):Bool:=Op.bytesLess a.l b.l
def gT (a b:gZ):Bool:=if a.at_≠b.at_ then decide (a.at_<b.at_)else if a.peer≠b.peer then xR a.peer b.peer else decide (a.kind<b.kind)
theorem bK (a b:gZ):a8 Pg I.bK [bT a,bT b] (.bl (gT a b)):=by
 refine af.intro T.bK (by simp[F.bK]) ?_
 by_cases h1:a.at_=b.at_
 ·by_cases h2:a.peer=b.peer
  ·simp[F.bK,ai,aG,h1,h2,tH]
   refine aC.plain [] ?_
   simp[gT,h1,h2]
  ·simp[F.bK,ai,aG,h1,h2,tH]
   have ta:(a.peer.l.map u8).take 32=a.peer.l.map u8:=tJ (by simp[a.peer.h])
   have tb:(b.peer.l.map u8).take 32=b.peer.l.map u8:=tJ (by simp[b.peer.h])
   simp[aW,a.peer.h,b.peer.h,ta,tb]
   refine aC.plain [] ?_
   simp[gT,xR,h1,h2]
 ·simp[F.bK,ai,aG,h1]
  refine aC.plain [] ?_
  simp[gT,h1]
def qN (k:Key) (n:Int) (x:gZ):Bool:= !(decide (x.peer=k)&&decide (x.kind=n))
def dN (l:List gZ) (k:Key) (n:Int):List gZ:=l.filter (qN k n)
theorem pY {α:Type} (p:α->Bool) {l:List α} {i:Nat} (h:i<l.length):(l.take (i+1)).filter p=(l.take i).filter p++(if p l[i]=true then [l[i]]else []):=by
 rw[List.take_succ_eq_append_getElem h,List.filter_append]
 congr 1
 by_cases hk:p l[i]=true<;>simp[hk]
theorem AG {α:Type} (p:α->Bool) (l:List α) (i:Nat):((l.take i).filter p).length≤i:=by
 have:=List.length_filter_le p (l.take i)
 rw[lJ]at this;omega
theorem dt {l:List gZ} (h:l.length≤1048576) (k:Key) (n:Int):a8 Pg I.dt [gv l,aW k,.int .i64 n] (gv (dN l k n)):=by
 refine af.intro T.dt (by simp[F.dt]) ?_
 simp[F.dt,ai,aG,gv]
 refine gR.iw l.length (λ_=>True) [2,4,6,7,10,11,12] (λi=>[(7,.rs 7 [] 0 ((l.take i).filter (qN k n)).length ((l.take i).filter (qN k n)).length 34 .tip),(12,.int .i64 i)]) (λi=>[(7,.arr 34 (((l.take i).filter (qN k n)).map bT))]) [.vt 7 7 34] ?_
 simp
 refine⟨λi hi K hK=> ?_,λK=> ?_⟩
 ·have hx:l[i]? =some l[i]:=gJ hi
  have hlen:=AG (qN k n) l i
  rw[pY _ hi]at hK
  generalize (l.take i).filter (qN k n)=out at*
  by_cases h1:l[i].peer=k
  ·by_cases h2:l[i].kind=n
   ·simp[↓an,hx,hi,h1,h2,tH,om hi h]
    refine⟨[.keep [2,4,6,7,10,11,12],.dr 9],?_⟩
    simp[jq,kG,ab,ah]
    exact hK _ (by simp[qN,h1,h2])
   ·simp[↓an,hx,hi,h1,h2,tH,om hi h]
    refine⟨⟨by omega,by omega⟩,[.keep [2,4,6,7,10,11,12],.dr 9],?_⟩
    simp[jq,kG,ab,ah]
    exact hK _ (by simp[qN,h1,h2])
  ·simp[↓an,hx,hi,h1,tH,om hi h]
   refine⟨⟨by omega,by omega⟩,[.keep [2,4,6,7,10,11,12],.dr 9],?_⟩
   simp[jq,kG,ab,ah]
   exact hK _ (by simp[qN,h1])
 ·simp[↓an,↓an]
  refine aC.plain [.keep [6],.fz 7,.wk 6] ?_
  simp[dN]
def ji (t:gZ):List gZ->Nat
 |[]=>0
 |x::r=>if gT t x=true then 0 else ji t r+1
def ql (l:List gZ) (t:gZ):List gZ:=let r:=dN l t.peer t.kind;r.take (ji t r)++[t]++r.drop (ji t r)
theorem yQ (t:gZ):∀l,ji t l≤l.length
 |[]=>Nat.le_refl _
 |x::r=>by simp only[ji];split<;>simp;exact yQ t r
theorem Ii (t:gZ):∀(l:List gZ) (i:Nat) (h:i<l.length),i<ji t l->gT t l[i]=false
 |x::r,0,h,hi=>by simp only[ji]at hi;split at hi<;>simp_all
 |
  x::r,i+1,h,hi=>by
  simp only[ji]at hi
  split at hi
  ·omega
  ·simpa using Ii t r i (by simpa using h) (by omega)
theorem Ij (t:gZ):∀(l:List gZ) (h:ji t l<l.length),gT t l[ji t l]=true
 |[],h=>by simp at h
 |
  x::r,h=>by
  simp only[ji]at h⊢
  by_cases hx:gT t x=true
  ·simp[hx]
  ·simp only[hx,fJ,if_false]at h⊢
   simpa using Ij t r (by simpa using h)
theorem eM {l:List gZ} (h:l.length≤1048575) (t:gZ):a8 Pg I.eM [gv l,bT t] (gv (ql l t)):=by
 refine af.intro T.eM (by simp[F.eM]) ?_
 simp[F.eM,ai,aG]
 refine al.ret (dt (l:=l) (by omega) t.peer t.kind) (by simp) (by simp) (by simp) ?_
 have hle:(dN l t.peer t.kind).length≤l.length:=List.length_filter_le _ _
 have hr:ql l t=(dN l t.peer t.kind).take (ji t (dN l t.peer t.kind))++[t]++(dN l t.peer t.kind).drop (ji t (dN l t.peer t.kind)):=rfl
 rw[hr]
 generalize dN l t.peer t.kind=r at*
 have hp:=yQ t r
 simp
 refine gR.iw (ji t r) (λ_=>True) [3,4,5,6] (λi=>[(6,.int .i64 i)]) (λi=>[]) [.keep [3,4,5,6]] ?_
 simp
 refine⟨λi hi K hK=> ?_,λK=> ?_⟩
 ·have hl:i<r.length:=by omega
  have hx:r[i]? =some r[i]:=gJ hl
  have hn:=Ii t r i hl hi
  simp[↓an,hx,hl]
  refine aU.ret (bK t r[i]) (by simp) (by simp) (by simp) ?_
  simp[hn,om hl (by omega)]
  refine⟨[.keep [3,4,5,6]],?_⟩
  simp
  exact hK _ (by simp)
 ·by_cases hq:ji t r<r.length
  ·have hx:r[ji t r]? =some r[ji t r]:=gJ hq
   have hn:=Ij t r hq
   simp[↓an,hx,hq]
   refine aU.ret (bK t r[ji t r]) (by simp) (by simp) (by simp) ?_
   simp[hn]
   simp[↓an,gv]
   refine oJ.run [33,38] rfl ?_
   simp[hp]
   have pv:min (1+(r.length-ji t r)) (r.length-ji t r+1)=1+(r.length-ji t r):=by omega
   rw[pv]
   refine⟨⟨by omega,by omega⟩,⟨by omega,by omega⟩,⟨by omega,by omega⟩,?_⟩
   refine aC.plain [.keep [4],.dr 33,.fz 38,.wk 4] ?_
   have h1:min (ji t r) r.length=ji t r:=by omega
   have h2:r.length-ji t r+1=1+(r.length-ji t r):=by omega
   simp[jq,kG,ab,ah,ae,h1,h2,tJ]
  ·simp[↓an,hq]
   simp[↓an,gv]
   refine oJ.run [33,38] rfl ?_
   simp[hp]
   have pv:min (1+(r.length-ji t r)) (r.length-ji t r+1)=1+(r.length-ji t r):=by omega
   rw[pv]
   refine⟨⟨by omega,by omega⟩,⟨by omega,by omega⟩,⟨by omega,by omega⟩,?_⟩
   refine aC.plain [.keep [4],.dr 33,.fz 38,.wk 4] ?_
   have h1:min (ji t r) r.length=ji t r:=by omega
   have h2:r.length-ji t r+1=1+(r.length-ji t r):=by omega
   simp[jq,kG,ab,ah,ae,h1,h2,tJ]
end Go.Ab
end E3s
noncomputable section E4s
namespace Go.Ab
open Go.Ab
def adN (net host:UInt8):iO:=⟨false,[10,net,0,host,0,0,0,0,0,0,0,0,0,0,0,0],rfl⟩
def MG (a:iO) (k:Nat):Prop:=∀j,k≤j->j<16->a.ip[j]? =some 0
theorem MG.mono {a:iO} {k m:Nat} (h:MG a k) (hk:k≤m):MG a m:=λj h1 h2=>h j (by omega) h2
theorem dq (a:iO):a8 Pg I.dq [ft a] (.int .i64 (if a.na=true then 128 else 32)):=by
 refine af.intro T.dq (by simp[F.dq]) ?_
 by_cases h:a.na=true
 ·simp[F.dq,ai,aG,h]
  refine aC.plain [] ?_
  simp
 ·simp[F.dq,ai,aG,h]
  refine aC.plain [] ?_
  simp
theorem adO (i:Nat):(i:Int).tmod 8=((i%8:Nat):Int):=by rw[show(8:Int)=((8:Nat):Int) from rfl,←Int.ofNat_tmod]
end Go.Ab
end E4s
noncomputable section E5s
namespace Go.Ab
open Go.Ab
def aj6 (n:UInt8):lr:=⟨adN n 0,16⟩
end Go.Ab
end E5s
noncomputable section E6s
namespace Go.Ab
open Go.Ab
def DO (i:Nat):Key:=⟨[UInt8.ofNat (40*(i+1)),9,7]++List.replicate 29 0,rfl⟩
def aj7 (i:Nat):Bo:=⟨⟨false,[192,0,2,UInt8.ofNat (i+1),0,0,0,0,0,0,0,0,0,0,0,0],rfl⟩,1000+i⟩
def Fc (l:List An):Prop:=(∀(i:Nat) (h:i<l.length),l[i].index≠0)∧∀(i:Nat) (h:i+1<l.length),l[i].index<l[i+1].index
end Go.Ab
end E6s
noncomputable section E7s
namespace Go.Ab
open Go.Ab
structure QV where
 used:Bool
 top:Int
 w0:Int
 w1:Int
 w2:Int
 w3:Int
def wP (w:QV):PV:= .st 6 [.bl w.used,.int .u64 w.top,.ar 1 4 [.int .u64 w.w0,.int .u64 w.w1,.int .u64 w.w2,.int .u64 w.w3]]
def MH (w:QV):FV JB:=⟨wP w,by simp[wP,fits,kd,rZ,rU,tu]⟩
structure SmW (w:QV) (c:Int):Prop where
 t0:0≤w.top
 t8:w.top<8
 c0:0≤c
 c8:c<8
end Go.Ab
end E7s
noncomputable section E8s
namespace Go.Ab
open Go.Ab
def uF:FV vu:=⟨.ar 1 32 (zr 32 (.int .u8 0)),by rw[iq];rfl⟩
def zWn:FV JB:=⟨.st 6 [.bl false,.int .u64 0,.ar 1 4 (zr 4 (.int .u64 0))],by rw[iq];rfl⟩
def aj8:GC:=⟨0,0,uF,uF,0,0,zWn,0,false⟩
def MI:FK:=⟨false,aj8⟩
def lcl (l:List FK):List Int:=(l.filter (λp=>p.has)).map (λp=>p.FL.loc)
theorem Wn (l:List FK):(lcl l).length≤l.length:=by
 unfold lcl;rw[List.length_map];exact List.length_filter_le _ _
end Go.Ab
end E8s
noncomputable section E9s
namespace Go.Ab
open Go.Ab
def TL (v:FV JB):Prop:=v=zWn∨∃w:QV,w.used=true∧(0≤w.top∧w.top<8)∧v=MH w
structure Ik (d:gU) (s:GC):Prop where
 b0:0≤s.born
 b1:s.born≤d.now
 fe:s.L9=d.rules.wU
 n0:0≤s.next
 n1:s.next≤18446744073709543423
 wi:TL s.Uo
def yk:Nat->Nat->List UInt8
 |0,n=>[UInt8.ofNat (48+n)]
 |f+1,n=>if n<10 then [UInt8.ofNat (48+n)]else yk f (n/10)++[UInt8.ofNat (48+n%10)]
theorem qO:∀f n,1≤(yk f n).length∧(yk f n).length≤f+1
 |0,n=>by simp[yk]
 |
  f+1,n=>by
  have:=qO f (n/10)
  simp only[yk];split<;>simp<;>omega
theorem adQ {n:Nat} (h:n<256):u8 (UInt8.ofNat n)= .int .u8 n:=by
 simp only[u8];congr 1;simp[UInt8.toNat_ofNat];omega
theorem Wo {x:Int} {n:Nat} (e:x=n) (h:n<256):ir [.int .u8 x]=some [UInt8.ofNat n]:=by
 subst e;rw[←adQ h];exact sq [UInt8.ofNat n]
theorem Il:∀(f n:Nat),f≤100->n<10^(f+1)->n<1000000->a8 Pg I.bQ [.int .i64 n] (.str (yk f n)):=by
 intro f
 induction f with
 |
  zero=>
  intro n hf h h'
  have hn:(n:Int)<10:=by simp at h;omega
  refine af.intro T.bQ (by simp[F.bQ]) ?_
  have w1:IntKind.i64.wrap (48+(n:Int))=48+(n:Int):=wrap_i64 (by omega)
  have w2:IntKind.u8.wrap (48+(n:Int))=48+(n:Int):=wrap_u8 (by omega)
  simp[F.bQ,ai,aG,hn,w1,w2,Wo (x:=48+(n:Int)) (n:=48+n) (by omega) (by omega)]
  refine aC.plain [] ?_
  simp[yk]
 |
  succ f ih=>
  intro n hf h h'
  refine af.intro T.bQ (by simp[F.bQ]) ?_
  by_cases hn:(n:Int)<10
  ·have w1:IntKind.i64.wrap (48+(n:Int))=48+(n:Int):=wrap_i64 (by omega)
   have w2:IntKind.u8.wrap (48+(n:Int))=48+(n:Int):=wrap_u8 (by omega)
   simp[F.bQ,ai,aG,hn,w1,w2,Wo (x:=48+(n:Int)) (n:=48+n) (by omega) (by omega)]
   refine aC.plain [] ?_
   have II:n<10:=by omega
   simp[yk,II]
  ·have hl:=qO f (n/10)
   obtain⟨q,hq⟩:∃q,q=n/10:=⟨_,rfl⟩
   obtain⟨t,ht⟩:∃t,t=n%10:=⟨_,rfl⟩
   have hd:IntKind.i64.wrap ((n:Int).tdiv 10)=(q:Int):=by
    rw[show(10:Int)=((10:Nat):Int) from rfl,←Int.ofNat_tdiv,hq];exact wrap_i64 (by omega)
   have Xs:IntKind.i64.wrap ((n:Int)/10)=(q:Int):=by
    rw[show(n:Int)/10=((n/10:Nat):Int) by omega,hq];exact wrap_i64 (by omega)
   have hm:(n:Int).tmod 10=(t:Int):=by
    rw[show(10:Int)=((10:Nat):Int) from rfl,←Int.ofNat_tmod,ht]
   have w1:IntKind.i64.wrap (48+(t:Int))=48+(t:Int):=wrap_i64 (by omega)
   have w2:IntKind.u8.wrap (48+(t:Int))=48+(t:Int):=wrap_u8 (by omega)
   have hi:=ih q (by omega) (by rw[Nat.pow_succ]at h;omega) (by omega)
   simp[F.bQ,ai,aG,hn,hd,Xs]
   refine aU.ret hi (by simp) (by simp) (by simp) ?_
   rw[←hq]at hl
   simp[hm,w1,w2,Wo (x:=48+(t:Int)) (n:=48+t) (by omega) (by omega)]
   refine⟨by omega,?_⟩
   refine aC.plain [] ?_
   have II:¬n<10:=by omega
   simp[yk,II,←hq,←ht]
def AH (a:iO) (n:Nat):List UInt8:=((a.ip.take n).map (λb=>[46]++yk 2 b.toNat)).flatten
theorem Dg (a:iO):∀n,(AH a n).length≤4*n:=by
 intro n
 unfold AH
 generalize a.ip=l
 induction l generalizing n with
 |nil=>simp
 |
  cons x l ih=>
  cases n with
  |zero=>simp
  |
   succ n=>
   have:=ih n
   have h2:=qO 2 x.toNat
   simp at this⊢
   omega
theorem JV (a:iO) {n:Nat} {b:UInt8} (h:a.ip[n]? =some b):AH a (n+1)=AH a n++([46]++yk 2 b.toNat):=by
 unfold AH
 rw[List.take_add_one,h];simp
theorem Ff (a:iO):2≤(AH a 4).length:=by
 have h:=a.h
 obtain⟨x,l,e⟩:∃x l,a.ip=x::l:=by
  cases hx:a.ip with
  |nil=>rw[hx]at h;simp at h
  |cons x l=>exact⟨x,l,rfl⟩
 unfold AH
 rw[e]
 have h2:=qO 2 x.toNat
 simp
 omega
end Go.Ab
end E9s
noncomputable section G1s
namespace Go.Ab
open Go.Ab
def QW:iO:=⟨false,List.replicate 16 0,rfl⟩
def Br:Bo:=⟨QW,0⟩
def zTg:FV L8:=⟨.ar 1 16 (zr 16 (.int .u8 0)),by rw[iq];rfl⟩
def zSm:FV PG:=⟨.ar 1 12 (zr 12 (.int .u8 0)),by rw[iq];rfl⟩
def zNo:FV PF:=⟨.st 64 [.ar 1 32 (zr 32 (.int .u8 0)),.ar 1 32 (zr 32 (.int .u8 0))],by rw[iq];rfl⟩
def Wp:P5:=⟨false,0,uF,zNo,0,0⟩
theorem xe:jR Br=(.st 18 [(.st 17 [(.bl false),(.ar 1 16 (zr 16 (.int .u8 0)))]),(.int .i64 0)]):=by first|rfl|(rw[iq];rfl)
def Cd (d:gU) (p:FK):Prop:=(p.has=true∧Ik d p.FL)∨(p.has=false∧p=MI)
structure Ce (d:gU) (p:jy):Prop where
 ep:(p.nm=true∧∃i,i<3∧p.ep=aj7 i)∨(p.nm=false∧p.ep=Br)
 kY:p.kY=0∨1000≤p.kY∧p.kY≤1073741824
 JD:p.JD=0
 y8:p.HR=false
 Hq:p.HS=false
 JE:p.JE=0
 Mb:p.Mb=zTg
 mR:p.mR=[]
 hand:p.hand=Wp
 rp:Cd d p.ring.p
 rc:Cd d p.ring.c
 rn:Cd d p.ring.n
end Go.Ab
end G1s
noncomputable section G2s
namespace Go.Ab
open Go.Ab
def rt (i:Nat):kX:=⟨aj6 (UInt8.ofNat (i+1)),DO i⟩
theorem Dh {i j:Nat} (hi:i<3) (hj:j<3) (h:DO i=DO j):i=j:=by
 have h2:=congrArg (λk:Key=>k.l.head?) h
 rcases(by omega:i=0∨i=1∨i=2)with rfl|rfl|rfl<;>rcases(by omega:j=0∨j=1∨j=2)with rfl|rfl|rfl<;>simp[DO]at h2<;>rfl
theorem Wq {i j:Nat} (Co:i<j) (hj:j<3):xR (DO i) (DO j)=true:=by
 rcases(by omega:i=0∧j=1∨i=0∧j=2∨i=1∧j=2)with⟨rfl,rfl⟩|⟨rfl,rfl⟩|⟨rfl,rfl⟩<;>rfl
def adR (l:List kX):Prop:=l.length≤3∧∀(i:Nat) (h:i<l.length),l[i]=rt i
def adS (l:List jy):Prop:=l.length≤3∧∀(i:Nat) (h:i<l.length),l[i].eK=DO i
end Go.Ab
end G2s
namespace Go.Ab
open Go.Ab
structure TM (d:gU):Prop where
 so:∀(i:Nat) (h:i+1<d.timers.length),gT d.timers[i] d.timers[i+1]=true
 rg:∀t∈d.timers,2≤t.kind∧t.kind≤5∧d.now<t.at_∧t.at_≤4398046511104∧∃i,∃h:i<d.aj.length,t.peer=DO i∧(t.kind=4->d.aj[i].kY≠0)
 un:∀(i j:Nat) (hi:i<d.timers.length) (hj:j<d.timers.length),i<j->¬(d.timers[j].peer=d.timers[i].peer∧d.timers[j].kind=d.timers[i].kind)
 len:d.timers.length≤1000
end Go.Ab
noncomputable section G4s
namespace Go.Ab
open Go.Ab
def lc3 (r:JC):List Int:=lcl [r.p,r.c,r.n]
def Di (p:jy):List An:=(lc3 p.ring).map (λx=>⟨x,p.eK,true⟩)
theorem Wr (r:JC):(lc3 r).length≤3:=Wn _
structure MJ (d:gU):Prop where
 so:Fc d.kN
 pm:d.kN.Perm (d.aj.flatMap Di)
theorem Fc.lt {l:List An} (h:Fc l):∀(k i:Nat) (hk:i+k+1<l.length),l[i].index<l[i+k+1].index
 |0,i,hk=>h.2 i hk
 |k+1,i,hk=>Int.lt_trans (Fc.lt h k i (by omega)) (h.2 (i+k+1) (by omega))
theorem QX {l:List jy}:(l.flatMap Di).length≤3*l.length:=by
 induction l with
 |nil=>simp
 |
  cons p l ih=>
  rw[List.flatMap_cons,List.length_append,List.length_cons]
  have:(Di p).length≤3:=by rw[Di,List.length_map];exact Wr _
  omega
theorem MJ.len {d:gU} (h:MJ d) (hp:d.aj.length≤3):d.kN.length≤9:=by
 have h1:=h.pm.length_eq
 have h2:=QX (l:=d.aj)
 omega
end Go.Ab
end G4s
namespace Go.Ab
open Go.Ab
structure VD (d:gU):Prop where
 ru:AF d.rules
 n0:0≤d.now
 n1:d.now≤16777216
 p0:0≤d.port
 p1:d.port≤65535
 bad:d.bad=0
 pks:adS d.aj
 per:∀p∈d.aj,Ce d p
 rts:adR d.gL
 rtl:d.gL.length=d.aj.length
 sls:MJ d
 tis:TM d
 s0:0≤d.sA
 s1:d.sA≤d.now
 rcn:d.lD=[]
 buc:d.buckets=[]
end Go.Ab
noncomputable section G6s
namespace Go.Ab
open Go.Ab
def aka:PV:= .sl 86 [] true
@[simp] theorem Ws:aka.width=1:=rfl
def dSl (d:gU) (s:List An):gU:= {d with kN:=s}
def QY (d:gU) (s:List gZ):gU:= {d with timers:=s}
@[simp] theorem aaf (d:gU) (s:List An):(dSl d s).kN=s:=rfl
@[simp] theorem akb (d:gU) (s t:List An):dSl (dSl d s) t=dSl d t:=rfl
end Go.Ab
end G6s
noncomputable section G7s
namespace Go.Ab
open Go.Ab
end Go.Ab
end G7s
namespace Go.Ab
open Go.Ab
end Go.Ab
noncomputable section G9s
namespace Go.Ab
open Go.Ab
def Tok (t:gZ):Prop:=∃i,i<3∧t.peer=DO i
theorem qP {a b:gZ} {i j:Nat} (hi:i<3) (hj:j<3) (ha:a.peer=DO i) (hb:b.peer=DO j):
  gT a b=true↔a.at_<b.at_∨a.at_=b.at_∧(i<j∨i=j∧a.kind<b.kind):=by
 unfold gT
 by_cases h1:a.at_=b.at_
 ·by_cases h2:i=j
  ·subst h2
   have:a.peer=b.peer:=by rw[ha,hb]
   simp[h1,this]
  ·have h3:¬a.peer=b.peer:=by rw[ha,hb];exact λe=>h2 (Dh hi hj e)
   rcases Nat.lt_or_gt_of_ne h2 with h4|h4
   ·have:=Wq h4 hj
    simp[h1,h3,ha,hb,this,h4]
    exact Or.inl (λe=>h2 (Dh hi hj e))
   ·have h5:xR (DO i) (DO j)=false:=by
     rcases(by omega:i=1∧j=0∨i=2∧j=0∨i=2∧j=1)with⟨rfl,rfl⟩|⟨rfl,rfl⟩|⟨rfl,rfl⟩<;>rfl
    have h6:¬i<j:=by omega
    simp[h1,h3,ha,hb,h5,h6,h2]
    intro e;exact absurd (Dh hi hj e) h2
 ·simp[h1]
def Bs (t:gZ):List gZ->List gZ
 |[]=>[t]
 |x::r=>if gT t x=true then t::x::r else x::Bs t r
theorem QZ (l:List gZ) (t:gZ):ql l t=Bs t (dN l t.peer t.kind):=by
 have:∀r:List gZ,r.take (ji t r)++[t]++r.drop (ji t r)=Bs t r:=by
  intro r
  induction r with
  |nil=>rfl
  |
   cons x r ih=>
   by_cases h:gT t x=true
   ·simp[ji,Bs,h]
   ·simp[ji,Bs,h]at ih⊢
    exact ih
 exact this _
theorem xf (t:gZ):∀l,(Bs t l).Perm (t::l)
 |[]=> .refl _
 |
  x::l=>by
  simp only[Bs];split
  ·exact .refl _
  ·exact((xf t l).cons x).trans (.swap t x l)
theorem Cf {t:gZ} (ht:Tok t):∀ {l:List gZ},(∀x∈l,Tok x)->(∀x∈l,¬(x.peer=t.peer∧x.kind=t.kind))->l.Pairwise (λa b=>gT a b=true)->(Bs t l).Pairwise (λa b=>gT a b=true)
 |[],_,_,_=>by simp[Bs]
 |
  x::l,hT,hn,h=>by
  obtain⟨h1,h2⟩:=List.pairwise_cons.1 h
  obtain⟨i,hi,Oq⟩:=ht
  obtain⟨j,hj,A1⟩:=hT x (by simp)
  have hxn:=hn x (by simp)
  simp only[Bs];split
  ·rename_i eu
   refine List.pairwise_cons.2 ⟨λy hy=> ?_,h⟩
   rcases List.mem_cons.1 hy with rfl|hy
   ·exact eu
   ·obtain⟨k,hk,hyk⟩:=hT y (by simp[hy])
    have:=h1 y hy
    rw[qP hj hk A1 hyk]at this
    rw[qP hi hj Oq A1]at eu
    rw[qP hi hk Oq hyk]
    omega
  ·rename_i eu
   refine List.pairwise_cons.2 ⟨λy hy=> ?_,Cf ⟨i,hi,Oq⟩ (λz hz=>hT z (by simp[hz])) (λz hz=>hn z (by simp[hz])) h2⟩
   rcases List.mem_cons.1 ((xf t l).mem_iff.1 hy)with rfl|hy
   ·rw[qP hi hj Oq A1]at eu
    rw[qP hj hi A1 Oq]
    have dF:¬(j=i∧x.kind=y.kind):=λe=>hxn ⟨by rw[A1,Oq,e.1],e.2⟩
    omega
   ·exact h1 y hy
structure nZ (d:gU) (l:List gZ) (m:Nat):Prop where
 so:l.Pairwise (λa b=>gT a b=true)
 rg:∀t∈l,2≤t.kind∧t.kind≤5∧d.now<t.at_∧t.at_≤4398046511104∧∃i,∃h:i<d.aj.length,t.peer=DO i∧(t.kind=4->d.aj[i].kY≠0)
 un:l.Pairwise (λa b=>¬(b.peer=a.peer∧b.kind=a.kind))
 len:l.length≤m
theorem nZ.toT {d:gU} {m:Nat} (hm:m≤1000) (h:nZ d d.timers m):TM d where
 so:=λi hi=>List.pairwise_iff_getElem.1 h.so i (i+1) (by omega) hi (by omega)
 rg:=h.rg
 un:=λi j hi hj Co=>List.pairwise_iff_getElem.1 h.un i j hi hj Co
 len:=Nat.le_trans h.len hm
theorem Fg {l:List gZ} {k:Key} {n:Int} {x:gZ} (h:x∈dN l k n):x∈l∧¬(x.peer=k∧x.kind=n):=by
 obtain⟨h1,h2⟩:=List.mem_filter.1 h
 refine⟨h1,λe=> ?_⟩
 simp[qN,e.1,e.2]at h2
theorem nZ.set {d:gU} {l:List gZ} {m:Nat} (h:nZ d l m) (hp:d.aj.length≤3) {t:gZ} (k1:2≤t.kind) (k2:t.kind≤5) (a1:d.now<t.at_) (a2:t.at_≤4398046511104) {i:Nat} (hi:i<d.aj.length) (ht:t.peer=DO i) (h4:t.kind=4->d.aj[i].kY≠0):nZ d (ql l t) (m+1):=by
 have al2:∀x∈l,Tok x:=λx hx=>by obtain⟨_,_,_,_,j,hj,e,_⟩:=h.rg x hx;exact⟨j,by omega,e⟩
 have pB:Tok t:=⟨i,by omega,ht⟩
 rw[QZ]
 have hc:∀x∈dN l t.peer t.kind,x∈l∧¬(x.peer=t.peer∧x.kind=t.kind):=λx hx=>Fg hx
 have NS:=xf t (dN l t.peer t.kind)
 constructor
 ·exact Cf pB (λx hx=>al2 x (hc x hx).1) (λx hx=>(hc x hx).2) (h.so.filter _)
 ·intro x hx
  rcases List.mem_cons.1 (NS.mem_iff.1 hx)with rfl|hx
  ·exact⟨k1,k2,a1,a2,i,hi,ht,h4⟩
  ·exact h.rg x (hc x hx).1
 ·have al3:∀ {a b:gZ},¬(b.peer=a.peer∧b.kind=a.kind)->¬(a.peer=b.peer∧a.kind=b.kind):=λhn e=>hn ⟨e.1.symm,e.2.symm⟩
  refine(NS.pairwise_iff al3).2 (List.pairwise_cons.2 ⟨λx hx=>(hc x hx).2,h.un.filter _⟩)
 ·rw[NS.length_eq,List.length_cons]
  have:(dN l t.peer t.kind).length≤l.length:=List.length_filter_le _ _
  have:=h.len
  omega
structure VM (d:gU) (m:Nat):Prop where
 vd:VD d
 ti:nZ d d.timers m
theorem Ik.of {d e:gU} (hn:e.now=d.now) (hr:e.rules=d.rules) {s:GC} (h:Ik d s):Ik e s:=by
 obtain⟨h1,h2,h3,h4,h5,h6⟩:=h
 exact⟨h1,by rw[hn];exact h2,by rw[hr];exact h3,h4,h5,h6⟩
theorem Cd.of {d e:gU} (hn:e.now=d.now) (hr:e.rules=d.rules) {s:FK} (h:Cd d s):Cd e s:=by
 rcases h with⟨h1,h2⟩|h
 ·exact Or.inl ⟨h1,h2.of hn hr⟩
 ·exact Or.inr h
theorem Ce.of {d e:gU} (hn:e.now=d.now) (hr:e.rules=d.rules) {p:jy} (h:Ce d p):Ce e p:=by
 obtain⟨h1,h2,h3,h4,h5,h6,h7,h8,h9,h10,h11,XX⟩:=h
 exact⟨h1,h2,h3,h4,h5,h6,h7,h8,h9,h10.of hn hr,h11.of hn hr,XX.of hn hr⟩
end Go.Ab
end G9s
noncomputable section H1s
namespace Go.Ab
open Go.Ab
def Key.put (k:Key) (j:Nat) (b:UInt8):Key:=⟨k.l.set j b,by rw[List.length_set];exact k.h⟩
def zW:QV:=⟨false,0,0,0,0,0⟩
theorem Wt:MH zW=zWn:=by
 unfold MH zWn;congr 1;rw[iq];rfl
def WI (w:QV):Prop:=0≤w.top∧w.top<8∧(w.used=true∨w=zW)
theorem WI.ok {w:QV} (h:WI w):TL (MH w):=by
 rcases h.2.2 with h2|h2
 ·exact Or.inr ⟨w,h2,⟨h.1,h.2.1⟩,rfl⟩
 ·rw[h2];exact Or.inl Wt
end Go.Ab
end H1s
noncomputable section H2s
namespace Go.Ab
open Go.Ab
structure VP (d:gU) (i:Nat):Prop where
 vm:VM d i
 sl:d.kN=[]
 len:d.aj.length=i
 rg:∀p∈d.aj,Di p=[]
def yl (d:gU) (p:jy) (i:Nat) (T:List gZ):gU:= {d with aj:=d.aj++[p],gL:=d.gL++[rt i],timers:=T}
theorem VP.add {d:gU} {i:Nat} (h:VP d i) (hi:i<3) {p:jy} (hp:Ce d p) (hk:p.eK=DO i) (hr:Di p=[]) {T:List gZ}
  (hT:T=d.timers∨∃a,d.now<a∧a≤4398046511104∧p.kY≠0∧T=ql d.timers ⟨a,DO i,4⟩):VP (yl d p i T) (i+1):=by
 obtain⟨⟨v,t⟩,Ks,hlen,hrg⟩:=h
 have Cs:(yl d p i T).aj.length=i+1:=by show(d.aj++[p]).length=i+1;simp[hlen]
 have fo:∀(j:Nat) (hj:j<d.aj.length) (hj':j<(yl d p i T).aj.length),(yl d p i T).aj[j]=d.aj[j]:=by
  intro j hj hj'
  show(d.aj++[p])[j]=d.aj[j]
  exact List.getElem_append_left hj
 have Ul:∀(hj':i<(yl d p i T).aj.length),(yl d p i T).aj[i]=p:=by
  intro hj'
  have:(d.aj++[p])[d.aj.length]'(by simp)=p:=by simp
  show(d.aj++[p])[i]'(by simpa[hlen]using hj')=p
  simp only[←hlen,List.getElem_concat_length]
 have t0:nZ (yl d p i T) d.timers i:=by
  obtain⟨a,b,c,e⟩:=t
  refine⟨a,λx hx=> ?_,c,e⟩
  obtain⟨r1,r2,r3,r4,j,hj,r5,r6⟩:=b x hx
  exact⟨r1,r2,r3,r4,j,by rw[Cs];omega,r5,λhk=>by rw[fo j hj];exact r6 hk⟩
 have t1:nZ (yl d p i T) (yl d p i T).timers (i+1):=by
  show nZ (yl d p i T) T (i+1)
  rcases hT with rfl|⟨a,a1,a2,a3,e⟩
  ·obtain⟨a,b,c,e⟩:=t0
   exact⟨a,b,c,by omega⟩
  ·have:=t0.set (by rw[Cs];omega) (t:=⟨a,DO i,4⟩) (by show(2:Int)≤4;omega) (by show(4:Int)≤5;omega) a1 a2 (i:=i) (by rw[Cs];omega) rfl (λ_=>by rw[Ul];exact a3)
   rw[←e]at this
   exact this
 have afG:∀q∈(yl d p i T).aj,Di q=[]:=by
  intro q hq
  rcases List.mem_append.1 (show q∈d.aj++[p] from hq)with hq|hq
  ·exact hrg q hq
  ·rw[List.mem_singleton.1 hq];exact hr
 refine⟨⟨?_,t1⟩,Ks,Cs,afG⟩
 constructor
 ·exact v.ru
 ·exact v.n0
 ·exact v.n1
 ·exact v.p0
 ·exact v.p1
 ·exact v.bad
 ·refine⟨by rw[Cs];omega,λj hj=> ?_⟩
  rw[Cs]at hj
  by_cases e:j<d.aj.length
  ·rw[fo j e];exact v.pks.2 j e
  ·have:j=i:=by omega
   subst this
   rw[Ul];exact hk
 ·intro q hq
  refine Ce.of (d:=d) (e:=yl d p i T) rfl rfl ?_
  rcases List.mem_append.1 (show q∈d.aj++[p] from hq)with hq|hq
  ·exact v.per q hq
  ·rw[List.mem_singleton.1 hq];exact hp
 ·have yV:=v.rtl
  refine⟨?_,λj hj=> ?_⟩
  ·show(d.gL++[rt i]).length≤3;simp;omega
  ·have rK:j<(d.gL++[rt i]).length:=hj
   show(d.gL++[rt i])[j]=rt j
   by_cases e:j<d.gL.length
   ·rw[List.getElem_append_left e];exact v.rts.2 j e
   ·have:j=d.gL.length:=by simp at rK;omega
    have h2:j=i:=by omega
    rw[List.getElem_append_right (by omega)]
    simp[h2]
 ·show(d.gL++[rt i]).length=(d.aj++[p]).length
  have yV:=v.rtl
  simp;omega
 ·constructor
  ·show Fc d.kN;exact v.sls.so
  ·show d.kN.Perm ((d.aj++[p]).flatMap Di)
   rw[Ks]
   have:(d.aj++[p]).flatMap Di=[]:=by
    rw[List.flatMap_eq_nil_iff]
    exact afG
   rw[this]
 ·exact t1.toT (by omega)
 ·exact v.s0
 ·exact v.s1
 ·exact v.rcn
 ·exact v.buc
end Go.Ab
end H2s
noncomputable section H3as
namespace Go.Ab
open Go.Ab
def zD:PV:=PV.st 148 [PV.st 10 [.int .u64 0,.int .u64 0,.int .i64 0,.int .i64 0,.int .i64 0,.int .i64 0,.int .i64 0,.int .i64 0,.int .i64 0,.int .i64 0],
 .ar 1 32 (zr 32 (.int .u8 0)),.ar 1 32 (zr 32 (.int .u8 0)),.int .i64 0,.ar 1 32 (zr 32 (.int .u8 0)),.int .i64 0,.sl 464 [] true,.sl 50 [] true,.sl 34 [] true,.sl 34 [] true,
 .ar 1 32 (zr 32 (.int .u8 0)),.int .i64 0,.sl 1 [] true,.sl 19 [] true,.int .i64 0]
@[simp] theorem adT:zD.width=148:=rfl
theorem nZ.mono {d:gU} {l:List gZ} {m k:Nat} (h:nZ d l m) (hk:m≤k):nZ d l k:=⟨h.so,h.rg,h.un,Nat.le_trans h.len hk⟩
end Go.Ab
end H3as
noncomputable section H3s
namespace Go.Ab
open Go.Ab
def akc:JC:=⟨MI,MI,MI⟩
end Go.Ab
end H3s
noncomputable section WUs
namespace Go.Ab
open Go.Ab
@[simp] theorem amY (f:Fn) (a b:List PV):wk (.fn f a b)= .fn f a b:=by simp only[wk]
def fst (p:Nat->Bool):Nat->Nat
 |0=>0
 |n+1=>if fst p n<n then fst p n else if p n=true then n else n+1
theorem xg (p:Nat->Bool):∀n,fst p n≤n
 |0=>Nat.le_refl _
 |
  n+1=>by
  have:=xg p n
  unfold fst;(repeat' split)<;>omega
theorem xh {p:Nat->Bool}:∀ {n i},i<fst p n->p i=false
 |0,i,h=>by simp[fst]at h
 |
  n+1,i,h=>by
  have hl:=xg p n
  unfold fst at h
  split at h
  ·exact xh h
  ·rename_i h1
   have he:fst p n=n:=by omega
   split at h
   ·exact xh (n:=n) (by omega)
   ·rename_i h2
    by_cases e:i=n
    ·subst e;simpa using h2
    ·exact xh (n:=n) (by omega)
theorem Dk {p:Nat->Bool}:∀ {n},fst p n<n->p (fst p n)=true
 |0,h=>by simp[fst]at h
 |
  n+1,h=>by
  have hl:=xg p n
  unfold fst at h⊢
  split
  ·rename_i h1;exact Dk h1
  ·rename_i h1
   rw[if_neg h1]at h
   split
   ·assumption
   ·rename_i h2;rw[if_neg h2]at h;omega
theorem vL {p:Nat->Bool} {n:Nat}:fst p n=n↔∀i,i<n->p i=false:=by
 refine⟨λh i hi=>xh (n:=n) (by omega),λh=> ?_⟩
 have h1:=xg p n
 by_cases h2:fst p n<n
 ·have:=Dk h2;rw[h _ h2]at this;cases this
 ·omega
end Go.Ab
end WUs
noncomputable section W2s
namespace Go.Ab
open Go.Ab
def sE (sz:Nat) (g:Bool):aY:=⟨19,[.mv (.t 4)],.seq (.region [⟨(some 4),none,true,.mv (.c (.int .i64 0))⟩]) (.seq (.seq (.region [⟨(some 6),none,true,.mv (.t 0)⟩,⟨(some 7),none,true,.len (.t 6)⟩,⟨(some 8),none,true,.mv (.c (.int .i64 0))⟩]) (.block 0 (.loop (lk (.seq (.region [⟨(some 9),none,true,.bin .lss .no (.t 8) (.t 7)⟩]) (.seq (.cond (.t 9) (.skip) (.exit 0)) (.seq (.block 1 (.seq (.region [⟨(some 10),none,true,.mv (.t 8)⟩,⟨(some 5),none,true,.mv (.t 10)⟩]) (.seq (.region [⟨(some 11),none,true,.mv (.t 1)⟩,⟨(some 12),none,true,.mv (.t 0)⟩,⟨(some 13),none,true,.mv (.t 5)⟩,⟨(some 14),none,false,.indexA (.sl sz) (.t 12) (.t 13)⟩,⟨(some 15),none,true,.load g sz (.t 14)⟩,⟨(some 16),none,false,.call (.t 11) [(.t 15)]⟩]) (.cond (.t 16) (.seq (.region [⟨(some 17),none,true,.mv (.t 5)⟩,⟨(some 4),none,true,.mv (.t 17)⟩]) (.ret)) (.skip))))) (.region [⟨(some 18),none,true,.bin .add .no (.t 8) (.c (.int .i64 1))⟩,⟨(some 8),none,true,.mv (.t 18)⟩])))))))) (lk (.seq (.region [⟨(some 4),none,true,.mv (.c (.int .i64 (-1)))⟩]) (.ret))))⟩
def xi (ix:FuncId):aY:=⟨9,[.mv (.t 4)],.seq (.region [⟨(some 4),none,true,.mv (.c (.bl false))⟩]) (.seq (.region [⟨(some 5),none,true,.mv (.t 0)⟩,⟨(some 6),none,true,.mv (.t 1)⟩,⟨(some 7),none,false,.call (.c (.fn (.func ix) [] [])) [(.t 5),(.t 6)]⟩,⟨(some 8),none,true,.bin .geq .no (.t 7) (.c (.int .i64 0))⟩,⟨(some 4),none,true,.mv (.t 8)⟩]) (.ret))⟩
structure Els {α:Type} (sz:Nat) (g:Bool) (e:α->PV) (l:List α):Prop where
 len:l.length≤1048576
 el:∀x:α,((e x).width=sz∧(e x).isAgg=g)∧Pure (e x)∧wk (e x)=e x∧∀K:PV->Prop,iv true (e x) K=K (e x)
def fi {α:Type} (p:α->Bool) (l:List α):Int:=if l.any p=true then(l.findIdx p:Int)else-1
theorem MK {α:Type} (p:α->Bool) (l:List α):decide (0≤fi p l)=l.any p:=by
 unfold fi;split
 ·rename_i h;simp[h]
 ·rename_i h;simp only[Bool.not_eq_true]at h;rw[h];simp
section
variable {α:Type} {sz:Nat} {ag:Bool} {f ix:FuncId} {e:α->PV} {l:List α} {p:α->Bool} {g:FuncId} {v w:PV}
theorem akd (ht:kL Pg [] [] f=some (sE sz ag).er) (hL:Els sz ag e l)
  (hp:∀x∈l,af Pg g [e x] [] (λr fp=>r= .bl (p x)∧fp=[])):
  af Pg f [.sl sz (l.map e) false,.fn (.func g) [] []] [] (λr fp=>r= .int .i64 (fi p l)∧fp=[]):=by
 refine af.intro ht (by simp[sE]) ?_
 have hl:=hL.len
 obtain⟨m,hm⟩:∃m,m=l.findIdx p:=⟨_,rfl⟩
 have hle:m≤l.length:=by rw[hm];exact List.findIdx_le_length
 have hb:∀i (h:i<l.length),i<m->p l[i]=false:=λi h h2=>List.not_of_lt_findIdx (by rw[←hm];exact h2)
 have ha:∀(h:m<l.length),p l[m]=true∧fi p l=m:=λh=>by
  have h2:p l[m]=true:=by subst hm;exact List.findIdx_getElem
  exact⟨h2,by unfold fi;rw[if_pos (List.any_eq_true.2 ⟨_,List.getElem_mem h,h2⟩),hm]⟩
 have hc:¬m<l.length->fi p l= -1:=λh=>by
  unfold fi;rw[if_neg];intro h2;exact h (by rw[hm];exact List.findIdx_lt_length.2 (List.any_eq_true.1 h2))
 clear hm
 simp[sE,ai,aG]
 refine gR.iw m (λ_=>True) [0,1,4,6,7,8] (λi=>[(8,.int .i64 i)]) (λ_=>[]) [.keep [0,1,4,6,7,8]] ?_
 simp
 refine⟨λi hi K hK=> ?_,λK=> ?_⟩
 ·have nq:i<l.length:=by omega
  have hx:l[i]? =some l[i]:=gJ nq
  obtain⟨⟨e1,e2⟩,e3,e4,e5⟩:=hL.el l[i]
  have hc:=hp l[i] (List.getElem_mem nq)
  have hf:=hb i nq hi
  rw[hf]at hc
  have wi:IntKind.i64.wrap ((i:Int)+1)=(i:Int)+1:=wrap_i64 (by omega)
  generalize l[i]=x at*
  simp[↓an,hx,nq,e1,e2,e5,-getElem?_pos]
  refine al.gen [] [] [] (hc) (by simp[getAll]) (by simp) (by simp) (by simp[ae,ab,bS,idx,e3.refs]) (by simp[ah,ab,ae]) (by simp[aO,az,bE,idx,e3.az,e4]) (by simp[aM]) (by simp[ah,ab,ae,eI]) ?_
  simp[bB,aM,az,aO,fu]
  simp[wi]
  refine⟨[.keep [0,1,4,6,7,8]],?_⟩
  simp
  exact hK _ (by simp)
 ·by_cases hn:m<l.length
  ·have hx:l[m]? =some l[m]:=gJ hn
   obtain⟨⟨e1,e2⟩,e3,e4,e5⟩:=hL.el l[m]
   have hc:=hp l[m] (List.getElem_mem hn)
   obtain⟨hf,yr⟩:=ha hn
   rw[hf]at hc
   generalize l[m]=x at*
   simp[↓an,hx,hn,e1,e2,e5,-getElem?_pos]
   refine al.gen [] [] [] (hc) (by simp[getAll]) (by simp) (by simp) (by simp[ae,ab,bS,idx,e3.refs]) (by simp[ah,ab,ae]) (by simp[aO,az,bE,idx,e3.az,e4]) (by simp[aM]) (by simp[ah,ab,ae,eI]) ?_
   simp[bB,aM,az,aO,fu]
   refine aC.with [] [] ?_
   simp[ah,ab,ae,aM,az,aO,eI,yr]
  ·have yr:=hc hn
   have Ue:¬(m:Int)<l.length:=by omega
   simp[↓an,Ue,hn]
   refine aC.with [] [] ?_
   simp[ah,ab,ae,aM,az,aO,eI,yr]
theorem adU (hf:kL Pg [] [] f=some (xi ix).er) (ht:kL Pg [] [] ix=some (sE sz ag).er) (hL:Els sz ag e l)
  (hp:∀x∈l,af Pg g [e x] [] (λr fp=>r= .bl (p x)∧fp=[])):
  af Pg f [.sl sz (l.map e) false,.fn (.func g) [] []] [] (λr fp=>r= .bl (l.any p)∧fp=[]):=by
 refine af.intro hf (by simp[xi]) ?_
 have lS:aB (l.map e):=aS (λx=>(hL.el x).2.1) l
 have Kq:jE (l.map e)=l.map e:=rv (λx=>(hL.el x).2.2.1) l
 simp[xi,ai,aG]
 refine al.gen [] [] [] (akd (p:=p) ht hL hp) (by simp[getAll]) (by simp) (by simp) (by simp[ae,ab,bS,idx,lS.refs]) (by simp[ah,ab,ae]) (by simp[aO,az,bE,idx,lS.az,Kq]) (by simp[aM]) (by simp[ah,ab,ae,eI]) ?_
 simp[bB,aM,az,aO,fu]
 refine aC.with [] [] ?_
 simp[ah,ab,ae,aM,az,aO,eI,MK]
theorem ake (ht:kL Pg [] [] f=some (sE sz ag).er) (hL:Els sz ag e l) (hv:Pure v)
  (hp:∀x∈l,af Pg g [e x,.pt KB [] 0] [.box v] (λr fp=>r= .bl (p x)∧fp=[.box v])):
  af Pg f [.sl sz (l.map e) false,.fn (.func g) [] [.pt KB [] 0]] [.box v] (λr fp=>r= .int .i64 (fi p l)∧fp=[.box v]):=by
 refine af.intro ht (by simp[sE]) ?_
 have hl:=hL.len
 obtain⟨m,hm⟩:∃m,m=l.findIdx p:=⟨_,rfl⟩
 have hle:m≤l.length:=by rw[hm];exact List.findIdx_le_length
 have hb:∀i (h:i<l.length),i<m->p l[i]=false:=λi h h2=>List.not_of_lt_findIdx (by rw[←hm];exact h2)
 have ha:∀(h:m<l.length),p l[m]=true∧fi p l=m:=λh=>by
  have h2:p l[m]=true:=by subst hm;exact List.findIdx_getElem
  exact⟨h2,by unfold fi;rw[if_pos (List.any_eq_true.2 ⟨_,List.getElem_mem h,h2⟩),hm]⟩
 have hc:¬m<l.length->fi p l= -1:=λh=>by
  unfold fi;rw[if_neg];intro h2;exact h (by rw[hm];exact List.findIdx_lt_length.2 (List.any_eq_true.1 h2))
 clear hm
 simp[sE,ai,aG]
 refine gR.iw m (λ_=>True) [0,1,4,6,7,8] (λi=>[(8,.int .i64 i)]) (λ_=>[]) [.keep [0,1,4,6,7,8]] ?_
 simp
 refine⟨λi hi K hK=> ?_,λK=> ?_⟩
 ·have nq:i<l.length:=by omega
  have hx:l[i]? =some l[i]:=gJ nq
  obtain⟨⟨e1,e2⟩,e3,e4,e5⟩:=hL.el l[i]
  have hc:=hp l[i] (List.getElem_mem nq)
  have hf:=hb i nq hi
  rw[hf]at hc
  have wi:IntKind.i64.wrap ((i:Int)+1)=(i:Int)+1:=wrap_i64 (by omega)
  generalize l[i]=x at*
  simp[↓an,hx,nq,e1,e2,e5,-getElem?_pos]
  refine al.gen [KB] [] [.box v] (hc) (by simp[getAll]) (by simp) (by simp) (by simp[ae,ab,bS,idx,e3.refs]) (by simp[hv.refs,hv.az,ah,ab,ae]) (by simp[aO,az,bE,idx,e3.az,e4]) (by simp[hv.refs,hv.az,aM]) (by simp[hv.refs,hv.az,ah,ab,ae,eI]) ?_
  simp[hv.refs,hv.az,bB,aM,az,aO,fu]
  simp[wi]
  refine⟨[.keep [0,1,4,6,7,8]],?_⟩
  simp
  exact hK _ (by simp)
 ·by_cases hn:m<l.length
  ·have hx:l[m]? =some l[m]:=gJ hn
   obtain⟨⟨e1,e2⟩,e3,e4,e5⟩:=hL.el l[m]
   have hc:=hp l[m] (List.getElem_mem hn)
   obtain⟨hf,yr⟩:=ha hn
   rw[hf]at hc
   generalize l[m]=x at*
   simp[↓an,hx,hn,e1,e2,e5,-getElem?_pos]
   refine al.gen [KB] [] [.box v] (hc) (by simp[getAll]) (by simp) (by simp) (by simp[ae,ab,bS,idx,e3.refs]) (by simp[hv.refs,hv.az,ah,ab,ae]) (by simp[aO,az,bE,idx,e3.az,e4]) (by simp[hv.refs,hv.az,aM]) (by simp[hv.refs,hv.az,ah,ab,ae,eI]) ?_
   simp[hv.refs,hv.az,bB,aM,az,aO,fu]
   refine aC.with [] [KB] ?_
   simp[hv.refs,hv.az,ah,ab,ae,aM,az,aO,eI,yr]
  ·have yr:=hc hn
   have Ue:¬(m:Int)<l.length:=by omega
   simp[↓an,Ue,hn]
   refine aC.with [] [KB] ?_
   simp[hv.refs,hv.az,ah,ab,ae,aM,az,aO,eI,yr]
theorem akf (hf:kL Pg [] [] f=some (xi ix).er) (ht:kL Pg [] [] ix=some (sE sz ag).er) (hL:Els sz ag e l) (hv:Pure v)
  (hp:∀x∈l,af Pg g [e x,.pt KB [] 0] [.box v] (λr fp=>r= .bl (p x)∧fp=[.box v])):
  af Pg f [.sl sz (l.map e) false,.fn (.func g) [] [.pt KB [] 0]] [.box v] (λr fp=>r= .bl (l.any p)∧fp=[.box v]):=by
 refine af.intro hf (by simp[xi]) ?_
 have lS:aB (l.map e):=aS (λx=>(hL.el x).2.1) l
 have Kq:jE (l.map e)=l.map e:=rv (λx=>(hL.el x).2.2.1) l
 simp[xi,ai,aG]
 refine al.gen [KB] [] [.box v] (ake (p:=p) ht hL hv hp) (by simp[getAll]) (by simp) (by simp) (by simp[ae,ab,bS,idx,lS.refs]) (by simp[hv.refs,hv.az,ah,ab,ae]) (by simp[aO,az,bE,idx,lS.az,Kq]) (by simp[hv.refs,hv.az,aM]) (by simp[hv.refs,hv.az,ah,ab,ae,eI]) ?_
 simp[hv.refs,hv.az,bB,aM,az,aO,fu]
 refine aC.with [] [KB] ?_
 simp[hv.refs,hv.az,ah,ab,ae,aM,az,aO,eI,MK]
end
end Go.Ab
end W2s
noncomputable section W3s
namespace Go.Ab
open Go.Ab
def qm (x a b:Int):Bool:=decide (a≤x)&&decide (x≤b)
theorem Im {x a b:Int}:qm x a b=true↔a≤x∧x≤b:=by simp[qm]
theorem pw (x a b:Int):a8 Pg I.dv [.int .i64 x,.int .i64 a,.int .i64 b] (.bl (qm x a b)):=by
 refine af.intro T.dv (by simp[F.dv]) ?_
 by_cases h1:a≤x
 ·simp[F.dv,ai,aG,h1]
  refine aC.plain [] ?_
  simp[qm,h1]
 ·simp[F.dv,ai,aG,h1]
  refine aC.plain [] ?_
  simp[qm,h1]
theorem rw_ (x a b:Int):a8 Pg I.bC [.int .i64 x,.int .i64 a,.int .i64 b] (.bl (qm x a b)):=by
 refine af.intro T.bC (by simp[F.bC]) ?_
 by_cases h1:a≤x
 ·simp[F.bC,ai,aG,h1]
  refine aC.plain [] ?_
  simp[qm,h1]
 ·simp[F.bC,ai,aG,h1]
  refine aC.plain [] ?_
  simp[qm,h1]
theorem TN {s:St} {d:Option Nat} {x a b:Int} {K:St->Prop} {t:Tg K} (h:K (s.put d (.bl (qm x a b)))):al Pg s d I.dv [.int .i64 x,.int .i64 a,.int .i64 b] K t:=al.ret (pw x a b) (by simp) (by simp) (by simp) h
theorem TO {s:St} {d:Option Nat} {x a b:Int} {K:St->Prop} {t:Tg K} (h:K (s.put d (.bl (qm x a b)))):al Pg s d I.bC [.int .i64 x,.int .i64 a,.int .i64 b] K t:=al.ret (rw_ x a b) (by simp) (by simp) (by simp) h
def um (x:Int):Prop:= -9223372036854775808≤x∧x≤9223372036854775807
theorem um.w {x:Int} (h:um x):IntKind.i64.wrap x=x:=wrap_i64 (by unfold um at h;omega)
def lE (r:nS):Bool:=decide (¬r.Al<1)&&decide (¬r.wU<r.Al)&&decide (¬(18446744073709543423:Int)<r.wU)&&qm r.ret 1000 1073741824&&qm r.EE 1000 1073741824&&qm r.Vx 1 1073741824&&qm r.wV 1 1073741824&&qm r.rV 1 1073741824&&decide (r.wV≤r.rV)&&decide (r.EE+r.ret<r.rV)&&qm r.SS r.ret (20*r.ret)&&qm r.load 1 64&&qm r.lq 1 8
theorem Wu {r:nS} (hl:um r.load) (hs:um r.lq):a8 Pg I.gG [dE r] (.bl (lE r)):=by
 refine af.intro T.gG (by simp[F.gG]) ?_
 have DQ:=hl.w
 have pz:=hs.w
 by_cases h1:r.Al<1
 ·simp[F.gG,ai,aG,h1]
  refine aC.plain [] ?_
  simp[lE,h1]
 by_cases h2:r.wU<r.Al
 ·simp[F.gG,ai,aG,h1,h2]
  refine aC.plain [] ?_
  simp[lE,h1,h2]
 by_cases h3:(18446744073709543423:Int)<r.wU
 ·simp[F.gG,ai,aG,h1,h2,h3]
  refine aC.plain [] ?_
  simp[lE,h1,h2,h3]
 simp[F.gG,ai,aG,h1,h2,h3]
 refine TN ?_
 cases g1:qm r.ret 1000 1073741824
 ·simp
  refine aC.plain [] ?_
  simp[lE,g1]
 simp
 refine TN ?_
 cases g2:qm r.EE 1000 1073741824
 ·simp
  refine aC.plain [] ?_
  simp[lE,g2]
 simp
 refine TN ?_
 cases g3:qm r.Vx 1 1073741824
 ·simp
  refine aC.plain [] ?_
  simp[lE,g3]
 simp
 refine TN ?_
 cases g4:qm r.wV 1 1073741824
 ·simp
  refine aC.plain [] ?_
  simp[lE,g4]
 simp
 refine TN ?_
 cases g5:qm r.rV 1 1073741824
 ·simp
  refine aC.plain [] ?_
  simp[lE,g5]
 have q1:=Im.1 g1
 have q2:=Im.1 g2
 have w1:IntKind.i64.wrap (r.EE+r.ret)=r.EE+r.ret:=wrap_i64 (by omega)
 have w2:IntKind.i64.wrap (20*r.ret)=20*r.ret:=wrap_i64 (by omega)
 by_cases h4:r.rV<r.wV
 ·simp[h4]
  refine aC.plain [] ?_
  simp[lE,show¬r.wV≤r.rV by omega]
 by_cases h5:r.EE+r.ret<r.rV
 ·have h5':¬r.rV≤r.EE+r.ret:=by omega
  simp[h4,h5,h5',w1,w2]
  refine TN ?_
  cases g6:qm r.SS r.ret (20*r.ret)
  ·simp
   refine aC.plain [] ?_
   simp[lE,g6]
  simp[DQ,pz]
  refine TN ?_
  cases g7:qm r.load 1 64
  ·simp
   refine aC.plain [] ?_
   simp[lE,g7]
  simp[pz]
  refine TN ?_
  simp
  refine aC.plain [] ?_
  simp[lE,h1,h2,h3,g1,g2,g3,g4,g5,g6,g7,h5,show r.wV≤r.rV by omega]
  try omega
 ·have h5':r.rV≤r.EE+r.ret:=by omega
  simp[h4,h5,h5',w1,w2]
  refine aC.plain [] ?_
  simp[lE,h5]
theorem ML {r:nS} (hl:um r.load) (hs:um r.lq):a8 Pg I.bR [dE r] (.bl (lE r)):=by
 refine af.intro T.bR (by simp[F.bR]) ?_
 have DQ:=hl.w
 have pz:=hs.w
 by_cases h1:r.Al<1
 ·simp[F.bR,ai,aG,h1]
  refine aC.plain [] ?_
  simp[lE,h1]
 by_cases h2:r.wU<r.Al
 ·simp[F.bR,ai,aG,h1,h2]
  refine aC.plain [] ?_
  simp[lE,h1,h2]
 by_cases h3:(18446744073709543423:Int)<r.wU
 ·simp[F.bR,ai,aG,h1,h2,h3]
  refine aC.plain [] ?_
  simp[lE,h1,h2,h3]
 simp[F.bR,ai,aG,h1,h2,h3]
 refine TO ?_
 cases g1:qm r.ret 1000 1073741824
 ·simp
  refine aC.plain [] ?_
  simp[lE,g1]
 simp
 refine TO ?_
 cases g2:qm r.EE 1000 1073741824
 ·simp
  refine aC.plain [] ?_
  simp[lE,g2]
 simp
 refine TO ?_
 cases g3:qm r.Vx 1 1073741824
 ·simp
  refine aC.plain [] ?_
  simp[lE,g3]
 simp
 refine TO ?_
 cases g4:qm r.wV 1 1073741824
 ·simp
  refine aC.plain [] ?_
  simp[lE,g4]
 simp
 refine TO ?_
 cases g5:qm r.rV 1 1073741824
 ·simp
  refine aC.plain [] ?_
  simp[lE,g5]
 have q1:=Im.1 g1
 have q2:=Im.1 g2
 have w1:IntKind.i64.wrap (r.EE+r.ret)=r.EE+r.ret:=wrap_i64 (by omega)
 have w2:IntKind.i64.wrap (20*r.ret)=20*r.ret:=wrap_i64 (by omega)
 by_cases h4:r.wV≤r.rV
 ·by_cases h5:r.EE+r.ret<r.rV
  ·simp[h4,h5,w1,w2]
   refine TO ?_
   cases g6:qm r.SS r.ret (20*r.ret)
   ·simp
    refine aC.plain [] ?_
    simp[lE,g6]
   simp[DQ,pz]
   refine TO ?_
   cases g7:qm r.load 1 64
   ·simp
    refine aC.plain [] ?_
    simp[lE,g7]
   simp[pz]
   refine TO ?_
   simp
   refine aC.plain [] ?_
   simp[lE,h1,h2,h3,g1,g2,g3,g4,g5,g6,g7,h5,h4]
   try omega
  ·simp[h4,h5,w1,w2]
   refine aC.plain [] ?_
   simp[lE,h5]
 ·simp[h4]
  refine aC.plain [] ?_
  simp[lE,h4]
def r1 (d:gU):Bool:=lE d.rules&&qm d.now 0 1099511627776&&qm d.port 0 65535&&qm d.bad 0 1099511627776
end Go.Ab
end W3s

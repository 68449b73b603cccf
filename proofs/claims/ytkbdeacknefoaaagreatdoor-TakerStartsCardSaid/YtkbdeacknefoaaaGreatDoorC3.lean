/- New daemons of both sides are the same. No condition. -/
import Derived.Test.YtkbdeacknefoaaaGreatDoorC2
set_option maxRecDepth 10000
set_option maxHeartbeats 4000000
set_option linter.all false
noncomputable section Z11s
namespace Go.Ab
open Go.Ab
theorem aeh (a b:jy):a8 Pg I.eG [bj a,bj b] (.int .i64 (uo a.eK.l b.eK.l)):=by
 refine af.intro T.eG (by simp[F.eG]) ?_
 have hv:=Dp (va:=bj a) (vb:=bj b) (pa:=[.f 0 0]) (pb:=[.f 0 0]) (la:=a.eK.l) (lb:=b.eK.l) (n:=32) (by simp[aX,aW]) (by simp[aX,aW]) a.eK.h b.eK.h
 simp[F.eG,ai,aG]
 refine al.gen [2,3] [] [.box (bj a),.box (bj b)] hv (by simp[getAll]) (by simp) (by simp) (by simp[ae,ab,bS,idx]) (by simp[ah,(gf a).refs,(gf b).refs]) (by simp[aO,az,bE,idx]) (by simp[aM,(gf a).az,(gf b).az]) (by simp[ah,ab,(gf a).refs,(gf b).refs]) ?_
 simp[bB,aM,az,fu,(gf a).az,(gf b).az]
 refine aC.plain [] ?_
 simp
def s2:List jy->List jy
 |[a,b]=>if xR b.eK a.eK=true then [b,a]else [a,b]
 |l=>l
theorem aei:af Pg I.aA [.rs KB [] 0 0 0 464 .tip,.int .i64 0,.int .i64 0,.fn (.func I.eG) [] []] [.arr 464 []] (λr fp=>r= .tup []∧fp=[.arr 464 []]):=by
 refine af.intro T.aA (by simp[F.aA]) ?_
 simp[F.aA,ai,aG]
 refine uE.Wm 0 (uE.z λK=> ?_)
 simp[↓an]
 refine aC.with [] [KB] ?_
 simp[gF]
theorem aej (a:jy):af Pg I.aA [.rs KB [] 0 1 1 464 .tip,.int .i64 0,.int .i64 1,.fn (.func I.eG) [] []] [.arr 464 [bj a]] (λr fp=>r= .tup []∧fp=[.arr 464 [bj a]]):=by
 refine af.intro T.aA (by simp[F.aA]) ?_
 simp[F.aA,ai,aG]
 refine uE.Wm 0 (uE.z λK=> ?_)
 simp[↓an]
 refine aC.with [] [KB] ?_
 simp[gF,ah,ae,(gf a).refs,aM,aO,(gf a).az]
theorem aek (a b:jy):af Pg I.aA [.rs KB [] 0 2 2 464 .tip,.int .i64 0,.int .i64 2,.fn (.func I.eG) [] []] [.arr 464 [bj a,bj b]] (λr fp=>r= .tup []∧fp=[.arr 464 (if xR b.eK a.eK=true then [bj b,bj a]else [bj a,bj b])]):=by
 refine af.intro T.aA (by simp[F.aA]) ?_
 have hc:=aeh b a
 have eu:=Dq b.eK.l a.eK.l
 change decide (uo b.eK.l a.eK.l<0)=xR b.eK a.eK at eu
 generalize uo b.eK.l a.eK.l=m at*
 generalize xR b.eK a.eK=bl at*
 have pa:∀f,ab f (bj a)=true:=λf=>(gf a).refs f
 have pb:∀f,ab f (bj b)=true:=λf=>(gf b).refs f
 have ra:∀f,az f (bj a)=bj a:=λf=>(gf a).az f
 have rb:∀f,az f (bj b)=bj b:=λf=>(gf b).az f
 simp[F.aA,ai,aG]
 refine uE.Wm 1 (uE.s ?_)
 simp[↓an]
 refine uE.Wm 1 (uE.s ?_)
 simp[↓an]
 refine aU.ret hc (by simp) (by simp) (by simp) ?_
 cases bl
 ·have hm:¬m<0:=by simpa using eu
  have NU:0≤m:=by omega
  simp[hm,NU]
  simp[↓an]
  refine⟨[.keep [0,1,2,3,8]],?_⟩
  simp
  refine uE.z λK=> ?_
  simp[↓an]
  refine aC.with [] [KB] ?_
  simp[gF,ah,ae,pa,pb,aM,aO,ra,rb]
 ·have hm:m<0:=by simpa using eu
  simp[hm]
  refine oJ.run [KB] rfl ?_
  simp
  refine⟨[.keep [0,1,2,3,8,9]],?_⟩
  simp
  refine uE.z λK=> ?_
  simp[↓an]
  refine⟨[.keep [0,1,2,3,8]],?_⟩
  simp
  refine uE.z λK=> ?_
  simp[↓an]
  refine aC.with [] [KB] ?_
  simp[gF,ah,ae,pa,pb,aM,aO,ra,rb]
theorem akk {ps:List jy} (h:ps.length≤2):af Pg I.aA [.rs KB [] 0 ps.length ps.length 464 .tip,.int .i64 0,.int .i64 ps.length,.fn (.func I.eG) [] []] [.arr 464 (ps.map bj)] (λr fp=>r= .tup []∧fp=[.arr 464 ((s2 ps).map bj)]):=by
 rcases ps with _|⟨a,_|⟨b,_|⟨c,t⟩⟩⟩
 ·exact aei
 ·exact aej a
 ·have h:=aek a b
  have e:(s2 [a,b]).map bj=if xR b.eK a.eK=true then [bj b,bj a]else [bj a,bj b]:=by simp only[s2];split<;>rfl
  rw[e];exact h
 ·simp only[List.length_cons]at h;omega
theorem WV {n:Nat} (h:n≤2):a8 Pg I.fX [.int .u64 n] (.int .i64 n):=by
 refine af.intro T.fX (by simp[F.fX]) ?_
 rcases(by omega:n=0∨n=1∨n=2)with rfl|rfl|rfl
 all_goals
  simp[F.fX,ai,aG]
  refine aC.plain [] ?_
  simp
theorem akl {n:Nat} (h:n≤2):a8 Pg I.hO [.int .u64 n] (.int .i64 n):=by
 refine af.intro T.hO (by simp[F.hO]) ?_
 simp[F.hO,ai,aG]
 refine al.ret (WV h) (by simp) (by simp) (by simp) ?_
 simp
 refine aC.plain [] ?_
 simp
theorem akm {ps:List jy} (h:ps.length≤2):af Pg I.bh [.rs KB [] 0 ps.length ps.length 464 .tip,.int .i64 0,.int .i64 ps.length,.int .i64 ps.length,.fn (.func I.eG) [] []] [.arr 464 (ps.map bj)] (λr fp=>r= .tup []∧fp=[.arr 464 ((s2 ps).map bj)]):=by
 refine af.intro T.bh (by simp[F.bh]) ?_
 have hp:∀l:List jy,aB (l.map bj):=qI
 have hi:=akk h
 have XX:(ps.length:Int)≤12:=by omega
 have ame:ps.length≤12:=by omega
 have hw:IntKind.i64.wrap (ps.length:Int)=ps.length:=wrap_i64 (by omega)
 simp[F.bh,ai,aG]
 refine uE.Wm 0 (uE.z λK=> ?_)
 simp[↓an,hw,XX,ame]
 refine al.gen [KB] [] [.arr 464 (ps.map bj)] hi (by simp[getAll]) (by simp) (by simp) (by simp[ae,ab,bS,idx]) (by simp[ah,(hp ps).refs]) (by simp[aO,az,bE,idx]) (by simp[aM,(hp ps).az]) (by simp[ah,ab,ae,(hp (s2 ps)).refs]) ?_
 simp[bB,aM,az,aO,fu,(hp (s2 ps)).az]
 refine aC.with [] [KB] ?_
 simp[gF,ah,(hp (s2 ps)).refs,aM,(hp (s2 ps)).az]
theorem ael {ps:List jy} (h:ps.length≤2):af Pg I.bA [.rs KB [] 0 ps.length ps.length 464 .tip,.fn (.func I.eG) [] []] [.arr 464 (ps.map bj)] (λr fp=>r= .tup []∧fp=[.arr 464 ((s2 ps).map bj)]):=by
 refine af.intro T.bA (by simp[F.bA]) ?_
 have hp:∀l:List jy,aB (l.map bj):=qI
 have hi:=akm h
 have hw:IntKind.u64.wrap (ps.length:Int)=ps.length:=wrap_u64 (by omega)
 simp[F.bA,ai,aG,hw]
 refine al.ret (akl h) (by simp) (by simp) (by simp) ?_
 simp
 refine al.gen [KB] [] [.arr 464 (ps.map bj)] hi (by simp[getAll]) (by simp) (by simp) (by simp[ae,ab,bS,idx]) (by simp[ah,(hp ps).refs]) (by simp[aO,az,bE,idx]) (by simp[aM,(hp ps).az]) (by simp[ah,ab,ae,(hp (s2 ps)).refs]) ?_
 simp[bB,aM,az,aO,fu,(hp (s2 ps)).az]
 refine aC.with [] [KB] ?_
 simp[gF,ah,(hp (s2 ps)).refs,aM,(hp (s2 ps)).az]
theorem Ck (ps:List jy):(s2 ps).length=ps.length:=by
 unfold s2;split
 ·split<;>rfl
 ·rfl
end Go.Ab
end Z11s
noncomputable section Z12s
namespace Go.Ab
open Go.Ab
def fS (p:nd):jy:=⟨p.eK,p.shared.fv,p.nm,p.ep,p.kY,zSm,false,0,Wp,false,zTg,0,zTg,akc,[]⟩
def rH (l:List kX) (p:nd):List kX:=p.allowed.foldl (λl x=>n9 l x p.eK) l
def Dr (ps:List nd):List kX:=ps.foldl rH []
def Bu (now:Int) (ps:List jy):List gZ:=ps.foldl (λl p=>Fk now l p) []
theorem MY {l:List kX} {p:lr} {k:Key} {r:kX} (h:r∈n9 l p k):r∈l∨r.s6=p:=by
 unfold n9 oE at h
 rcases List.mem_append.1 h with h|h
 ·exact .inl (List.mem_of_mem_take h)
 ·rcases List.mem_cons.1 h with h|h
  ·exact .inr (by rw[h])
  ·exact .inl (List.mem_of_mem_drop h)
theorem sG (k:Key):∀(xs:List lr) (l:List kX),(xs.foldl (λl x=>n9 l x k) l).length=l.length+xs.length
 |[],l=>rfl
 |x::xs,l=>by rw[List.foldl_cons,sG k xs,sF,List.length_cons];omega
theorem sH {k:Key} {r:kX}:∀(xs:List lr) (l:List kX),r∈xs.foldl (λl x=>n9 l x k) l->r∈l∨r.s6∈xs
 |[],l,h=> .inl h
 |
  x::xs,l,h=>by
  rw[List.foldl_cons]at h
  rcases sH xs _ h with h|h
  ·rcases MY h with h|h
   ·exact .inl h
   ·exact .inr (by rw[h];simp)
  ·exact .inr (by simp[h])
theorem vN (ps:List nd) (p:nd):lF (ps++[p])=lF ps++p.allowed:=by simp[lF]
theorem vO (ps:List nd) (p:nd):Dr (ps++[p])=rH (Dr ps) p:=by simp[Dr]
theorem AM:∀(n:Nat) (ps:List nd),ps.length=n->(Dr ps).length=(lF ps).length∧∀r∈Dr ps,r.s6∈lF ps
 |
  0,ps,h=>by
  rw[List.length_eq_zero_iff]at h;subst h
  exact⟨rfl,λr hr=>by cases hr⟩
 |
  n+1,ps,h=>by
  rcases List.eq_nil_or_concat ps with e|⟨qs,q,e⟩
  ·rw[e]at h;cases h
  ·rw[List.concat_eq_append]at e
   subst e
   obtain⟨h1,h2⟩:=AM n qs (by simp at h;exact h)
   rw[vO,vN]
   refine⟨by rw[rH,sG,h1,List.length_append],λr hr=> ?_⟩
   rcases sH _ _ hr with h|h
   ·exact List.mem_append_left _ (h2 r h)
   ·exact List.mem_append_right _ h
theorem MZ (l:List gZ) (t:gZ):(ql l t).length≤l.length+1:=by
 have:(dN l t.peer t.kind).length≤l.length:=List.length_filter_le _ _
 have h2:=yQ t (dN l t.peer t.kind)
 simp only[ql,List.length_append,lJ,List.length_drop,List.length_cons,List.length_nil]
 omega
theorem Rr (now:Int) (l:List gZ) (p:jy):(Fk now l p).length≤l.length+1:=by
 unfold Fk;split
 ·omega
 ·exact MZ _ _
theorem It (now:Int):∀(ps:List jy) (l:List gZ),(ps.foldl (λl p=>Fk now l p) l).length≤l.length+ps.length
 |[],l=>Nat.le_refl _
 |
  p::ps,l=>by
  rw[List.foldl_cons]
  have h1:=It now ps (Fk now l p)
  have h2:=Rr now l p
  rw[List.length_cons];omega
theorem Du (now:Int) (ps:List jy):(Bu now ps).length≤ps.length:=by
 have:=It now ps []
 simpa[Bu]using this
def gk (r:nS) (c:qQ) (k:Key) (now sa:Int) (ps:List jy) (rt:List kX) (tm:List gZ) (sec:FV vu):gU:=
 ⟨r,c.pD.fv,(JN c.pD pU).fv,c.port,k.fv,now,ps,rt,[],tm,sec,sa,[],[],0⟩
def M0 (r:nS) (now:Int):Bool:=lE r&&decide (0≤now)&&decide (now≤1099511627776)
theorem pVR {r:nS} (hl:um r.load) (hs:um r.lq):a8 Pg I.ff [dE r] (.bl (lE r)):=by
 refine af.intro T.ff (by simp[F.ff]) ?_
 simp[F.ff,ai,aG]
 refine al.ret (Wu hl hs) (by simp) (by simp) (by simp) ?_
 simp
 refine aC.plain [] ?_
 simp
def Bv (p:nd):PV:= .st 464 [aW p.eK,aW p.shared,.bl p.nm,jR p.ep,.int .i64 p.kY,(.ar 1 12 (zr 12 (.int .u8 0))),(.bl false),(.int .i64 0),(.st 100 [(.bl false),(.int .u32 0),(.ar 1 32 (zr 32 (.int .u8 0))),(.st 64 [(.ar 1 32 (zr 32 (.int .u8 0))),(.ar 1 32 (zr 32 (.int .u8 0)))]),(.int .i64 0),(.int .i64 0)]),(.bl false),(.ar 1 16 (zr 16 (.int .u8 0))),(.int .i64 0),(.ar 1 16 (zr 16 (.int .u8 0))),(.st 231 [(.st 77 [(.bl false),(.st 76 [(.int .u32 0),(.int .u32 0),(.ar 1 32 (zr 32 (.int .u8 0))),(.ar 1 32 (zr 32 (.int .u8 0))),(.int .u64 0),(.int .u64 0),(.st 6 [(.bl false),(.int .u64 0),(.ar 1 4 (zr 4 (.int .u64 0)))]),(.int .i64 0),(.bl false)])]),(.st 77 [(.bl false),(.st 76 [(.int .u32 0),(.int .u32 0),(.ar 1 32 (zr 32 (.int .u8 0))),(.ar 1 32 (zr 32 (.int .u8 0))),(.int .u64 0),(.int .u64 0),(.st 6 [(.bl false),(.int .u64 0),(.ar 1 4 (zr 4 (.int .u64 0)))]),(.int .i64 0),(.bl false)])]),(.st 77 [(.bl false),(.st 76 [(.int .u32 0),(.int .u32 0),(.ar 1 32 (zr 32 (.int .u8 0))),(.ar 1 32 (zr 32 (.int .u8 0))),(.int .u64 0),(.int .u64 0),(.st 6 [(.bl false),(.int .u64 0),(.ar 1 4 (zr 4 (.int .u64 0)))]),(.int .i64 0),(.bl false)])])]),.sl 1 [] true]
theorem WW (p:nd):(.st 464 [aW p.eK,aW p.shared,.bl p.nm,jR p.ep,.int .i64 p.kY,(.ar 1 12 (zr 12 (.int .u8 0))),(.bl false),(.int .i64 0),(.st 100 [(.bl false),(.int .u32 0),(.ar 1 32 (zr 32 (.int .u8 0))),(.st 64 [(.ar 1 32 (zr 32 (.int .u8 0))),(.ar 1 32 (zr 32 (.int .u8 0)))]),(.int .i64 0),(.int .i64 0)]),(.bl false),(.ar 1 16 (zr 16 (.int .u8 0))),(.int .i64 0),(.ar 1 16 (zr 16 (.int .u8 0))),(.st 231 [(.st 77 [(.bl false),(.st 76 [(.int .u32 0),(.int .u32 0),(.ar 1 32 (zr 32 (.int .u8 0))),(.ar 1 32 (zr 32 (.int .u8 0))),(.int .u64 0),(.int .u64 0),(.st 6 [(.bl false),(.int .u64 0),(.ar 1 4 (zr 4 (.int .u64 0)))]),(.int .i64 0),(.bl false)])]),(.st 77 [(.bl false),(.st 76 [(.int .u32 0),(.int .u32 0),(.ar 1 32 (zr 32 (.int .u8 0))),(.ar 1 32 (zr 32 (.int .u8 0))),(.int .u64 0),(.int .u64 0),(.st 6 [(.bl false),(.int .u64 0),(.ar 1 4 (zr 4 (.int .u64 0)))]),(.int .i64 0),(.bl false)])]),(.st 77 [(.bl false),(.st 76 [(.int .u32 0),(.int .u32 0),(.ar 1 32 (zr 32 (.int .u8 0))),(.ar 1 32 (zr 32 (.int .u8 0))),(.int .u64 0),(.int .u64 0),(.st 6 [(.bl false),(.int .u64 0),(.ar 1 4 (zr 4 (.int .u64 0)))]),(.int .i64 0),(.bl false)])])]),.sl 1 [] false]:PV)=bj (fS p):=rfl
noncomputable def F.Fm:aY:=⟨F.fA.nt,F.fA.res,mP F.fA.code [1,1,1]⟩
theorem T.Fm:kL Pg [] [] I.fA=some F.Fm.er:=Iq [1,1,1] T.fA
def zPs:PV:= .st 148 [.st 10 [.int .u64 0,.int .u64 0,.int .i64 0,.int .i64 0,.int .i64 0,.int .i64 0,.int .i64 0,.int .i64 0,.int .i64 0,.int .i64 0],.ar 1 32 (zr 32 (.int .u8 0)),.ar 1 32 (zr 32 (.int .u8 0)),.int .i64 0,.ar 1 32 (zr 32 (.int .u8 0)),.int .i64 0,.sl 464 [] true,.sl 50 [] true,.sl 34 [] true,.sl 34 [] true,.ar 1 32 (zr 32 (.int .u8 0)),.int .i64 0,.sl 1 [] true,.sl 19 [] true,.int .i64 0]
@[simp] theorem aas:zPs.width=148:=rfl
@[simp] theorem aen:Pure zPs:=by simp[zPs]
@[simp] theorem aat (p:nd):Pure (Bv p):=by simp[Bv]
theorem akn {r:nS} (hl:um r.load) (hs:um r.lq) {c:qQ} (h:tp c) (k:Key) {now:Int} (cY:M0 r now=true):
  a8 Pg I.fA [dE r,gC c,aW k,.int .i64 now] (.tup [kO (gk r c (xP k.l jZ) now now (s2 (c.aj.map fS)) (Dr c.aj) (Bu now (c.aj.map fS)) (GU k.l jZ).fv),.int .i64 0]):=by
 refine af.intro T.Fm (by simp[F.Fm,F.fA]) ?_
 have hv:=pVR (r:=r) hl hs
 unfold M0 at cY
 simp only[aJ,decide_eq_true_eq]at cY
 obtain⟨⟨hr,Xx⟩,Ow⟩:=cY
 rw[hr]at hv
 have k1:¬now<0:=by omega
 have k2:¬(1099511627776:Int)<now:=by omega
 simp[F.Fm,F.fA,mP,ai,aG]
 refine al.ret hv (by simp) (by simp) (by simp) ?_
 simp[k1,k2]
 refine al.ret (J0 h) (by simp) (by simp) (by simp) ?_
 simp
 obtain⟨M,hM⟩:∃M:St->Prop,∀s',M s'↔s'=⟨[(5,.pt 5 [] 0),(8,.pt 8 [] 0),(9,.int .i64 0),(11,.pt 48 [] 0)],[(5,.box (gC c)),(8,.box zPs),(48,.box (qp (gk r c k now now [] [] [] uF) (.rs 90 [] 0 0 0 464 .tip) (.sl 86 [] false))),(90,.arr 464 [])]⟩:=⟨_,λ_=>Iff.rfl⟩
 refine N0.of M ?_ ?_
 ·simp
  refine aU.ret (gz c.pD) (by simp) (by simp) (by simp) ?_
  simp
  refine⟨[.keep [5,8,9,11],.dr 4,.dr 6,.vb 48 [.f 0 0,.f 6 108] 90 464,.wb 48],?_⟩
  simp
  exact(hM _).2 rfl
 intro s' pz
 have xX:=(hM _).1 pz
 subst xX
 clear pz hM M
 have hdr:=Ww (d:=gk r c k now now [] [] [] uF) (k:=k) rfl (m:=0) (L:=[]) (by simp) (o:= .sl 86 [] false) (by simp)
 have hdn:dRn (gk r c k now now [] [] [] uF) (xP k.l jZ)=gk r c (xP k.l jZ) now now [] [] [] uF:=rfl
 rw[hdn]at hdr
 generalize xP k.l jZ=kA at*
 generalize GU k.l jZ=kB at*
 simp
 refine al.gen [48,90] [] [.box (qp (gk r c k now now [] [] [] uF) (.rs 90 [] 0 0 0 464 .tip) (.sl 86 [] false)),.arr 464 []] hdr (by simp[getAll]) (by simp) (by simp) (by simp[ae,ab,bS,idx]) (by simp[ah,ab,ae]) (by simp[aO,az,bE,idx]) (by simp[aM,az,aO]) (by simp[ah,ab,ae,eI,(eR _).refs]) ?_
 have e10:∀q,s7 (gk r c kA now now [] [] [] uF) q (aW kB)=bV (gk r c kA now now [] [] [] kB.fv) q:=λ_=>rfl
 simp[bB,aM,az,aO,fu,(eR _).az,e10]
 have qU:=h.len
 have hl6:=h.ln
 obtain⟨R,hR⟩:∃R:Nat->List kX,∀i,R i=Dr (c.aj.take i):=⟨_,λ_=>rfl⟩
 obtain⟨Tm,NV⟩:∃Tm:Nat->List gZ,∀i,Tm i=Bu now ((c.aj.take i).map fS):=⟨_,λ_=>rfl⟩
 obtain⟨Pe,IT⟩:∃Pe:Nat->List jy,∀i,Pe i=(c.aj.take i).map fS:=⟨_,λ_=>rfl⟩
 have XG:R 0=[]:=by rw[hR];rfl
 have hT0:Tm 0=[]:=by rw[NV];rfl
 have hP0:Pe 0=[]:=by rw[IT];rfl
 refine gR.iw c.aj.length (λ_=>True) [5,8,9,11,56,57,58] (λi=>[(58,.int .i64 i)]) (λi=>[(48,.box (qp (gk r c kA now now [] (R i) (Tm i) kB.fv) (.rs 90 [] 0 (Pe i).length (Pe i).length 464 .tip) (.sl 86 [] false))),(90,.arr 464 ((Pe i).map bj))]) [.keep [5,8,9,11,56,57,58]] ?_
 simp[XG,hT0,hP0]
 refine⟨λi hi K hK=> ?_,λK=> ?_⟩
 ·have hx:c.aj[i]? =some c.aj[i]:=gJ hi
  have hle:=AL c.aj (i+1)
  rw[mT hi,List.length_append]at hle
  have hw:IntKind.i64.wrap ((i:Int)+1)=(i:Int)+1:=wrap_i64 (by omega)
  have nq:(i:Int)<c.aj.length:=by omega
  have hPl:(Pe i).length=i:=by rw[IT,List.length_map,lJ];omega
  generalize c.aj[i]=p at*
  simp[↓an,hx,hi,nq,hw,hPl,-getElem?_pos]
  refine oJ.run [] rfl ?_
  simp[hPl]
  rw[WW]
  refine⟨⟨by omega,by omega⟩,?_⟩
  have FH:(.st 464 [aW p.eK,aW p.shared,.bl p.nm,jR p.ep,.int .i64 p.kY,(.ar 1 12 (zr 12 (.int .u8 0))),(.bl false),(.int .i64 0),(.st 100 [(.bl false),(.int .u32 0),(.ar 1 32 (zr 32 (.int .u8 0))),(.st 64 [(.ar 1 32 (zr 32 (.int .u8 0))),(.ar 1 32 (zr 32 (.int .u8 0)))]),(.int .i64 0),(.int .i64 0)]),(.bl false),(.ar 1 16 (zr 16 (.int .u8 0))),(.int .i64 0),(.ar 1 16 (zr 16 (.int .u8 0))),(.st 231 [(.st 77 [(.bl false),(.st 76 [(.int .u32 0),(.int .u32 0),(.ar 1 32 (zr 32 (.int .u8 0))),(.ar 1 32 (zr 32 (.int .u8 0))),(.int .u64 0),(.int .u64 0),(.st 6 [(.bl false),(.int .u64 0),(.ar 1 4 (zr 4 (.int .u64 0)))]),(.int .i64 0),(.bl false)])]),(.st 77 [(.bl false),(.st 76 [(.int .u32 0),(.int .u32 0),(.ar 1 32 (zr 32 (.int .u8 0))),(.ar 1 32 (zr 32 (.int .u8 0))),(.int .u64 0),(.int .u64 0),(.st 6 [(.bl false),(.int .u64 0),(.ar 1 4 (zr 4 (.int .u64 0)))]),(.int .i64 0),(.bl false)])]),(.st 77 [(.bl false),(.st 76 [(.int .u32 0),(.int .u32 0),(.ar 1 32 (zr 32 (.int .u8 0))),(.ar 1 32 (zr 32 (.int .u8 0))),(.int .u64 0),(.int .u64 0),(.st 6 [(.bl false),(.int .u64 0),(.ar 1 4 (zr 4 (.int .u64 0)))]),(.int .i64 0),(.bl false)])])]),.sl 1 [] true]:PV)=Bv p:=rfl
  simp only[FH]
  clear FH
  have Kw:c.aj.take (i+1)=c.aj.take i++[p]:=by
   rw[List.take_succ_eq_append_getElem hi]
   rw[gJ hi]at hx
   rw[Option.some.inj hx]
  have hPs:Pe (i+1)=Pe i++[fS p]:=by rw[IT,IT,Kw,List.map_append];rfl
  have hRs:R (i+1)=rH (R i) p:=by rw[hR,hR,Kw,vO]
  have hTs:Tm (i+1)=Fk now (Tm i) (fS p):=by rw[NV,NV,Kw];simp[Bu]
  have hTl:(Tm i).length≤2:=by
   have:=Du now ((c.aj.take i).map fS)
   rw[←NV,List.length_map,lJ]at this;omega
  obtain⟨yV,Um⟩:=AM _ (c.aj.take i) rfl
  rw[←hR]at yV Um
  have Kg:Bt (lF (c.aj.take i)++p.allowed):=by
   have e:lF c.aj=lF (c.aj.take (i+1))++lF (c.aj.drop (i+1)):=by
    simp only[lF];rw[←List.flatten_append,←List.map_append,List.take_append_drop]
   rw[Kw,vN]at e
   have hh:=h.px
   rw[e]at hh
   exact⟨λq hq=>hh.val q (List.mem_append_left _ hq),(List.nodup_append.1 hh.Om).1⟩
  rw[hPs,hRs,hTs]at hK
  obtain⟨RJ,Ct⟩:∃RJ:Nat->List kX,∀j,RJ j=(p.allowed.take j).foldl (λl x=>n9 l x p.eK) (R i):=⟨_,λ_=>rfl⟩
  have NW:RJ 0=R i:=by rw[Ct];rfl
  have NX:RJ p.allowed.length=rH (R i) p:=by rw[Ct,List.take_length];rfl
  refine gR.iw p.allowed.length (λ_=>True) [5,8,9,11,13,14,56,57,58,86,87,88] (λj=>[(88,.int .i64 j)]) (λj=>[(48,.box (qp (gk r c kA now now [] (RJ j) (Tm i) kB.fv) (.rs 90 [] 0 (i+1) (i+1) 464 .tip) (.sl 86 [] false)))]) [.keep [5,8,9,11,13,14,56,57,58,86,87,88]] ?_
  simp[NW]
  refine⟨λj hj K2 nn=> ?_,λK2=> ?_⟩
  ·have A1:p.allowed[j]? =some p.allowed[j]:=gJ hj
   have htj:p.allowed.take (j+1)=p.allowed.take j++[p.allowed[j]]:=List.take_succ_eq_append_getElem hj
   have hjs:RJ (j+1)=n9 (RJ j) p.allowed[j] p.eK:=by rw[Ct,Ct,htj,List.foldl_append];rfl
   have sL:(RJ j).length<16:=by rw[Ct,sG,yV,lJ];omega
   have DK:nh p.allowed[j]=true:=Kg.val _ (List.mem_append_right _ (List.getElem_mem hj))
   have vV:∀q∈RJ j,q.s6≠p.allowed[j]:=λq hq e=>by
    have uC:=Kg.Om
    have e2:lF (c.aj.take i)++p.allowed=(lF (c.aj.take i)++p.allowed.take j)++p.allowed.drop j:=by rw[List.append_assoc,List.take_append_drop]
    rw[e2]at uC
    have h3:=(List.nodup_append.1 uC).2.2
    have hm:p.allowed[j]∈p.allowed.drop j:=by rw[List.drop_eq_getElem_cons hj];exact List.mem_cons_self ..
    rw[Ct]at hq
    rcases sH _ _ hq with hq|hq
    ·exact h3 _ (List.mem_append_left _ (by rw[←e];exact Um q hq)) _ hm rfl
    ·exact h3 _ (List.mem_append_right _ (by rw[←e];exact hq)) _ hm rfl
   have Kx:IntKind.i64.wrap ((j:Int)+1)=(j:Int)+1:=wrap_i64 (by omega)
   have rK:(j:Int)<p.allowed.length:=by omega
   have NY:=Rq sL DK vV p.eK
   rw[hjs]at nn
   generalize p.allowed[j]=x at*
   generalize RJ j=G at*
   simp[↓an,A1,hj,rK,Kx,gk,-getElem?_pos]
   refine aU.ret NY (by simp) (by simp) (by simp) ?_
   simp[Kx]
   refine⟨[.keep [5,8,9,11,13,14,56,57,58,86,87,88],.dr 16],?_⟩
   simp
   exact nn _ (by simp[gk])
  ·simp[↓an,NX,hw]
   have DS:aB ((Pe i).map bj++[bj (fS p)]):=(qI _).append (by simp)
   have hVp:Pure (Bv p):=by simp[Bv]
   have NG:=WT (d:=gk r c kA now now [] (rH (R i) p) (Tm i) kB.fv) (by show(Tm i).length≤1048575;omega) (m:=i+1) DS (o:= .sl 86 [] false) (by simp) (fS p) hVp (by simp[Bv,aX];rfl) (by simp[Bv,aX,av];rfl)
   have e5:QY (gk r c kA now now [] (rH (R i) p) (Tm i) kB.fv) (Fk (gk r c kA now now [] (rH (R i) p) (Tm i) kB.fv).now (gk r c kA now now [] (rH (R i) p) (Tm i) kB.fv).timers (fS p))=gk r c kA now now [] (rH (R i) p) (Fk now (Tm i) (fS p)) kB.fv:=rfl
   rw[e5]at NG
   generalize Bv p=V at*
   generalize hL0:(Pe i).map bj++[bj (fS p)]=L at*
   refine al.gen [48,90,14] [] [.box (qp (gk r c kA now now [] (rH (R i) p) (Tm i) kB.fv) (.rs 90 [] 0 (i+1) (i+1) 464 .tip) (.sl 86 [] false)),.arr 464 L,.box V] NG (by simp[getAll]) (by simp) (by simp) (by simp[ae,ab,bS,idx]) (by simp[ah,ab,ae,bS,idx,DS.refs,hVp.refs]) (by simp[aO,az,bE,idx]) (by simp[aM,az,aO,bE,idx,DS.az,hVp.az]) (by simp[ah,ab,ae,eI,DS.refs,hVp.refs]) ?_
   simp[bB,aM,az,aO,fu,DS.az,hVp.az]
   simp[↓an,hw]
   refine⟨[.keep [5,8,9,11,56,57,58],.dr 13,.dr 14],?_⟩
   simp[DS.refs,hVp.refs]
   rw[←hL0]
   exact hK _ (by simp[hPl])
 ·have hPn:Pe c.aj.length=c.aj.map fS:=by rw[IT,List.take_length]
  have hRn:R c.aj.length=Dr c.aj:=by rw[hR,List.take_length]
  have hTn:Tm c.aj.length=Bu now (c.aj.map fS):=by rw[NV,List.take_length]
  rw[hPn,hRn,hTn]
  have hso:=ael (ps:=c.aj.map fS) (by rw[List.length_map];exact qU)
  have amh:=Ck (c.aj.map fS)
  generalize c.aj.map fS=P at*
  have hp:∀l:List jy,aB (l.map bj):=qI
  simp[↓an]
  refine al.gen [90] [] [.arr 464 (P.map bj)] hso (by simp[getAll]) (by simp) (by simp) (by simp[ae,ab,bS,idx]) (by simp[ah,(hp P).refs]) (by simp[aO,az,bE,idx]) (by simp[aM,(hp P).az]) (by simp[ah,ab,ae,(hp (s2 P)).refs]) ?_
  simp[bB,aM,az,aO,fu,(hp (s2 P)).az]
  have nX:bV (gk r c kA now now [] (Dr c.aj) (Bu now P) kB.fv) (.sl 464 ((s2 P).map bj) false)=kO (gk r c kA now now (s2 P) (Dr c.aj) (Bu now P) kB.fv):=rfl
  refine aC.plain [.keep [8,9],.fz 90] ?_
  simp[gF,(hp (s2 P)).refs]
  rw[if_pos ⟨amh.symm,by omega⟩,tJ (by rw[List.length_map];omega),nX]
  exact⟨JF _,rfl⟩
def zRu:nS:=⟨0,0,0,0,0,0,0,0,0,0⟩
def Fo:gU:=⟨zRu,uF,uF,0,uF,0,[],[],[],[],uF,0,[],[],0⟩
theorem Rs {r:nS} (hl:um r.load) (hs:um r.lq) (c:qQ) (k:Key) {now:Int} (cY:M0 r now=false):
  a8 Pg I.fA [dE r,gC c,aW k,.int .i64 now] (.tup [kO Fo,.int .i64 1]):=by
 refine af.intro T.Fm (by simp[F.Fm,F.fA]) ?_
 have hv:=pVR (r:=r) hl hs
 have hz:kO Fo= .st 148 [.st 10 [.int .u64 0,.int .u64 0,.int .i64 0,.int .i64 0,.int .i64 0,.int .i64 0,.int .i64 0,.int .i64 0,.int .i64 0,.int .i64 0],.ar 1 32 (zr 32 (.int .u8 0)),.ar 1 32 (zr 32 (.int .u8 0)),.int .i64 0,.ar 1 32 (zr 32 (.int .u8 0)),.int .i64 0,.sl 464 [] false,.sl 50 [] false,.sl 34 [] false,.sl 34 [] false,.ar 1 32 (zr 32 (.int .u8 0)),.int .i64 0,.sl 1 [] false,.sl 19 [] false,.int .i64 0]:=rfl
 rw[hz]
 simp[F.Fm,F.fA,mP,ai,aG]
 refine al.ret hv (by simp) (by simp) (by simp) ?_
 unfold M0 at cY
 cases hr:lE r
 ·simp
  refine aC.plain [.keep [8,9],.wb 8] ?_
  simp[gF]
 ·simp only[hr,Bool.true_and]at cY
  by_cases k1:now<0
  ·simp[k1]
   refine aC.plain [.keep [8,9],.wb 8] ?_
   simp[gF]
  ·have k2:(1099511627776:Int)<now:=by
    rw[Bool.and_eq_false_iff]at cY
    simp only[decide_eq_false_iff_not]at cY
    omega
   simp[k1,k2]
   refine aC.plain [.keep [8,9],.wb 8] ?_
   simp[gF]
end Go.Ab
end Z12s
noncomputable section Z13s
namespace Go.Ab
open Go.Ab
def ka (k:Key) (l:List jy):Nat:=l.findIdx λq=> !xR q.eK k
def qR (l:List jy) (x:jy):List jy:=l.take (ka x.eK l)++x::l.drop (ka x.eK l)
theorem Iu (k:Key) (l:List jy):ka k l≤l.length:=List.findIdx_le_length
theorem Ru {k:Key} {l:List jy} {i:Nat} (h:i<l.length) (hi:i<ka k l):xR l[i].eK k=true:=by
 have:=List.not_of_lt_findIdx hi
 simpa using this
theorem Rv {k:Key} {l:List jy} (h:ka k l<l.length):xR l[ka k l].eK k=false:=by
 have h2:(!xR l[ka k l].eK k)=true:=List.findIdx_getElem (w:=h)
 simpa using h2
theorem sI (l:List jy) (x:jy):(qR l x).length=l.length+1:=by
 have:=Iu x.eK l
 simp only[qR,List.length_append,List.length_cons,lJ,List.length_drop];omega
def FQ (ps:List nd):List jy:=ps.foldl (λl p=>qR l (fS p)) []
theorem AN (ps:List nd) (p:nd):FQ (ps++[p])=qR (FQ ps) (fS p):=by simp[FQ]
theorem Dv:∀(n:Nat) (ps:List nd),ps.length=n->(FQ ps).length=n
 |
  0,ps,h=>by
  rw[List.length_eq_zero_iff]at h;subst h;rfl
 |
  n+1,ps,h=>by
  rcases List.eq_nil_or_concat ps with e|⟨qs,q,e⟩
  ·rw[e]at h;cases h
  ·rw[List.concat_eq_append]at e
   subst e
   rw[AN,sI,Dv n qs (by simp at h;exact h)]
@[simp↓] theorem aau {s:St} {g:Bool} {n sz:Nat} {lo hi mx:Option AX} {K:PV->Prop} (k:Key):LF s g n sz lo hi mx K (aW k)=LF s g n sz lo hi mx K (.ar 1 32 (k.l.map u8)):=_root_.id rfl
@[simp↓] theorem aav (a b c d:Nat) (K:Nat->List PV->Prop) (k:Key):Pn a b c d K (aW k)=Pn a b c d K (.ar 1 32 (k.l.map u8)):=_root_.id rfl
noncomputable def F.Fp:aY:=⟨F.On.nt,F.On.res,mP F.On.code [1,1,1]⟩
theorem T.Fp:kL Pg [93] [72,71,68,66] I.jn=some F.Fp.er:=Iq [1,1,1] T.On
theorem ako {r:nS} (hl:um r.load) (hs:um r.lq) {c:qQ} (h:tp c) (k:Key) {now:Int} (cY:M0 r now=true):
  a8 Pg I.jn [dE r,gC c,aW k,.int .i64 now] (.tup [kO (gk r c (xP k.l jZ) now now (FQ c.aj) (Dr c.aj) (Bu now (FQ c.aj)) (GU k.l jZ).fv),.int .i64 0]):=by
 refine af.intro T.Fp (by simp[F.Fp,F.On]) ?_
 have hv:=ML (r:=r) hl hs
 unfold M0 at cY
 simp only[aJ,decide_eq_true_eq]at cY
 obtain⟨⟨hr,Xx⟩,Ow⟩:=cY
 rw[hr]at hv
 have k1:¬now<0:=by omega
 have k2:¬(1099511627776:Int)<now:=by omega
 simp[F.Fp,F.On,mP,ai,aG]
 refine al.ret hv (by simp) (by simp) (by simp) ?_
 simp[k1,k2]
 refine al.ret (J1 h) (by simp) (by simp) (by simp) ?_
 simp
 obtain⟨M,hM⟩:∃M:St->Prop,∀s',M s'↔s'=⟨[(3,.int .i64 now),(5,.pt 5 [] 0),(8,.pt 8 [] 0),(9,.int .i64 0),(11,.pt 11 [] 0)],[(5,.box (gC c)),(8,.box zPs),(11,.box (bV (gk r c k now 0 [] [] [] uF) (.sl 464 [] false)))]⟩:=⟨_,λ_=>Iff.rfl⟩
 refine N0.of M ?_ ?_
 ·simp
  refine oJ.run [] rfl ?_
  simp
  refine aU.ret (C9 c.pD) (by simp) (by simp) (by simp) ?_
  rw[←MA c.pD]
  simp
  refine⟨[.keep [3,5,8,9,11],.dr 4,.dr 6,.wb 11],?_⟩
  simp
  exact(hM _).2 rfl
 intro s' pz
 have xX:=(hM _).1 pz
 subst xX
 clear pz hM M
 have hdr:=Wx (d:=gk r c k now 0 (FQ c.aj) (Dr c.aj) [] uF) (k:=k) rfl (p:=gh (FQ c.aj)) (o:= .sl 86 [] true) (by simp) (by simp) rfl
 have hdn:dRn (gk r c k now 0 (FQ c.aj) (Dr c.aj) [] uF) (xP k.l jZ)=gk r c (xP k.l jZ) now 0 (FQ c.aj) (Dr c.aj) [] uF:=rfl
 rw[hdn]at hdr
 generalize xP k.l jZ=kA at*
 generalize GU k.l jZ=kB at*
 have qU:=h.len
 have hl6:=h.ln
 obtain⟨R,hR⟩:∃R:Nat->List kX,∀i,R i=Dr (c.aj.take i):=⟨_,λ_=>rfl⟩
 obtain⟨Pe,IT⟩:∃Pe:Nat->List jy,∀i,Pe i=FQ (c.aj.take i):=⟨_,λ_=>rfl⟩
 have XG:R 0=[]:=by rw[hR];rfl
 have hP0:Pe 0=[]:=by rw[IT];rfl
 have hd0:bV (gk r c k now 0 [] [] [] uF) (.sl 464 [] false)=kO (gk r c k now 0 [] [] [] uF):=rfl
 simp only[hd0]
 simp
 refine gR.iw c.aj.length (λ_=>True) [3,5,8,9,11,50,51,52] (λi=>[(52,.int .i64 i)]) (λi=>[(11,.box (kO (gk r c k now 0 (Pe i) (R i) [] uF)))]) [.keep [3,5,8,9,11,50,51,52]] ?_
 simp[XG,hP0]
 refine⟨λi hi K hK=> ?_,λK=> ?_⟩
 ·have hx:c.aj[i]? =some c.aj[i]:=gJ hi
  have hle:=AL c.aj (i+1)
  rw[mT hi,List.length_append]at hle
  have hw:IntKind.i64.wrap ((i:Int)+1)=(i:Int)+1:=wrap_i64 (by omega)
  have nq:(i:Int)<c.aj.length:=by omega
  generalize c.aj[i]=p at*
  simp[↓an,hx,hi,nq,hw,-getElem?_pos]
  have lS:=Iu p.eK (Pe i)
  have hPl:(Pe i).length=i:=by rw[IT,Dv _ _ rfl,lJ];omega
  refine gR.iw (ka p.eK (Pe i)) (λ_=>True) [3,5,8,9,11,13,14,50,51,52] (λj=>[(14,.int .i64 j)]) (λj=>[]) [.keep [3,5,8,9,11,13,14,50,51,52]] ?_
  simp
  refine⟨λj hj K2 nn=> ?_,λK2=> ?_⟩
  ·have sL:j<(Pe i).length:=by omega
   have A1:(Pe i)[j]? =some (Pe i)[j]:=gJ sL
   have eu:=Ru sL hj
   have Kx:IntKind.i64.wrap ((j:Int)+1)=(j:Int)+1:=wrap_i64 (by omega)
   have rK:(j:Int)<(Pe i).length:=by omega
   generalize (Pe i)[j]=q at*
   have t1:(q.eK.l.map u8).take 32=q.eK.l.map u8:=tJ (by simp[q.eK.h])
   have t2:(p.eK.l.map u8).take 32=p.eK.l.map u8:=tJ (by simp[p.eK.h])
   have hb:Op.bytesLess q.eK.l p.eK.l=true:=eu
   simp[↓an,A1,sL,rK,Kx,gk,t1,t2,hb,-getElem?_pos]
   refine⟨[.keep [3,5,8,9,11,13,14,50,51,52]],?_⟩
   simp
   exact nn _ (by simp[gk])
  ·by_cases R9:ka p.eK (Pe i)<(Pe i).length
   ·have A1:(Pe i)[ka p.eK (Pe i)]? =some (Pe i)[ka p.eK (Pe i)]:=gJ R9
    have eu:=Rv R9
    generalize (Pe i)[ka p.eK (Pe i)]=q at*
    have t1:(q.eK.l.map u8).take 32=q.eK.l.map u8:=tJ (by simp[q.eK.h])
    have t2:(p.eK.l.map u8).take 32=p.eK.l.map u8:=tJ (by simp[p.eK.h])
    have hb:Op.bytesLess q.eK.l p.eK.l=false:=eu
    simp[↓an,A1,R9,gk,t1,t2,hb,-getElem?_pos]
    refine oJ.run [93] rfl ?_
    simp[gh]
    rw[WW]
    have FH:(.st 464 [aW p.eK,aW p.shared,.bl p.nm,jR p.ep,.int .i64 p.kY,(.ar 1 12 (zr 12 (.int .u8 0))),(.bl false),(.int .i64 0),(.st 100 [(.bl false),(.int .u32 0),(.ar 1 32 (zr 32 (.int .u8 0))),(.st 64 [(.ar 1 32 (zr 32 (.int .u8 0))),(.ar 1 32 (zr 32 (.int .u8 0)))]),(.int .i64 0),(.int .i64 0)]),(.bl false),(.ar 1 16 (zr 16 (.int .u8 0))),(.int .i64 0),(.ar 1 16 (zr 16 (.int .u8 0))),(.st 231 [(.st 77 [(.bl false),(.st 76 [(.int .u32 0),(.int .u32 0),(.ar 1 32 (zr 32 (.int .u8 0))),(.ar 1 32 (zr 32 (.int .u8 0))),(.int .u64 0),(.int .u64 0),(.st 6 [(.bl false),(.int .u64 0),(.ar 1 4 (zr 4 (.int .u64 0)))]),(.int .i64 0),(.bl false)])]),(.st 77 [(.bl false),(.st 76 [(.int .u32 0),(.int .u32 0),(.ar 1 32 (zr 32 (.int .u8 0))),(.ar 1 32 (zr 32 (.int .u8 0))),(.int .u64 0),(.int .u64 0),(.st 6 [(.bl false),(.int .u64 0),(.ar 1 4 (zr 4 (.int .u64 0)))]),(.int .i64 0),(.bl false)])]),(.st 77 [(.bl false),(.st 76 [(.int .u32 0),(.int .u32 0),(.ar 1 32 (zr 32 (.int .u8 0))),(.ar 1 32 (zr 32 (.int .u8 0))),(.int .u64 0),(.int .u64 0),(.st 6 [(.bl false),(.int .u64 0),(.ar 1 4 (zr 4 (.int .u64 0)))]),(.int .i64 0),(.bl false)])])]),.sl 1 [] true]:PV)=Bv p:=rfl
    simp only[FH]
    clear FH
    have DP:min (ka p.eK (Pe i)) (Pe i).length=ka p.eK (Pe i):=by omega
    have NU:min (1+((Pe i).length-ka p.eK (Pe i))) ((Pe i).length-ka p.eK (Pe i)+1)=1+((Pe i).length-ka p.eK (Pe i)):=by omega
    have Yb:ka p.eK (Pe i)+(1+((Pe i).length-ka p.eK (Pe i)))=i+1:=by omega
    simp only[DP,NU,Yb]
    refine⟨lS,⟨by omega,by omega⟩,⟨by omega,by omega⟩,⟨by omega,by omega⟩,?_⟩
    have hE:List.take (ka p.eK (Pe i)) (List.map bj (Pe i))++List.take (1+((Pe i).length-ka p.eK (Pe i))) (bj (fS p)::List.drop (ka p.eK (Pe i)) (List.map bj (Pe i)))=(qR (Pe i) (fS p)).map bj:=by
     have e1:List.take (1+((Pe i).length-ka p.eK (Pe i))) (bj (fS p)::List.drop (ka p.eK (Pe i)) (List.map bj (Pe i)))=bj (fS p)::List.drop (ka p.eK (Pe i)) (List.map bj (Pe i)):=tJ (by simp only[List.length_cons,List.length_drop,List.length_map];omega)
     rw[e1]
     simp only[qR,List.map_append,List.map_cons,List.map_drop,List.map_take]
     rfl
    rw[hE]
    have FR:(qR (Pe i) (fS p)).length=i+1:=by rw[sI];omega
    have Hp:aB ((qR (Pe i) (fS p)).map bj):=qI _
    clear hE DP NU Yb
    have Kw:c.aj.take (i+1)=c.aj.take i++[p]:=by
     rw[List.take_succ_eq_append_getElem hi]
     rw[gJ hi]at hx
     rw[Option.some.inj hx]
    have hPs:Pe (i+1)=qR (Pe i) (fS p):=by rw[IT,IT,Kw,AN]
    have hRs:R (i+1)=rH (R i) p:=by rw[hR,hR,Kw,vO]
    obtain⟨yV,Um⟩:=AM _ (c.aj.take i) rfl
    rw[←hR]at yV Um
    have Kg:Bt (lF (c.aj.take i)++p.allowed):=by
     have e:lF c.aj=lF (c.aj.take (i+1))++lF (c.aj.drop (i+1)):=by
      simp only[lF];rw[←List.flatten_append,←List.map_append,List.take_append_drop]
     rw[Kw,vN]at e
     have hh:=h.px
     rw[e]at hh
     exact⟨λq hq=>hh.val q (List.mem_append_left _ hq),(List.nodup_append.1 hh.Om).1⟩
    rw[hPs,hRs]at hK
    obtain⟨RJ,Ct⟩:∃RJ:Nat->List kX,∀j,RJ j=(p.allowed.take j).foldl (λl x=>n9 l x p.eK) (R i):=⟨_,λ_=>rfl⟩
    have NW:RJ 0=R i:=by rw[Ct];rfl
    have NX:RJ p.allowed.length=rH (R i) p:=by rw[Ct,List.take_length];rfl
    refine gR.iw p.allowed.length (λ_=>True) [3,5,8,9,11,13,50,51,52,102,103,104] (λj=>[(104,.int .i64 j)]) (λj=>[(11,.box (bV (gk r c k now 0 [] (RJ j) [] uF) (.rs 99 [] 0 (i+1) (i+1) 464 .tip)))]) [.keep [3,5,8,9,11,13,50,51,52,102,103,104],.dr 93,.dr 15] ?_
    simp[NW,Hp.refs]
    refine⟨by simp[gk];rfl,λj hj K3 hK3=> ?_,λK3=> ?_⟩
    ·have A1:p.allowed[j]? =some p.allowed[j]:=gJ hj
     have htj:p.allowed.take (j+1)=p.allowed.take j++[p.allowed[j]]:=List.take_succ_eq_append_getElem hj
     have hjs:RJ (j+1)=n9 (RJ j) p.allowed[j] p.eK:=by rw[Ct,Ct,htj,List.foldl_append];rfl
     have sL:(RJ j).length<16:=by rw[Ct,sG,yV,lJ];omega
     have DK:nh p.allowed[j]=true:=Kg.val _ (List.mem_append_right _ (List.getElem_mem hj))
     have vV:∀q∈RJ j,q.s6≠p.allowed[j]:=λq hq e=>by
      have uC:=Kg.Om
      have e2:lF (c.aj.take i)++p.allowed=(lF (c.aj.take i)++p.allowed.take j)++p.allowed.drop j:=by rw[List.append_assoc,List.take_append_drop]
      rw[e2]at uC
      have h3:=(List.nodup_append.1 uC).2.2
      have hm:p.allowed[j]∈p.allowed.drop j:=by rw[List.drop_eq_getElem_cons hj];exact List.mem_cons_self ..
      rw[Ct]at hq
      rcases sH _ _ hq with hq|hq
      ·exact h3 _ (List.mem_append_left _ (by rw[←e];exact Um q hq)) _ hm rfl
      ·exact h3 _ (List.mem_append_right _ (by rw[←e];exact hq)) _ hm rfl
     have Kx:IntKind.i64.wrap ((j:Int)+1)=(j:Int)+1:=wrap_i64 (by omega)
     have rK:(j:Int)<p.allowed.length:=by omega
     have NY:=Ir sL DK vV p.eK
     rw[hjs]at hK3
     generalize p.allowed[j]=x at*
     generalize RJ j=G at*
     simp[↓an,A1,hj,rK,Kx,gk,-getElem?_pos]
     refine al.ret NY (by simp) (by simp) (by simp) ?_
     simp[Kx]
     refine⟨[.keep [3,5,8,9,11,13,50,51,52,102,103,104],.dr 17],?_⟩
     simp[Hp.refs]
     exact hK3 _ (by simp[gk])
    ·simp[↓an,NX,hw]
     refine⟨[.keep [3,5,8,9,11,50,51,52],.dr 13,.fz 99],?_⟩
     simp[Hp.refs,FR]
     have hfE:bV (gk r c k now 0 [] (rH (R i) p) [] uF) (.sl 464 ((qR (Pe i) (fS p)).map bj) false)=kO (gk r c k now 0 (qR (Pe i) (fS p)) (rH (R i) p) [] uF):=rfl
     rw[tJ (by rw[List.length_map];omega),hfE]
     exact hK _ (by simp)
   ·simp[↓an,R9,gk]
    refine oJ.run [93] rfl ?_
    simp[gh]
    rw[WW]
    have FH:(.st 464 [aW p.eK,aW p.shared,.bl p.nm,jR p.ep,.int .i64 p.kY,(.ar 1 12 (zr 12 (.int .u8 0))),(.bl false),(.int .i64 0),(.st 100 [(.bl false),(.int .u32 0),(.ar 1 32 (zr 32 (.int .u8 0))),(.st 64 [(.ar 1 32 (zr 32 (.int .u8 0))),(.ar 1 32 (zr 32 (.int .u8 0)))]),(.int .i64 0),(.int .i64 0)]),(.bl false),(.ar 1 16 (zr 16 (.int .u8 0))),(.int .i64 0),(.ar 1 16 (zr 16 (.int .u8 0))),(.st 231 [(.st 77 [(.bl false),(.st 76 [(.int .u32 0),(.int .u32 0),(.ar 1 32 (zr 32 (.int .u8 0))),(.ar 1 32 (zr 32 (.int .u8 0))),(.int .u64 0),(.int .u64 0),(.st 6 [(.bl false),(.int .u64 0),(.ar 1 4 (zr 4 (.int .u64 0)))]),(.int .i64 0),(.bl false)])]),(.st 77 [(.bl false),(.st 76 [(.int .u32 0),(.int .u32 0),(.ar 1 32 (zr 32 (.int .u8 0))),(.ar 1 32 (zr 32 (.int .u8 0))),(.int .u64 0),(.int .u64 0),(.st 6 [(.bl false),(.int .u64 0),(.ar 1 4 (zr 4 (.int .u64 0)))]),(.int .i64 0),(.bl false)])]),(.st 77 [(.bl false),(.st 76 [(.int .u32 0),(.int .u32 0),(.ar 1 32 (zr 32 (.int .u8 0))),(.ar 1 32 (zr 32 (.int .u8 0))),(.int .u64 0),(.int .u64 0),(.st 6 [(.bl false),(.int .u64 0),(.ar 1 4 (zr 4 (.int .u64 0)))]),(.int .i64 0),(.bl false)])])]),.sl 1 [] true]:PV)=Bv p:=rfl
    simp only[FH]
    clear FH
    have DP:min (ka p.eK (Pe i)) (Pe i).length=ka p.eK (Pe i):=by omega
    have NU:min (1+((Pe i).length-ka p.eK (Pe i))) ((Pe i).length-ka p.eK (Pe i)+1)=1+((Pe i).length-ka p.eK (Pe i)):=by omega
    have Yb:ka p.eK (Pe i)+(1+((Pe i).length-ka p.eK (Pe i)))=i+1:=by omega
    simp only[DP,NU,Yb]
    refine⟨lS,⟨by omega,by omega⟩,⟨by omega,by omega⟩,⟨by omega,by omega⟩,?_⟩
    have hE:List.take (ka p.eK (Pe i)) (List.map bj (Pe i))++List.take (1+((Pe i).length-ka p.eK (Pe i))) (bj (fS p)::List.drop (ka p.eK (Pe i)) (List.map bj (Pe i)))=(qR (Pe i) (fS p)).map bj:=by
     have e1:List.take (1+((Pe i).length-ka p.eK (Pe i))) (bj (fS p)::List.drop (ka p.eK (Pe i)) (List.map bj (Pe i)))=bj (fS p)::List.drop (ka p.eK (Pe i)) (List.map bj (Pe i)):=tJ (by simp only[List.length_cons,List.length_drop,List.length_map];omega)
     rw[e1]
     simp only[qR,List.map_append,List.map_cons,List.map_drop,List.map_take]
     rfl
    rw[hE]
    have FR:(qR (Pe i) (fS p)).length=i+1:=by rw[sI];omega
    have Hp:aB ((qR (Pe i) (fS p)).map bj):=qI _
    clear hE DP NU Yb
    have Kw:c.aj.take (i+1)=c.aj.take i++[p]:=by
     rw[List.take_succ_eq_append_getElem hi]
     rw[gJ hi]at hx
     rw[Option.some.inj hx]
    have hPs:Pe (i+1)=qR (Pe i) (fS p):=by rw[IT,IT,Kw,AN]
    have hRs:R (i+1)=rH (R i) p:=by rw[hR,hR,Kw,vO]
    obtain⟨yV,Um⟩:=AM _ (c.aj.take i) rfl
    rw[←hR]at yV Um
    have Kg:Bt (lF (c.aj.take i)++p.allowed):=by
     have e:lF c.aj=lF (c.aj.take (i+1))++lF (c.aj.drop (i+1)):=by
      simp only[lF];rw[←List.flatten_append,←List.map_append,List.take_append_drop]
     rw[Kw,vN]at e
     have hh:=h.px
     rw[e]at hh
     exact⟨λq hq=>hh.val q (List.mem_append_left _ hq),(List.nodup_append.1 hh.Om).1⟩
    rw[hPs,hRs]at hK
    obtain⟨RJ,Ct⟩:∃RJ:Nat->List kX,∀j,RJ j=(p.allowed.take j).foldl (λl x=>n9 l x p.eK) (R i):=⟨_,λ_=>rfl⟩
    have NW:RJ 0=R i:=by rw[Ct];rfl
    have NX:RJ p.allowed.length=rH (R i) p:=by rw[Ct,List.take_length];rfl
    refine gR.iw p.allowed.length (λ_=>True) [3,5,8,9,11,13,50,51,52,102,103,104] (λj=>[(104,.int .i64 j)]) (λj=>[(11,.box (bV (gk r c k now 0 [] (RJ j) [] uF) (.rs 99 [] 0 (i+1) (i+1) 464 .tip)))]) [.keep [3,5,8,9,11,13,50,51,52,102,103,104],.dr 93,.dr 15] ?_
    simp[NW,Hp.refs]
    refine⟨by simp[gk];rfl,λj hj K3 hK3=> ?_,λK3=> ?_⟩
    ·have A1:p.allowed[j]? =some p.allowed[j]:=gJ hj
     have htj:p.allowed.take (j+1)=p.allowed.take j++[p.allowed[j]]:=List.take_succ_eq_append_getElem hj
     have hjs:RJ (j+1)=n9 (RJ j) p.allowed[j] p.eK:=by rw[Ct,Ct,htj,List.foldl_append];rfl
     have sL:(RJ j).length<16:=by rw[Ct,sG,yV,lJ];omega
     have DK:nh p.allowed[j]=true:=Kg.val _ (List.mem_append_right _ (List.getElem_mem hj))
     have vV:∀q∈RJ j,q.s6≠p.allowed[j]:=λq hq e=>by
      have uC:=Kg.Om
      have e2:lF (c.aj.take i)++p.allowed=(lF (c.aj.take i)++p.allowed.take j)++p.allowed.drop j:=by rw[List.append_assoc,List.take_append_drop]
      rw[e2]at uC
      have h3:=(List.nodup_append.1 uC).2.2
      have hm:p.allowed[j]∈p.allowed.drop j:=by rw[List.drop_eq_getElem_cons hj];exact List.mem_cons_self ..
      rw[Ct]at hq
      rcases sH _ _ hq with hq|hq
      ·exact h3 _ (List.mem_append_left _ (by rw[←e];exact Um q hq)) _ hm rfl
      ·exact h3 _ (List.mem_append_right _ (by rw[←e];exact hq)) _ hm rfl
     have Kx:IntKind.i64.wrap ((j:Int)+1)=(j:Int)+1:=wrap_i64 (by omega)
     have rK:(j:Int)<p.allowed.length:=by omega
     have NY:=Ir sL DK vV p.eK
     rw[hjs]at hK3
     generalize p.allowed[j]=x at*
     generalize RJ j=G at*
     simp[↓an,A1,hj,rK,Kx,gk,-getElem?_pos]
     refine al.ret NY (by simp) (by simp) (by simp) ?_
     simp[Kx]
     refine⟨[.keep [3,5,8,9,11,13,50,51,52,102,103,104],.dr 17],?_⟩
     simp[Hp.refs]
     exact hK3 _ (by simp[gk])
    ·simp[↓an,NX,hw]
     refine⟨[.keep [3,5,8,9,11,50,51,52],.dr 13,.fz 99],?_⟩
     simp[Hp.refs,FR]
     have hfE:bV (gk r c k now 0 [] (rH (R i) p) [] uF) (.sl 464 ((qR (Pe i) (fS p)).map bj) false)=kO (gk r c k now 0 (qR (Pe i) (fS p)) (rH (R i) p) [] uF):=rfl
     rw[tJ (by rw[List.length_map];omega),hfE]
     exact hK _ (by simp)
 ·have hPn:Pe c.aj.length=FQ c.aj:=by rw[IT,List.take_length]
  have hRn:R c.aj.length=Dr c.aj:=by rw[hR,List.take_length]
  rw[hPn,hRn]
  have lS:(FQ c.aj).length≤2:=by rw[Dv _ _ rfl];exact qU
  clear hPn hRn hP0 XG IT hR
  generalize FQ c.aj=P at*
  generalize Dr c.aj=Rt at*
  have hmD:PV.st 149 [kO (gk r c k now 0 P Rt [] uF),.sl 86 [] true]=qp (gk r c k now 0 P Rt [] uF) (gh P) (.sl 86 [] true):=rfl
  have Bb:=pR P
  simp[↓an]
  rw[hmD]
  refine al.gen [18] [] [.box (qp (gk r c k now 0 P Rt [] uF) (gh P) (.sl 86 [] true))] hdr (by simp[getAll]) (by simp) (by simp) (by simp[ae,ab,bS,idx]) (by simp[ah,ab,ae,Bb.refs]) (by simp[aO,az,bE,idx]) (by simp[aM,az,aO,Bb.az]) (by simp[ah,ab,ae,eI,Bb.refs,(eR _).refs]) ?_
  have e10:∀q,s7 (gk r c kA now 0 P Rt [] uF) q (aW kB)=bV (gk r c kA now 0 P Rt [] kB.fv) q:=λ_=>rfl
  have e11:∀q,s8 (gk r c kA now 0 P Rt [] kB.fv) q (.int .i64 now)=bV (gk r c kA now now P Rt [] kB.fv) q:=λ_=>rfl
  simp[bB,aM,az,aO,fu,Bb.az,(eR _).az,e10,e11]
  obtain⟨Tm,NV⟩:∃Tm:Nat->List gZ,∀i,Tm i=Bu now (P.take i):=⟨_,λ_=>rfl⟩
  have hT0:Tm 0=[]:=by rw[NV];rfl
  have hTn:Tm P.length=Bu now P:=by rw[NV,List.take_length]
  refine gR.iw P.length (λ_=>True) [8,9,18,131,132] (λi=>[(132,.int .i64 i)]) (λi=>[(18,.box (qp (gk r c kA now now P Rt (Tm i) kB.fv) (gh P) (.sl 86 [] true)))]) [.keep [8,9,18,131,132],.dr 5,.dr 11] ?_
  simp[hT0,Bb.refs]
  refine⟨rfl,λi hi K2 nn=> ?_,λK2=> ?_⟩
  ·have hx:P[i]? =some P[i]:=gJ hi
   have hTl:(Tm i).length≤2:=by
    have:=Du now (P.take i)
    rw[←NV,lJ]at this;omega
   have hTs:Tm (i+1)=Fk now (Tm i) P[i]:=by rw[NV,NV,List.take_succ_eq_append_getElem hi];simp only[Bu,List.foldl_append,List.foldl_cons,List.foldl_nil]
   have NG:af Pg I.bw [.pt KB [] 0,.int .i64 i] [.box (qp (gk r c kA now now P Rt (Tm i) kB.fv) (gh P) (.sl 86 [] true))]
     (λx fp=>x= .tup []∧fp=[.box (qp (gk r c kA now now P Rt (Fk now (Tm i) P[i]) kB.fv) (gh P) (.sl 86 [] true))]):=
    WU (d:=gk r c kA now now P Rt (Tm i) kB.fv) (by show(Tm i).length≤1048575;omega) (i:=i) hi (o:= .sl 86 [] true) (by simp)
   rw[hTs]at nn
   generalize P[i]=q at*
   have hw:IntKind.i64.wrap ((i:Int)+1)=(i:Int)+1:=wrap_i64 (by omega)
   have nq:(i:Int)<P.length:=by omega
   simp[↓an,hi,nq]
   refine al.gen [18] [] [.box (qp (gk r c kA now now P Rt (Tm i) kB.fv) (gh P) (.sl 86 [] true))] NG (by simp[getAll]) (by simp) (by simp) (by simp[ae,ab,bS,idx]) (by simp[ah,ab,ae,Bb.refs]) (by simp[aO,az,bE,idx]) (by simp[aM,az,aO,Bb.az]) (by simp[ah,ab,ae,eI,Bb.refs]) ?_
   simp[bB,aM,az,aO,fu,Bb.az,hw]
   refine⟨[.keep [8,9,18,131,132]],?_⟩
   simp
   exact nn _ (by simp)
  ·rw[hTn]
   simp[↓an]
   refine aC.plain [.keep [8,9]] ?_
   have nX:bV (gk r c kA now now P Rt (Bu now P) kB.fv) (gh P)=kO (gk r c kA now now P Rt (Bu now P) kB.fv):=rfl
   simp[gF,Bb.refs,nX]
theorem Rw {r:nS} (hl:um r.load) (hs:um r.lq) (c:qQ) (k:Key) {now:Int} (cY:M0 r now=false):
  a8 Pg I.jn [dE r,gC c,aW k,.int .i64 now] (.tup [kO Fo,.int .i64 1]):=by
 refine af.intro T.Fp (by simp[F.Fp,F.On]) ?_
 have hv:=ML (r:=r) hl hs
 have hz:kO Fo= .st 148 [.st 10 [.int .u64 0,.int .u64 0,.int .i64 0,.int .i64 0,.int .i64 0,.int .i64 0,.int .i64 0,.int .i64 0,.int .i64 0,.int .i64 0],.ar 1 32 (zr 32 (.int .u8 0)),.ar 1 32 (zr 32 (.int .u8 0)),.int .i64 0,.ar 1 32 (zr 32 (.int .u8 0)),.int .i64 0,.sl 464 [] false,.sl 50 [] false,.sl 34 [] false,.sl 34 [] false,.ar 1 32 (zr 32 (.int .u8 0)),.int .i64 0,.sl 1 [] false,.sl 19 [] false,.int .i64 0]:=rfl
 rw[hz]
 simp[F.Fp,F.On,mP,ai,aG]
 refine al.ret hv (by simp) (by simp) (by simp) ?_
 unfold M0 at cY
 cases hr:lE r
 ·simp
  refine aC.plain [.keep [8,9],.wb 8] ?_
  simp[gF]
 ·simp only[hr,Bool.true_and]at cY
  by_cases k1:now<0
  ·simp[k1]
   refine aC.plain [.keep [8,9],.wb 8] ?_
   simp[gF]
  ·have k2:(1099511627776:Int)<now:=by
    rw[Bool.and_eq_false_iff]at cY
    simp only[decide_eq_false_iff_not]at cY
    omega
   simp[k1,k2]
   refine aC.plain [.keep [8,9],.wb 8] ?_
   simp[gF]
end Go.Ab
end Z13s
noncomputable section Z14s
namespace Go.Ab
open Go.Ab
theorem Iv:∀a b:List UInt8,Op.bytesLess a b=true->Op.bytesLess b a=false
 |[],[],h=>by simp[Op.bytesLess]at h
 |[],y::b,_=>by simp[Op.bytesLess]
 |x::a,[],h=>by simp[Op.bytesLess]at h
 |
  x::a,y::b,h=>by
  unfold Op.bytesLess at h⊢
  by_cases e:x=y
  ·subst e
   have hx:¬x<x:=UInt8.lt_irrefl x
   simp only[beq_self_eq_true,Bool.true_and,hx,decide_false,Bool.false_or]at h⊢
   exact Iv a b h
  ·have e1:(x==y)=false:=by simpa using e
   have e2:(y==x)=false:=by simpa using λh=>e h.symm
   simp only[e1,e2,fJ,if_false,Bool.false_and,Bool.or_false,decide_eq_true_eq,decide_eq_false_iff_not]at h⊢
   exact λh2=>UInt8.lt_asymm h h2
theorem M4:∀a b:List UInt8,a.length=b.length->a≠b->Op.bytesLess a b=false->Op.bytesLess b a=true
 |[],[],_,h,_=>absurd rfl h
 |[],y::b,h,_,_=>by simp at h
 |x::a,[],h,_,_=>by simp at h
 |
  x::a,y::b,h,dF,h1=>by
  unfold Op.bytesLess at h1⊢
  by_cases e:x=y
  ·subst e
   have hx:¬x<x:=UInt8.lt_irrefl x
   simp only[beq_self_eq_true,Bool.true_and,hx,decide_false,Bool.false_or]at h1⊢
   exact M4 a b (by simpa using h) (λe=>dF (by rw[e])) h1
  ·have e1:(x==y)=false:=by simpa using e
   have e2:(y==x)=false:=by simpa using λh=>e h.symm
   simp only[e1,e2,fJ,if_false,Bool.false_and,Bool.or_false,decide_eq_true_eq,decide_eq_false_iff_not]at h1⊢
   rcases UInt8.lt_or_eq_of_le (UInt8.not_lt.1 h1)with h|h
   ·exact h
   ·exact absurd h.symm e
theorem Fq {a b:Key} (h:xR a b=true):xR b a=false:=Iv _ _ h
theorem Iw {a b:Key} (dF:a≠b) (h:xR a b=false):xR b a=true:=M4 _ _ (by rw[a.h,b.h]) (λe=>dF (Key.ext' e)) h
theorem WX {ps:List nd} (hl:ps.length≤2) (hd:∀(i j:Nat) (hi:i<ps.length) (hj:j<ps.length),i≠j->ps[i].eK≠ps[j].eK):FQ ps=s2 (ps.map fS):=by
 rcases ps with _|⟨a,_|⟨b,_|⟨c,t⟩⟩⟩
 ·rfl
 ·rfl
 ·have dF:a.eK≠b.eK:=hd 0 1 (by simp) (by simp) (by omega)
  have e0:FQ [a,b]=qR [fS a] (fS b):=rfl
  have e1:s2 ([a,b].map fS)=if xR b.eK a.eK=true then [fS b,fS a]else [fS a,fS b]:=rfl
  have e2:ka (fS b).eK [fS a]=if(!xR a.eK b.eK)=true then 0 else 1:=by
   show List.findIdx (λq:jy=> !xR q.eK (fS b).eK) [fS a]=_
   rw[List.findIdx_cons]
   show(bif (!xR a.eK b.eK)then 0 else _)=_
   cases xR a.eK b.eK<;>rfl
  rw[e0,e1,qR,e2]
  cases h:xR a.eK b.eK
  ·rw[if_pos (show(!false)=true from rfl),if_pos (Iw dF h)];rfl
  ·rw[if_neg (by simp),if_neg (by rw[Fq h];simp)];rfl
 ·simp only[List.length_cons]at hl;omega
theorem G3 {a b:gZ} (h:gT a b=true):gT b a=false:=by
 unfold gT at h⊢
 by_cases e:a.at_=b.at_
 ·rw[if_neg (λhn=>hn e)]at h
  rw[if_neg (λhn=>hn e.symm)]
  by_cases e2:a.peer=b.peer
  ·rw[if_neg (λhn=>hn e2)]at h
   rw[if_neg (λhn=>hn e2.symm)]
   have:=of_decide_eq_true h
   exact decide_eq_false (by omega)
  ·rw[if_pos e2]at h
   rw[if_pos λhn=>e2 hn.symm]
   exact Fq h
 ·rw[if_pos e]at h
  rw[if_pos λhn=>e hn.symm]
  have:=of_decide_eq_true h
  exact decide_eq_false (by omega)
theorem J2 {a b:gZ} (dF:a.peer≠b.peer) (h:gT a b=false):gT b a=true:=by
 unfold gT at h⊢
 by_cases e:a.at_=b.at_
 ·rw[if_neg (λhn=>hn e),if_pos dF]at h
  rw[if_neg (λhn=>hn e.symm),if_pos λhn=>dF hn.symm]
  exact Iw dF h
 ·rw[if_pos e]at h
  rw[if_pos λhn=>e hn.symm]
  have:=of_decide_eq_false h
  exact decide_eq_true (by omega)
theorem Fs {a b:gZ} (dF:a.peer≠b.peer):ql (ql [] a) b=if gT b a=true then [b,a]else [a,b]:=by
 have e0:ql [] a=[a]:=rfl
 have e1:dN [a] b.peer b.kind=[a]:=by
  show List.filter (qN b.peer b.kind) [a]=[a]
  have:qN b.peer b.kind a=true:=by unfold qN;simp[dF]
  simp[this]
 rw[e0]
 simp only[ql,e1,ji]
 cases gT b a<;>rfl
theorem J3 {a b:gZ} (dF:a.peer≠b.peer):ql (ql [] a) b=ql (ql [] b) a:=by
 rw[Fs dF,Fs (λh=>dF h.symm)]
 cases h:gT b a
 ·rw[if_neg (by simp),if_pos (J2 (λh=>dF h.symm) h)]
 ·rw[if_pos rfl,if_neg (by rw[G3 h];simp)]
theorem M5 (now:Int) {x y:jy} (dF:x.eK≠y.eK):Bu now [x,y]=Bu now [y,x]:=by
 simp only[Bu,List.foldl_cons,List.foldl_nil,Fk]
 by_cases hx:x.kY=0
 ·by_cases hy:y.kY=0<;>simp[hx,hy]
 ·by_cases hy:y.kY=0
  ·simp[hx,hy]
  ·simp only[hx,hy,if_false]
   exact J3 (a:=⟨IntKind.i64.wrap (now+x.kY),x.eK,4⟩) (b:=⟨IntKind.i64.wrap (now+y.kY),y.eK,4⟩) dF
theorem WY (now:Int) {ps:List nd} (hl:ps.length≤2) (hd:∀(i j:Nat) (hi:i<ps.length) (hj:j<ps.length),i≠j->ps[i].eK≠ps[j].eK):Bu now (s2 (ps.map fS))=Bu now (ps.map fS):=by
 rcases ps with _|⟨a,_|⟨b,_|⟨c,t⟩⟩⟩
 ·rfl
 ·rfl
 ·have dF:a.eK≠b.eK:=hd 0 1 (by simp) (by simp) (by omega)
  have e1:s2 ([a,b].map fS)=if xR b.eK a.eK=true then [fS b,fS a]else [fS a,fS b]:=rfl
  rw[e1]
  split
  ·exact(M5 now (x:=fS a) (y:=fS b) dF).symm
  ·rfl
 ·simp only[List.length_cons]at hl;omega
def uq (r:nS) (c:qQ) (k:Key) (now:Int):gU×Int:=
 if M0 r now=true then(gk r c (xP k.l jZ) now now (s2 (c.aj.map fS)) (Dr c.aj) (Bu now (c.aj.map fS)) (GU k.l jZ).fv,0)else(Fo,1)
theorem aeo {r:nS} (hl:um r.load) (hs:um r.lq) {c:qQ} (h:tp c) (k:Key) (now:Int):
  a8 Pg I.fA [dE r,gC c,aW k,.int .i64 now] (.tup [kO (uq r c k now).1,.int .i64 (uq r c k now).2]):=by
 cases cY:M0 r now
 ·have:=Rs hl hs c k cY
  simpa[uq,cY]using this
 ·have:=akn hl hs h k cY
  simpa[uq,cY]using this
theorem aep {r:nS} (hl:um r.load) (hs:um r.lq) {c:qQ} (h:tp c) (k:Key) (now:Int):
  a8 Pg I.jn [dE r,gC c,aW k,.int .i64 now] (.tup [kO (uq r c k now).1,.int .i64 (uq r c k now).2]):=by
 cases cY:M0 r now
 ·have:=Rw hl hs c k cY
  simpa[uq,cY]using this
 ·have:=ako hl hs h k cY
  rw[WX h.len h.dis,WY now h.len h.dis]at this
  simpa[uq,cY]using this
end Go.Ab
end Z14s
noncomputable section Z15s
namespace Go.Ab
open Go.Ab
theorem aeq {l:List UInt8} (hl:l.length≤9223372036854775807) {n:Nat} (hn:n≤1000000):af Pg I.gD [eY l,.int .i64 n] [] (λr fp=>r= .pt KB [] 0∧fp=[.box (hH ⟨l.take n,0⟩)]):=by
 refine af.intro T.gD (by simp[F.gD]) ?_
 simp[F.gD,ai,aG]
 have pv:(min (l.length:Int) (n:Int))=((min l.length n:Nat):Int):=by omega
 have ht:(List.map u8 l).take (min l.length n)=(l.take n).map u8:=by
  rw[←List.map_take];congr 1
  rcases Nat.le_total l.length n with h|h
  ·rw[Nat.min_eq_left h,List.take_length,tJ h]
  ·rw[Nat.min_eq_right h]
 simp(disch:=omega) [eY,pv,ht]
 refine⟨by omega,?_⟩
 refine aC.with [] [12] ?_
 simp[ah,ab,ae,aM,az,aO]
 simp[hH,eY]
theorem aer {c:qQ} (h:tp c):a8 Pg I.kb [gC c] (gC c):=by
 refine af.intro T.kb (by simp[F.kb]) ?_
 have qU:=h.len
 have lS:aB (c.aj.map dT):=Fi _
 have qV:Bm Pg I.bq [.sl 85 (c.aj.map dT) false] 85 (c.aj.map dT):=uj (bytes:=136) T.bq (by omega) lS (by simp;omega) (by omega)
 simp[F.kb,ai,aG,jA]
 refine al.own 6 qV (by simp) (by simp[lS]) lS (by simp) ?_
 simp[AI]
 refine gR.iw c.aj.length (λ_=>True) [1,2,9,10,11] (λi=>[(11,.int .i64 i)]) (λi=>[]) [.keep [1,2,9,10,11]] ?_
 simp
 refine⟨λi hi K hK=> ?_,λK=> ?_⟩
 ·have hx:c.aj[i]? =some c.aj[i]:=gJ hi
  have pH:=(h.pc _ (List.getElem_mem hi)).len
  have hcp:a8 Pg I.bU [jt c.aj[i].allowed] (jt c.aj[i].allowed):=JT (bytes:=32) T.bU (by omega) (vy _) (by simp;omega) (by omega)
  have my:(c.aj.map dT).set i (dT c.aj[i])=c.aj.map dT:=Dd dT c.aj i hi
  have hw:IntKind.i64.wrap ((i:Int)+1)=(i:Int)+1:=wrap_i64 (by omega)
  have nq:(i:Int)<c.aj.length:=by omega
  generalize c.aj[i]=p at*
  have e5:vM p (jt p.allowed)=dT p:=rfl
  simp[↓an,hx,hi,nq,-getElem?_pos]
  refine aU.ret hcp (by simp) (by simp) (by simp) ?_
  simp[hw,hx,hi,e5,my,-getElem?_pos]
  refine⟨[.keep [1,2,9,10,11]],?_⟩
  simp
  exact hK _ (by simp)
 ·have nX:PV.st 34 [aW c.pD,.int .i64 c.port,.sl 85 (c.aj.map dT) false]=gC c:=rfl
  simp[↓an]
  refine aC.plain [.keep [2],.fz 6] ?_
  simp[lS.refs,nX]
def Pz:PV:= .ar 1 32 (zr 32 (.int .u8 0))
def mU (r:nS) (c:qQ) (k:Key) (lo hi:Int):PV:= .st 264 [.int .i64 4,kO Fo,dE r,gC c,aW k,.int .i64 lo,.int .i64 hi,.int .i64 0,.st 2 [.sl 1 [] false,.bl false],.sl 1 [] false,.sl 1 [] false,Pz]
@[simp] theorem WZ (r:nS) (c:qQ) (k:Key) (lo hi:Int):Pure (mU r c k lo hi):=by simp[mU,Pz]
@[simp] theorem aes (r:nS) (c:qQ) (k:Key) (lo hi:Int):wk (mU r c k lo hi)=mU r c k lo hi:=by simp[mU,Pz]
@[simp↓] theorem aaw (g:Bool) (r:nS) (c:qQ) (k:Key) (lo hi:Int) (K:PV->Prop):iv g (mU r c k lo hi) K=K (mU r c k lo hi):=_root_.id rfl
@[simp] theorem T0 (r:nS) (c:qQ) (k:Key) (lo hi:Int):(mU r c k lo hi).width=264:=_root_.id rfl
@[simp] theorem aax (r:nS) (c:qQ) (k:Key) (lo hi:Int):(mU r c k lo hi).isAgg=true:=_root_.id rfl
@[simp] theorem W4 (r:nS) (c:qQ) (k:Key) (lo hi:Int):(mU r c k lo hi).bG=true:=_root_.id rfl
theorem W5 {c:qQ} (h:tp c) (r:nS) (k:Key) (lo hi:Int):a8 Pg I.ju [dE r,gC c,aW k,.int .i64 lo,.int .i64 hi] (mU r c k lo hi):=by
 refine af.intro T.ju (by simp[F.ju]) ?_
 simp[F.ju,ai,aG]
 refine aU.ret (aer h) (by simp) (by simp) (by simp) ?_
 simp
 refine aC.plain [.keep [10],.wb 10] ?_
 simp
 rfl
theorem W6 (c:qQ) (r:nS) (k:Key) (lo hi:Int):a8 Pg I.dP [dE r,gC c,aW k,.int .i64 lo,.int .i64 hi] (mU r c k lo hi):=by
 refine af.intro T.dP (by simp[F.dP]) ?_
 simp[F.dP,ai,aG]
 refine aC.plain [.keep [10],.wb 10] ?_
 simp
 rfl
end Go.Ab
end Z15s

/- Installing a session keeps a made daemon valid. No condition. -/
import Derived.Test.YtdfkcobijmbidaaGreatB4
set_option maxRecDepth 10000
set_option linter.all false
noncomputable section G6s
namespace Go.Ab
open Go.Ab
def Ny:PV:= .sl 86 [] true
@[simp] theorem abK:Pure Ny:=by simp[Ny]
@[simp] theorem Yb:Ny.width=1:=rfl
def Ci (d:bU) (p:PV):PV:= .st 149 [bO d p,Ny]
@[simp↓] theorem afB (d:bU) (p:PV) (r:List Step):aQ (Ci d p) (.f 0 0::r)=aQ (bO d p) r:=by simp[Ci]
def NA (c:PV):PV:= .st 149 [c,Ny]
@[simp↓] theorem afC (d:bU) (p:PV) (r:List Step) (x:PV):dD (Ci d p) (.f 0 0::r) x=(dD (bO d p) r x).bind λc=>some (NA c):=by
 simp[Ci,NA]
@[simp↓] theorem anM (d:bU) (p:PV):NA (bO d p)=Ci d p:=_root_.id rfl
@[simp] theorem afD (f:Nat->Bool) (d:bU) (p:PV):ab f (Ci d p)=ab f p:=by
 simp[Ci,ae]
@[simp] theorem anN (ρ:Nat->Nat) (d:bU) (p:PV):aF ρ (Ci d p)=Ci d (aF ρ p):=by
 simp[Ci,aK]
theorem Vb (d:bU) (p:PV):PV.st 149 [bO d p,.sl 86 [] true]=Ci d p:=rfl
def pY (d:bU) (s:List ja):bU:= {d with aM:=s}
def xS (d:bU) (s:List fS):bU:= {d with timers:=s}
@[simp] theorem abL (d:bU) (s:List ja):(pY d s).aM=s:=rfl
@[simp] theorem aqi (d:bU) (s t:List ja):pY (pY d s) t=pY d t:=rfl
def eT (s:List ja) (l:List Int):List ja:=l.foldl (λs x=>s.filter (K7 x)) s
theorem lg:∀(l:List Int) (s:List ja),(eT s l).length≤s.length
 |[],s=>Nat.le_refl _
 |x::l,s=>Nat.le_trans (lg l _) (List.length_filter_le _ _)
theorem u7 {s:List ja} {l:List Int} {i:Nat} (h:i<l.length):eT s (l.take (i+1))=(eT s (l.take i)).filter (K7 l[i]):=by
 rw[List.take_succ_eq_append_getElem h];unfold eT;rw[List.foldl_append];rfl
theorem u9 {d:bU} (hs:d.aM.length≤1048576) {l:List Int} (hl:l.length≤8) (ps:List dC):
  ah Pg I.aZ [.pt KB [] 0,nI l] [.box (Ci d (.rs (KB+1) [] 0 ps.length ps.length 464 .tip)),.arr 464 (ps.map aP)]
   (λr fp=>r= .tup []∧fp=[.box (Ci (pY d (eT d.aM l)) (.rs (KB+1) [] 0 ps.length ps.length 464 .tip)),.arr 464 (ps.map aP)]):=by
 refine ah.intro T.aZ (by simp[F.aZ]) ?_
 simp[F.aZ,au,aG]
 refine jx.kl l.length (λ_=>True) [0,6,7,8] (λi=>[(8,.int .i64 i)]) (λi=>[(KB,.box (Ci (pY d (eT d.aM (l.take i))) (.rs (KB+1) [] 0 ps.length ps.length 464 .tip)))]) [.keep [0,6,7,8]] ?_
 simp[show∀s,eT s []=s from λ_=>rfl,show pY d d.aM=d from rfl]
 refine⟨λi hi K hK=> ?_,λK=> ?_⟩
 ·have hx:l[i]? =some l[i]:=gJ hi
  rw[u7 hi]at hK
  have hle:=lg (l.take i) d.aM
  generalize eT d.aM (l.take i)=S at*
  simp[↓aA,hi]
  refine al.ret (FA (l:=S) (by omega) l[i]) (by simp) (by simp) (by simp) ?_
  simp[fV hi (by omega)]
  refine⟨[.keep [0,6,7,8]],?_⟩
  simp
  exact hK _ (by simp[pY])
 ·simp[↓aA]
  refine aL.with [] [KB,KB+1] ?_
  simp[fa]
theorem xv {d:bU} (ht:d.timers.length≤1048575) {ps:List dC} {i:Nat} (hi:i<ps.length) (k:Int) {n:Int} (h1:0≤d.now) (h2:d.now≤16777216) (h3:0≤n) (h4:n≤16777216):
  ah Pg I.aX [.pt KB [] 0,.int .i64 i,.int .i64 k,.int .i64 n] [.box (Ci d (.rs (KB+1) [] 0 ps.length ps.length 464 .tip)),.arr 464 (ps.map aP)]
   (λr fp=>r= .tup []∧fp=[.box (Ci (xS d (lT d.timers ⟨d.now+n,ps[i].gF,k⟩)) (.rs (KB+1) [] 0 ps.length ps.length 464 .tip)),.arr 464 (ps.map aP)]):=by
 refine ah.intro T.aX (by simp[F.aX]) ?_
 have hx:ps[i]? =some ps[i]:=gJ hi
 have hw:IntKind.i64.wrap (d.now+n)=d.now+n:=wrap_i64 (by omega)
 have e:PV.st 34 [.int .i64 (d.now+n),ey ps[i].gF,.int .i64 k]=bY ⟨d.now+n,ps[i].gF,k⟩:=rfl
 simp[F.aX,au,aG,hi,hw,e]
 refine a8.ret (db (l:=d.timers) ht ⟨d.now+n,ps[i].gF,k⟩) (by simp) (by simp) (by simp) ?_
 simp
 refine aL.with [] [KB,KB+1] ?_
 simp[fa,xS]
end Go.Ab
end G6s
noncomputable section G7s
namespace Go.Ab
open Go.Ab
theorem VD.sml {d:bU} (h:VD d):RJ d where
 aj:=by have:=h.Gf.1;omega
 bD:=by have:=h.Ya.1;omega
 aM:=by have:=h.sls.len h.Gf.1;omega
 timers:=by have:=h.tis.len;omega
 cN:=by rw[h.rcn];simp
 buckets:=by rw[h.buc];simp
 bk:=λp hp=>by rw[(h.xR p hp).bk];simp
def sT (r:lB) (s:jt) (own:Bool):lB:=if own=true then tC r s else Nm r s
def kh (r:lB) (own:Bool):List Int:=if own=true then qI r else FC r
def pR (p:dC) (r:lB):dC:= {p with ring:=r}
def lD (d:bU) (i:Nat) (hi:i<d.aj.length) (s:jt) (own:Bool):bU:=
 {d with aj:=d.aj.set i (pR d.aj[i] (sT d.aj[i].ring s own)),aM:=qX (eT d.aM (kh d.aj[i].ring own)) ⟨s.loc,nn i,true⟩,timers:=lT d.timers ⟨d.now+3*d.rules.mM,nn i,5⟩}
theorem Cj (r:lB) (own:Bool):(kh r own).length≤8:=by
 unfold kh qI FC
 split
 ·split
  ·exact Nat.le_trans (Ax _) (by simp)
  ·exact Nat.le_trans (Ax _) (by simp)
 ·exact Nat.le_trans (Ax _) (by simp)
theorem rL {x:ja}:∀ {l:List Int} {s:List ja},x∈eT s l->x∈s
 |[],s,h=>h
 |y::l,s,h=>(List.mem_filter.1 (rL (l:=l) h)).1
end Go.Ab
end G7s
namespace Go.Ab
open Go.Ab
theorem Ck {l:List ja}:qT l↔(∀s∈l,s.index≠0)∧l.Pairwise (λa b=>a.index<b.index):=by
 constructor
 ·intro h
  refine⟨λs hs=> ?_,List.pairwise_iff_getElem.2 (λi j hi hj Lb=>h.lt' Lb hj)⟩
  obtain⟨i,hi,rfl⟩:=List.mem_iff_getElem.1 hs
  exact h.1 i hi
 ·rintro⟨h1,h2⟩
  exact⟨λi hi=>h1 _ (List.getElem_mem hi),λi hi=>List.pairwise_iff_getElem.1 h2 i (i+1) (by omega) hi (by omega)⟩
theorem NB (s:ja):qX [] s=[s]:=rfl
theorem Cl (a:ja) (l:List ja) (s:ja):qX (a::l) s=if a.index<s.index then a::qX l s else s::a::l:=by
 unfold qX
 by_cases h:a.index<s.index<;>simp[ir,h]
theorem pZ (s:ja):∀l,(qX l s).Perm (s::l)
 |[]=> .refl _
 |
  a::l=>by
  rw[Cl];split
  ·exact((pZ s l).cons a).trans (.swap s a l)
  ·exact .refl _
theorem Cm {s:ja}:∀ {l:List ja},l.Pairwise (λa b=>a.index<b.index)->(∀x∈l,x.index≠s.index)->(qX l s).Pairwise (λa b=>a.index<b.index)
 |[],_,_=>by simp[NB]
 |
  a::l,h,hn=>by
  obtain⟨h1,h2⟩:=List.pairwise_cons.1 h
  have hna:=hn a (by simp)
  rw[Cl];split
  ·rename_i fZ
   refine List.pairwise_cons.2 ⟨λx hx=> ?_,Cm h2 (λx hx=>hn x (by simp[hx]))⟩
   rcases List.mem_cons.1 ((pZ s l).mem_iff.1 hx)with rfl|hx
   ·exact fZ
   ·exact h1 x hx
  ·rename_i fZ
   refine List.pairwise_cons.2 ⟨λx hx=> ?_,h⟩
   rcases List.mem_cons.1 hx with rfl|hx
   ·omega
   ·have:=h1 x hx;omega
theorem tD:∀(l:List Int) (s:List ja),eT s l=s.filter (λx=>decide (x.index∉l))
 |
  [],s=>by
  have:s.filter (λx=>decide (x.index∉([]:List Int)))=s:=List.filter_eq_self.2 (by simp)
  rw[this];rfl
 |
  y::l,s=>by
  have h:eT s (y::l)=eT (s.filter (K7 y)) l:=rfl
  rw[h,tD l,List.filter_filter]
  congr 1;funext x
  by_cases h1:x.index=y<;>by_cases h2:x.index∈l<;>simp[K7,h1,h2]
theorem Hs (r:lB) (s:jt) (own:Bool) (h:(Bs r).Nodup):
  (Bs (sT r s own)).Perm (s.loc::(Bs r).filter (λx=>decide (x∉kh r own))):=by
 obtain⟨⟨ph,ps⟩,⟨ch,cs⟩,⟨nh,ns⟩⟩:=r
 cases own<;>cases ph<;>cases ch<;>cases nh<;>
  simp_all [Bs,DB,sT,kh,tC,qI,Nm,FC,RN,pU,List.filter_cons]<;>
  first
   |exact List.Perm.swap _ _ _
   |(rw[if_neg (λe=>h e.symm)];exact List.Perm.swap _ _ _)
   |(rw[if_neg (λe=>h.1.1 e.symm)];exact List.Perm.swap _ _ _)
   |(rw[if_pos ⟨λe=>h.1.2 e.symm,λe=>h.2 e.symm⟩];exact List.Perm.swap _ _ _)
theorem Ht {r:lB} {own:Bool} {x:Int} (h:x∈kh r own):x∈Bs r:=by
 obtain⟨⟨ph,ps⟩,⟨ch,cs⟩,⟨nh,ns⟩⟩:=r
 cases own<;>cases ph<;>cases ch<;>cases nh<;>
  simp_all [Bs,DB,kh,qI,FC]<;>first|done|(rcases h with h|h<;>simp[h])
theorem NC {α:Type} {l:List α} {i:Nat} (h:i<l.length):l=l.take i++l[i]::l.drop (i+1):=by
 rw[←List.drop_eq_getElem_cons h,List.take_append_drop]
theorem Kq {α:Type} {l:List α} {i:Nat} (h:i<l.length) (x:α):l.set i x=l.take i++x::l.drop (i+1):=by
 rw[List.set_eq_take_append_cons_drop,if_pos h]
theorem RT (p:dC) (r:lB):pW (pR p r)=(Bs r).map (λx=>⟨x,p.gF,true⟩):=rfl
theorem pX.inst {d:bU} (h:pX d) {i:Nat} (hi:i<d.aj.length) (hk:d.aj[i].gF=nn i) {s:jt} (h1:1≤s.loc) (nr:∀x∈d.aM,x.index≠s.loc) (own:Bool):pX (lD d i hi s own):=by
 obtain⟨xz,xW⟩:=Ck.1 h.so
 have yM:=h.nd
 have vz:=h.pm
 have hE:eT d.aM (kh d.aj[i].ring own)=d.aM.filter (λx=>decide (x.index∉kh d.aj[i].ring own)):=tD _ _
 constructor
 ·show qT (qX (eT d.aM (kh d.aj[i].ring own)) ⟨s.loc,nn i,true⟩)
  rw[Ck,hE]
  refine⟨λx hx=> ?_,Cm (xW.filter _) (λx hx=>nr x (List.mem_filter.1 hx).1)⟩
  rcases List.mem_cons.1 ((pZ _ _).mem_iff.1 hx)with rfl|hx
  ·show s.loc≠0;omega
  ·exact xz x (List.mem_filter.1 hx).1
 ·show(qX (eT d.aM (kh d.aj[i].ring own)) ⟨s.loc,nn i,true⟩).Perm ((d.aj.set i (pR d.aj[i] (sT d.aj[i].ring s own))).flatMap pW)
  rw[hE]
  refine(pZ _ _).trans ?_
  rw[Kq hi,List.flatMap_append,List.flatMap_cons,RT]
  have vE:=NC hi
  obtain⟨A,hA⟩:∃A,A=d.aj.take i:=⟨_,rfl⟩
  obtain⟨B,hB⟩:∃B,B=d.aj.drop (i+1):=⟨_,rfl⟩
  obtain⟨p,hp⟩:∃p,p=d.aj[i]:=⟨_,rfl⟩
  rw[←hA,←hB,←hp]at vE
  rw[←hA,←hB,←hp]
  rw[←hp]at hk
  rw[vE,List.flatMap_append,List.flatMap_cons]at vz yM
  have CH:=List.nodup_append.1 yM
  have OQ:=List.nodup_append.1 CH.2.1
  have hI:=Hs p.ring s own OQ.1
  have hf:=vz.filter (λx=>decide (x.index∉kh p.ring own))
  have key:∀ {l:List dC},(∀q∈l,∀x∈Bs q.ring,x∉Bs p.ring)->(l.flatMap pW).filter (λx=>decide (x.index∉kh p.ring own))=l.flatMap pW:=by
   intro l hl
   refine List.filter_eq_self.2 (λx hx=> ?_)
   obtain⟨q,hq,hx⟩:=List.mem_flatMap.1 hx
   obtain⟨y,hy,rfl⟩:=List.mem_map.1 hx
   simp only[decide_eq_true_eq]
   exact λhd=>hl q hq y hy (Ht hd)
  have kA:=key (l:=A) (λq hq x hx Zr=>CH.2.2 x (List.mem_flatMap.2 ⟨q,hq,hx⟩) x (List.mem_append.2 (.inl Zr)) rfl)
  have kB:=key (l:=B) (λq hq x hx Zr=>OQ.2.2 x Zr x (List.mem_flatMap.2 ⟨q,hq,hx⟩) rfl)
  have kp:(pW p).filter (λx=>decide (x.index∉kh p.ring own))=((Bs p.ring).filter (λx=>decide (x∉kh p.ring own))).map (λx=>⟨x,p.gF,true⟩):=by
   unfold pW;rw[List.filter_map];rfl
  rw[List.filter_append,List.filter_append,kA,kB,kp]at hf
  have hI2:=hI.map (λx=>(⟨x,p.gF,true⟩:ja))
  refine((hf.cons _).trans ?_)
  refine List.Perm.trans ?_ ((hI2.symm.append_right _).append_left _)
  rw[List.map_cons,hk,List.cons_append]
  exact List.perm_middle.symm
end Go.Ab
noncomputable section G9s
namespace Go.Ab
open Go.Ab
def Tok (t:fS):Prop:=∃i,i<3∧t.peer=nn i
theorem p7 {a b:fS} {i j:Nat} (hi:i<3) (hj:j<3) (ha:a.peer=nn i) (hb:b.peer=nn j):
  iI a b=true↔a.at_<b.at_∨a.at_=b.at_∧(i<j∨i=j∧a.kind<b.kind):=by
 unfold iI
 by_cases h1:a.at_=b.at_
 ·by_cases h2:i=j
  ·subst h2
   have:a.peer=b.peer:=by rw[ha,hb]
   simp[h1,this]
  ·have h3:¬a.peer=b.peer:=by rw[ha,hb];exact λe=>h2 (u6 hi hj e)
   rcases Nat.lt_or_gt_of_ne h2 with h4|h4
   ·have:=Nr h4 hj
    simp[h1,ha,hb,this,h4]
    exact Or.inl (λe=>h2 (u6 hi hj e))
   ·have h5:RL (nn i) (nn j)=false:=by
     rcases(by omega:i=1∧j=0∨i=2∧j=0∨i=2∧j=1)with⟨rfl,rfl⟩|⟨rfl,rfl⟩|⟨rfl,rfl⟩<;>rfl
    have h6:¬i<j:=by omega
    simp[h1,ha,hb,h5,h6,h2]
    intro e;exact absurd (u6 hi hj e) h2
 ·simp[h1]
def Bt (t:fS):List fS->List fS
 |[]=>[t]
 |x::r=>if iI t x=true then t::x::r else x::Bt t r
theorem RU (l:List fS) (t:fS):lT l t=Bt t (dv l t.peer t.kind):=by
 have:∀r:List fS,r.take (iV t r)++[t]++r.drop (iV t r)=Bt t r:=by
  intro r
  induction r with
  |nil=>rfl
  |
   cons x r ih=>
   by_cases h:iI t x=true
   ·simp[iV,Bt,h]
   ·simp[iV,Bt,h]at ih⊢
    exact ih
 exact this _
theorem wH (t:fS):∀l,(Bt t l).Perm (t::l)
 |[]=> .refl _
 |
  x::l=>by
  simp only[Bt];split
  ·exact .refl _
  ·exact((wH t l).cons x).trans (.swap t x l)
theorem Cn {t:fS} (ht:Tok t):∀ {l:List fS},(∀x∈l,Tok x)->(∀x∈l,¬(x.peer=t.peer∧x.kind=t.kind))->l.Pairwise (λa b=>iI a b=true)->(Bt t l).Pairwise (λa b=>iI a b=true)
 |[],_,_,_=>by simp[Bt]
 |
  x::l,hT,hn,h=>by
  obtain⟨h1,h2⟩:=List.pairwise_cons.1 h
  obtain⟨i,hi,SN⟩:=ht
  obtain⟨j,hj,hxj⟩:=hT x (by simp)
  have hxn:=hn x (by simp)
  simp only[Bt];split
  ·rename_i fZ
   refine List.pairwise_cons.2 ⟨λy hy=> ?_,h⟩
   rcases List.mem_cons.1 hy with rfl|hy
   ·exact fZ
   ·obtain⟨k,hk,SW⟩:=hT y (by simp[hy])
    have:=h1 y hy
    rw[p7 hj hk hxj SW]at this
    rw[p7 hi hj SN hxj]at fZ
    rw[p7 hi hk SN SW]
    omega
  ·rename_i fZ
   refine List.pairwise_cons.2 ⟨λy hy=> ?_,Cn ⟨i,hi,SN⟩ (λz hz=>hT z (by simp[hz])) (λz hz=>hn z (by simp[hz])) h2⟩
   rcases List.mem_cons.1 ((wH t l).mem_iff.1 hy)with rfl|hy
   ·rw[p7 hi hj SN hxj]at fZ
    rw[p7 hj hi hxj SN]
    have fc:¬(j=i∧x.kind=y.kind):=λe=>hxn ⟨by rw[hxj,SN,e.1],e.2⟩
    omega
   ·exact h1 y hy
structure mB (d:bU) (l:List fS) (m:Nat):Prop where
 so:l.Pairwise (λa b=>iI a b=true)
 rg:∀t∈l,2≤t.kind∧t.kind≤5∧d.now<t.at_∧t.at_≤4398046511104∧∃i,∃h:i<d.aj.length,t.peer=nn i∧(t.kind=4->d.aj[i].pq≠0)
 un:l.Pairwise (λa b=>¬(b.peer=a.peer∧b.kind=a.kind))
 len:l.length≤m
theorem mB.toT {d:bU} {m:Nat} (hm:m≤1000) (h:mB d d.timers m):Nt d where
 so:=λi hi=>List.pairwise_iff_getElem.1 h.so i (i+1) (by omega) hi (by omega)
 rg:=h.rg
 un:=λi j hi hj Lb=>List.pairwise_iff_getElem.1 h.un i j hi hj Lb
 len:=Nat.le_trans h.len hm
theorem FF {l:List fS} {k:Key} {n:Int} {x:fS} (h:x∈dv l k n):x∈l∧¬(x.peer=k∧x.kind=n):=by
 obtain⟨h1,h2⟩:=List.mem_filter.1 h
 refine⟨h1,λe=> ?_⟩
 simp[rG,e.1,e.2]at h2
theorem mB.set {d:bU} {l:List fS} {m:Nat} (h:mB d l m) (hp:d.aj.length≤3) {t:fS} (k1:2≤t.kind) (k2:t.kind≤5) (a1:d.now<t.at_) (a2:t.at_≤4398046511104) {i:Nat} (hi:i<d.aj.length) (ht:t.peer=nn i) (h4:t.kind=4->d.aj[i].pq≠0):mB d (lT l t) (m+1):=by
 have au2:∀x∈l,Tok x:=λx hx=>by obtain⟨_,_,_,_,j,hj,e,_⟩:=h.rg x hx;exact⟨j,by omega,e⟩
 have Eb:Tok t:=⟨i,by omega,ht⟩
 rw[RU]
 have hc:∀x∈dv l t.peer t.kind,x∈l∧¬(x.peer=t.peer∧x.kind=t.kind):=λx hx=>FF hx
 have OR:=wH t (dv l t.peer t.kind)
 constructor
 ·exact Cn Eb (λx hx=>au2 x (hc x hx).1) (λx hx=>(hc x hx).2) (h.so.filter _)
 ·intro x hx
  rcases List.mem_cons.1 (OR.mem_iff.1 hx)with rfl|hx
  ·exact⟨k1,k2,a1,a2,i,hi,ht,h4⟩
  ·exact h.rg x (hc x hx).1
 ·have au3:∀ {a b:fS},¬(b.peer=a.peer∧b.kind=a.kind)->¬(a.peer=b.peer∧a.kind=b.kind):=λhn e=>hn ⟨e.1.symm,e.2.symm⟩
  refine(OR.pairwise_iff au3).2 (List.pairwise_cons.2 ⟨λx hx=>(hc x hx).2,h.un.filter _⟩)
 ·rw[OR.length_eq,List.length_cons]
  have:(dv l t.peer t.kind).length≤l.length:=List.length_filter_le _ _
  have:=h.len
  omega
structure VM (d:bU) (m:Nat):Prop where
 vd:VD d
 ti:mB d d.timers m
theorem u4.of {d e:bU} (hn:e.now=d.now) (hr:e.rules=d.rules) {s:jt} (h:u4 d s):u4 e s:=by
 obtain⟨h1,h2,h3,h4,h5,h6⟩:=h
 exact⟨h1,by rw[hn];exact h2,by rw[hr];exact h3,h4,h5,h6⟩
theorem kV.of {d e:bU} (hn:e.now=d.now) (hr:e.rules=d.rules) {s:oC} (h:kV d s):kV e s:=by
 rcases h with⟨h1,h2⟩|h
 ·exact Or.inl ⟨h1,h2.of hn hr⟩
 ·exact Or.inr h
theorem kV.z (d:bU):kV d pU:=Or.inr ⟨rfl,rfl⟩
theorem kV.RN {d:bU} {p:oC} (h:kV d p):kV d (RN p):=by
 unfold Ab.RN;split
 ·exact h
 ·exact .z d
theorem lU.of {d e:bU} (hn:e.now=d.now) (hr:e.rules=d.rules) {p:dC} (h:lU d p):lU e p:=by
 obtain⟨h1,h2,h3,h4,h5,h6,h7,h8,h9,h10,h11,h12⟩:=h
 exact⟨h1,h2,h3,h4,h5,h6,h7,h8,h9,h10.of hn hr,h11.of hn hr,h12.of hn hr⟩
theorem lU.pR {d:bU} {p:dC} (h:lU d p) {r:lB} (h1:kV d r.p) (h2:kV d r.c) (h3:kV d r.n):lU d (pR p r):=by
 obtain⟨g1,g2,g3,g4,g5,g6,g7,g8,g9,g10,g11,g12⟩:=h
 exact⟨g1,g2,g3,g4,g5,g6,g7,g8,g9,h1,h2,h3⟩
theorem ND {d:bU} {p:dC} (h:lU d p) {s:jt} (hs:u4 d s) (own:Bool):kV d (sT p.ring s own).p∧kV d (sT p.ring s own).c∧kV d (sT p.ring s own).n:=by
 have AT:kV d ⟨true,s⟩:=Or.inl ⟨rfl,hs⟩
 unfold sT;split
 ·unfold tC;split
  ·exact⟨h.rn,AT,.z d⟩
  ·exact⟨h.rc.RN,AT,.z d⟩
 ·exact⟨.z d,h.rc,AT⟩
theorem VM.inst {d:bU} {m:Nat} (h:VM d m) (hm:m≤999) {i:Nat} (hi:i<d.aj.length) {s:jt} (hs:u4 d s) (h1:1≤s.loc) (nr:∀x∈d.aM,x.index≠s.loc) (own:Bool):VM (lD d i hi s own) (m+1):=by
 obtain⟨v,t⟩:=h
 have qZ:=v.Gf.1
 have CF:d.aj[i].gF=nn i:=v.Gf.2 i hi
 have hlen:(lD d i hi s own).aj.length=d.aj.length:=List.length_set
 have KY:=ND (v.xR _ (List.getElem_mem hi)) hs own
 obtain⟨q1,q2,q3,q4,q5,q6,q7,q8,q9,q10,q11,_⟩:=v.ru
 have KR:=v.n0
 have CH:=v.n1
 have eH:∀(j:Nat) (hj:j<d.aj.length) (Zp:j<(lD d i hi s own).aj.length),(lD d i hi s own).aj[j].gF=d.aj[j].gF∧(lD d i hi s own).aj[j].pq=d.aj[j].pq:=by
  intro j hj Zp
  simp only[lD,List.getElem_set]
  split
  ·rename_i e;subst e;exact⟨rfl,rfl⟩
  ·exact⟨rfl,rfl⟩
 have ht0:=t.set qZ (t:=⟨d.now+3*d.rules.mM,nn i,5⟩) (by show(2:Int)≤5;omega) (by show(5:Int)≤5;omega) (by show d.now<d.now+3*d.rules.mM;omega) (by show d.now+3*d.rules.mM≤4398046511104;omega) hi rfl (λe=>absurd e (by show¬(5:Int)=4;omega))
 have ht1:mB (lD d i hi s own) (lD d i hi s own).timers (m+1):=by
  obtain⟨a,b,c,e⟩:=ht0
  refine⟨a,λx hx=> ?_,c,e⟩
  obtain⟨r1,r2,r3,r4,j,hj,r5,r6⟩:=b x hx
  exact⟨r1,r2,r3,r4,j,by rw[hlen];exact hj,r5,λhk=>by rw[(eH j hj _).2];exact r6 hk⟩
 refine⟨?_,ht1⟩
 constructor
 ·exact v.ru
 ·exact v.n0
 ·exact v.n1
 ·exact v.p0
 ·exact v.p1
 ·exact v.bad
 ·refine⟨by rw[hlen];exact qZ,λj hj=> ?_⟩
  rw[(eH j (by rw[hlen]at hj;exact hj) hj).1]
  exact v.Gf.2 j _
 ·intro p hp
  have hp':p∈d.aj.set i (Ab.pR d.aj[i] (sT d.aj[i].ring s own)):=hp
  refine lU.of (d:=d) (e:=lD d i hi s own) rfl rfl ?_
  rcases List.mem_or_eq_of_mem_set hp' with hp|rfl
  ·exact v.xR p hp
  ·exact(v.xR _ (List.getElem_mem hi)).pR KY.1 KY.2.1 KY.2.2
 ·exact v.Ya
 ·rw[hlen];exact v.rtl
 ·exact v.sls.inst hi CF h1 nr own
 ·exact ht1.toT (by omega)
 ·exact v.s0
 ·exact v.s1
 ·exact v.rcn
 ·exact v.buc
end Go.Ab
end G9s

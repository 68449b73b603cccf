/- Installing a session keeps a made daemon valid. No condition. -/
import Derived.Test.YtdfkcobijmbidaaGreatB4
set_option maxRecDepth 10000
set_option linter.all false
noncomputable section G6s
namespace Go.Ab
open Go.Ab
def OC:PV:= .sl 86 [] true
@[simp] theorem ade:Pure OC:=by simp[OC]
@[simp] theorem Y6:OC.width=1:=rfl
def C2 (d:bK) (p:PV):PV:= .st 149 [br d p,OC]
@[simp↓] theorem ahb (d:bK) (p:PV) (r:List Step):aQ (C2 d p) (.f 0 0::r)=aQ (br d p) r:=by simp[C2]
def OD (c:PV):PV:= .st 149 [c,OC]
@[simp↓] theorem ahc (d:bK) (p:PV) (r:List Step) (x:PV):di (C2 d p) (.f 0 0::r) x=(di (br d p) r x).bind λc=>some (OD c):=by
 simp[C2,OD]
@[simp↓] theorem aps (d:bK) (p:PV):OD (br d p)=C2 d p:=_root_.id rfl
@[simp] theorem ahd (f:Nat->Bool) (d:bK) (p:PV):ab f (C2 d p)=ab f p:=by
 simp[C2,ae]
@[simp] theorem apt (ρ:Nat->Nat) (d:bK) (p:PV):aI ρ (C2 d p)=C2 d (aI ρ p):=by
 simp[C2,aO]
theorem V7 (d:bK) (p:PV):PV.st 149 [br d p,.sl 86 [] true]=C2 d p:=rfl
def qL (d:bK) (s:List iK):bK:= {d with aD:=s}
def yW (d:bK) (s:List fX):bK:= {d with timers:=s}
@[simp] theorem adf (d:bK) (s:List iK):(qL d s).aD=s:=rfl
@[simp] theorem arZ (d:bK) (s t:List iK):qL (qL d s) t=qL d t:=rfl
def fh (s:List iK) (l:List Int):List iK:=l.foldl (λs x=>s.filter (L8 x)) s
theorem lR:∀(l:List Int) (s:List iK),(fh s l).length≤s.length
 |[],s=>Nat.le_refl _
 |x::l,s=>Nat.le_trans (lR l _) (List.length_filter_le _ _)
theorem vY {s:List iK} {l:List Int} {i:Nat} (h:i<l.length):fh s (l.take (i+1))=(fh s (l.take i)).filter (L8 l[i]):=by
 rw[List.take_succ_eq_append_getElem h];unfold fh;rw[List.foldl_append];rfl
theorem vZ {d:bK} (hs:d.aD.length≤1048576) {l:List Int} (hl:l.length≤8) (ps:List dC):
  af Pg I.bg [.pt KB [] 0,oq l] [.box (C2 d (.rs (KB+1) [] 0 ps.length ps.length 464 .tip)),.arr 464 (ps.map aC)]
   (λr fp=>r= .tup []∧fp=[.box (C2 (qL d (fh d.aD l)) (.rs (KB+1) [] 0 ps.length ps.length 464 .tip)),.arr 464 (ps.map aC)]):=by
 refine af.intro T.bg (by simp[F.bg]) ?_
 simp[F.bg,an,aG]
 refine jh.jY l.length (λ_=>True) [0,6,7,8] (λi=>[(8,.int .i64 i)]) (λi=>[(KB,.box (C2 (qL d (fh d.aD (l.take i))) (.rs (KB+1) [] 0 ps.length ps.length 464 .tip)))]) [.keep [0,6,7,8]] ?_
 simp[show∀s,fh s []=s from λ_=>rfl,show qL d d.aD=d from rfl]
 refine⟨λi hi K hK=> ?_,λK=> ?_⟩
 ·have hx:l[i]? =some l[i]:=gJ hi
  rw[vY hi]at hK
  have hle:=lR (l.take i) d.aD
  generalize fh d.aD (l.take i)=S at*
  simp[↓av,hi]
  refine al.ret (Gs (l:=S) (by omega) l[i]) (by simp) (by simp) (by simp) ?_
  simp[fG hi (by omega)]
  refine⟨[.keep [0,6,7,8]],?_⟩
  simp
  exact hK _ (by simp[qL])
 ·simp[↓av]
  refine aM.with [] [KB,KB+1] ?_
  simp[fx]
theorem yC {d:bK} (ht:d.timers.length≤1048575) {ps:List dC} {i:Nat} (hi:i<ps.length) (k:Int) {n:Int} (h1:0≤d.now) (h2:d.now≤16777216) (h3:0≤n) (h4:n≤16777216):
  af Pg I.ba [.pt KB [] 0,.int .i64 i,.int .i64 k,.int .i64 n] [.box (C2 d (.rs (KB+1) [] 0 ps.length ps.length 464 .tip)),.arr 464 (ps.map aC)]
   (λr fp=>r= .tup []∧fp=[.box (C2 (yW d (kX d.timers ⟨d.now+n,ps[i].gC,k⟩)) (.rs (KB+1) [] 0 ps.length ps.length 464 .tip)),.arr 464 (ps.map aC)]):=by
 refine af.intro T.ba (by simp[F.ba]) ?_
 have hx:ps[i]? =some ps[i]:=gJ hi
 have hw:IntKind.i64.wrap (d.now+n)=d.now+n:=wrap_i64 (by omega)
 have e:PV.st 34 [.int .i64 (d.now+n),eF ps[i].gC,.int .i64 k]=bU ⟨d.now+n,ps[i].gC,k⟩:=rfl
 simp[F.ba,an,aG,hi,hw,e]
 refine a0.ret (cu (l:=d.timers) ht ⟨d.now+n,ps[i].gC,k⟩) (by simp) (by simp) (by simp) ?_
 simp
 refine aM.with [] [KB,KB+1] ?_
 simp[fx,yW]
end Go.Ab
end G6s
noncomputable section G7s
namespace Go.Ab
open Go.Ab
theorem VD.sml {d:bK} (h:VD d):uo d where
 aj:=by have:=h.G5.1;omega
 bn:=by have:=h.Y5.1;omega
 aD:=by have:=h.sls.len h.G5.1;omega
 timers:=by have:=h.tis.len;omega
 bD:=by rw[h.rcn];simp
 buckets:=by rw[h.buc];simp
 aW:=λp hp=>by rw[(h.yV p hp).aW];simp
def tG (r:kN) (s:j9) (own:Bool):kN:=if own=true then ur r s else On r s
def kP (r:kN) (own:Bool):List Int:=if own=true then rF r else Gu r
def pR (p:dC) (r:kN):dC:= {p with ring:=r}
def mc (d:bK) (i:Nat) (hi:i<d.aj.length) (s:j9) (own:Bool):bK:=
 {d with aj:=d.aj.set i (pR d.aj[i] (tG d.aj[i].ring s own)),aD:=rR (fh d.aD (kP d.aj[i].ring own)) ⟨s.loc,nZ i,true⟩,timers:=kX d.timers ⟨d.now+3*d.rules.lQ,nZ i,5⟩}
theorem C3 (r:kN) (own:Bool):(kP r own).length≤8:=by
 unfold kP rF Gu
 split
 ·split
  ·exact Nat.le_trans (Bs _) (by simp)
  ·exact Nat.le_trans (Bs _) (by simp)
 ·exact Nat.le_trans (Bs _) (by simp)
theorem sA {x:iK}:∀ {l:List Int} {s:List iK},x∈fh s l->x∈s
 |[],s,h=>h
 |y::l,s,h=>(List.mem_filter.1 (sA (l:=l) h)).1
end Go.Ab
end G7s
namespace Go.Ab
open Go.Ab
theorem C4 {l:List iK}:rP l↔(∀s∈l,s.index≠0)∧l.Pairwise (λa b=>a.index<b.index):=by
 constructor
 ·intro h
  refine⟨λs hs=> ?_,List.pairwise_iff_getElem.2 (λi j hi hj Me=>h.lt' Me hj)⟩
  obtain⟨i,hi,rfl⟩:=List.mem_iff_getElem.1 hs
  exact h.1 i hi
 ·rintro⟨h1,h2⟩
  exact⟨λi hi=>h1 _ (List.getElem_mem hi),λi hi=>List.pairwise_iff_getElem.1 h2 i (i+1) (by omega) hi (by omega)⟩
theorem OE (s:iK):rR [] s=[s]:=rfl
theorem C5 (a:iK) (l:List iK) (s:iK):rR (a::l) s=if a.index<s.index then a::rR l s else s::a::l:=by
 unfold rR
 by_cases h:a.index<s.index<;>simp[iP,h]
theorem qM (s:iK):∀l,(rR l s).Perm (s::l)
 |[]=> .refl _
 |
  a::l=>by
  rw[C5];split
  ·exact((qM s l).cons a).trans (.swap s a l)
  ·exact .refl _
theorem C6 {s:iK}:∀ {l:List iK},l.Pairwise (λa b=>a.index<b.index)->(∀x∈l,x.index≠s.index)->(rR l s).Pairwise (λa b=>a.index<b.index)
 |[],_,_=>by simp[OE]
 |
  a::l,h,hn=>by
  obtain⟨h1,h2⟩:=List.pairwise_cons.1 h
  have hna:=hn a (by simp)
  rw[C5];split
  ·rename_i gG
   refine List.pairwise_cons.2 ⟨λx hx=> ?_,C6 h2 (λx hx=>hn x (by simp[hx]))⟩
   rcases List.mem_cons.1 ((qM s l).mem_iff.1 hx)with rfl|hx
   ·exact gG
   ·exact h1 x hx
  ·rename_i gG
   refine List.pairwise_cons.2 ⟨λx hx=> ?_,h⟩
   rcases List.mem_cons.1 hx with rfl|hx
   ·omega
   ·have:=h1 x hx;omega
theorem uu:∀(l:List Int) (s:List iK),fh s l=s.filter (λx=>decide (x.index∉l))
 |
  [],s=>by
  have:s.filter (λx=>decide (x.index∉([]:List Int)))=s:=List.filter_eq_self.2 (by simp)
  rw[this];rfl
 |
  y::l,s=>by
  have h:fh s (y::l)=fh (s.filter (L8 y)) l:=rfl
  rw[h,uu l,List.filter_filter]
  congr 1;funext x
  by_cases h1:x.index=y<;>by_cases h2:x.index∈l<;>simp[L8,h1,h2]
theorem Ij (r:kN) (s:j9) (own:Bool) (h:(Ci r).Nodup):
  (Ci (tG r s own)).Perm (s.loc::(Ci r).filter (λx=>decide (x∉kP r own))):=by
 obtain⟨⟨ph,ps⟩,⟨ch,cs⟩,⟨nh,ns⟩⟩:=r
 cases own<;>cases ph<;>cases ch<;>cases nh<;>
  simp_all [Ci,Eo,tG,kP,ur,rF,On,Gu,SH,qG,List.filter_cons]<;>
  first
   |exact List.Perm.swap _ _ _
   |(rw[if_neg (λe=>h e.symm)];exact List.Perm.swap _ _ _)
   |(rw[if_neg (λe=>h.1.1 e.symm)];exact List.Perm.swap _ _ _)
   |(rw[if_pos ⟨λe=>h.1.2 e.symm,λe=>h.2 e.symm⟩];exact List.Perm.swap _ _ _)
theorem Ik {r:kN} {own:Bool} {x:Int} (h:x∈kP r own):x∈Ci r:=by
 obtain⟨⟨ph,ps⟩,⟨ch,cs⟩,⟨nh,ns⟩⟩:=r
 cases own<;>cases ph<;>cases ch<;>cases nh<;>
  simp_all [Ci,Eo,kP,rF,Gu]<;>first|done|(rcases h with h|h<;>simp[h])
theorem OF {α:Type} {l:List α} {i:Nat} (h:i<l.length):l=l.take i++l[i]::l.drop (i+1):=by
 rw[←List.drop_eq_getElem_cons h,List.take_append_drop]
theorem Ln {α:Type} {l:List α} {i:Nat} (h:i<l.length) (x:α):l.set i x=l.take i++x::l.drop (i+1):=by
 rw[List.set_eq_take_append_cons_drop,if_pos h]
theorem SQ (p:dC) (r:kN):qJ (pR p r)=(Ci r).map (λx=>⟨x,p.gC,true⟩):=rfl
theorem qK.inst {d:bK} (h:qK d) {i:Nat} (hi:i<d.aj.length) (hk:d.aj[i].gC=nZ i) {s:j9} (h1:1≤s.loc) (n6:∀x∈d.aD,x.index≠s.loc) (own:Bool):qK (mc d i hi s own):=by
 obtain⟨yG,yZ⟩:=C4.1 h.so
 have zY:=h.nd
 have wK:=h.pm
 have hE:fh d.aD (kP d.aj[i].ring own)=d.aD.filter (λx=>decide (x.index∉kP d.aj[i].ring own)):=uu _ _
 constructor
 ·show rP (rR (fh d.aD (kP d.aj[i].ring own)) ⟨s.loc,nZ i,true⟩)
  rw[C4,hE]
  refine⟨λx hx=> ?_,C6 (yZ.filter _) (λx hx=>n6 x (List.mem_filter.1 hx).1)⟩
  rcases List.mem_cons.1 ((qM _ _).mem_iff.1 hx)with rfl|hx
  ·show s.loc≠0;omega
  ·exact yG x (List.mem_filter.1 hx).1
 ·show(rR (fh d.aD (kP d.aj[i].ring own)) ⟨s.loc,nZ i,true⟩).Perm ((d.aj.set i (pR d.aj[i] (tG d.aj[i].ring s own))).flatMap qJ)
  rw[hE]
  refine(qM _ _).trans ?_
  rw[Ln hi,List.flatMap_append,List.flatMap_cons,SQ]
  have wQ:=OF hi
  obtain⟨A,hA⟩:∃A,A=d.aj.take i:=⟨_,rfl⟩
  obtain⟨B,hB⟩:∃B,B=d.aj.drop (i+1):=⟨_,rfl⟩
  obtain⟨p,hp⟩:∃p,p=d.aj[i]:=⟨_,rfl⟩
  rw[←hA,←hB,←hp]at wQ
  rw[←hA,←hB,←hp]
  rw[←hp]at hk
  rw[wQ,List.flatMap_append,List.flatMap_cons]at wK zY
  have Dr:=List.nodup_append.1 zY
  have PD:=List.nodup_append.1 Dr.2.1
  have hI:=Ij p.ring s own PD.1
  have hf:=wK.filter (λx=>decide (x.index∉kP p.ring own))
  have key:∀ {l:List dC},(∀q∈l,∀x∈Ci q.ring,x∉Ci p.ring)->(l.flatMap qJ).filter (λx=>decide (x.index∉kP p.ring own))=l.flatMap qJ:=by
   intro l hl
   refine List.filter_eq_self.2 (λx hx=> ?_)
   obtain⟨q,hq,hx⟩:=List.mem_flatMap.1 hx
   obtain⟨y,hy,rfl⟩:=List.mem_map.1 hx
   simp only[decide_eq_true_eq]
   exact λhd=>hl q hq y hy (Ik hd)
  have kA:=key (l:=A) (λq hq x hx hxp=>Dr.2.2 x (List.mem_flatMap.2 ⟨q,hq,hx⟩) x (List.mem_append.2 (.inl hxp)) rfl)
  have kB:=key (l:=B) (λq hq x hx hxp=>PD.2.2 x hxp x (List.mem_flatMap.2 ⟨q,hq,hx⟩) rfl)
  have kp:(qJ p).filter (λx=>decide (x.index∉kP p.ring own))=((Ci p.ring).filter (λx=>decide (x∉kP p.ring own))).map (λx=>⟨x,p.gC,true⟩):=by
   unfold qJ;rw[List.filter_map];rfl
  rw[List.filter_append,List.filter_append,kA,kB,kp]at hf
  have hI2:=hI.map (λx=>(⟨x,p.gC,true⟩:iK))
  refine((hf.cons _).trans ?_)
  refine List.Perm.trans ?_ ((hI2.symm.append_right _).append_left _)
  rw[List.map_cons,hk,List.cons_append]
  exact List.perm_middle.symm
end Go.Ab
noncomputable section G9s
namespace Go.Ab
open Go.Ab
def Tok (t:fX):Prop:=∃i,i<3∧t.peer=nZ i
theorem qN {a b:fX} {i j:Nat} (hi:i<3) (hj:j<3) (ha:a.peer=nZ i) (hb:b.peer=nZ j):
  jf a b=true↔a.at_<b.at_∨a.at_=b.at_∧(i<j∨i=j∧a.kind<b.kind):=by
 unfold jf
 by_cases h1:a.at_=b.at_
 ·by_cases h2:i=j
  ·subst h2
   have:a.peer=b.peer:=by rw[ha,hb]
   simp[h1,this]
  ·have h3:¬a.peer=b.peer:=by rw[ha,hb];exact λe=>h2 (vX hi hj e)
   rcases Nat.lt_or_gt_of_ne h2 with h4|h4
   ·have:=Ov h4 hj
    simp[h1,ha,hb,this,h4]
    exact Or.inl (λe=>h2 (vX hi hj e))
   ·have h5:SF (nZ i) (nZ j)=false:=by
     rcases(by omega:i=1∧j=0∨i=2∧j=0∨i=2∧j=1)with⟨rfl,rfl⟩|⟨rfl,rfl⟩|⟨rfl,rfl⟩<;>rfl
    have h6:¬i<j:=by omega
    simp[h1,ha,hb,h5,h6,h2]
    intro e;exact absurd (vX hi hj e) h2
 ·simp[h1]
def Cj (t:fX):List fX->List fX
 |[]=>[t]
 |x::r=>if jf t x=true then t::x::r else x::Cj t r
theorem SS (l:List fX) (t:fX):kX l t=Cj t (dI l t.peer t.kind):=by
 have:∀r:List fX,r.take (ju t r)++[t]++r.drop (ju t r)=Cj t r:=by
  intro r
  induction r with
  |nil=>rfl
  |
   cons x r ih=>
   by_cases h:jf t x=true
   ·simp[ju,Cj,h]
   ·simp[ju,Cj,h]at ih⊢
    exact ih
 exact this _
theorem xF (t:fX):∀l,(Cj t l).Perm (t::l)
 |[]=> .refl _
 |
  x::l=>by
  simp only[Cj];split
  ·exact .refl _
  ·exact((xF t l).cons x).trans (.swap t x l)
theorem C7 {t:fX} (ht:Tok t):∀ {l:List fX},(∀x∈l,Tok x)->(∀x∈l,¬(x.peer=t.peer∧x.kind=t.kind))->l.Pairwise (λa b=>jf a b=true)->(Cj t l).Pairwise (λa b=>jf a b=true)
 |[],_,_,_=>by simp[Cj]
 |
  x::l,hT,hn,h=>by
  obtain⟨h1,h2⟩:=List.pairwise_cons.1 h
  obtain⟨i,hi,Qy⟩:=ht
  obtain⟨j,hj,hxj⟩:=hT x (by simp)
  have hxn:=hn x (by simp)
  simp only[Cj];split
  ·rename_i gG
   refine List.pairwise_cons.2 ⟨λy hy=> ?_,h⟩
   rcases List.mem_cons.1 hy with rfl|hy
   ·exact gG
   ·obtain⟨k,hk,G9⟩:=hT y (by simp[hy])
    have:=h1 y hy
    rw[qN hj hk hxj G9]at this
    rw[qN hi hj Qy hxj]at gG
    rw[qN hi hk Qy G9]
    omega
  ·rename_i gG
   refine List.pairwise_cons.2 ⟨λy hy=> ?_,C7 ⟨i,hi,Qy⟩ (λz hz=>hT z (by simp[hz])) (λz hz=>hn z (by simp[hz])) h2⟩
   rcases List.mem_cons.1 ((xF t l).mem_iff.1 hy)with rfl|hy
   ·rw[qN hi hj Qy hxj]at gG
    rw[qN hj hi hxj Qy]
    have fB:¬(j=i∧x.kind=y.kind):=λe=>hxn ⟨by rw[hxj,Qy,e.1],e.2⟩
    omega
   ·exact h1 y hy
structure nb (d:bK) (l:List fX) (m:Nat):Prop where
 so:l.Pairwise (λa b=>jf a b=true)
 rg:∀t∈l,2≤t.kind∧t.kind≤5∧d.now<t.at_∧t.at_≤4398046511104∧∃i,∃h:i<d.aj.length,t.peer=nZ i∧(t.kind=4->d.aj[i].nI≠0)
 un:l.Pairwise (λa b=>¬(b.peer=a.peer∧b.kind=a.kind))
 len:l.length≤m
theorem nb.toT {d:bK} {m:Nat} (hm:m≤1000) (h:nb d d.timers m):Ox d where
 so:=λi hi=>List.pairwise_iff_getElem.1 h.so i (i+1) (by omega) hi (by omega)
 rg:=h.rg
 un:=λi j hi hj Me=>List.pairwise_iff_getElem.1 h.un i j hi hj Me
 len:=Nat.le_trans h.len hm
theorem Gx {l:List fX} {k:Key} {n:Int} {x:fX} (h:x∈dI l k n):x∈l∧¬(x.peer=k∧x.kind=n):=by
 obtain⟨h1,h2⟩:=List.mem_filter.1 h
 refine⟨h1,λe=> ?_⟩
 simp[sv,e.1,e.2]at h2
theorem nb.set {d:bK} {l:List fX} {m:Nat} (h:nb d l m) (hp:d.aj.length≤3) {t:fX} (k1:2≤t.kind) (k2:t.kind≤5) (a1:d.now<t.at_) (a2:t.at_≤4398046511104) {i:Nat} (hi:i<d.aj.length) (ht:t.peer=nZ i) (h4:t.kind=4->d.aj[i].nI≠0):nb d (kX l t) (m+1):=by
 have awE:∀x∈l,Tok x:=λx hx=>by obtain⟨_,_,_,_,j,hj,e,_⟩:=h.rg x hx;exact⟨j,by omega,e⟩
 have zX:Tok t:=⟨i,by omega,ht⟩
 rw[SS]
 have hc:∀x∈dI l t.peer t.kind,x∈l∧¬(x.peer=t.peer∧x.kind=t.kind):=λx hx=>Gx hx
 have PE:=xF t (dI l t.peer t.kind)
 constructor
 ·exact C7 zX (λx hx=>awE x (hc x hx).1) (λx hx=>(hc x hx).2) (h.so.filter _)
 ·intro x hx
  rcases List.mem_cons.1 (PE.mem_iff.1 hx)with rfl|hx
  ·exact⟨k1,k2,a1,a2,i,hi,ht,h4⟩
  ·exact h.rg x (hc x hx).1
 ·have awF:∀ {a b:fX},¬(b.peer=a.peer∧b.kind=a.kind)->¬(a.peer=b.peer∧a.kind=b.kind):=λhn e=>hn ⟨e.1.symm,e.2.symm⟩
  refine(PE.pairwise_iff awF).2 (List.pairwise_cons.2 ⟨λx hx=>(hc x hx).2,h.un.filter _⟩)
 ·rw[PE.length_eq,List.length_cons]
  have:(dI l t.peer t.kind).length≤l.length:=List.length_filter_le _ _
  have:=h.len
  omega
structure VM (d:bK) (m:Nat):Prop where
 vd:VD d
 ti:nb d d.timers m
theorem vV.of {d e:bK} (hn:e.now=d.now) (hr:e.rules=d.rules) {s:j9} (h:vV d s):vV e s:=by
 obtain⟨h1,h2,h3,h4,h5,h6⟩:=h
 exact⟨h1,by rw[hn];exact h2,by rw[hr];exact h3,h4,h5,h6⟩
theorem lG.of {d e:bK} (hn:e.now=d.now) (hr:e.rules=d.rules) {s:pq} (h:lG d s):lG e s:=by
 rcases h with⟨h1,h2⟩|h
 ·exact Or.inl ⟨h1,h2.of hn hr⟩
 ·exact Or.inr h
theorem lG.z (d:bK):lG d qG:=Or.inr ⟨rfl,rfl⟩
theorem lG.SH {d:bK} {p:pq} (h:lG d p):lG d (SH p):=by
 unfold Ab.SH;split
 ·exact h
 ·exact .z d
theorem mC.of {d e:bK} (hn:e.now=d.now) (hr:e.rules=d.rules) {p:dC} (h:mC d p):mC e p:=by
 obtain⟨h1,h2,h3,h4,h5,h6,h7,h8,h9,Mh,T5,QE⟩:=h
 exact⟨h1,h2,h3,h4,h5,h6,h7,h8,h9,Mh.of hn hr,T5.of hn hr,QE.of hn hr⟩
theorem mC.pR {d:bK} {p:dC} (h:mC d p) {r:kN} (h1:lG d r.p) (h2:lG d r.c) (h3:lG d r.n):mC d (pR p r):=by
 obtain⟨g1,g2,g3,g4,g5,g6,g7,g8,g9,g10,g11,g12⟩:=h
 exact⟨g1,g2,g3,g4,g5,g6,g7,g8,g9,h1,h2,h3⟩
theorem OG {d:bK} {p:dC} (h:mC d p) {s:j9} (hs:vV d s) (own:Bool):lG d (tG p.ring s own).p∧lG d (tG p.ring s own).c∧lG d (tG p.ring s own).n:=by
 have BK:lG d ⟨true,s⟩:=Or.inl ⟨rfl,hs⟩
 unfold tG;split
 ·unfold ur;split
  ·exact⟨h.rn,BK,.z d⟩
  ·exact⟨h.rc.SH,BK,.z d⟩
 ·exact⟨.z d,h.rc,BK⟩
theorem VM.inst {d:bK} {m:Nat} (h:VM d m) (hm:m≤999) {i:Nat} (hi:i<d.aj.length) {s:j9} (hs:vV d s) (h1:1≤s.loc) (n6:∀x∈d.aD,x.index≠s.loc) (own:Bool):VM (mc d i hi s own) (m+1):=by
 obtain⟨v,t⟩:=h
 have rU:=v.G5.1
 have BR:d.aj[i].gC=nZ i:=v.G5.2 i hi
 have hlen:(mc d i hi s own).aj.length=d.aj.length:=List.length_set
 have L4:=OG (v.yV _ (List.getElem_mem hi)) hs own
 obtain⟨q1,q2,q3,q4,q5,q6,q7,q8,q9,q10,q11,_⟩:=v.ru
 have LU:=v.n0
 have Dr:=v.n1
 have fb:∀(j:Nat) (hj:j<d.aj.length) (hj':j<(mc d i hi s own).aj.length),(mc d i hi s own).aj[j].gC=d.aj[j].gC∧(mc d i hi s own).aj[j].nI=d.aj[j].nI:=by
  intro j hj hj'
  simp only[mc,List.getElem_set]
  split
  ·rename_i e;subst e;exact⟨rfl,rfl⟩
  ·exact⟨rfl,rfl⟩
 have ht0:=t.set rU (t:=⟨d.now+3*d.rules.lQ,nZ i,5⟩) (by show(2:Int)≤5;omega) (by show(5:Int)≤5;omega) (by show d.now<d.now+3*d.rules.lQ;omega) (by show d.now+3*d.rules.lQ≤4398046511104;omega) hi rfl (λe=>absurd e (by show¬(5:Int)=4;omega))
 have ht1:nb (mc d i hi s own) (mc d i hi s own).timers (m+1):=by
  obtain⟨a,b,c,e⟩:=ht0
  refine⟨a,λx hx=> ?_,c,e⟩
  obtain⟨r1,r2,r3,r4,j,hj,r5,r6⟩:=b x hx
  exact⟨r1,r2,r3,r4,j,by rw[hlen];exact hj,r5,λhk=>by rw[(fb j hj _).2];exact r6 hk⟩
 refine⟨?_,ht1⟩
 constructor
 ·exact v.ru
 ·exact v.n0
 ·exact v.n1
 ·exact v.p0
 ·exact v.p1
 ·exact v.bad
 ·refine⟨by rw[hlen];exact rU,λj hj=> ?_⟩
  rw[(fb j (by rw[hlen]at hj;exact hj) hj).1]
  exact v.G5.2 j _
 ·intro p hp
  have hp':p∈d.aj.set i (Ab.pR d.aj[i] (tG d.aj[i].ring s own)):=hp
  refine mC.of (d:=d) (e:=mc d i hi s own) rfl rfl ?_
  rcases List.mem_or_eq_of_mem_set hp' with hp|rfl
  ·exact v.yV p hp
  ·exact(v.yV _ (List.getElem_mem hi)).pR L4.1 L4.2.1 L4.2.2
 ·exact v.Y5
 ·rw[hlen];exact v.rtl
 ·exact v.sls.inst hi BR h1 n6 own
 ·exact ht1.toT (by omega)
 ·exact v.s0
 ·exact v.s1
 ·exact v.rcn
 ·exact v.buc
end Go.Ab
end G9s

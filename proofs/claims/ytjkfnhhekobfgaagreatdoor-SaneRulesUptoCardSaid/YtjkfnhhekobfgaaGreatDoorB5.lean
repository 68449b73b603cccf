/- Installing a session keeps a made daemon valid. No condition. -/
import Derived.Test.YtjkfnhhekobfgaaGreatDoorB4
set_option maxRecDepth 10000
set_option maxHeartbeats 2000000
set_option linter.all false
noncomputable section G6s
namespace Go.Ab
open Go.Ab
def KG:PV:= .sl 86 [] true
@[simp] theorem Av:Pure KG:=by simp[KG]
@[simp] theorem Us:KG.width=1:=rfl
def Aw (d:cK) (p:PV):PV:= .st 149 [cO d p,KG]
@[simp↓] theorem abN (d:cK) (p:PV) (r:List Step):bf (Aw d p) (.f 0 0::r)=bf (cO d p) r:=by simp[Aw,av]
def KH (c:PV):PV:= .st 149 [c,KG]
@[simp↓] theorem abO (d:cK) (p:PV) (r:List Step) (x:PV):eL (Aw d p) (.f 0 0::r) x=(eL (cO d p) r x).bind λc=>some (KH c):=by
 simp[Aw,KH,av]
@[simp↓] theorem afD (d:cK) (p:PV):KH (cO d p)=Aw d p:=_root_.id rfl
@[simp] theorem abP (f:Nat->Bool) (d:cK) (p:PV):ae f (Aw d p)=ae f p:=by
 simp[Aw,ae,ab,(Av).refs]
@[simp] theorem afE (ρ:Nat->Nat) (d:cK) (p:PV):aB ρ (Aw d p)=Aw d (aB ρ p):=by
 simp[Aw,aB,aD,(Av).aB]
theorem RO (d:cK) (p:PV):PV.st 149 [cO d p,.sl 86 [] true]=Aw d p:=rfl
def Ax (d:cK) (s:List cS):cK:= {d with bq:=s}
def Yu (d:cK) (s:List iR):cK:= {d with timers:=s}
@[simp] theorem Yv (d:cK) (s:List cS):(Ax d s).bq=s:=rfl
@[simp] theorem ahG (d:cK) (s t:List cS):Ax (Ax d s) t=Ax d t:=rfl
def gM (s:List cS) (l:List Int):List cS:=l.foldl (λs x=>s.filter (IK x)) s
theorem sI:∀(l:List Int) (s:List cS),(gM s l).length≤s.length
 |[],s=>Nat.le_refl _
 |x::l,s=>Nat.le_trans (sI l _) (List.length_filter_le _ _)
theorem BI {s:List cS} {l:List Int} {i:Nat} (h:i<l.length):gM s (l.take (i+1))=(gM s (l.take i)).filter (IK l[i]):=by
 rw[List.take_succ_eq_append_getElem h];unfold gM;rw[List.foldl_append];rfl
theorem ub {d:cK} (hs:d.bq.length≤1048576) {l:List Int} (hl:l.length≤8) (ps:List fg):
  ai Pg I.cF [.pt KB [] 0,jE l] [.box (Aw d (.rs (KB+1) [] 0 ps.length ps.length 464 .tip)),.arr 464 (ps.map br)]
   (λr fp=>r= .tup []∧fp=[.box (Aw (Ax d (gM d.bq l)) (.rs (KB+1) [] 0 ps.length ps.length 464 .tip)),.arr 464 (ps.map br)]):=by
 refine ai.intro T.cF (by simp[F.cF]) ?_
 simp[F.cF,aj,aF]
 refine fb.fG l.length (λ_=>True) [0,6,7,8] (λi=>[(8,.int .i64 i)]) (λi=>[(KB,.box (Aw (Ax d (gM d.bq (l.take i))) (.rs (KB+1) [] 0 ps.length ps.length 464 .tip)))]) [.keep [0,6,7,8]] ?_
 simp[show∀s,gM s []=s from λ_=>rfl,show Ax d d.bq=d from rfl]
 refine⟨λi hi K hK=> ?_,λK=> ?_⟩
 ·have hx:l[i]? =some l[i]:=gJ hi
  rw[BI hi]at hK
  have hle:=sI (l.take i) d.bq
  generalize gM d.bq (l.take i)=S at*
  simp[↓ah,hx,hi]
  refine an.ret (Kq (l:=S) (by omega) l[i]) (by simp) (by simp) (by simp) ?_
  simp[cu hi (by omega)]
  refine⟨[.keep [0,6,7,8]],?_⟩
  simp
  exact hK _ (by simp[Ax])
 ·simp[↓ah]
  refine al.with [] [KB,KB+1] ?_
  simp[cT]
theorem vU {d:cK} (ht:d.timers.length≤1048575) {ps:List fg} {i:Nat} (hi:i<ps.length) (k:Int) {n:Int} (h1:0≤d.now) (h2:d.now≤16777216) (h3:0≤n) (h4:n≤16777216):
  ai Pg I.dj [.pt KB [] 0,.int .i64 i,.int .i64 k,.int .i64 n] [.box (Aw d (.rs (KB+1) [] 0 ps.length ps.length 464 .tip)),.arr 464 (ps.map br)]
   (λr fp=>r= .tup []∧fp=[.box (Aw (Yu d (yA d.timers ⟨d.now+n,ps[i].fF,k⟩)) (.rs (KB+1) [] 0 ps.length ps.length 464 .tip)),.arr 464 (ps.map br)]):=by
 refine ai.intro T.dj (by simp[F.dj]) ?_
 have hx:ps[i]? =some ps[i]:=gJ hi
 have hw:IntKind.i64.wrap (d.now+n)=d.now+n:=wrap_i64 (by omega)
 have e:PV.st 34 [.int .i64 (d.now+n),dU ps[i].fF,.int .i64 k]=iv ⟨d.now+n,ps[i].fF,k⟩:=rfl
 simp[F.dj,aj,aF,hx,hi,hw,e]
 refine aU.ret (dC (l:=d.timers) ht ⟨d.now+n,ps[i].fF,k⟩) (by simp) (by simp) (by simp) ?_
 simp
 refine al.with [] [KB,KB+1] ?_
 simp[cT,Yu]
end Go.Ab
end G6s
noncomputable section G7s
namespace Go.Ab
open Go.Ab
theorem VD.rV {d:cK} (h:VD d):Ui d where
 aa:=by have:=h.D5.1;omega
 aV:=by have:=h.rts.1;omega
 bq:=by have:=h.Ur.len h.D5.1;omega
 timers:=by have:=h.tis.len;omega
 aR:=by rw[h.rcn];simp
 buckets:=by rw[h.buc];simp
 bD:=λp hp=>by rw[(h.IM p hp).bD];simp
def rW (r:nO) (s:lq) (own:Bool):nO:=if own=true then sH r s else Ku r s
def jZ (r:nO) (own:Bool):List Int:=if own=true then pP r else Dm r
def pR (p:fg) (r:nO):fg:= {p with ring:=r}
def lD (d:cK) (i:Nat) (hi:i<d.aa.length) (s:lq) (own:Bool):cK:=
 {d with aa:=d.aa.set i (pR d.aa[i] (rW d.aa[i].ring s own)),bq:=wH (gM d.bq (jZ d.aa[i].ring own)) ⟨s.loc,nK i,true⟩,timers:=yA d.timers ⟨d.now+3*d.rules.lr,nK i,5⟩}
theorem Ay (r:nO) (own:Bool):(jZ r own).length≤8:=by
 unfold jZ pP Dm
 split
 ·split
  ·exact Nat.le_trans (sG _) (by simp)
  ·exact Nat.le_trans (sG _) (by simp)
 ·exact Nat.le_trans (sG _) (by simp)
theorem qO {x:cS}:∀ {l:List Int} {s:List cS},x∈gM s l->x∈s
 |[],s,h=>h
 |y::l,s,h=>(List.mem_filter.1 (qO (l:=l) h)).1
theorem Ia {d:cK} (h:VD d) {i:Nat} (hi:i<d.aa.length) {s:lq} (hs:tW d s) (h1:1≤s.loc) (nP:∀x∈d.bq,x.index≠s.loc) (own:Bool):
  bg Pg I.ej [bE d,dU (nK i),gH s,.bl own] (.tup [bE (lD d i hi s own),.int .i64 0]):=by
 refine ai.intro T.ej (by simp[F.ej]) ?_
 have qf:=h.Ur.len h.D5.1
 have hni:¬(i:Int)<0:=by omega
 have PK:¬s.loc=0:=by omega
 have zd:=h.ru
 have hx:d.aa[i]? =some d.aa[i]:=gJ hi
 have hw:IntKind.i64.wrap (3*d.rules.lr)=3*d.rules.lr:=by
  obtain⟨h1,h2,h3,h4,h5,h6,h7,h8,h9,Ci,Ee,_⟩:=zd
  exact wrap_i64 (by omega)
 simp[F.ej,aj,aF]
 refine an.ret (OU h) (by simp) (by simp) (by simp) ?_
 simp
 refine an.ret (E6 h.D5 hi) (by simp) (by simp) (by simp) ?_
 simp[hni]
 refine an.ret (qN (l:=d.bq) (by omega) nP) (by simp) (by simp) (by simp) ?_
 simp[PK]
 refine an.ret (Gt hs) (by simp) (by simp) (by simp) ?_
 simp
 refine an.gen [] [47] [] (bV h.rV) (by simp[getAll]) (by simp) (by simp) (by simp[ab]) (by simp) (by simp[aD]) (by simp) (by simp[af,ae,fj]) ?_
 simp[bb,aE,aB,dv,hx,hi]
 obtain⟨PS,YV⟩:∃PS,PS=d.aa.set i (pR d.aa[i] (rW d.aa[i].ring s own)):=⟨_,rfl⟩
 have Sq:PS.length=d.aa.length:=by rw[YV,List.length_set]
 obtain⟨SD,YW⟩:∃SD,SD=gM d.bq (jZ d.aa[i].ring own):=⟨_,rfl⟩
 have amj:SD.length≤9:=by have:=sI (jZ d.aa[i].ring own) d.bq;rw[←YW]at this;omega
 have hT:=Take (l:=SD) (by omega) h1 (λx hx=>nP x (by rw[YW]at hx;exact qO hx)) (nK i) true
 obtain⟨SL,hSL⟩:∃SL,SL=wH SD ⟨s.loc,nK i,true⟩:=⟨_,rfl⟩
 rw[←hSL]at hT
 have hPi:PS[i].fF=nK i:=by
  simp only[YV,List.getElem_set_self];exact h.D5.2 i hi
 have DS:=h.tis.len
 have amk:=h.n0
 have aml:=h.n1
 obtain⟨q1,q2,q3,q4,q5,q6,q7,q8,q9,q10,q11,_⟩:=zd
 cases own with
 |
  true=>
  have kE:(List.map br d.aa).set i (br {d.aa[i]with ring:=sH d.aa[i].ring s})=PS.map br:=by
   rw[YV,List.map_set];rfl
  have hD:=ub (d:=d) (by omega) (l:=pP d.aa[i].ring) (Ay d.aa[i].ring true) PS
  have V9:gM d.bq (pP d.aa[i].ring)=SD:=by rw[YW];rfl
  have hS:=vU (d:=Ax d SL) (by show d.timers.length≤1048575;omega) (ps:=PS) (i:=i) (by omega) 5 (n:=3*d.rules.lr) h.n0 h.n1 (by omega) (by omega)
  rw[hPi]at hS
  rw[Sq]at hD hS
  dsimp only at kE
  simp[RO]
  refine aU.ret (dE d.aa[i].ring s) (by simp) (by simp) (by simp) ?_
  simp[hx,hi]
  rw[kE]
  refine an.gen [13,47] [] [.box (Aw d (.rs 47 [] 0 d.aa.length d.aa.length 464 .tip)),.arr 464 (PS.map br)] hD (by simp[getAll]) (by simp) (by simp) (by simp[ab,ae,bM,idx,(rk _).refs]) (by simp[af,ae,bM,idx]) (by simp[aD,aB,bp,idx,(rk _).aB]) (by simp[aE,aB,bp,idx]) (by simp[af,ae,fj]) ?_
  simp[bb,aE,aB,dv,V9]
  refine an.ret hT (by simp) (by simp) (by simp) ?_
  simp[hw]
  refine an.gen [13,47] [] [.box (Aw (Ax d SL) (.rs 47 [] 0 d.aa.length d.aa.length 464 .tip)),.arr 464 (PS.map br)] hS (by simp[getAll];rfl) (by simp) (by simp) (by simp[ab,ae,bM,idx]) (by simp[af,ae,bM,idx]) (by simp[aD,aB,bp,idx]) (by simp[aE,aB,bp,idx]) (by simp[af,ae,fj]) ?_
  simp[bb,aE,aB,dv]
  refine al.plain [.keep [8,9],.dr 13,.fz 47] ?_
  simp[eI,fE,ae,af]
  have ht:List.take d.aa.length (List.map br PS)=List.map br PS:=tJ (by simp[Sq])
  rw[if_pos ⟨Sq.symm,Nat.le_of_eq Sq.symm⟩,ht]
  refine⟨yx _ (by simp),?_⟩
  have he:lD d i hi s true= {Yu (Ax d SL) (yA (Ax d SL).timers ⟨(Ax d SL).now+3*d.rules.lr,nK i,5⟩)with aa:=PS}:=by
   simp only[lD,YV,hSL,YW,Yu,Ax]
  rw[he]
  rfl
 |
  false=>
  have kE:(List.map br d.aa).set i (br {d.aa[i]with ring:=Ku d.aa[i].ring s})=PS.map br:=by
   rw[YV,List.map_set];rfl
  have hD:=ub (d:=d) (by omega) (l:=Dm d.aa[i].ring) (Ay d.aa[i].ring false) PS
  have V9:gM d.bq (Dm d.aa[i].ring)=SD:=by rw[YW];rfl
  have hS:=vU (d:=Ax d SL) (by show d.timers.length≤1048575;omega) (ps:=PS) (i:=i) (by omega) 5 (n:=3*d.rules.lr) h.n0 h.n1 (by omega) (by omega)
  rw[hPi]at hS
  rw[Sq]at hD hS
  dsimp only at kE
  simp[RO]
  refine aU.ret (dH d.aa[i].ring s) (by simp) (by simp) (by simp) ?_
  simp[hx,hi]
  rw[kE]
  refine an.gen [13,47] [] [.box (Aw d (.rs 47 [] 0 d.aa.length d.aa.length 464 .tip)),.arr 464 (PS.map br)] hD (by simp[getAll]) (by simp) (by simp) (by simp[ab,ae,bM,idx,(rk _).refs]) (by simp[af,ae,bM,idx]) (by simp[aD,aB,bp,idx,(rk _).aB]) (by simp[aE,aB,bp,idx]) (by simp[af,ae,fj]) ?_
  simp[bb,aE,aB,dv,V9]
  refine an.ret hT (by simp) (by simp) (by simp) ?_
  simp[hw]
  refine an.gen [13,47] [] [.box (Aw (Ax d SL) (.rs 47 [] 0 d.aa.length d.aa.length 464 .tip)),.arr 464 (PS.map br)] hS (by simp[getAll];rfl) (by simp) (by simp) (by simp[ab,ae,bM,idx]) (by simp[af,ae,bM,idx]) (by simp[aD,aB,bp,idx]) (by simp[aE,aB,bp,idx]) (by simp[af,ae,fj]) ?_
  simp[bb,aE,aB,dv]
  refine al.plain [.keep [8,9],.dr 13,.fz 47] ?_
  simp[eI,fE,ae,af]
  have ht:List.take d.aa.length (List.map br PS)=List.map br PS:=tJ (by simp[Sq])
  rw[if_pos ⟨Sq.symm,Nat.le_of_eq Sq.symm⟩,ht]
  refine⟨yx _ (by simp),?_⟩
  have he:lD d i hi s false= {Yu (Ax d SL) (yA (Ax d SL).timers ⟨(Ax d SL).now+3*d.rules.lr,nK i,5⟩)with aa:=PS}:=by
   simp only[lD,YV,hSL,YW,Yu,Ax]
  rw[he]
  rfl
end Go.Ab
end G7s
namespace Go.Ab
open Go.Ab
theorem Az {l:List cS}:qb l↔(∀s∈l,s.index≠0)∧l.Pairwise (λa b=>a.index<b.index):=by
 constructor
 ·intro h
  refine⟨λs hs=> ?_,List.pairwise_iff_getElem.2 (λi j hi hj D8=>h.lt' D8 hj)⟩
  obtain⟨i,hi,rfl⟩:=List.mem_iff_getElem.1 hs
  exact h.1 i hi
 ·rintro⟨h1,h2⟩
  exact⟨λi hi=>h1 _ (List.getElem_mem hi),λi hi=>List.pairwise_iff_getElem.1 h2 i (i+1) (by omega) hi (by omega)⟩
theorem KI (s:cS):wH [] s=[s]:=rfl
theorem AA (a:cS) (l:List cS) (s:cS):wH (a::l) s=if a.index<s.index then a::wH l s else s::a::l:=by
 unfold wH
 by_cases h:a.index<s.index<;>simp[kX,h]
theorem oX (s:cS):∀l,(wH l s).Perm (s::l)
 |[]=> .refl _
 |
  a::l=>by
  rw[AA];split
  ·exact((oX s l).cons a).trans (.swap s a l)
  ·exact .refl _
theorem AB {s:cS}:∀ {l:List cS},l.Pairwise (λa b=>a.index<b.index)->(∀x∈l,x.index≠s.index)->(wH l s).Pairwise (λa b=>a.index<b.index)
 |[],_,_=>by simp[KI]
 |
  a::l,h,hn=>by
  obtain⟨h1,h2⟩:=List.pairwise_cons.1 h
  have hna:=hn a (by simp)
  rw[AA];split
  ·rename_i dG
   refine List.pairwise_cons.2 ⟨λx hx=> ?_,AB h2 (λx hx=>hn x (by simp[hx]))⟩
   rcases List.mem_cons.1 ((oX s l).mem_iff.1 hx)with rfl|hx
   ·exact dG
   ·exact h1 x hx
  ·rename_i dG
   refine List.pairwise_cons.2 ⟨λx hx=> ?_,h⟩
   rcases List.mem_cons.1 hx with rfl|hx
   ·omega
   ·have:=h1 x hx;omega
theorem yE:∀(l:List Int) (s:List cS),gM s l=s.filter (λx=>decide (x.index∉l))
 |
  [],s=>by
  have:s.filter (λx=>decide (x.index∉([]:List Int)))=s:=List.filter_eq_self.2 (by simp)
  rw[this];rfl
 |
  y::l,s=>by
  have h:gM s (y::l)=gM (s.filter (IK y)) l:=rfl
  rw[h,yE l,List.filter_filter]
  congr 1;funext x
  by_cases h1:x.index=y<;>by_cases h2:x.index∈l<;>simp[IK,h1,h2]
theorem E8 (r:nO) (s:lq) (own:Bool) (h:(yD r).Nodup):
  (yD (rW r s own)).Perm (s.loc::(yD r).filter (λx=>decide (x∉jZ r own))):=by
 obtain⟨⟨ph,ps⟩,⟨ch,cs⟩,⟨nh,ns⟩⟩:=r
 cases own<;>cases ph<;>cases ch<;>cases nh<;>
  simp_all [yD,rU,rW,jZ,sH,pP,Ku,Dm,OP,ql,List.filter_cons]<;>
  first
   |exact List.Perm.swap _ _ _
   |(rw[if_neg (λe=>h e.symm)];exact List.Perm.swap _ _ _)
   |(rw[if_neg (λe=>h.1.1 e.symm)];exact List.Perm.swap _ _ _)
   |(rw[if_pos ⟨λe=>h.1.2 e.symm,λe=>h.2 e.symm⟩];exact List.Perm.swap _ _ _)
theorem E9 {r:nO} {own:Bool} {x:Int} (h:x∈jZ r own):x∈yD r:=by
 obtain⟨⟨ph,ps⟩,⟨ch,cs⟩,⟨nh,ns⟩⟩:=r
 cases own<;>cases ph<;>cases ch<;>cases nh<;>
  simp_all [yD,rU,jZ,pP,Dm,List.filter_cons]<;>first|done|(rcases h with h|h<;>simp[h])
theorem KJ {α:Type} {l:List α} {i:Nat} (h:i<l.length):l=l.take i++l[i]::l.drop (i+1):=by
 rw[←List.drop_eq_getElem_cons h,List.take_append_drop]
theorem Ib {α:Type} {l:List α} {i:Nat} (h:i<l.length) (x:α):l.set i x=l.take i++x::l.drop (i+1):=by
 rw[List.set_eq_take_append_cons_drop,if_pos h]
theorem OV (p:fg) (r:nO):nL (pR p r)=(yD r).map (λx=>⟨x,p.fF,true⟩):=rfl
theorem oW.inst {d:cK} (h:oW d) {i:Nat} (hi:i<d.aa.length) (hk:d.aa[i].fF=nK i) {s:lq} (h1:1≤s.loc) (nP:∀x∈d.bq,x.index≠s.loc) (own:Bool):oW (lD d i hi s own):=by
 obtain⟨AS,hs2⟩:=Az.1 h.so
 have xi:=h.nd
 have hpm:=h.pm
 have hE:gM d.bq (jZ d.aa[i].ring own)=d.bq.filter (λx=>decide (x.index∉jZ d.aa[i].ring own)):=yE _ _
 constructor
 ·show qb (wH (gM d.bq (jZ d.aa[i].ring own)) ⟨s.loc,nK i,true⟩)
  rw[Az,hE]
  refine⟨λx hx=> ?_,AB (hs2.filter _) (λx hx=>nP x (List.mem_filter.1 hx).1)⟩
  rcases List.mem_cons.1 ((oX _ _).mem_iff.1 hx)with rfl|hx
  ·show s.loc≠0;omega
  ·exact AS x (List.mem_filter.1 hx).1
 ·show(wH (gM d.bq (jZ d.aa[i].ring own)) ⟨s.loc,nK i,true⟩).Perm ((d.aa.set i (pR d.aa[i] (rW d.aa[i].ring s own))).flatMap nL)
  rw[hE]
  refine(oX _ _).trans ?_
  rw[Ib hi,List.flatMap_append,List.flatMap_cons,OV]
  have wm:=KJ hi
  obtain⟨A,hA⟩:∃A,A=d.aa.take i:=⟨_,rfl⟩
  obtain⟨B,hB⟩:∃B,B=d.aa.drop (i+1):=⟨_,rfl⟩
  obtain⟨p,hp⟩:∃p,p=d.aa[i]:=⟨_,rfl⟩
  rw[←hA,←hB,←hp]at wm
  rw[←hA,←hB,←hp]
  rw[←hp]at hk
  rw[wm,List.flatMap_append,List.flatMap_cons]at hpm xi
  have wK:=List.nodup_append.1 xi
  have DX:=List.nodup_append.1 wK.2.1
  have hI:=E8 p.ring s own DX.1
  have hf:=hpm.filter (λx=>decide (x.index∉jZ p.ring own))
  have key:∀ {l:List fg},(∀q∈l,∀x∈yD q.ring,x∉yD p.ring)->(l.flatMap nL).filter (λx=>decide (x.index∉jZ p.ring own))=l.flatMap nL:=by
   intro l hl
   refine List.filter_eq_self.2 (λx hx=> ?_)
   obtain⟨q,hq,hx⟩:=List.mem_flatMap.1 hx
   obtain⟨y,hy,rfl⟩:=List.mem_map.1 hx
   simp only[decide_eq_true_eq]
   exact λhd=>hl q hq y hy (E9 hd)
  have kA:=key (l:=A) (λq hq x hx hxp=>wK.2.2 x (List.mem_flatMap.2 ⟨q,hq,hx⟩) x (List.mem_append.2 (.inl hxp)) rfl)
  have kB:=key (l:=B) (λq hq x hx hxp=>DX.2.2 x hxp x (List.mem_flatMap.2 ⟨q,hq,hx⟩) rfl)
  have kp:(nL p).filter (λx=>decide (x.index∉jZ p.ring own))=((yD p.ring).filter (λx=>decide (x∉jZ p.ring own))).map (λx=>⟨x,p.fF,true⟩):=by
   unfold nL;rw[List.filter_map];rfl
  rw[List.filter_append,List.filter_append,kA,kB,kp]at hf
  have hI2:=hI.map (λx=>(⟨x,p.fF,true⟩:cS))
  refine((hf.cons _).trans ?_)
  refine List.Perm.trans ?_ ((hI2.symm.append_right _).append_left _)
  rw[List.map_cons,hk,List.cons_append]
  exact List.perm_middle.symm
end Go.Ab
noncomputable section G9s
namespace Go.Ab
open Go.Ab
def Tok (t:iR):Prop:=∃i,i<3∧t.peer=nK i
theorem oY {a b:iR} {i j:Nat} (hi:i<3) (hj:j<3) (ha:a.peer=nK i) (hb:b.peer=nK j):
  iF a b=true↔a.at_<b.at_∨a.at_=b.at_∧(i<j∨i=j∧a.kind<b.kind):=by
 unfold iF
 by_cases h1:a.at_=b.at_
 ·by_cases h2:i=j
  ·subst h2
   have:a.peer=b.peer:=by rw[ha,hb]
   simp[h1,this]
  ·have h3:¬a.peer=b.peer:=by rw[ha,hb];exact λe=>h2 (xc hi hj e)
   rcases Nat.lt_or_gt_of_ne h2 with h4|h4
   ·have:=Ky h4 hj
    simp[h1,h3,ha,hb,this,h4]
    exact Or.inl (λe=>h2 (xc hi hj e))
   ·have h5:RL (nK i) (nK j)=false:=by
     rcases(by omega:i=1∧j=0∨i=2∧j=0∨i=2∧j=1)with⟨rfl,rfl⟩|⟨rfl,rfl⟩|⟨rfl,rfl⟩<;>rfl
    have h6:¬i<j:=by omega
    simp[h1,h3,ha,hb,h5,h6,h2]
    intro e;exact absurd (xc hi hj e) h2
 ·simp[h1]
def zx (t:iR):List iR->List iR
 |[]=>[t]
 |x::r=>if iF t x=true then t::x::r else x::zx t r
theorem OW (l:List iR) (t:iR):yA l t=zx t (jM l t.peer t.kind):=by
 have:∀r:List iR,r.take (jO t r)++[t]++r.drop (jO t r)=zx t r:=by
  intro r
  induction r with
  |nil=>rfl
  |
   cons x r ih=>
   by_cases h:iF t x=true
   ·simp[jO,zx,h]
   ·simp[jO,zx,h]at ih⊢
    exact ih
 exact this _
theorem vn (t:iR):∀l,(zx t l).Perm (t::l)
 |[]=> .refl _
 |
  x::l=>by
  simp only[zx];split
  ·exact .refl _
  ·exact((vn t l).cons x).trans (.swap t x l)
theorem AD {t:iR} (ht:Tok t):∀ {l:List iR},(∀x∈l,Tok x)->(∀x∈l,¬(x.peer=t.peer∧x.kind=t.kind))->l.Pairwise (λa b=>iF a b=true)->(zx t l).Pairwise (λa b=>iF a b=true)
 |[],_,_,_=>by simp[zx]
 |
  x::l,hT,hn,h=>by
  obtain⟨h1,h2⟩:=List.pairwise_cons.1 h
  obtain⟨i,hi,Sd⟩:=ht
  obtain⟨j,hj,hxj⟩:=hT x (by simp)
  have hxn:=hn x (by simp)
  simp only[zx];split
  ·rename_i dG
   refine List.pairwise_cons.2 ⟨λy hy=> ?_,h⟩
   rcases List.mem_cons.1 hy with rfl|hy
   ·exact dG
   ·obtain⟨k,hk,YN⟩:=hT y (by simp[hy])
    have:=h1 y hy
    rw[oY hj hk hxj YN]at this
    rw[oY hi hj Sd hxj]at dG
    rw[oY hi hk Sd YN]
    omega
  ·rename_i dG
   refine List.pairwise_cons.2 ⟨λy hy=> ?_,AD ⟨i,hi,Sd⟩ (λz hz=>hT z (by simp[hz])) (λz hz=>hn z (by simp[hz])) h2⟩
   rcases List.mem_cons.1 ((vn t l).mem_iff.1 hy)with rfl|hy
   ·rw[oY hi hj Sd hxj]at dG
    rw[oY hj hi hxj Sd]
    have bS:¬(j=i∧x.kind=y.kind):=λe=>hxn ⟨by rw[hxj,Sd,e.1],e.2⟩
    omega
   ·exact h1 y hy
structure lO (d:cK) (l:List iR) (m:Nat):Prop where
 so:l.Pairwise (λa b=>iF a b=true)
 rg:∀t∈l,2≤t.kind∧t.kind≤5∧d.now<t.at_∧t.at_≤4398046511104∧∃i,∃h:i<d.aa.length,t.peer=nK i∧(t.kind=4->d.aa[i].oS≠0)
 un:l.Pairwise (λa b=>¬(b.peer=a.peer∧b.kind=a.kind))
 len:l.length≤m
theorem lO.toT {d:cK} {m:Nat} (hm:m≤1000) (h:lO d d.timers m):KC d where
 so:=λi hi=>List.pairwise_iff_getElem.1 h.so i (i+1) (by omega) hi (by omega)
 rg:=h.rg
 un:=λi j hi hj D8=>List.pairwise_iff_getElem.1 h.un i j hi hj D8
 len:=Nat.le_trans h.len hm
theorem Dr {l:List iR} {k:Key} {n:Int} {x:iR} (h:x∈jM l k n):x∈l∧¬(x.peer=k∧x.kind=n):=by
 obtain⟨h1,h2⟩:=List.mem_filter.1 h
 refine⟨h1,λe=> ?_⟩
 simp[zt,e.1,e.2]at h2
theorem lO.set {d:cK} {l:List iR} {m:Nat} (h:lO d l m) (hp:d.aa.length≤3) {t:iR} (k1:2≤t.kind) (k2:t.kind≤5) (a1:d.now<t.at_) (a2:t.at_≤4398046511104) {i:Nat} (hi:i<d.aa.length) (ht:t.peer=nK i) (h4:t.kind=4->d.aa[i].oS≠0):lO d (yA l t) (m+1):=by
 have ai0:∀x∈l,Tok x:=λx hx=>by obtain⟨_,_,_,_,j,hj,e,_⟩:=h.rg x hx;exact⟨j,by omega,e⟩
 have YI:Tok t:=⟨i,by omega,ht⟩
 rw[OW]
 have hc:∀x∈jM l t.peer t.kind,x∈l∧¬(x.peer=t.peer∧x.kind=t.kind):=λx hx=>Dr hx
 have Mi:=vn t (jM l t.peer t.kind)
 constructor
 ·exact AD YI (λx hx=>ai0 x (hc x hx).1) (λx hx=>(hc x hx).2) (h.so.filter _)
 ·intro x hx
  rcases List.mem_cons.1 (Mi.mem_iff.1 hx)with rfl|hx
  ·exact⟨k1,k2,a1,a2,i,hi,ht,h4⟩
  ·exact h.rg x (hc x hx).1
 ·have ai1:∀ {a b:iR},¬(b.peer=a.peer∧b.kind=a.kind)->¬(a.peer=b.peer∧a.kind=b.kind):=λhn e=>hn ⟨e.1.symm,e.2.symm⟩
  refine(Mi.pairwise_iff ai1).2 (List.pairwise_cons.2 ⟨λx hx=>(hc x hx).2,h.un.filter _⟩)
 ·rw[Mi.length_eq,List.length_cons]
  have:(jM l t.peer t.kind).length≤l.length:=List.length_filter_le _ _
  have:=h.len
  omega
structure VM (d:cK) (m:Nat):Prop where
 vd:VD d
 ti:lO d d.timers m
theorem tW.of {d e:cK} (hn:e.now=d.now) (hr:e.rules=d.rules) {s:lq} (h:tW d s):tW e s:=by
 obtain⟨h1,h2,h3,h4,h5,h6⟩:=h
 exact⟨h1,by rw[hn];exact h2,by rw[hr];exact h3,h4,h5,h6⟩
theorem j9.of {d e:cK} (hn:e.now=d.now) (hr:e.rules=d.rules) {s:rl} (h:j9 d s):j9 e s:=by
 rcases h with⟨h1,h2⟩|h
 ·exact Or.inl ⟨h1,h2.of hn hr⟩
 ·exact Or.inr h
theorem j9.z (d:cK):j9 d ql:=Or.inr ⟨rfl,rfl⟩
theorem j9.OP {d:cK} {p:rl} (h:j9 d p):j9 d (OP p):=by
 unfold Ab.OP;split
 ·exact h
 ·exact .z d
theorem lC.of {d e:cK} (hn:e.now=d.now) (hr:e.rules=d.rules) {p:fg} (h:lC d p):lC e p:=by
 obtain⟨h1,h2,h3,h4,h5,h6,h7,h8,h9,Ci,Ee,FM⟩:=h
 exact⟨h1,h2,h3,h4,h5,h6,h7,h8,h9,Ci.of hn hr,Ee.of hn hr,FM.of hn hr⟩
theorem lC.pR {d:cK} {p:fg} (h:lC d p) {r:nO} (h1:j9 d r.p) (h2:j9 d r.c) (h3:j9 d r.n):lC d (pR p r):=by
 obtain⟨g1,g2,g3,g4,g5,g6,g7,g8,g9,g10,g11,g12⟩:=h
 exact⟨g1,g2,g3,g4,g5,g6,g7,g8,g9,h1,h2,h3⟩
theorem KK {d:cK} {p:fg} (h:lC d p) {s:lq} (hs:tW d s) (own:Bool):j9 d (rW p.ring s own).p∧j9 d (rW p.ring s own).c∧j9 d (rW p.ring s own).n:=by
 have Cd:j9 d ⟨true,s⟩:=Or.inl ⟨rfl,hs⟩
 unfold rW;split
 ·unfold sH;split
  ·exact⟨h.rn,Cd,.z d⟩
  ·exact⟨h.rc.OP,Cd,.z d⟩
 ·exact⟨.z d,h.rc,Cd⟩
theorem VM.inst {d:cK} {m:Nat} (h:VM d m) (hm:m≤999) {i:Nat} (hi:i<d.aa.length) {s:lq} (hs:tW d s) (h1:1≤s.loc) (nP:∀x∈d.bq,x.index≠s.loc) (own:Bool):VM (lD d i hi s own) (m+1):=by
 obtain⟨v,t⟩:=h
 have sZ:=v.D5.1
 have Cp:d.aa[i].fF=nK i:=v.D5.2 i hi
 have hlen:(lD d i hi s own).aa.length=d.aa.length:=List.length_set
 have VX:=KK (v.IM _ (List.getElem_mem hi)) hs own
 obtain⟨q1,q2,q3,q4,q5,q6,q7,q8,q9,q10,q11,_⟩:=v.ru
 have PK:=v.n0
 have wK:=v.n1
 have da:∀(j:Nat) (hj:j<d.aa.length) (Sp:j<(lD d i hi s own).aa.length),(lD d i hi s own).aa[j].fF=d.aa[j].fF∧(lD d i hi s own).aa[j].oS=d.aa[j].oS:=by
  intro j hj Sp
  simp only[lD,List.getElem_set]
  split
  ·rename_i e;subst e;exact⟨rfl,rfl⟩
  ·exact⟨rfl,rfl⟩
 have YJ:=t.set sZ (t:=⟨d.now+3*d.rules.lr,nK i,5⟩) (by show(2:Int)≤5;omega) (by show(5:Int)≤5;omega) (by show d.now<d.now+3*d.rules.lr;omega) (by show d.now+3*d.rules.lr≤4398046511104;omega) hi rfl (λe=>absurd e (by show¬(5:Int)=4;omega))
 have ht1:lO (lD d i hi s own) (lD d i hi s own).timers (m+1):=by
  obtain⟨a,b,c,e⟩:=YJ
  refine⟨a,λx hx=> ?_,c,e⟩
  obtain⟨r1,r2,r3,r4,j,hj,r5,r6⟩:=b x hx
  exact⟨r1,r2,r3,r4,j,by rw[hlen];exact hj,r5,λhk=>by rw[(da j hj _).2];exact r6 hk⟩
 refine⟨?_,ht1⟩
 constructor
 ·exact v.ru
 ·exact v.n0
 ·exact v.n1
 ·exact v.p0
 ·exact v.p1
 ·exact v.bad
 ·refine⟨by rw[hlen];exact sZ,λj hj=> ?_⟩
  rw[(da j (by rw[hlen]at hj;exact hj) hj).1]
  exact v.D5.2 j _
 ·intro p hp
  have hp':p∈d.aa.set i (Ab.pR d.aa[i] (rW d.aa[i].ring s own)):=hp
  refine lC.of (d:=d) (e:=lD d i hi s own) rfl rfl ?_
  rcases List.mem_or_eq_of_mem_set hp' with hp|rfl
  ·exact v.IM p hp
  ·exact(v.IM _ (List.getElem_mem hi)).pR VX.1 VX.2.1 VX.2.2
 ·exact v.rts
 ·rw[hlen];exact v.Yt
 ·exact v.Ur.inst hi Cp h1 nP own
 ·exact ht1.toT (by omega)
 ·exact v.s0
 ·exact v.s1
 ·exact v.rcn
 ·exact v.buc
end Go.Ab
end G9s

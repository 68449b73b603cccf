/- Rule 7 in the document is rule 7 in the program; the table of the rules. No condition. -/
import Derived.Test.YtjkfnhhekobfgaaGreatDoorW6
import Derived.Test.YtjkfnhhekobfgaaGreatDoorK1
set_option maxRecDepth 10000
set_option maxHeartbeats 2000000
set_option linter.all false
noncomputable section W38s
namespace Go.Ab
open Go.Ab
theorem G2:∀ {L S:List cS},L.Nodup->(∀x∈L,x∈S)->S.length≤L.length->L.Perm S
 |[],S,_,_,h=>by rw[List.length_eq_zero_iff.1 (show S.length=0 by simpa using h)]
 |
  x::L,S,hn,hs,h=>by
  rw[List.nodup_cons]at hn
  have hx:x∈S:=hs x (by simp)
  have ih:=G2 (L:=L) (S:=S.erase x) hn.2 (λy hy=>(List.mem_erase_of_ne (λe=>hn.1 (by rw[←e];exact hy))).2 (hs y (by simp[hy]))) (by rw[List.length_erase_of_mem hx];simp at h;omega)
  exact(ih.cons x).trans (List.perm_cons_erase hx).symm
theorem Ps {S:List cS} {x:Int} {b:Bool} {k:Key} (h:GV (Co S x) b k=true):(⟨x,k,b⟩:cS)∈S:=by
 obtain⟨s,e1,e2,e3⟩:=yO h
 have h1:=List.mem_of_find?_eq_some e1
 have h2:=List.find?_some e1
 have h2:s.index=x:=by simpa[RU]using h2
 subst h2 e2 e3
 exact h1
theorem LO (l:List fg):∀i,i≤l.length->aQ l i=(gl l i).length
 |0,_=>by simp[Lz,gl]
 |
  i+1,h=>by
  rw[yP (by omega),B7 (by omega),List.length_append,LO l i (by omega)]
  simp only[Ly,AP,LL,List.length_append,List.length_map]
  split<;>simp
end Go.Ab
end W38s
noncomputable section W39s
namespace Go.Ab
open Go.Ab
theorem Vk {S:List cS} (h:Iw S=true):S.Pairwise (λx y=>x.index<y.index):=by
 have h1:∀i,i<S.length->nT S i=false:=by
  refine j5.1 ?_
  unfold Iw at h
  rw[aJ]at h
  exact of_decide_eq_true h.1
 have step:∀j (hj:j+1<S.length),S[j].index<S[j+1].index:=λj hj=>by
  have:=h1 (j+1) hj
  rw[yN (gJ (by omega)) (gJ hj)]at this
  rw[Bool.or_eq_false_iff]at this
  have:=of_decide_eq_false this.2
  omega
 have far:∀k i (hi:i+1+k<S.length),S[i].index<S[i+1+k].index:=λk=>by
  induction k with
  |zero=>intro i hi;exact step i hi
  |
   succ k ih=>
   intro i hi
   have a:=ih i (by omega)
   have b:=step (i+1+k) hi
   show S[i].index<S[i+1+k+1].index
   omega
 rw[List.pairwise_iff_getElem]
 intro i j hi hj D8
 obtain⟨k,rfl⟩:∃k,j=i+1+k:=⟨j-i-1,by omega⟩
 exact far k i hj
theorem Pt (X:List Int):Pm X=true↔X.Nodup:=by
 unfold Pm
 rw[decide_eq_true_iff,j5,List.nodup_iff_pairwise_ne,List.pairwise_iff_getElem]
 constructor
 ·intro h i j hi hj D8 e
  have h1:=h j hj
  unfold nU at h1
  rw[gJ hj]at h1
  have:=List.any_eq_false.1 h1 X[i] (by rw[List.mem_iff_getElem];exact⟨i,by rw[lJ];omega,by rw[List.getElem_take]⟩)
  simp[e]at this
 ·intro h j hj
  unfold nU
  rw[gJ hj]
  refine List.any_eq_false.2 λy hy e=> ?_
  obtain⟨i,hi,rfl⟩:=List.mem_iff_getElem.1 hy
  rw[lJ]at hi
  rw[List.getElem_take]at e
  exact h i j (by omega) hj (by omega) (of_decide_eq_true e)
theorem Pu {S:List cS} (h:S.Pairwise (λx y=>x.index<y.index)) {s:cS} (hs:s∈S):Co S s.index=some s:=by
 obtain⟨i,hi,rfl⟩:=List.mem_iff_getElem.1 hs
 unfold Co
 rw[List.find?_eq_some_iff_getElem]
 refine⟨by simp[RU],i,hi,rfl,λj hj=> ?_⟩
 have:=List.pairwise_iff_getElem.1 h j i (by omega) hi hj
 simp[RU];omega
end Go.Ab
end W39s
noncomputable section W40s
namespace Go.Ab
open Go.Ab
theorem Fx (l:List fg):gl l l.length=l.flatMap AP:=by unfold gl;rw[List.take_length]
theorem Vl {p:fg} (h:(qR p).Nodup):(AP p).Nodup:=by
 unfold AP
 rw[List.nodup_iff_pairwise_ne,List.pairwise_append]
 refine⟨by unfold LL;split<;>simp,?_,λa ha b hb e=> ?_⟩
 ·rw[List.pairwise_map]
  rw[List.nodup_iff_pairwise_ne]at h
  exact h.imp λbS e=>bS (by injection e)
 ·unfold LL at ha
  split at ha
  ·simp at ha
   obtain⟨x,_,rfl⟩:=List.mem_map.1 hb
   rw[ha]at e;injection e with _ _ e3;cases e3
  ·simp at ha
theorem DN {p:fg} {s:cS} (h:s∈AP p):s.peer=p.fF:=by
 unfold AP at h
 rcases List.mem_append.1 h with h|h
 ·unfold LL at h
  split at h
  ·simp at h;rw[h]
  ·simp at h
 ·obtain⟨x,_,rfl⟩:=List.mem_map.1 h;rfl
theorem acw {l:List fg} (hd:Dst l) (h:∀p∈l,(qR p).Nodup):(gl l l.length).Nodup:=by
 rw[Fx,List.nodup_iff_pairwise_ne,List.pairwise_flatMap]
 refine⟨λp hp=>List.nodup_iff_pairwise_ne.1 (Vl (h p hp)),?_⟩
 rw[List.pairwise_iff_getElem]
 intro i j hi hj D8 x hx y hy e
 have h1:=DN hx
 have h2:=DN hy
 have:=hd i j hi hj (by rw[←h1,←h2,e])
 omega
theorem B9 {d:cK} {p:fg}:Yy d p=true↔(∀s∈AP p,GV (Co d.bq s.index) s.pk s.peer=true)∧(qR p).Nodup:=by
 unfold Yy
 rw[aJ,aJ,Pt,List.all_eq_true,←and_assoc]
 refine and_congr_left λ_=> ?_
 unfold AP Pl IP
 constructor
 ·rintro⟨h1,h2⟩ s hs
  rcases List.mem_append.1 hs with hs|hs
  ·unfold LL at hs
   split at hs
   ·rename_i hh
    simp at hs;subst hs
    simpa[hh]using h1
   ·simp at hs
  ·obtain⟨x,hx,rfl⟩:=List.mem_map.1 hs
   exact h2 x hx
 ·intro h
  refine⟨?_,λx hx=>h ⟨x,p.fF,true⟩ (List.mem_append.2 (.inr (List.mem_map.2 ⟨x,hx,rfl⟩)))⟩
  cases hh:p.hand.has
  ·rfl
  ·exact h ⟨p.hand.loc,p.fF,false⟩ (List.mem_append.2 (.inl (by simp[LL,hh])))
theorem acx {d:cK} (hd:Dst d.aa):Yz d=r7 d:=by
 unfold Yz r7
 cases hS:Iw d.bq
 ·rfl
 simp only[Bool.true_and]
 have dG:=Vk hS
 rw[Bool.eq_iff_iff,aJ,List.all_eq_true,decide_eq_true_iff,decide_eq_true_iff,LO _ _ (Nat.le_refl _)]
 have hA:d.bq=my (gl d.aa d.aa.length)↔(gl d.aa d.aa.length).Perm d.bq:=by
  constructor
  ·intro e;rw[e];exact(vw _).symm
  ·intro h;exact uniq dG (LK _) (h.symm.trans (vw _).symm)
 rw[hA]
 have iV:∀s,s∈gl d.aa d.aa.length↔∃p∈d.aa,s∈AP p:=λs=>by rw[Fx,List.mem_flatMap]
 constructor
 ·rintro⟨h1,h2⟩
  refine G2 (acw hd λp hp=>(B9.1 (h1 p hp)).2) (λs hs=> ?_) (by omega)
  obtain⟨p,hp,wm⟩:=(iV s).1 hs
  exact Ps ((B9.1 (h1 p hp)).1 s wm)
 ·intro h
  refine⟨λp hp=>B9.2 ⟨λs hs=> ?_,?_⟩,h.length_eq⟩
  ·have:s∈d.bq:=h.mem_iff.1 ((iV s).2 ⟨p,hp,hs⟩)
   rw[Pu dG this];simp[GV]
  ·have hn:d.bq.Nodup:=by
    rw[List.nodup_iff_pairwise_ne]
    exact dG.imp λhl e=>by rw[e]at hl;omega
   have hg:=h.nodup_iff.2 hn
   rw[Fx,List.nodup_iff_pairwise_ne,List.pairwise_flatMap]at hg
   have h3:=hg.1 p hp
   unfold AP at h3
   rw[List.pairwise_append,List.pairwise_map]at h3
   rw[List.nodup_iff_pairwise_ne]
   exact h3.2.1.imp λbS e=>bS (by rw[e])
end Go.Ab
end W40s
noncomputable section W41s
namespace Go.Ab
open Go.Ab
theorem G3 (x y:UInt8) (a b:List UInt8):Op.bytesLess (x::a) (y::b)=if x=y then Op.bytesLess a b else decide (x<y):=by
 rw[←rB,vq]
 by_cases h:x=y
 ·rw[if_pos h,if_pos h,rB]
 ·rw[if_neg h,if_neg h]
  by_cases h2:x<y<;>simp[h2]
theorem LP:∀a:List UInt8,Op.bytesLess a a=false
 |[]=>by simp[Op.bytesLess]
 |x::a=>by rw[G3,if_pos rfl];exact LP a
theorem RZ:∀a b c:List UInt8,a.length=b.length->b.length=c.length->Op.bytesLess a b=true->Op.bytesLess b c=true->Op.bytesLess a c=true
 |[],[],[],_,_,h,_=>by simp[Op.bytesLess]at h
 |
  x::a,y::b,z::c,e1,e2,h1,h2=>by
  rw[G3]at h1 h2⊢
  have ih:=RZ a b c (by simpa using e1) (by simpa using e2)
  by_cases VG:x=y
  ·subst VG
   by_cases hxz:x=z
   ·subst hxz
    rw[if_pos rfl]at h1 h2⊢
    exact ih h1 h2
   ·rw[if_neg hxz]at h2⊢
    exact h2
  ·rw[if_neg VG]at h1
   by_cases hyz:y=z
   ·subst hyz
    rw[if_neg VG];exact h1
   ·rw[if_neg hyz]at h2
    have a1:=UInt8.lt_iff_toNat_lt.1 (of_decide_eq_true h1)
    have a2:=UInt8.lt_iff_toNat_lt.1 (of_decide_eq_true h2)
    have dG:x<z:=UInt8.lt_iff_toNat_lt.2 (by omega)
    have bS:¬x=z:=λe=>by subst e;omega
    rw[if_neg bS];exact decide_eq_true dG
theorem Fy {d:cK} (h:r2 d=true):Dst d.aa∧d.aa.length≤8:=by
 unfold r2 at h
 rw[aJ]at h
 have h1:=j5.1 (of_decide_eq_true h.1)
 have h8:=of_decide_eq_true h.2
 refine⟨?_,by omega⟩
 have step:∀j (hj:j+1<d.aa.length),Op.bytesLess d.aa[j].fF.l d.aa[j+1].fF.l=true:=λj hj=>by
  have:=h1 (j+1) hj
  rw[yH (gJ (by omega)) (gJ hj)]at this
  simpa using this
 have far:∀k i (hi:i+1+k<d.aa.length),Op.bytesLess d.aa[i].fF.l d.aa[i+1+k].fF.l=true:=λk=>by
  induction k with
  |zero=>intro i hi;exact step i hi
  |
   succ k ih=>
   intro i hi
   exact RZ _ _ _ (by rw[Key.h,Key.h]) (by rw[Key.h,Key.h]) (ih i (by omega)) (step (i+1+k) hi)
 have ne:∀(i j:Nat) (hi:i<d.aa.length) (hj:j<d.aa.length),i<j->d.aa[i].fF≠d.aa[j].fF:=λi j hi hj D8 e=>by
  obtain⟨k,rfl⟩:∃k,j=i+1+k:=⟨j-i-1,by omega⟩
  have:=far k i hj
  rw[e,LP]at this
  cases this
 intro i j hi hj e
 by_cases h:i=j
 ·exact h
 ·by_cases h2:i<j
  ·exact absurd e (ne i j hi hj h2)
  ·exact absurd e.symm (ne j i hj hi (by omega))
end Go.Ab
end W41s
noncomputable section W42s
namespace Go.Ab
open Go.Ab
def vy:List FuncId:=[I.fM,I.gS,I.gk,I.gW,I.fx,I.fI,I.gT,I.gn,I.jr]
def G4 (f:FuncId):PV:= .fn (.func f) [] []
@[simp] theorem acy (f:FuncId):Pure (G4 f):=by simp[G4]
@[simp] theorem ah0 (f:FuncId):wk (G4 f)=G4 f:=by simp[G4]
def AQ (l:List FuncId):PV:= .sl 1 (l.map G4) false
@[simp] theorem Vm (l:List FuncId):Pure (AQ l):=by simp[AQ]
theorem iA:bg Pg I.iA [] (AQ vy):=by
 refine ai.intro T.iA (by simp[F.iA]) ?_
 have Ww:∀f:FuncId,(PV.fn (.func f) [] []).width=1:=λ_=>rfl
 simp[F.iA,aj,aF,Ww,show PV.nf.width=1 from rfl]
 refine al.plain [.wk 0] ?_
 simp[AQ,vy,G4]
def yQ (r:Nat->Bool):Int:=if fst (λi=> !r i) 9<9 then(fst (λi=> !r i) 9:Int)+1 else 0
theorem G5 {r:Nat->Bool} {k:Nat} (hk:k<9) (h:∀j,j<k->r j=true) (h2:r k=false):yQ r=(k:Int)+1:=by
 have hle:=gu (λi=> !r i) 9
 have e:fst (λi=> !r i) 9=k:=by
  rcases Nat.lt_trichotomy (fst (λi=> !r i) 9) k with h3|h3|h3
  ·have:=gN (p:=λi=> !r i) (n:=9) (by omega)
   rw[h _ h3]at this
   cases this
  ·exact h3
  ·have:=gD h3
   rw[h2]at this
   cases this
 rw[yQ,e,if_pos hk]
theorem LQ {r:Nat->Bool} (h:∀j,j<9->r j=true):yQ r=0:=by
 have hle:=gu (λi=> !r i) 9
 rw[yQ,if_neg]
 intro h3
 have:=gN (p:=λi=> !r i) h3
 rw[h _ h3]at this
 cases this
end Go.Ab
end W42s
noncomputable section W43s
namespace Go.Ab
open Go.Ab
def MS:List (List UInt8):=[[110,117,109,98,101,114,115],[112,101,101,114,115],[102,105,101,108,100,115],[104,97,110,100],[115,101,115,115,105,111,110,115],[114,111,117,116,101,115],[115,108,111,116,115],[116,105,109,101,114,115],[108,111,97,100]]
def oe (x:List UInt8×FuncId):PV:= .st 2 [.str x.1,G4 x.2]
@[simp] theorem Fz (x:List UInt8×FuncId):Pure (oe x):=by simp[oe]
@[simp] theorem LR (x:List UInt8×FuncId):wk (oe x)=oe x:=by simp[oe]
def FA:List (List UInt8×FuncId):=MS.zip vy
def wc (l:List (List UInt8×FuncId)):PV:= .sl 2 (l.map oe) false
@[simp] theorem Vn (l:List (List UInt8×FuncId)):Pure (wc l):=by
 unfold wc;simp
theorem LS (i:Nat) (h1:i<MS.length) (h2:i<vy.length):FA.take (i+1)=FA.take i++[(MS[i],vy[i])]:=by
 rw[List.take_succ_eq_append_getElem (show i<FA.length from h1)]
 congr 2
 exact List.getElem_zip
theorem Ix:∃(L:List FuncId) (U:List (List UInt8)) (D:List PV),wc FA= .sl 2 D false∧cD D∧jo D=D∧bg Pg I.iA [] (AQ L)∧L.length=9∧U.length=9∧[PV.str [110,117,109,98,101,114,115],.str [112,101,101,114,115],.str [102,105,101,108,100,115],.str [104,97,110,100],.str [115,101,115,115,105,111,110,115],.str [114,111,117,116,101,115],.str [115,108,111,116,115],.str [116,105,109,101,114,115],.str [108,111,97,100]]=U.map PV.str∧
  (∀i (h1:i<U.length) (h2:i<L.length),D.take (i+1)=D.take i++[oe (U[i],L[i])])∧(∀i,i≤9->(D.take i).length=i)∧D.take 9=D:=
 ⟨vy,MS,FA.map oe,rfl,dQ Fz _,pM LR _,iA,rfl,rfl,rfl,λi h1 h2=>by rw[←List.map_take,LS i h1 h2,List.map_append,List.map_take];rfl,λi h=>by rw[lJ,show(FA.map oe).length=9 from rfl];omega,rfl⟩
theorem gE:bg Pg I.gE [] (wc FA):=by
 refine ai.intro T.gE (by simp[F.gE]) ?_
 obtain⟨L,U,D,hD,hDp,hDw,hA,hlen,hlw,hws,hts,DS,ht9⟩:=Ix
 rw[hD]
 clear hD
 have YY:∀u:List UInt8,(PV.str u).width=1:=λ_=>rfl
 simp[F.gE,aj,aF,YY,hws]
 clear hws
 refine an.ret hA (by simp) (by simp) (by simp) ?_
 simp[AQ,hlen]
 refine fb.fG 9 (λ_=>True) [1,2,6,7,8] (λi=>[(2,.rs 2 [] 0 i i 2 .tip),(8,.int .i64 i)]) (λi=>[(2,.arr 2 (D.take i))]) [.keep [1,2,6,7,8],.vt 2 2 2] ?_
 simp
 refine⟨λi hi K hK=> ?_,λK=> ?_⟩
 ·have h1:i<U.length:=by omega
  have h2:i<L.length:=by omega
  have hx:U[i]? =some U[i]:=gJ h1
  have hy:L[i]? =some L[i]:=gJ h2
  have hl:=DS i (by omega)
  rw[hts i h1 h2]at hK
  generalize U[i]=u at*
  generalize L[i]=f at*
  generalize D.take i=A at*
  have hi9:(i:Int)<9:=by omega
  have he:PV.st 2 [.str u,.fn (.func f) [] []]=oe (u,f):=rfl
  have Ww:(PV.fn (.func f) [] []).width=PV.nf.width:=rfl
  simp[↓ah,hx,hy,hi,hi9,h1,h2,hl,G4,Ww,cu hi (by omega),-getElem?_pos]
  rw[he]
  refine⟨rfl,⟨by omega,by omega⟩,[.keep [1,2,6,7,8]],?_⟩
  simp
  exact hK _ (by simp[G4])
 ·simp[↓ah]
  have hD9:D.length=9:=by have:=DS 9 (by omega);rwa [ht9]at this
  rw[ht9]
  refine al.plain [.fz 2] ?_
  simp[hDw,hD9,ht9,hDp.refs]
  exact hDp
end Go.Ab
end W43s
noncomputable section W43as
namespace Go.Ab
open Go.Ab
structure YA (d:cK):Prop where
 rV:Ui d
 wn:∀p∈d.aa,qd p
 il:Cn d.rules.load
 is:Cn d.rules.gC
 ib:Cn d.bad
 u:∀s∈gl d.aa d.aa.length,rL s
def rr (d:cK) (i:Nat):Bool:=
 match i with
 |0=>r1 d
 |1=>r2 d
 |2=>r3 d
 |3=>r4 d
 |4=>r5 d
 |5=>r6 d
 |6=>r7 d
 |7=>r8 d
 |8=>r9 d
 |_=>true
theorem Pv {d:cK} (h:YA d):∀i (hi:i<vy.length),(∀j,j<i->rr d j=true)->bg Pg vy[i] [bE d] (.bl (rr d i)):=by
 intro i hi hj
 have hlen:vy.length=9:=rfl
 match i,hi with
 |0,_=>exact KR h.il h.is h.ib
 |1,_=>exact UR h.rV.aa
 |2,_=>exact O8 h.rV.aa h.rV.bD
 |3,_=>exact UU h.rV.aa
 |4,_=>exact Im h.rV.aa h.wn
 |5,_=>exact Ll h.rV.aa h.rV.aV
 |6,_=>exact Vj (Fy (hj 1 (by omega))).2 h.rV.bq h.u
 |7,_=>exact Pf h.rV.aa h.rV.timers
 |8,_=>exact ab3 h.rV.aR h.rV.buckets
end Go.Ab
end W43as
noncomputable section W43bs
namespace Go.Ab
open Go.Ab
theorem G6 {i:Nat} (h:i<9):FA[i]? =some (MS[i]'h,vy[i]'h):=by
 rw[gJ (show i<FA.length from h)]
 exact congrArg some List.getElem_zip
theorem Vo {d:cK} {r:Nat->Bool} (dM:∀i (h:i<vy.length),(∀j,j<i->r j=true)->bg Pg vy[i] [bE d] (.bl (r i))):bg Pg I.fB [bE d] (.int .i64 (yQ r)):=by
 refine ai.intro T.fB (by simp[F.fB]) ?_
 have hle:=gu (λi=> !r i) 9
 have jP:∀i,i<fst (λi=> !r i) 9->r i=true:=λi h=>by simpa using gD h
 have jQ:fst (λi=> !r i) 9<9->r (fst (λi=> !r i) 9)=false:=λh=>by simpa using gN h
 have hr:yQ r=if fst (λi=> !r i) 9<9 then(fst (λi=> !r i) 9:Int)+1 else 0:=rfl
 generalize fst (λi=> !r i) 9=n at*
 have da:∀i,i<9->∃(u:List UInt8) (f:FuncId),FA[i]? =some (u,f)∧((∀j,j<i->r j=true)->bg Pg f [bE d] (.bl (r i))):=λi h=>⟨_,_,G6 h,dM i h⟩
 have hlen:FA.length=9:=rfl
 have hA:=gE
 clear dM
 generalize FA=D at*
 simp[F.fB,aj,aF]
 refine an.ret hA (by simp) (by simp) (by simp) ?_
 simp[wc,hlen]
 refine fb.fG n (λ_=>True) [1,2,5,6,7] (λi=>[(7,.int .i64 i)]) (λi=>[]) [.keep [1,2,5,6,7]] ?_
 simp
 refine⟨λi hi K hK=> ?_,λK=> ?_⟩
 ·obtain⟨u,f,hx,hc⟩:=da i (by omega)
  have hc:=hc (λj hj=>jP j (by omega))
  rw[jP i hi]at hc
  have hi9:i<9:=by omega
  have Wx:(i:Int)<9:=by omega
  have Ww:∀f:FuncId,(PV.fn (.func f) [] []).width=PV.nf.width:=λ_=>rfl
  simp[↓ah,hx,hi9,Wx,hlen,cu hi9 (by omega),oe,G4,Ww,show PV.nf.width=1 from rfl,-getElem?_pos]
  refine an.ret hc (by simp) (by simp) (by simp) ?_
  simp[cu hi9 (by omega)]
  refine⟨[.keep [1,2,5,6,7],.dr 4],?_⟩
  simp
  exact hK _ (by simp[oe,G4])
 ·by_cases Wy:n<9
  ·obtain⟨u,f,hx,hc⟩:=da n Wy
   have hc:=hc (λj hj=>jP j hj)
   rw[jQ Wy]at hc
   have Wx:(n:Int)<9:=by omega
   have Ww:∀f:FuncId,(PV.fn (.func f) [] []).width=PV.nf.width:=λ_=>rfl
   simp[↓ah,hx,Wy,Wx,hlen,oe,G4,Ww,show PV.nf.width=1 from rfl,-getElem?_pos]
   refine an.ret hc (by simp) (by simp) (by simp) ?_
   simp[cu Wy (by omega)]
   refine al.plain [] ?_
   simp[hr,Wy]
  ·have mC:¬((n:Int)<9):=by omega
   simp[↓ah,mC,Wy]
   refine al.plain [] ?_
   simp[hr,Wy]
def rY (n:Int):List UInt8:=if 1≤n∧n≤9 then MS.getD (n-1).toNat []else []
theorem gj (n:Int):bg Pg I.gj [.int .i64 n] (.str (rY n)):=by
 refine ai.intro T.gj (by simp[F.gj]) ?_
 have hlen:FA.length=9:=rfl
 have hA:=gE
 have da:∀i,i<9->∃f:FuncId,FA[i]? =some (MS.getD i [],f):=λi h=>⟨vy[i]'h,by
  rw[G6 h,List.getD_eq_getElem?_getD,gJ (show i<MS.length from h)]
  rfl⟩
 generalize FA=D at*
 simp[F.gj,aj,aF]
 refine an.ret hA (by simp) (by simp) (by simp) ?_
 by_cases h1:n<1
 ·simp[h1,wc]
  refine al.plain [] ?_
  simp[rY,show¬(1≤n∧n≤9) by omega]
 by_cases h2:9<n
 ·simp[h1,h2,wc,hlen]
  refine al.plain [] ?_
  simp[rY,show¬(1≤n∧n≤9) by omega]
 obtain⟨f,hx⟩:=da (n.toNat-1) (by omega)
 have h6:1≤n:=by omega
 have hw:IntKind.i64.wrap (n-1)=n-1:=wrap_i64 (by omega)
 have h3:n-1<9:=by omega
 have h4:(n-1).toNat<9:=by omega
 have h5:0≤n-1:=by omega
 simp[h1,h2,wc,hlen,hw,h3,h4,h5,h6,hx,oe,G4,show PV.nf.width=1 from rfl,-getElem?_pos]
 refine al.plain [] ?_
 simp[rY,show(1≤n∧n≤9) by omega]
end Go.Ab
end W43bs
noncomputable section W44s
namespace Go.Ab
open Go.Ab
theorem Vp {d:cK} (h:YA d):bg Pg I.cV [bE d] (.int .i64 (yQ (rr d))):=by
 refine ai.intro T.cV (by simp[F.cV]) ?_
 have e0:rr d 0=r1 d:=rfl
 have e1:rr d 1=r2 d:=rfl
 have e2:rr d 2=r3 d:=rfl
 have e3:rr d 3=r4 d:=rfl
 have e4:rr d 4=r5 d:=rfl
 have e5:rr d 5=r6 d:=rfl
 have e6:rr d 6=r7 d:=rfl
 have e7:rr d 7=r8 d:=rfl
 have e8:rr d 8=r9 d:=rfl
 have jQ:∀k,k<9->(∀j,j<k->rr d j=true)->rr d k=false->yQ (rr d)=(k:Int)+1:=λk=>G5
 have dM:(∀j,j<9->rr d j=true)->yQ (rr d)=0:=LQ
 have c1:=UP (r:=d.rules) h.il h.is
 have c2:=US (d:=d) h.rV.aa
 have c3:=U3 (d:=d) h.rV.aa h.rV.bD
 have c4:=U4 (d:=d) h.rV.aa
 have c5:=U5 (d:=d) h.rV.aa h.wn
 have c6:=Pa (d:=d) h.rV.aa h.rV.aV
 have c7:=U9 (d:=d) h.rV.aa h.rV.bq
 have c8:=Ph (d:=d) h.rV.aa h.rV.timers
 have c9:=ab4 (d:=d) h.rV.aR h.rV.buckets
 have x7:r2 d=true->Yz d=r7 d:=λg=>acx (Fy g).1
 have x8:r2 d=true->Yx d=r8 d:=λg=>aca (Fy g).1
 have yX:=h.ib.w
 have ez:r1 d=(kj d.rules&&gp d.now 0 1099511627776&&gp d.port 0 65535&&gp d.bad 0 1099511627776):=rfl
 simp[F.cV,aj,aF]
 refine an.ret c1 (by simp) (by simp) (by simp) ?_
 cases g1:kj d.rules
 ·simp
  refine al.plain [] ?_
  simp[jQ 0 (by omega) (by omega) (by rw[e0,ez,g1];rfl)]
 simp
 refine IN ?_
 cases g2:gp d.now 0 1099511627776
 ·simp
  refine al.plain [] ?_
  simp[jQ 0 (by omega) (by omega) (by rw[e0,ez,g1,g2];rfl)]
 simp
 refine IN ?_
 cases g3:gp d.port 0 65535
 ·simp
  refine al.plain [] ?_
  simp[jQ 0 (by omega) (by omega) (by rw[e0,ez,g1,g2,g3];rfl)]
 simp[yX]
 refine IN ?_
 cases g4:gp d.bad 0 1099511627776
 ·simp
  refine al.plain [] ?_
  simp[jQ 0 (by omega) (by omega) (by rw[e0,ez,g1,g2,g3,g4];rfl)]
 have t0:rr d 0=true:=by rw[e0,ez,g1,g2,g3,g4];rfl
 simp
 refine an.ret c2 (by simp) (by simp) (by simp) ?_
 cases g11:r2 d
 ·simp
  refine al.plain [] ?_
  simp[jQ 1 (by omega) (λj hj=>by rcases(by omega:j=0)with rfl<;>assumption) (by rw[e1,g11])]
 have t1:rr d 1=true:=by rw[e1,g11]
 simp
 refine an.ret c3 (by simp) (by simp) (by simp) ?_
 cases g12:r3 d
 ·simp
  refine al.plain [] ?_
  simp[jQ 2 (by omega) (λj hj=>by rcases(by omega:j=0∨j=1)with rfl|rfl<;>assumption) (by rw[e2,g12])]
 have t2:rr d 2=true:=by rw[e2,g12]
 simp
 refine an.ret c4 (by simp) (by simp) (by simp) ?_
 cases g13:r4 d
 ·simp
  refine al.plain [] ?_
  simp[jQ 3 (by omega) (λj hj=>by rcases(by omega:j=0∨j=1∨j=2)with rfl|rfl|rfl<;>assumption) (by rw[e3,g13])]
 have t3:rr d 3=true:=by rw[e3,g13]
 simp
 refine an.ret c5 (by simp) (by simp) (by simp) ?_
 cases g14:r5 d
 ·simp
  refine al.plain [] ?_
  simp[jQ 4 (by omega) (λj hj=>by rcases(by omega:j=0∨j=1∨j=2∨j=3)with rfl|rfl|rfl|rfl<;>assumption) (by rw[e4,g14])]
 have t4:rr d 4=true:=by rw[e4,g14]
 simp
 refine an.ret c6 (by simp) (by simp) (by simp) ?_
 cases g15:r6 d
 ·simp
  refine al.plain [] ?_
  simp[jQ 5 (by omega) (λj hj=>by rcases(by omega:j=0∨j=1∨j=2∨j=3∨j=4)with rfl|rfl|rfl|rfl|rfl<;>assumption) (by rw[e5,g15])]
 have t5:rr d 5=true:=by rw[e5,g15]
 simp
 rw[x7 (by rw[←e1];exact t1)]at c7
 refine an.ret c7 (by simp) (by simp) (by simp) ?_
 cases g16:r7 d
 ·simp
  refine al.plain [] ?_
  simp[jQ 6 (by omega) (λj hj=>by rcases(by omega:j=0∨j=1∨j=2∨j=3∨j=4∨j=5)with rfl|rfl|rfl|rfl|rfl|rfl<;>assumption) (by rw[e6,g16])]
 have t6:rr d 6=true:=by rw[e6,g16]
 simp
 rw[x8 (by rw[←e1];exact t1)]at c8
 refine an.ret c8 (by simp) (by simp) (by simp) ?_
 cases g17:r8 d
 ·simp
  refine al.plain [] ?_
  simp[jQ 7 (by omega) (λj hj=>by rcases(by omega:j=0∨j=1∨j=2∨j=3∨j=4∨j=5∨j=6)with rfl|rfl|rfl|rfl|rfl|rfl|rfl<;>assumption) (by rw[e7,g17])]
 have t7:rr d 7=true:=by rw[e7,g17]
 simp
 refine an.ret c9 (by simp) (by simp) (by simp) ?_
 cases g18:r9 d
 ·simp
  refine al.plain [] ?_
  simp[jQ 8 (by omega) (λj hj=>by rcases(by omega:j=0∨j=1∨j=2∨j=3∨j=4∨j=5∨j=6∨j=7)with rfl|rfl|rfl|rfl|rfl|rfl|rfl|rfl<;>assumption) (by rw[e8,g18])]
 have t8:rr d 8=true:=by rw[e8,g18]
 simp
 refine al.plain [] ?_
 simp[dM (λj hj=>by rcases(by omega:j=0∨j=1∨j=2∨j=3∨j=4∨j=5∨j=6∨j=7∨j=8)with rfl|rfl|rfl|rfl|rfl|rfl|rfl|rfl|rfl<;>assumption)]
end Go.Ab
end W44s

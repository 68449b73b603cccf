/- Rules 1, 2, 4 and 5, in the program and in the document. No condition. -/
import Derived.Test.YtjkfnhhekobfgaaGreatDoorK1
import Derived.Test.YtjkfnhhekobfgaaGreatDoorB6
set_option maxRecDepth 10000
set_option maxHeartbeats 1000000
set_option linter.all false
noncomputable section W2s
namespace Go.Ab
open Go.Ab
def ki (sz:Nat) (g:Bool):fU:=⟨19,[.mv (.t 4)],.seq (.region [⟨(some 4),none,true,.mv (.c (.int .i64 0))⟩]) (.seq (.seq (.region [⟨(some 6),none,true,.mv (.t 0)⟩,⟨(some 7),none,true,.len (.t 6)⟩,⟨(some 8),none,true,.mv (.c (.int .i64 0))⟩]) (.block 0 (.loop (lk (.seq (.region [⟨(some 9),none,true,.bin .lss .no (.t 8) (.t 7)⟩]) (.seq (.cond (.t 9) (.skip) (.exit 0)) (.seq (.block 1 (.seq (.region [⟨(some 10),none,true,.mv (.t 8)⟩,⟨(some 5),none,true,.mv (.t 10)⟩]) (.seq (.region [⟨(some 11),none,true,.mv (.t 1)⟩,⟨(some 12),none,true,.mv (.t 0)⟩,⟨(some 13),none,true,.mv (.t 5)⟩,⟨(some 14),none,false,.indexA (.sl sz) (.t 12) (.t 13)⟩,⟨(some 15),none,true,.load g sz (.t 14)⟩,⟨(some 16),none,false,.call (.t 11) [(.t 15)]⟩]) (.cond (.t 16) (.seq (.region [⟨(some 17),none,true,.mv (.t 5)⟩,⟨(some 4),none,true,.mv (.t 17)⟩]) (.ret)) (.skip))))) (.region [⟨(some 18),none,true,.bin .add .no (.t 8) (.c (.int .i64 1))⟩,⟨(some 8),none,true,.mv (.t 18)⟩])))))))) (lk (.seq (.region [⟨(some 4),none,true,.mv (.c (.int .i64 (-1)))⟩]) (.ret))))⟩
def mG (ix:FuncId):fU:=⟨9,[.mv (.t 4)],.seq (.region [⟨(some 4),none,true,.mv (.c (.bl false))⟩]) (.seq (.region [⟨(some 5),none,true,.mv (.t 0)⟩,⟨(some 6),none,true,.mv (.t 1)⟩,⟨(some 7),none,false,.call (.c (.fn (.func ix) [] [])) [(.t 5),(.t 6)]⟩,⟨(some 8),none,true,.bin .geq .no (.t 7) (.c (.int .i64 0))⟩,⟨(some 4),none,true,.mv (.t 8)⟩]) (.ret))⟩
structure Il {α:Type} (sz:Nat) (g:Bool) (e:α->PV) (l:List α):Prop where
 len:l.length≤1048576
 el:∀x:α,((e x).width=sz∧(e x).isAgg=g)∧Pure (e x)∧wk (e x)=e x∧∀K:PV->Prop,gG true (e x) K=K (e x)
def fi {α:Type} (p:α->Bool) (l:List α):Int:=if l.any p=true then(l.findIdx p:Int)else-1
theorem sL {α:Type} (p:α->Bool) (l:List α):decide (0≤fi p l)=l.any p:=by
 unfold fi;split
 ·rename_i h;simp[h]
 ·rename_i h;simp only[Bool.not_eq_true]at h;rw[h];simp
section
variable {α:Type} {sz:Nat} {ag:Bool} {f ix:FuncId} {e:α->PV} {l:List α} {p:α->Bool} {g:FuncId} {v w:PV}
theorem ahN (ht:jI Pg [] [] f=some (ki sz ag).er) (hL:Il sz ag e l)
  (hp:∀x∈l,ai Pg g [e x] [] (λr fp=>r= .bl (p x)∧fp=[])):
  ai Pg f [.sl sz (l.map e) false,.fn (.func g) [] []] [] (λr fp=>r= .int .i64 (fi p l)∧fp=[]):=by
 refine ai.intro ht (by simp[ki]) ?_
 have hl:=hL.len
 obtain⟨m,hm⟩:∃m,m=l.findIdx p:=⟨_,rfl⟩
 have hle:m≤l.length:=by rw[hm];exact List.findIdx_le_length
 have hb:∀i (h:i<l.length),i<m->p l[i]=false:=λi h h2=>List.not_of_lt_findIdx (by rw[←hm];exact h2)
 have ha:∀(h:m<l.length),p l[m]=true∧fi p l=m:=λh=>by
  have h2:p l[m]=true:=by subst hm;exact List.findIdx_getElem
  exact⟨h2,by unfold fi;rw[if_pos (List.any_eq_true.2 ⟨_,List.getElem_mem h,h2⟩),hm]⟩
 have hc:¬m<l.length->fi p l= -1:=λh=>by
  unfold fi;rw[if_neg];intro h2;exact h (by rw[hm];exact List.findIdx_lt_length.2 (List.any_eq_true.1 h2))
 clear hm
 simp[ki,aj,aF]
 refine fb.fG m (λ_=>True) [0,1,4,6,7,8] (λi=>[(8,.int .i64 i)]) (λ_=>[]) [.keep [0,1,4,6,7,8]] ?_
 simp
 refine⟨λi hi K hK=> ?_,λK=> ?_⟩
 ·have eS:i<l.length:=by omega
  have hx:l[i]? =some l[i]:=gJ eS
  obtain⟨⟨e1,e2⟩,e3,e4,e5⟩:=hL.el l[i]
  have hc:=hp l[i] (List.getElem_mem eS)
  have hf:=hb i eS hi
  rw[hf]at hc
  have wi:IntKind.i64.wrap ((i:Int)+1)=(i:Int)+1:=wrap_i64 (by omega)
  generalize l[i]=x at*
  simp[↓ah,hx,eS,e1,e2,e5,-getElem?_pos]
  refine an.gen [] [] [] (hc) (by simp[getAll]) (by simp) (by simp) (by simp[ab,ae,bM,idx,e3.refs]) (by simp[af,ae,ab]) (by simp[aD,aB,bp,idx,e3.aB,e4]) (by simp[aE]) (by simp[af,ae,ab,fj]) ?_
  simp[bb,aE,aB,aD,dv]
  simp[wi]
  refine⟨[.keep [0,1,4,6,7,8]],?_⟩
  simp
  exact hK _ (by simp)
 ·by_cases hn:m<l.length
  ·have hx:l[m]? =some l[m]:=gJ hn
   obtain⟨⟨e1,e2⟩,e3,e4,e5⟩:=hL.el l[m]
   have hc:=hp l[m] (List.getElem_mem hn)
   obtain⟨hf,sV⟩:=ha hn
   rw[hf]at hc
   generalize l[m]=x at*
   simp[↓ah,hx,hn,e1,e2,e5,-getElem?_pos]
   refine an.gen [] [] [] (hc) (by simp[getAll]) (by simp) (by simp) (by simp[ab,ae,bM,idx,e3.refs]) (by simp[af,ae,ab]) (by simp[aD,aB,bp,idx,e3.aB,e4]) (by simp[aE]) (by simp[af,ae,ab,fj]) ?_
   simp[bb,aE,aB,aD,dv]
   refine al.with [] [] ?_
   simp[af,ae,ab,aE,aB,aD,fj,sV]
  ·have sV:=hc hn
   have mC:¬(m:Int)<l.length:=by omega
   simp[↓ah,mC,hn]
   refine al.with [] [] ?_
   simp[af,ae,ab,aE,aB,aD,fj,sV]
theorem ahO (hf:jI Pg [] [] f=some (mG ix).er) (ht:jI Pg [] [] ix=some (ki sz ag).er) (hL:Il sz ag e l)
  (hp:∀x∈l,ai Pg g [e x] [] (λr fp=>r= .bl (p x)∧fp=[])):
  ai Pg f [.sl sz (l.map e) false,.fn (.func g) [] []] [] (λr fp=>r= .bl (l.any p)∧fp=[]):=by
 refine ai.intro hf (by simp[mG]) ?_
 have sZ:cD (l.map e):=dQ (λx=>(hL.el x).2.1) l
 have L3:jo (l.map e)=l.map e:=pM (λx=>(hL.el x).2.2.1) l
 simp[mG,aj,aF]
 refine an.gen [] [] [] (ahN (p:=p) ht hL hp) (by simp[getAll]) (by simp) (by simp) (by simp[ab,ae,bM,idx,sZ.refs]) (by simp[af,ae,ab]) (by simp[aD,aB,bp,idx,sZ.aB,L3]) (by simp[aE]) (by simp[af,ae,ab,fj]) ?_
 simp[bb,aE,aB,aD,dv]
 refine al.with [] [] ?_
 simp[af,ae,ab,aE,aB,aD,fj,sL]
theorem ahP (ht:jI Pg [] [] f=some (ki sz ag).er) (hL:Il sz ag e l) (hv:Pure v)
  (hp:∀x∈l,ai Pg g [e x,.pt KB [] 0] [.box v] (λr fp=>r= .bl (p x)∧fp=[.box v])):
  ai Pg f [.sl sz (l.map e) false,.fn (.func g) [] [.pt KB [] 0]] [.box v] (λr fp=>r= .int .i64 (fi p l)∧fp=[.box v]):=by
 refine ai.intro ht (by simp[ki]) ?_
 have hl:=hL.len
 obtain⟨m,hm⟩:∃m,m=l.findIdx p:=⟨_,rfl⟩
 have hle:m≤l.length:=by rw[hm];exact List.findIdx_le_length
 have hb:∀i (h:i<l.length),i<m->p l[i]=false:=λi h h2=>List.not_of_lt_findIdx (by rw[←hm];exact h2)
 have ha:∀(h:m<l.length),p l[m]=true∧fi p l=m:=λh=>by
  have h2:p l[m]=true:=by subst hm;exact List.findIdx_getElem
  exact⟨h2,by unfold fi;rw[if_pos (List.any_eq_true.2 ⟨_,List.getElem_mem h,h2⟩),hm]⟩
 have hc:¬m<l.length->fi p l= -1:=λh=>by
  unfold fi;rw[if_neg];intro h2;exact h (by rw[hm];exact List.findIdx_lt_length.2 (List.any_eq_true.1 h2))
 clear hm
 simp[ki,aj,aF]
 refine fb.fG m (λ_=>True) [0,1,4,6,7,8] (λi=>[(8,.int .i64 i)]) (λ_=>[]) [.keep [0,1,4,6,7,8]] ?_
 simp
 refine⟨λi hi K hK=> ?_,λK=> ?_⟩
 ·have eS:i<l.length:=by omega
  have hx:l[i]? =some l[i]:=gJ eS
  obtain⟨⟨e1,e2⟩,e3,e4,e5⟩:=hL.el l[i]
  have hc:=hp l[i] (List.getElem_mem eS)
  have hf:=hb i eS hi
  rw[hf]at hc
  have wi:IntKind.i64.wrap ((i:Int)+1)=(i:Int)+1:=wrap_i64 (by omega)
  generalize l[i]=x at*
  simp[↓ah,hx,eS,e1,e2,e5,-getElem?_pos]
  refine an.gen [KB] [] [.box v] (hc) (by simp[getAll]) (by simp) (by simp) (by simp[ab,ae,bM,idx,e3.refs]) (by simp[hv.refs,hv.aB,af,ae,ab]) (by simp[aD,aB,bp,idx,e3.aB,e4]) (by simp[hv.refs,hv.aB,aE]) (by simp[hv.refs,hv.aB,af,ae,ab,fj]) ?_
  simp[hv.refs,hv.aB,bb,aE,aB,aD,dv]
  simp[wi]
  refine⟨[.keep [0,1,4,6,7,8]],?_⟩
  simp
  exact hK _ (by simp)
 ·by_cases hn:m<l.length
  ·have hx:l[m]? =some l[m]:=gJ hn
   obtain⟨⟨e1,e2⟩,e3,e4,e5⟩:=hL.el l[m]
   have hc:=hp l[m] (List.getElem_mem hn)
   obtain⟨hf,sV⟩:=ha hn
   rw[hf]at hc
   generalize l[m]=x at*
   simp[↓ah,hx,hn,e1,e2,e5,-getElem?_pos]
   refine an.gen [KB] [] [.box v] (hc) (by simp[getAll]) (by simp) (by simp) (by simp[ab,ae,bM,idx,e3.refs]) (by simp[hv.refs,hv.aB,af,ae,ab]) (by simp[aD,aB,bp,idx,e3.aB,e4]) (by simp[hv.refs,hv.aB,aE]) (by simp[hv.refs,hv.aB,af,ae,ab,fj]) ?_
   simp[hv.refs,hv.aB,bb,aE,aB,aD,dv]
   refine al.with [] [KB] ?_
   simp[hv.refs,hv.aB,af,ae,ab,aE,aB,aD,fj,sV]
  ·have sV:=hc hn
   have mC:¬(m:Int)<l.length:=by omega
   simp[↓ah,mC,hn]
   refine al.with [] [KB] ?_
   simp[hv.refs,hv.aB,af,ae,ab,aE,aB,aD,fj,sV]
theorem OZ (hf:jI Pg [] [] f=some (mG ix).er) (ht:jI Pg [] [] ix=some (ki sz ag).er) (hL:Il sz ag e l) (hv:Pure v)
  (hp:∀x∈l,ai Pg g [e x,.pt KB [] 0] [.box v] (λr fp=>r= .bl (p x)∧fp=[.box v])):
  ai Pg f [.sl sz (l.map e) false,.fn (.func g) [] [.pt KB [] 0]] [.box v] (λr fp=>r= .bl (l.any p)∧fp=[.box v]):=by
 refine ai.intro hf (by simp[mG]) ?_
 have sZ:cD (l.map e):=dQ (λx=>(hL.el x).2.1) l
 have L3:jo (l.map e)=l.map e:=pM (λx=>(hL.el x).2.2.1) l
 simp[mG,aj,aF]
 refine an.gen [KB] [] [.box v] (ahP (p:=p) ht hL hv hp) (by simp[getAll]) (by simp) (by simp) (by simp[ab,ae,bM,idx,sZ.refs]) (by simp[hv.refs,hv.aB,af,ae,ab]) (by simp[aD,aB,bp,idx,sZ.aB,L3]) (by simp[hv.refs,hv.aB,aE]) (by simp[hv.refs,hv.aB,af,ae,ab,fj]) ?_
 simp[hv.refs,hv.aB,bb,aE,aB,aD,dv]
 refine al.with [] [KB] ?_
 simp[hv.refs,hv.aB,af,ae,ab,aE,aB,aD,fj,sL]
theorem ahQ (ht:jI Pg [] [] f=some (ki sz ag).er) (hL:Il sz ag e l) (hv:ae (bM [KB,KB+1]) v=true∧ae (fj 2) v=true∧aB (bp [KB,KB+1]) v=v∧aB (dv [KB,KB+1]) v=v) (hw:Pure w)
  (hp:∀x∈l,ai Pg g [e x,.pt KB [] 0] [.box v,.box w] (λr fp=>r= .bl (p x)∧fp=[.box v,.box w])):
  ai Pg f [.sl sz (l.map e) false,.fn (.func g) [] [.pt KB [] 0]] [.box v,.box w] (λr fp=>r= .int .i64 (fi p l)∧fp=[.box v,.box w]):=by
 refine ai.intro ht (by simp[ki]) ?_
 have hl:=hL.len
 obtain⟨m,hm⟩:∃m,m=l.findIdx p:=⟨_,rfl⟩
 have hle:m≤l.length:=by rw[hm];exact List.findIdx_le_length
 have hb:∀i (h:i<l.length),i<m->p l[i]=false:=λi h h2=>List.not_of_lt_findIdx (by rw[←hm];exact h2)
 have ha:∀(h:m<l.length),p l[m]=true∧fi p l=m:=λh=>by
  have h2:p l[m]=true:=by subst hm;exact List.findIdx_getElem
  exact⟨h2,by unfold fi;rw[if_pos (List.any_eq_true.2 ⟨_,List.getElem_mem h,h2⟩),hm]⟩
 have hc:¬m<l.length->fi p l= -1:=λh=>by
  unfold fi;rw[if_neg];intro h2;exact h (by rw[hm];exact List.findIdx_lt_length.2 (List.any_eq_true.1 h2))
 clear hm
 simp[ki,aj,aF]
 refine fb.fG m (λ_=>True) [0,1,4,6,7,8] (λi=>[(8,.int .i64 i)]) (λ_=>[]) [.keep [0,1,4,6,7,8]] ?_
 simp
 refine⟨λi hi K hK=> ?_,λK=> ?_⟩
 ·have eS:i<l.length:=by omega
  have hx:l[i]? =some l[i]:=gJ eS
  obtain⟨⟨e1,e2⟩,e3,e4,e5⟩:=hL.el l[i]
  have hc:=hp l[i] (List.getElem_mem eS)
  have hf:=hb i eS hi
  rw[hf]at hc
  have wi:IntKind.i64.wrap ((i:Int)+1)=(i:Int)+1:=wrap_i64 (by omega)
  generalize l[i]=x at*
  simp[↓ah,hx,eS,e1,e2,e5,-getElem?_pos]
  refine an.gen [KB,KB+1] [] [.box v,.box w] (hc) (by simp[getAll]) (by simp) (by simp) (by simp[ab,ae,bM,idx,e3.refs]) (by simp[hv.1,hv.2.1,hv.2.2.1,hv.2.2.2,hw.refs,hw.aB,af,ae,ab]) (by simp[aD,aB,bp,idx,e3.aB,e4]) (by simp[hv.1,hv.2.1,hv.2.2.1,hv.2.2.2,hw.refs,hw.aB,aE]) (by simp[hv.1,hv.2.1,hv.2.2.1,hv.2.2.2,hw.refs,hw.aB,af,ae,ab,fj]) ?_
  simp[hv.1,hv.2.1,hv.2.2.1,hv.2.2.2,hw.refs,hw.aB,bb,aE,aB,aD,dv]
  simp[wi]
  refine⟨[.keep [0,1,4,6,7,8]],?_⟩
  simp
  exact hK _ (by simp)
 ·by_cases hn:m<l.length
  ·have hx:l[m]? =some l[m]:=gJ hn
   obtain⟨⟨e1,e2⟩,e3,e4,e5⟩:=hL.el l[m]
   have hc:=hp l[m] (List.getElem_mem hn)
   obtain⟨hf,sV⟩:=ha hn
   rw[hf]at hc
   generalize l[m]=x at*
   simp[↓ah,hx,hn,e1,e2,e5,-getElem?_pos]
   refine an.gen [KB,KB+1] [] [.box v,.box w] (hc) (by simp[getAll]) (by simp) (by simp) (by simp[ab,ae,bM,idx,e3.refs]) (by simp[hv.1,hv.2.1,hv.2.2.1,hv.2.2.2,hw.refs,hw.aB,af,ae,ab]) (by simp[aD,aB,bp,idx,e3.aB,e4]) (by simp[hv.1,hv.2.1,hv.2.2.1,hv.2.2.2,hw.refs,hw.aB,aE]) (by simp[hv.1,hv.2.1,hv.2.2.1,hv.2.2.2,hw.refs,hw.aB,af,ae,ab,fj]) ?_
   simp[hv.1,hv.2.1,hv.2.2.1,hv.2.2.2,hw.refs,hw.aB,bb,aE,aB,aD,dv]
   refine al.with [] [KB,KB+1] ?_
   simp[hv.1,hv.2.1,hv.2.2.1,hv.2.2.2,hw.refs,hw.aB,af,ae,ab,aE,aB,aD,fj,sV]
  ·have sV:=hc hn
   have mC:¬(m:Int)<l.length:=by omega
   simp[↓ah,mC,hn]
   refine al.with [] [KB,KB+1] ?_
   simp[hv.1,hv.2.1,hv.2.2.1,hv.2.2.2,hw.refs,hw.aB,af,ae,ab,aE,aB,aD,fj,sV]
theorem ahR (hf:jI Pg [] [] f=some (mG ix).er) (ht:jI Pg [] [] ix=some (ki sz ag).er) (hL:Il sz ag e l) (hv:ae (bM [KB,KB+1]) v=true∧ae (fj 2) v=true∧aB (bp [KB,KB+1]) v=v∧aB (dv [KB,KB+1]) v=v) (hw:Pure w)
  (hp:∀x∈l,ai Pg g [e x,.pt KB [] 0] [.box v,.box w] (λr fp=>r= .bl (p x)∧fp=[.box v,.box w])):
  ai Pg f [.sl sz (l.map e) false,.fn (.func g) [] [.pt KB [] 0]] [.box v,.box w] (λr fp=>r= .bl (l.any p)∧fp=[.box v,.box w]):=by
 refine ai.intro hf (by simp[mG]) ?_
 have sZ:cD (l.map e):=dQ (λx=>(hL.el x).2.1) l
 have L3:jo (l.map e)=l.map e:=pM (λx=>(hL.el x).2.2.1) l
 simp[mG,aj,aF]
 refine an.gen [KB,KB+1] [] [.box v,.box w] (ahQ (p:=p) ht hL hv hw hp) (by simp[getAll]) (by simp) (by simp) (by simp[ab,ae,bM,idx,sZ.refs]) (by simp[hv.1,hv.2.1,hv.2.2.1,hv.2.2.2,hw.refs,hw.aB,af,ae,ab]) (by simp[aD,aB,bp,idx,sZ.aB,L3]) (by simp[hv.1,hv.2.1,hv.2.2.1,hv.2.2.2,hw.refs,hw.aB,aE]) (by simp[hv.1,hv.2.1,hv.2.2.1,hv.2.2.2,hw.refs,hw.aB,af,ae,ab,fj]) ?_
 simp[hv.1,hv.2.1,hv.2.2.1,hv.2.2.2,hw.refs,hw.aB,bb,aE,aB,aD,dv]
 refine al.with [] [KB,KB+1] ?_
 simp[hv.1,hv.2.1,hv.2.2.1,hv.2.2.2,hw.refs,hw.aB,af,ae,ab,aE,aB,aD,fj,sL]
end
end Go.Ab
end W2s
noncomputable section W3s
namespace Go.Ab
open Go.Ab
def gp (x a b:Int):Bool:=decide (a≤x)&&decide (x≤b)
theorem vY {x a b:Int}:gp x a b=true↔a≤x∧x≤b:=by simp[gp]
theorem KQ {x a b:Int}:gp x a b=false↔¬(a≤x∧x≤b):=by simp only[gp];simp
theorem pw (x a b:Int):bg Pg I.cr [.int .i64 x,.int .i64 a,.int .i64 b] (.bl (gp x a b)):=by
 refine ai.intro T.cr (by simp[F.cr]) ?_
 by_cases h1:a≤x
 ·simp[F.cr,aj,aF,h1]
  refine al.plain [] ?_
  simp[gp,h1]
 ·simp[F.cr,aj,aF,h1]
  refine al.plain [] ?_
  simp[gp,h1]
theorem rw_ (x a b:Int):bg Pg I.aP [.int .i64 x,.int .i64 a,.int .i64 b] (.bl (gp x a b)):=by
 refine ai.intro T.aP (by simp[F.aP]) ?_
 by_cases h1:a≤x
 ·simp[F.aP,aj,aF,h1]
  refine al.plain [] ?_
  simp[gp,h1]
 ·simp[F.aP,aj,aF,h1]
  refine al.plain [] ?_
  simp[gp,h1]
theorem Dv {s:St} {d:Option Nat} {x a b:Int} {K:St->Prop} {t:Tg K} (h:K (s.put d (.bl (gp x a b)))):an Pg s d I.cr [.int .i64 x,.int .i64 a,.int .i64 b] K t:=an.ret (pw x a b) (by simp) (by simp) (by simp) h
theorem IN {s:St} {d:Option Nat} {x a b:Int} {K:St->Prop} {t:Tg K} (h:K (s.put d (.bl (gp x a b)))):an Pg s d I.aP [.int .i64 x,.int .i64 a,.int .i64 b] K t:=an.ret (rw_ x a b) (by simp) (by simp) (by simp) h
def Cn (x:Int):Prop:= -9223372036854775808≤x∧x≤9223372036854775807
theorem Cn.w {x:Int} (h:Cn x):IntKind.i64.wrap x=x:=wrap_i64 (by unfold Cn at h;omega)
def kj (r:vS):Bool:=decide (¬r.wF<1)&&decide (¬r.mj<r.wF)&&decide (¬(18446744073709543423:Int)<r.mj)&&gp r.ret 1000 1073741824&&gp r.Ap 1000 1073741824&&gp r.TK 1 1073741824&&gp r.vf 1 1073741824&&gp r.lr 1 1073741824&&decide (r.vf≤r.lr)&&decide (r.Ap+r.ret<r.lr)&&gp r.Q6 r.ret (20*r.ret)&&gp r.load 1 64&&gp r.gC 1 8
theorem UO {r:vS} (hl:Cn r.load) (hs:Cn r.gC):bg Pg I.gz [fa r] (.bl (kj r)):=by
 refine ai.intro T.gz (by simp[F.gz]) ?_
 have Ce:=hl.w
 have ur:=hs.w
 by_cases h1:r.wF<1
 ·simp[F.gz,aj,aF,h1]
  refine al.plain [] ?_
  simp[kj,h1]
 by_cases h2:r.mj<r.wF
 ·simp[F.gz,aj,aF,h1,h2]
  refine al.plain [] ?_
  simp[kj,h1,h2]
 by_cases h3:(18446744073709543423:Int)<r.mj
 ·simp[F.gz,aj,aF,h1,h2,h3]
  refine al.plain [] ?_
  simp[kj,h1,h2,h3]
 simp[F.gz,aj,aF,h1,h2,h3]
 refine Dv ?_
 cases g1:gp r.ret 1000 1073741824
 ·simp
  refine al.plain [] ?_
  simp[kj,g1]
 simp
 refine Dv ?_
 cases g2:gp r.Ap 1000 1073741824
 ·simp
  refine al.plain [] ?_
  simp[kj,g2]
 simp
 refine Dv ?_
 cases g3:gp r.TK 1 1073741824
 ·simp
  refine al.plain [] ?_
  simp[kj,g3]
 simp
 refine Dv ?_
 cases g4:gp r.vf 1 1073741824
 ·simp
  refine al.plain [] ?_
  simp[kj,g4]
 simp
 refine Dv ?_
 cases g5:gp r.lr 1 1073741824
 ·simp
  refine al.plain [] ?_
  simp[kj,g5]
 have q1:=vY.1 g1
 have q2:=vY.1 g2
 have w1:IntKind.i64.wrap (r.Ap+r.ret)=r.Ap+r.ret:=wrap_i64 (by omega)
 have w2:IntKind.i64.wrap (20*r.ret)=20*r.ret:=wrap_i64 (by omega)
 by_cases h4:r.lr<r.vf
 ·simp[h4]
  refine al.plain [] ?_
  simp[kj,show¬r.vf≤r.lr by omega]
 by_cases h5:r.Ap+r.ret<r.lr
 ·have h5':¬r.lr≤r.Ap+r.ret:=by omega
  simp[h4,h5,h5',w1,w2]
  refine Dv ?_
  cases g6:gp r.Q6 r.ret (20*r.ret)
  ·simp
   refine al.plain [] ?_
   simp[kj,g6]
  simp[Ce,ur]
  refine Dv ?_
  cases g7:gp r.load 1 64
  ·simp
   refine al.plain [] ?_
   simp[kj,g7]
  simp[ur]
  refine Dv ?_
  simp
  refine al.plain [] ?_
  simp[kj,h1,h2,h3,g1,g2,g3,g4,g5,g6,g7,h5,show r.vf≤r.lr by omega]
  try omega
 ·have h5':r.lr≤r.Ap+r.ret:=by omega
  simp[h4,h5,h5',w1,w2]
  refine al.plain [] ?_
  simp[kj,h5]
theorem UP {r:vS} (hl:Cn r.load) (hs:Cn r.gC):bg Pg I.bj [fa r] (.bl (kj r)):=by
 refine ai.intro T.bj (by simp[F.bj]) ?_
 have Ce:=hl.w
 have ur:=hs.w
 by_cases h1:r.wF<1
 ·simp[F.bj,aj,aF,h1]
  refine al.plain [] ?_
  simp[kj,h1]
 by_cases h2:r.mj<r.wF
 ·simp[F.bj,aj,aF,h1,h2]
  refine al.plain [] ?_
  simp[kj,h1,h2]
 by_cases h3:(18446744073709543423:Int)<r.mj
 ·simp[F.bj,aj,aF,h1,h2,h3]
  refine al.plain [] ?_
  simp[kj,h1,h2,h3]
 simp[F.bj,aj,aF,h1,h2,h3]
 refine IN ?_
 cases g1:gp r.ret 1000 1073741824
 ·simp
  refine al.plain [] ?_
  simp[kj,g1]
 simp
 refine IN ?_
 cases g2:gp r.Ap 1000 1073741824
 ·simp
  refine al.plain [] ?_
  simp[kj,g2]
 simp
 refine IN ?_
 cases g3:gp r.TK 1 1073741824
 ·simp
  refine al.plain [] ?_
  simp[kj,g3]
 simp
 refine IN ?_
 cases g4:gp r.vf 1 1073741824
 ·simp
  refine al.plain [] ?_
  simp[kj,g4]
 simp
 refine IN ?_
 cases g5:gp r.lr 1 1073741824
 ·simp
  refine al.plain [] ?_
  simp[kj,g5]
 have q1:=vY.1 g1
 have q2:=vY.1 g2
 have w1:IntKind.i64.wrap (r.Ap+r.ret)=r.Ap+r.ret:=wrap_i64 (by omega)
 have w2:IntKind.i64.wrap (20*r.ret)=20*r.ret:=wrap_i64 (by omega)
 by_cases h4:r.vf≤r.lr
 ·by_cases h5:r.Ap+r.ret<r.lr
  ·simp[h4,h5,w1,w2]
   refine IN ?_
   cases g6:gp r.Q6 r.ret (20*r.ret)
   ·simp
    refine al.plain [] ?_
    simp[kj,g6]
   simp[Ce,ur]
   refine IN ?_
   cases g7:gp r.load 1 64
   ·simp
    refine al.plain [] ?_
    simp[kj,g7]
   simp[ur]
   refine IN ?_
   simp
   refine al.plain [] ?_
   simp[kj,h1,h2,h3,g1,g2,g3,g4,g5,g6,g7,h5,h4]
   try omega
  ·simp[h4,h5,w1,w2]
   refine al.plain [] ?_
   simp[kj,h5]
 ·simp[h4]
  refine al.plain [] ?_
  simp[kj,h4]
def r1 (d:cK):Bool:=kj d.rules&&gp d.now 0 1099511627776&&gp d.port 0 65535&&gp d.bad 0 1099511627776
theorem KR {d:cK} (hl:Cn d.rules.load) (hs:Cn d.rules.gC) (hb:Cn d.bad):bg Pg I.fM [bE d] (.bl (r1 d)):=by
 refine ai.intro T.fM (by simp[F.fM]) ?_
 have yX:=hb.w
 simp[F.fM,aj,aF]
 refine an.ret (UO hl hs) (by simp) (by simp) (by simp) ?_
 cases g1:kj d.rules
 ·simp
  refine al.plain [] ?_
  simp[r1,g1]
 simp
 refine Dv ?_
 cases g2:gp d.now 0 1099511627776
 ·simp
  refine al.plain [] ?_
  simp[r1,g2]
 by_cases h1:0≤d.port
 ·by_cases h2:d.port≤65535
  ·simp[h1,h2,yX]
   refine Dv ?_
   simp
   refine al.plain [] ?_
   simp[r1,g1,g2,h1,h2,vY.2 ⟨h1,h2⟩]
  ·simp[h1,h2]
   refine al.plain [] ?_
   simp[r1,gp,h2]
 ·simp[h1]
  refine al.plain [] ?_
  simp[r1,gp,h1]
end Go.Ab
end W3s
noncomputable section W4s
namespace Go.Ab
open Go.Ab
theorem UQ (l:List UInt8) (i:Nat):(⟨l.toArray⟩:ByteArray)[i]! =l.getD i 0:=by
 have hs:(⟨l.toArray⟩:ByteArray).size=l.length:=rfl
 by_cases h:i<l.length
 ·rw[getElem!_pos _ i (by rw[hs];exact h),ByteArray.getElem_eq_getElem_data]
  simp[List.getD,h]
 ·rw[getElem!_neg _ i (by rw[hs];exact h)]
  simp only[List.getD,List.getElem?_eq_none (Nat.le_of_not_lt h)]
  rfl
theorem rA (a b:List UInt8):rH a b=match(List.range (min a.length b.length)).find? (λi=>a.getD i 0 !=b.getD i 0)with
  |some i=>if a.getD i 0<b.getD i 0 then-1 else 1
  |none=>if a.length<b.length then-1 else if a.length>b.length then 1 else 0:=by
 unfold rH Go.Extern.BytealgCompare.cmp
 simp only[UQ]
 rfl
theorem vq (x y:UInt8) (a b:List UInt8):rH (x::a) (y::b)=if x=y then rH a b else if x<y then-1 else 1:=by
 rw[rA,rA]
 simp only[List.length_cons,Nat.add_min_add_right,List.range_succ_eq_map,List.find?_cons,List.getD_cons_zero,List.find?_map]
 by_cases h:x=y
 ·subst h
  simp only[bne_self_eq_false,Function.comp_def,List.getD_cons_succ,Nat.succ_eq_add_one,if_true]
  cases(List.range (min a.length b.length)).find? (λi=>a.getD i 0 !=b.getD i 0)<;>simp
 ·have h2:(x !=y)=true:=by simpa using h
  simp only[h2,List.getD_cons_zero,if_neg h]
theorem rB:∀a b:List UInt8,decide (rH a b<0)=Op.bytesLess a b
 |[],[]=>by rw[rA];simp[Op.bytesLess]
 |[],y::b=>by rw[rA];simp[Op.bytesLess]
 |x::a,[]=>by rw[rA];simp[Op.bytesLess]
 |
  x::a,y::b=>by
  rw[vq]
  unfold Op.bytesLess
  rw[←rB a b]
  by_cases h:x=y
  ·subst h;simp
  ·by_cases h2:x<y
   ·simp[h,h2]
   ·simp[h,h2]
theorem GB (a b:List UInt8):decide (0≤rH a b)= !Op.bytesLess a b:=by
 rw[←rB]
 by_cases h:rH a b<0
 ·simp[h]
 ·simp only[h,decide_false,Bool.not_false,decide_eq_true_eq];omega
end Go.Ab
end W4s
noncomputable section W5s
namespace Go.Ab
open Go.Ab
def ox (l:List fg):Nat->Bool
 |0=>false
 |
  j+1=>match l[j]?,l[j+1]?with
  |some a,some b=> !Op.bytesLess a.fF.l b.fF.l
  |_,_=>false
theorem yH {l:List fg} {j:Nat} {a b:fg} (ha:l[j]? =some a) (hb:l[j+1]? =some b):ox l (j+1)= !Op.bytesLess a.fF.l b.fF.l:=by simp only[ox,ha,hb]
def r2 (d:cK):Bool:=decide (fst (ox d.aa) d.aa.length=d.aa.length)&&decide ((d.aa.length:Int)≤8)
theorem O0 (k:Key):(k.l.map u8).take 32=k.l.map u8:=tJ (by simp[k.h])
theorem UR {d:cK} (hl:d.aa.length≤1048576):bg Pg I.gS [bE d] (.bl (r2 d)):=by
 refine ai.intro T.gS (by simp[F.gS]) ?_
 have hle:=gu (ox d.aa) d.aa.length
 have jP:∀i,i<fst (ox d.aa) d.aa.length->ox d.aa i=false:=λi h=>gD h
 have jQ:fst (ox d.aa) d.aa.length<d.aa.length->ox d.aa (fst (ox d.aa) d.aa.length)=true:=gN
 have hr:r2 d=(decide (fst (ox d.aa) d.aa.length=d.aa.length)&&decide ((d.aa.length:Int)≤8)):=rfl
 generalize fst (ox d.aa) d.aa.length=n at*
 simp[F.gS,aj,aF]
 refine fb.fG (n-1) (λ_=>True) [1,2,3] (λi=>[(3,.int .i64 ((i:Int)+1))]) (λ_=>[]) [.keep [1,2,3]] ?_
 simp
 refine⟨λi hi K hK=> ?_,λK=> ?_⟩
 ·have h1:i+1<d.aa.length:=by omega
  have h0:i<d.aa.length:=by omega
  have YU:d.aa[i+1]? =some d.aa[i+1]:=gJ h1
  have IT:d.aa[i]? =some d.aa[i]:=gJ h0
  have w1:IntKind.i64.wrap (i:Int)=(i:Int):=wrap_i64 (by omega)
  have w2:IntKind.i64.wrap ((i:Int)+1+1)=(i:Int)+1+1:=wrap_i64 (by omega)
  have dG:(i:Int)+1<d.aa.length:=by omega
  have oi:((i:Int)+1).toNat=i+1:=by omega
  have hc:=Compare d.aa[i].fF.l d.aa[i+1].fF.l false false
  have hb:=jP (i+1) (by omega)
  rw[yH IT YU,←GB]at hb
  have hb:¬0≤rH d.aa[i].fF.l d.aa[i+1].fF.l:=by simpa using hb
  have Sr:(0:Int)≤(i:Int)+1:=by omega
  generalize d.aa[i]=a at*
  generalize d.aa[i+1]=b at*
  simp[↓ah,dG,IT,YU,w1,w2,oi,h0,dU,Sr,O0,-getElem?_pos]
  refine aU.ret hc (by simp) (by simp) (by simp) ?_
  simp[w2,hb]
  refine⟨[.keep [1,2,3]],?_⟩
  simp
  exact hK _ (by simp)
 ·by_cases hn:n<d.aa.length
  ·have hb:=jQ hn
   obtain⟨i,rfl⟩:∃i,n=i+1:=by cases n with|zero=>simp[ox]at hb|succ i=>exact⟨i,rfl⟩
   have h0:i<d.aa.length:=by omega
   have YU:d.aa[i+1]? =some d.aa[i+1]:=gJ hn
   have IT:d.aa[i]? =some d.aa[i]:=gJ h0
   have w1:IntKind.i64.wrap (i:Int)=(i:Int):=wrap_i64 (by omega)
   have dG:(i:Int)+1<d.aa.length:=by omega
   have oi:((i:Int)+1).toNat=i+1:=by omega
   have hc:=Compare d.aa[i].fF.l d.aa[i+1].fF.l false false
   rw[yH IT YU,←GB]at hb
   have hb:0≤rH d.aa[i].fF.l d.aa[i+1].fF.l:=by simpa using hb
   have Sr:(0:Int)≤(i:Int)+1:=by omega
   have bS:¬i+1=d.aa.length:=by omega
   generalize d.aa[i]=a at*
   generalize d.aa[i+1]=b at*
   simp[↓ah,dG,IT,YU,w1,oi,h0,dU,Sr,O0,-getElem?_pos]
   refine aU.ret hc (by simp) (by simp) (by simp) ?_
   simp[hb]
   refine al.plain [] ?_
   simp[hr,bS]
  ·have hx:¬(((n-1:Nat):Int)+1<d.aa.length):=by omega
   have bS:n=d.aa.length:=by omega
   simp[↓ah,hx]
   refine al.plain [] ?_
   simp[hr,bS]
theorem US {d:cK} (hl:d.aa.length≤1048576):bg Pg I.dh [bE d] (.bl (r2 d)):=by
 refine ai.intro T.dh (by simp[F.dh]) ?_
 have hle:=gu (ox d.aa) d.aa.length
 have jP:∀i,i<fst (ox d.aa) d.aa.length->ox d.aa i=false:=λi h=>gD h
 have jQ:fst (ox d.aa) d.aa.length<d.aa.length->ox d.aa (fst (ox d.aa) d.aa.length)=true:=gN
 have hr:r2 d=(decide (fst (ox d.aa) d.aa.length=d.aa.length)&&decide ((d.aa.length:Int)≤8)):=rfl
 generalize fst (ox d.aa) d.aa.length=n at*
 simp[F.dh,aj,aF]
 refine fb.fG n (λ_=>True) [1,2,6,7,8] (λi=>[(8,.int .i64 i)]) (λi=>[]) [.keep [1,2,6,7,8]] ?_
 simp
 refine⟨λi hi K hK=> ?_,λK=> ?_⟩
 ·have eS:i<d.aa.length:=by omega
  have hx:d.aa[i]? =some d.aa[i]:=gJ eS
  by_cases hz:i=0
  ·subst hz
   simp[↓ah,hx,eS]
   refine⟨[.keep [1,2,6,7,8],.dr 4],?_⟩
   simp
   exact hK _ (by simp)
  ·obtain⟨j,rfl⟩:∃j,i=j+1:=⟨i-1,by omega⟩
   have hj:j<d.aa.length:=by omega
   have hy:d.aa[j]? =some d.aa[j]:=gJ hj
   have hb:=jP (j+1) hi
   rw[yH hy hx]at hb
   have hb:Op.bytesLess d.aa[j].fF.l d.aa[j+1].fF.l=true:=by simpa using hb
   have hw:IntKind.i64.wrap (((j+1:Nat):Int)-1)=j:=by rw[wrap_i64 (by omega)];omega
   have dG:((j+1:Nat):Int)<d.aa.length:=by omega
   have w2:IntKind.i64.wrap (((j+1:Nat):Int)+1)=((j+1:Nat):Int)+1:=wrap_i64 (by omega)
   have qq:(0:Int)<((j+1:Nat):Int):=by omega
   have mR:(0:Int)≤((j+1:Nat):Int):=by omega
   have oi:(((j+1:Nat):Int)).toNat=j+1:=by omega
   generalize d.aa[j]=a at*
   generalize d.aa[j+1]=b at*
   generalize Hh:((j+1:Nat):Int)=z at*
   simp[↓ah,hx,hy,dG,hj,hw,qq,mR,oi,w2,dU,O0,hb,-getElem?_pos]
   refine⟨[.keep [1,2,6,7,8],.dr 4],?_⟩
   simp
   exact hK _ (by simp[←Hh])
 ·by_cases hn:n<d.aa.length
  ·have hb:=jQ hn
   obtain⟨j,rfl⟩:∃i,n=i+1:=by cases n with|zero=>simp[ox]at hb|succ i=>exact⟨i,rfl⟩
   have hx:d.aa[j+1]? =some d.aa[j+1]:=gJ hn
   have hj:j<d.aa.length:=by omega
   have hy:d.aa[j]? =some d.aa[j]:=gJ hj
   rw[yH hy hx]at hb
   have hb:Op.bytesLess d.aa[j].fF.l d.aa[j+1].fF.l=false:=by simpa using hb
   have hw:IntKind.i64.wrap (((j+1:Nat):Int)-1)=j:=by rw[wrap_i64 (by omega)];omega
   have dG:((j+1:Nat):Int)<d.aa.length:=by omega
   have qq:(0:Int)<((j+1:Nat):Int):=by omega
   have mR:(0:Int)≤((j+1:Nat):Int):=by omega
   have oi:(((j+1:Nat):Int)).toNat=j+1:=by omega
   have bS:¬j+1=d.aa.length:=by omega
   generalize d.aa[j]=a at*
   generalize d.aa[j+1]=b at*
   generalize Hh:((j+1:Nat):Int)=z at*
   simp[↓ah,hx,hy,dG,hj,hw,qq,mR,oi,dU,O0,hb,-getElem?_pos]
   refine al.plain [] ?_
   simp[hr,bS]
  ·have hx:¬((n:Int)<d.aa.length):=by omega
   have bS:n=d.aa.length:=by omega
   simp[↓ah,hx]
   refine al.plain [] ?_
   simp[hr,bS]
end Go.Ab
end W5s
noncomputable section W6s
namespace Go.Ab
open Go.Ab
theorem AG {l:List fg} (h:l.length≤1048576):Il 464 true br l:=⟨h,λx=>⟨⟨rfl,rfl⟩,by simp,by simp,λK=>by simp⟩⟩
@[simp] theorem abW (f:Fn) (a b:List PV):(PV.fn f a b).width=1:=rfl
theorem UT {d:cK} {p:fg} {h:FuncId} {b:Bool} (hy:ai Pg h [br p,.pt KB [] 0] [.box (bE d)] (λr fp=>r= .bl b∧fp=[.box (bE d)])):
  ai Pg I.fL [br p,.pt KB [] 0] [.box (.fn (.func h) [] [.pt (KB+1) [] 0]),.box (bE d)] (λr fp=>r= .bl (!b)∧fp=[.box (.fn (.func h) [] [.pt (KB+1) [] 0]),.box (bE d)]):=by
 refine ai.intro T.fL (by simp[F.fL]) ?_
 simp[F.fL,aj,aF]
 refine an.gen [KB+1] [] [.box (bE d)] hy (by simp[getAll]) (by simp) (by simp) (by simp[ab,ae,bM,idx,(kL p).refs]) (by simp[af,(aK d).refs]) (by simp[aD,aB,bp,idx,(kL p).aB]) (by simp[aE,(aK d).aB]) (by simp[af,ae,(aK d).refs]) ?_
 simp[bb,aE,aB,dv,(aK d).aB]
 refine al.with [] [KB,KB+1] ?_
 simp[af,ae,ab,aE,aB,aD,fj,(aK d).aB,(aK d).refs]
theorem every {d:cK} {h:FuncId} {p:fg->Bool} (hl:d.aa.length≤1048576) (hy:∀x∈d.aa,ai Pg h [br x,.pt KB [] 0] [.box (bE d)] (λr fp=>r= .bl (p x)∧fp=[.box (bE d)])):
  ai Pg I.gR [bE d,.fn (.func h) [] [.pt KB [] 0]] [.box (bE d)] (λr fp=>r= .bl (d.aa.all p)∧fp=[.box (bE d)]):=by
 refine ai.intro T.gR (by simp[F.gR]) ?_
 simp[F.gR,aj,aF]
 have hc:=ahR (f:=I.bc) (ix:=I.bw) (p:=λx=> !p x) T.bc T.bw (AG hl) (g:=I.fL) (v:= .fn (.func h) [] [.pt (KB+1) [] 0]) (w:=bE d) (by simp[ae,ab,bM,idx,fj,aB,aD,bp,dv]) (by simp) (λx hx=>UT (hy x hx))
 refine an.gen [3,KB] [] [.box (.fn (.func h) [] [.pt KB [] 0]),.box (bE d)] hc (by simp[getAll]) (by simp) (by simp) (by simp[ab,ae,bM,idx,fk,(dQ kL d.aa).refs]) (by simp[af,ae,ab,bM,idx,(aK d).refs]) (by simp[aD,aB,bp,idx,fk,(dQ kL d.aa).aB]) (by simp[aE,aB,aD,bp,idx,(aK d).aB]) (by simp[af,ae,ab,fj,(aK d).refs]) ?_
 simp[bb,aE,aB,aD,dv,(aK d).aB]
 refine al.with [] [KB] ?_
 simp[af,(aK d).refs,aE,(aK d).aB,List.all_eq_not_any_not]
theorem pS {d:cK} {s:St} {dst:Option Nat} {h:FuncId} {p:fg->Bool} {K:St->Prop} {t:Tg K} {k:Nat} (hl:d.aa.length≤1048576) (hb:get s.bx k=some (.box (bE d)))
  (hy:∀x∈d.aa,ai Pg h [br x,.pt KB [] 0] [.box (bE d)] (λr fp=>r= .bl (p x)∧fp=[.box (bE d)])) (hk:K ({s with bx:=put s.bx k (.box (bE d))}.put dst (.bl (d.aa.all p)))):
  an Pg s dst I.gR [bE d,.fn (.func h) [] [.pt k [] 0]] K t:=
 an.Fb k hb (every hl hy) (by simp[ab,ae,bM,idx,(aK d).refs]) (by simp[aD,aB,bp,idx,(aK d).aB]) (by simp) (by simp) (by simp[ae]) (by simp[aB]) hk
theorem BP:iU ua=(.st 100 [.bl false,.int .u32 0,.ar 1 32 (zr 32 (.int .u8 0)),.st 64 [.ar 1 32 (zr 32 (.int .u8 0)),.ar 1 32 (zr 32 (.int .u8 0))],.int .i64 0,.int .i64 0]):=rfl
def AH (d:cK) (p:fg):Bool:=if p.hand.has=true then p.jL&&(gp p.hand.started 0 p.hand.mL&&decide (p.hand.mL≤d.now))else PV.beq (iU p.hand) (iU ua)
theorem O1 (d:cK) (p:fg):ai Pg I.fo [br p,.pt KB [] 0] [.box (bE d)] (λr fp=>r= .bl (AH d p)∧fp=[.box (bE d)]):=by
 refine ai.intro T.fo (by simp[F.fo]) ?_
 have hf:=rq ua
 rw[BP]at hf
 have hr:AH d p=if p.hand.has=true then p.jL&&(gp p.hand.started 0 p.hand.mL&&decide (p.hand.mL≤d.now))else PV.beq (iU p.hand) (iU ua):=rfl
 rw[BP]at hr
 cases h1:p.hand.has
 ·simp[F.fo,aj,aF,h1]
  refine⟨hf,?_⟩
  refine al.with [] [KB] ?_
  simp[hr,h1,af,(aK d).refs,aE,(aK d).aB]
 ·cases h2:p.jL
  ·simp[F.fo,aj,aF,h1,h2]
   refine al.with [] [KB] ?_
   simp[hr,h1,h2,af,(aK d).refs,aE,(aK d).aB]
  ·simp[F.fo,aj,aF,h1,h2]
   refine Dv ?_
   cases h3:gp p.hand.started 0 p.hand.mL
   ·simp
    refine al.with [] [KB] ?_
    simp[hr,h1,h2,h3,af,(aK d).refs,aE,(aK d).aB]
   ·simp
    refine al.with [] [KB] ?_
    simp[hr,h1,h2,h3,af,(aK d).refs,aE,(aK d).aB]
def r4 (d:cK):Bool:=d.aa.all (AH d)
theorem UU {d:cK} (hl:d.aa.length≤1048576):bg Pg I.gW [bE d] (.bl (r4 d)):=by
 refine ai.intro T.gW (by simp[F.gW]) ?_
 simp[F.gW,aj,aF]
 refine pS hl (by simp) (λx _=>O1 d x) ?_
 simp
 refine al.plain [] ?_
 simp[r4]
theorem GC (d:cK) (t:Int):bg Pg I.bO [bE d,.int .i64 t] (.bl (gp t 0 d.now)):=by
 refine ai.intro T.bO (by simp[F.bO]) ?_
 simp[F.bO,aj,aF]
 refine IN ?_
 simp
 refine al.plain [] ?_
 simp
theorem MP {s:St} {dst:Option Nat} {d:cK} {x:Int} {K:St->Prop} {t:Tg K} (h:K (s.put dst (.bl (gp x 0 d.now)))):an Pg s dst I.bO [bE d,.int .i64 x] K t:=an.ret (GC d x) (by simp) (by simp) (by simp) h
theorem RP (d:cK) (p:fg):bg Pg I.cM [bE d,br p] (.bl (AH d p)):=by
 refine ai.intro T.cM (by simp[F.cM]) ?_
 have hf:=rq ua
 rw[BP]at hf
 have hr:AH d p=if p.hand.has=true then p.jL&&(gp p.hand.started 0 p.hand.mL&&decide (p.hand.mL≤d.now))else PV.beq (iU p.hand) (iU ua):=rfl
 rw[BP]at hr
 cases h1:p.hand.has
 ·simp[F.cM,aj,aF,h1]
  refine⟨hf,?_⟩
  refine al.plain [] ?_
  simp[hr,h1]
 ·by_cases h2:p.hand.started≤p.hand.mL
  ·simp[F.cM,aj,aF,h1,h2]
   refine MP ?_
   cases h3:gp p.hand.started 0 d.now
   ·have h4:(gp p.hand.started 0 p.hand.mL&&decide (p.hand.mL≤d.now))=false:=by
     have:=KQ.1 h3;simp[gp];omega
    simp
    refine al.plain [] ?_
    simp[hr,h1,h4]
   simp
   refine MP ?_
   have q3:=vY.1 h3
   cases h4:gp p.hand.mL 0 d.now
   ·have h5:¬p.hand.mL≤d.now:=by have:=KQ.1 h4;omega
    simp
    refine al.plain [] ?_
    simp[hr,h1,h5]
   have q4:=vY.1 h4
   have q5:gp p.hand.started 0 p.hand.mL=true:=vY.2 ⟨q3.1,h2⟩
   simp
   refine al.plain [] ?_
   simp[hr,h1,q5,q4.2]
  ·have q5:gp p.hand.started 0 p.hand.mL=false:=KQ.2 (by omega)
   simp[F.cM,aj,aF,h1,h2]
   refine al.plain [] ?_
   simp[hr,h1,q5]
theorem dt (r:nO):ai Pg I.dt [.pt KB [] 0] [.box (.st 231 [gi r])] (λx fp=>x= .pt KB [.f 0 0,.f 0 0] 0∧fp=[.box (.st 231 [gi r])]):=by
 refine ai.intro T.dt (by simp[F.dt]) ?_
 simp[F.dt,aj,aF,gi]
 refine al.with [] [KB] ?_
 simp[eC]
theorem dF (r:nO):ai Pg I.dF [.pt KB [] 0] [.box (.st 231 [gi r])] (λx fp=>x= .pt KB [.f 0 0,.f 1 77] 0∧fp=[.box (.st 231 [gi r])]):=by
 refine ai.intro T.dF (by simp[F.dF]) ?_
 simp[F.dF,aj,aF,gi]
 refine al.with [] [KB] ?_
 simp[eC]
theorem eH (r:nO):ai Pg I.eH [.pt KB [] 0] [.box (.st 231 [gi r])] (λx fp=>x= .pt KB [.f 0 0,.f 2 154] 0∧fp=[.box (.st 231 [gi r])]):=by
 refine ai.intro T.eH (by simp[F.eH]) ?_
 simp[F.eH,aj,aF,gi]
 refine al.with [] [KB] ?_
 simp[eC]
def ug (k:Nat):PV:= .ar 1 3 [.fn (.func I.dt) [.pt k [] 0] [],.fn (.func I.dF) [.pt k [] 0] [],.fn (.func I.eH) [.pt k [] 0] []]
theorem dB (r:nO):ai Pg I.dB [.pt KB [] 0] [.box (.st 231 [gi r])] (λx fp=>x=ug KB∧fp=[.box (.st 231 [gi r])]):=by
 refine ai.intro T.dB (by simp[F.dB]) ?_
 simp[F.dB,aj,aF,fC,show¬KB=2 by decide,show∀f a b,(PV.fn f a b).width=1 from λ_ _ _=>rfl,show PV.nf.width=1 from rfl]
 refine al.with [] [KB] ?_
 simp[eC,ug,show¬2=KB by decide,ae,ab,af,aB,aD,aE]
theorem iG (r:nO) {k:Nat} (h:k=1∨k=2∨k=3):bg Pg I.iG [gi r,.int .i64 k] (iD (kW r k)):=by
 refine ai.intro T.iG (by simp[F.iG]) ?_
 rcases h with rfl|rfl|rfl
 ·simp[F.iG,aj,aF]
  refine an.Fb 9 (by simp) (dB r) (by simp) (by simp) (by simp) (by simp) (by simp[ug,ae,ab,fj]) (r':=ug 9) (by simp[ug,aB,aD,dv]) ?_
  simp[ug,show zr 3 PV.nf=[.nf,.nf,.nf] by rw[fC];rfl,show∀f a b,(PV.fn f a b).width=1 from λ_ _ _=>rfl,show PV.nf.width=1 from rfl]
  refine an.Fb 9 (by simp) (dt r) (by simp) (by simp) (by simp) (by simp) (by simp[ae,fj]) (r':= .pt 9 [.f 0 0,.f 0 0] 0) (by simp[aB,dv]) ?_
  simp[gi]
  refine al.plain [] ?_
  simp[kW]
 ·simp[F.iG,aj,aF]
  refine an.Fb 9 (by simp) (dB r) (by simp) (by simp) (by simp) (by simp) (by simp[ug,ae,ab,fj]) (r':=ug 9) (by simp[ug,aB,aD,dv]) ?_
  simp[ug,show zr 3 PV.nf=[.nf,.nf,.nf] by rw[fC];rfl,show∀f a b,(PV.fn f a b).width=1 from λ_ _ _=>rfl,show PV.nf.width=1 from rfl]
  refine an.Fb 9 (by simp) (dF r) (by simp) (by simp) (by simp) (by simp) (by simp[ae,fj]) (r':= .pt 9 [.f 0 0,.f 1 77] 0) (by simp[aB,dv]) ?_
  simp[gi]
  refine al.plain [] ?_
  simp[kW]
 ·simp[F.iG,aj,aF]
  refine an.Fb 9 (by simp) (dB r) (by simp) (by simp) (by simp) (by simp) (by simp[ug,ae,ab,fj]) (r':=ug 9) (by simp[ug,aB,aD,dv]) ?_
  simp[ug,show zr 3 PV.nf=[.nf,.nf,.nf] by rw[fC];rfl,show∀f a b,(PV.fn f a b).width=1 from λ_ _ _=>rfl,show PV.nf.width=1 from rfl]
  refine an.Fb 9 (by simp) (eH r) (by simp) (by simp) (by simp) (by simp) (by simp[ae,fj]) (r':= .pt 9 [.f 0 0,.f 2 154] 0) (by simp[aB,dv]) ?_
  simp[gi]
  refine al.plain [] ?_
  simp[kW]
end Go.Ab
end W6s
noncomputable section W7s
namespace Go.Ab
open Go.Ab
theorem KS:Dk.p=(.st 6 [(.bl false),(.int .u64 0),(.ar 1 4 (zr 4 (.int .u64 0)))]):=by first|rfl|(rw[fC];rfl)
theorem Dw:fits (Sh.st [Sh.b,Sh.i IntKind.u64,Sh.ar 4 (Sh.i IntKind.u64)]) (.st 6 [(.bl false),(.int .u64 0),(.ar 1 4 (zr 4 (.int .u64 0)))])=true:=by rw[←KS];exact Dk.ok
theorem GD (w:sF):fits (Sh.st [Sh.b,Sh.i IntKind.u64,Sh.ar 4 (Sh.i IntKind.u64)]) (wP w)=true:=(tV w).ok
def KT (d:cK) (s:lq) (w:sF):Bool:=gp s.born 0 d.now&&decide (s.gB=d.rules.mj)&&decide (s.next≤18446744073709543423)&&(w.used||PV.beq (wP w) Dk.p)
theorem Dx {d:cK} {s:lq} {w:sF} (hw:s.wO=tV w):bg Pg I.gm [bE d,gH s] (.bl (KT d s w)):=by
 refine ai.intro T.gm (by simp[F.gm]) ?_
 have hr:KT d s w=(gp s.born 0 d.now&&decide (s.gB=d.rules.mj)&&decide (s.next≤18446744073709543423)&&(w.used||PV.beq (wP w) Dk.p)):=rfl
 rw[KS]at hr
 have f1:=Dw
 have f2:=GD w
 have e1:s.wO.p=wP w:=by rw[hw];rfl
 simp only[wP]at hr f2 e1
 simp[F.gm,aj,aF]
 refine Dv ?_
 cases g1:gp s.born 0 d.now
 ·simp[e1,av]
  refine al.plain [] ?_
  simp[hr,g1]
 by_cases g2:s.gB=d.rules.mj
 ·by_cases g3:s.next≤18446744073709543423
  ·cases g4:w.used
   ·rw[g4]at hr f2 e1
    simp[g2,g3,e1,av,f1,f2]
    refine al.plain [] ?_
    simp[hr,g1,g2,g3]
   ·rw[g4]at hr f2 e1
    simp[g2,g3,e1,av,f1,f2]
    refine al.plain [] ?_
    simp[hr,g1,g2,g3]
  ·simp[g2,g3,e1,av]
   refine al.plain [] ?_
   simp[hr,g3]
 ·simp[g2,e1,av]
  refine al.plain [] ?_
  simp[hr,g2]
theorem KU {d:cK} {s:lq} {w:sF} (hw:s.wO=tV w):bg Pg I.cU [bE d,gH s] (.bl (KT d s w)):=by
 refine ai.intro T.cU (by simp[F.cU]) ?_
 have hr:KT d s w=(gp s.born 0 d.now&&decide (s.gB=d.rules.mj)&&decide (s.next≤18446744073709543423)&&(w.used||PV.beq (wP w) Dk.p)):=rfl
 rw[KS]at hr
 have f1:=Dw
 have f2:=GD w
 have e1:s.wO.p=wP w:=by rw[hw];rfl
 simp only[wP]at hr f2 e1
 simp[F.cU,aj,aF]
 refine MP ?_
 cases g1:gp s.born 0 d.now
 ·simp[e1,av]
  refine al.plain [] ?_
  simp[hr,g1]
 by_cases g2:s.gB=d.rules.mj
 ·by_cases g3:s.next≤18446744073709543423
  ·cases g4:w.used
   ·rw[g4]at hr f2 e1
    simp[g2,g3,e1,av,f1,f2]
    refine al.plain [] ?_
    simp[hr,g1,g2,g3]
   ·rw[g4]at hr f2 e1
    simp[g2,g3,e1,av,f1,f2]
    refine al.plain [] ?_
    simp[hr,g1,g2,g3]
  ·simp[g2,g3,e1,av]
   refine al.plain [] ?_
   simp[hr,g3]
 ·simp[g2,e1,av]
  refine al.plain [] ?_
  simp[hr,g2]
end Go.Ab
end W7s
noncomputable section W8s
namespace Go.Ab
open Go.Ab
def uf (s:lq):Prop:=∃w,s.wO=tV w
def wn (s:lq):sF:=by
 classical
 exact if h:uf s then Classical.choose h else zW
theorem O2 {s:lq} (h:uf s):s.wO=tV (wn s):=by
 unfold wn;rw[dif_pos h];exact Classical.choose_spec h
def iN (d:cK) (x:rl):Bool:=if x.has=true then KT d x.pk (wn x.pk)else PV.beq (iD x) (iD ql)
def AI (d:cK) (p:fg):Bool:=decide (fst (λi=> !iN d (kW p.ring (i+1))) 3=3)
def qd (p:fg):Prop:=uf p.ring.p.pk∧uf p.ring.c.pk∧uf p.ring.n.pk
theorem qd.get {p:fg} (h:qd p) {i:Nat} (hi:i<3):uf (kW p.ring (i+1)).pk:=by
 rcases(by omega:i=0∨i=1∨i=2)with rfl|rfl|rfl
 ·exact h.1
 ·exact h.2.1
 ·exact h.2.2
theorem AJ:fits abD (.st 77 [(.bl false),(.st 76 [(.int .u32 0),(.int .u32 0),(.ar 1 32 (zr 32 (.int .u8 0))),(.ar 1 32 (zr 32 (.int .u8 0))),(.int .u64 0),(.int .u64 0),(.st 6 [(.bl false),(.int .u64 0),(.ar 1 4 (zr 4 (.int .u64 0)))]),(.int .i64 0),(.bl false)])])=true:=by rw[←BG];exact vl ql
theorem Fh {d:cK} {p:fg} (h:qd p):ai Pg I.e9 [br p,.pt KB [] 0] [.box (bE d)] (λr fp=>r= .bl (AI d p)∧fp=[.box (bE d)]):=by
 refine ai.intro T.e9 (by simp[F.e9]) ?_
 have hle:=gu (λi=> !iN d (kW p.ring (i+1))) 3
 have jP:∀i,i<fst (λi=> !iN d (kW p.ring (i+1))) 3->iN d (kW p.ring (i+1))=true:=λi h=>by simpa using gD h
 have jQ:fst (λi=> !iN d (kW p.ring (i+1))) 3<3->iN d (kW p.ring (fst (λi=> !iN d (kW p.ring (i+1))) 3+1))=false:=λh=>by simpa using gN h
 have hr:AI d p=decide (fst (λi=> !iN d (kW p.ring (i+1))) 3=3):=rfl
 generalize fst (λi=> !iN d (kW p.ring (i+1))) 3=n at*
 have hf:=AJ
 have hz:=BG
 simp[F.e9,aj,aF]
 refine fb.fG n (λ_=>True) [1,2,3,4] (λi=>[(4,.int .i64 ((i:Int)+1))]) (λi=>[]) [.keep [1,2,3,4]] ?_
 simp
 refine⟨λi hi K hK=> ?_,λK=> ?_⟩
 ·have Ef:(i:Int)+1≤3:=by omega
  have hw:IntKind.i64.wrap ((i:Int)+1+1)=(i:Int)+1+1:=wrap_i64 (by omega)
  have da:=iG p.ring (k:=i+1) (by omega)
  rw[show((i+1:Nat):Int)=(i:Int)+1 by omega]at da
  have hp:=jP i hi
  have Wd:=O2 (h.get (i:=i) (by omega))
  generalize kW p.ring (i+1)=q at*
  simp[↓ah,hi,Ef]
  refine an.ret da (by simp) (by simp) (by simp) ?_
  unfold iN at hp
  cases h1:q.has
  ·rw[h1,if_neg (by simp),hz]at hp
   simp[h1,hw,hp,hf]
   refine⟨[.keep [1,2,3,4],.dr 5],?_⟩
   simp
   exact hK _ (by simp)
  ·rw[if_pos h1]at hp
   simp[h1]
   refine an.ret (Dx (d:=d) Wd) (by simp) (by simp) (by simp) ?_
   simp[h1,hw,hp]
   refine⟨[.keep [1,2,3,4],.dr 5],?_⟩
   simp
   exact hK _ (by simp)
 ·by_cases hn:n<3
  ·have Ef:(n:Int)+1≤3:=by omega
   have da:=iG p.ring (k:=n+1) (by omega)
   rw[show((n+1:Nat):Int)=(n:Int)+1 by omega]at da
   have hp:=jQ hn
   have Wd:=O2 (h.get (i:=n) (by omega))
   have bS:¬n=3:=by omega
   generalize kW p.ring (n+1)=q at*
   simp[↓ah,Ef]
   refine an.ret da (by simp) (by simp) (by simp) ?_
   unfold iN at hp
   cases h1:q.has
   ·rw[h1,if_neg (by simp),hz]at hp
    simp[h1,hp,hf]
    refine al.with [] [KB] ?_
    simp[hr,bS,af,(aK d).refs,aE,(aK d).aB]
   ·rw[if_pos h1]at hp
    simp[h1]
    refine an.ret (Dx (d:=d) Wd) (by simp) (by simp) (by simp) ?_
    simp[h1,hp]
    refine al.with [] [KB] ?_
    simp[hr,bS,af,(aK d).refs,aE,(aK d).aB]
  ·have bS:n=3:=by omega
   subst bS
   simp[↓ah]
   refine al.with [] [KB] ?_
   simp[hr,af,(aK d).refs,aE,(aK d).aB]
theorem RQ {d:cK} {p:fg} (h:qd p):bg Pg I.df [bE d,br p] (.bl (AI d p)):=by
 refine ai.intro T.df (by simp[F.df]) ?_
 have hle:=gu (λi=> !iN d (kW p.ring (i+1))) 3
 have jP:∀i,i<fst (λi=> !iN d (kW p.ring (i+1))) 3->iN d (kW p.ring (i+1))=true:=λi h=>by simpa using gD h
 have jQ:fst (λi=> !iN d (kW p.ring (i+1))) 3<3->iN d (kW p.ring (fst (λi=> !iN d (kW p.ring (i+1))) 3+1))=false:=λh=>by simpa using gN h
 have hr:AI d p=decide (fst (λi=> !iN d (kW p.ring (i+1))) 3=3):=rfl
 generalize fst (λi=> !iN d (kW p.ring (i+1))) 3=n at*
 have hf:=AJ
 have hz:=BG
 simp[F.df,aj,aF]
 refine fb.fG n (λ_=>True) [2,3,4,5] (λi=>[(5,.int .i64 ((i:Int)+1))]) (λi=>[]) [.keep [2,3,4,5]] ?_
 simp
 refine⟨λi hi K hK=> ?_,λK=> ?_⟩
 ·have Ef:(i:Int)+1≤3:=by omega
  have hw:IntKind.i64.wrap ((i:Int)+1+1)=(i:Int)+1+1:=wrap_i64 (by omega)
  have da:=dW p.ring (k:=i+1) (by omega)
  rw[show((i+1:Nat):Int)=(i:Int)+1 by omega]at da
  have hp:=jP i hi
  have Wd:=O2 (h.get (i:=i) (by omega))
  generalize kW p.ring (i+1)=q at*
  simp[↓ah,hi,Ef]
  refine an.ret da (by simp) (by simp) (by simp) ?_
  unfold iN at hp
  cases h1:q.has
  ·rw[h1,if_neg (by simp),hz]at hp
   simp[h1,hw,hp,hf]
   refine⟨[.keep [2,3,4,5],.dr 6],?_⟩
   simp
   exact hK _ (by simp)
  ·rw[if_pos h1]at hp
   simp[h1]
   refine an.ret (KU (d:=d) Wd) (by simp) (by simp) (by simp) ?_
   simp[h1,hw,hp]
   refine⟨[.keep [2,3,4,5],.dr 6],?_⟩
   simp
   exact hK _ (by simp)
 ·by_cases hn:n<3
  ·have Ef:(n:Int)+1≤3:=by omega
   have da:=dW p.ring (k:=n+1) (by omega)
   rw[show((n+1:Nat):Int)=(n:Int)+1 by omega]at da
   have hp:=jQ hn
   have Wd:=O2 (h.get (i:=n) (by omega))
   have bS:¬n=3:=by omega
   generalize kW p.ring (n+1)=q at*
   simp[↓ah,Ef]
   refine an.ret da (by simp) (by simp) (by simp) ?_
   unfold iN at hp
   cases h1:q.has
   ·rw[h1,if_neg (by simp),hz]at hp
    simp[h1,hp,hf]
    refine al.plain [] ?_
    simp[hr,bS]
   ·rw[if_pos h1]at hp
    simp[h1]
    refine an.ret (KU (d:=d) Wd) (by simp) (by simp) (by simp) ?_
    simp[h1,hp]
    refine al.plain [] ?_
    simp[hr,bS]
  ·have bS:n=3:=by omega
   subst bS
   simp[↓ah]
   refine al.plain [] ?_
   simp[hr]
def r5 (d:cK):Bool:=d.aa.all (AI d)
theorem Im {d:cK} (hl:d.aa.length≤1048576) (hw:∀p∈d.aa,qd p):bg Pg I.fx [bE d] (.bl (r5 d)):=by
 refine ai.intro T.fx (by simp[F.fx]) ?_
 simp[F.fx,aj,aF]
 refine pS hl (by simp) (λx hx=>Fh (d:=d) (hw x hx)) ?_
 simp
 refine al.plain [] ?_
 simp[r5]
end Go.Ab
end W8s

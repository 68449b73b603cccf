/- A reckoning that finds that a function returns a value of a shape. No condition. -/
import Derived.Test.YtddacpkeacbjfaaGreatDoorA5
set_option linter.all false
namespace Go.Ab
inductive AV where
 |un
 |no
 |bl (b:Option Bool)
 |int (k:IntKind) (n:Option Int)
 |str (l:Zz)
 |st (w:Nat) (l:List AV)
 |ar (sz n:Nat) (l:List AV)
 |tup (l:List AV)
 |sl (sz:Nat) (l:List AV) (c:Bool)
 |rs (k:Nat) (p:Zy) (off len aD sz:Nat) (c:iO)
 |pt (k:Nat) (p:Zy) (aD:Nat)
 |fp (sz:Nat) (l:List AV) (p:Zy)
 |np
 |gd (b:Bool) (v:AV)
 deriving Inhabited
def AV.isNum:AV->Bool
 | .int .. =>true
 |_=>false
mutual
def gm:AV->W7
 | .un,_=>True
 | .no,v=>v= .un
 | .bl b,.bl x=>∀y,b=some y->x=y
 | .int k n,.int k' m=>k'=k∧∀y,n=some y->m=y
 | .str l,.str m=>m=l
 | .st w l,.st w' m=>w'=w∧bB l m
 | .ar sz n l,.ar bu n' m=>(bu=sz∧n'=n)∧bB l m
 | .tup l,.tup m=>bB l m
 | .sl sz l c,.sl bu m c'=>(bu=sz∧c'=c)∧bB l m
 | .rs k p off len aD sz c,v=>v= .rs k p off len aD sz c
 | .pt k p aD,v=>v= .pt k p aD
 | .fp sz l p,.fp bu m p'=>(bu=sz∧p'=p)∧bB l m
 | .np,v=>v= .np
 | .gd b v,.gd b' p=>b'=b∧gm v p
 |_,_=>False
def bB:List AV->WG->Prop
 |[],[]=>True
 |a::l,p::m=>gm a p∧bB l m
 |_,_=>False
end
theorem bB.length:∀ {l:List AV} {m:WG},bB l m->m.length=l.length
 |[],[],_=>rfl
 |[],_::_,h=>by simp[bB]at h
 |_::_,[],h=>by simp[bB]at h
 |a::l,p::m,h=>by simp only[bB]at h;simp[bB.length h.2]
theorem bB.at:∀ {l:List AV} {m:WG} {i:Nat} {a:AV},bB l m->l[i]? =some a->∃p,m[i]? =some p∧gm a p
 |[],_,i,a,_,h=>by simp at h
 |_::_,[],_,_,h,_=>by simp[bB]at h
 |b::l,p::m,0,a,h,ha=>by simp at ha;subst ha;simp only[bB]at h;exact⟨p,rfl,h.1⟩
 |b::l,p::m,i+1,a,h,ha=>by simp only[bB]at h;simp at ha;simpa using bB.at h.2 ha
theorem bB.set:∀ {l:List AV} {m:WG} {i:Nat} {a:AV} {p:PV},bB l m->gm a p->bB (l.set i a) (m.set i p)
 |[],[],_,_,_,_,_=>by simp[bB]
 |[],_::_,_,_,_,h,_=>by simp[bB]at h
 |_::_,[],_,_,_,h,_=>by simp[bB]at h
 |b::l,q::m,0,a,p,h,ha=>by simp only[bB]at h;simp[bB,ha,h.2]
 |b::l,q::m,i+1,a,p,h,ha=>by simp only[bB]at h;simp[bB,h.1,bB.set h.2 ha]
theorem bB.take:∀ {l:List AV} {m:WG} (i:Nat),bB l m->bB (l.take i) (m.take i)
 |[],[],_,_=>by simp[bB]
 |[],_::_,_,h=>by simp[bB]at h
 |_::_,[],_,h=>by simp[bB]at h
 |b::l,q::m,0,h=>by simp[bB]
 |b::l,q::m,i+1,h=>by simp only[bB]at h;simp[bB,h.1,bB.take i h.2]
theorem bB.drop:∀ {l:List AV} {m:WG} (i:Nat),bB l m->bB (l.drop i) (m.drop i)
 |[],[],_,_=>by simp[bB]
 |[],_::_,_,h=>by simp[bB]at h
 |_::_,[],_,h=>by simp[bB]at h
 |b::l,q::m,0,h=>by simpa using h
 |b::l,q::m,i+1,h=>by simp only[bB]at h;simpa using bB.drop i h.2
theorem bB.append:∀ {l:List AV} {m:WG} {l':List AV} {m':WG},bB l m->bB l' m'->bB (l++l') (m++m')
 |[],[],_,_,_,h=>by simpa using h
 |[],_::_,_,_,h,_=>by simp[bB]at h
 |_::_,[],_,_,h,_=>by simp[bB]at h
 |b::l,q::m,_,_,h,h'=>by simp only[bB]at h;simp[bB,h.1,bB.append h.2 h']
theorem bB.rep {a:AV} {p:PV} (h:gm a p):∀n,bB (List.replicate n a) (List.replicate n p)
 |0=>by simp[bB]
 |n+1=>by simp[List.replicate_succ,bB,h,bB.rep h n]
def AV.width:AV->Option Nat
 | .un=>none
 | .st w _=>some w
 | .ar sz n _=>some (n*sz)
 |_=>some 1
def AV.agg:AV->Option Bool
 | .un=>none
 | .st .. | .ar .. =>some true
 |_=>some false
def AV.Wh:AV->Bool
 | .un| .no| .tup _| .gd .. =>false
 |_=>true
def awL:List AV->Option Nat
 |[]=>some 0
 |a::l=>match a.width,awL l with|some x,some y=>some (x+y)|_,_=>none
def gm.width {a:AV} {p:PV} (h:gm a p) {w:Nat} (hw:a.width=some w):p.width=w:=by
 cases a<;>simp[AV.width]at hw<;>subst hw<;>cases p<;>simp[gm]at h<;>simp[PV.width,h]
def gm.agg {a:AV} {p:PV} (h:gm a p) {w:Bool} (hw:a.agg=some w):p.isAgg=w:=by
 cases a<;>simp[AV.agg]at hw<;>subst hw<;>cases p<;>simp[gm]at h<;>simp[PV.isAgg]
def gm.Wh {a:AV} {p:PV} (h:gm a p) (hw:a.Wh=true):p.aV=true:=by
 cases a<;>simp[AV.Wh]at hw<;>cases p<;>simp[gm]at h<;>simp[PV.aV]
theorem bB.au:∀ {l:List AV} {m:WG} {w:Nat},bB l m->awL l=some w->au m=w
 |[],[],w,_,h=>by simp[awL]at h;subst h;rfl
 |[],_::_,_,h,_=>by simp[bB]at h
 |_::_,[],_,h,_=>by simp[bB]at h
 |
  a::l,p::m,w,h,hw=>by
  simp only[bB]at h
  simp only[awL]at hw
  split at hw<;>simp only[sJ,reduceCtorEq]at hw
  rename_i x y h1 h2
  subst hw
  simp only[Ab.au,h.1.width h1,bB.au h.2 h2]
def y8:AV->Zy->Option AV
 |v,[]=>some v
 | .st _ l,.f i o::r=>if awL (l.take i)=some o then(match l[i]?with|some c=>y8 c r|none=>none)else none
 | .ar sz _ l,.i j s::r=>if s=sz then(match l[j]?with|some c=>y8 c r|none=>none)else none
 | .ar sz _ l,.w o n s::r=>if s=sz∧o+n≤l.length then y8 (.ar sz n ((l.drop o).take n)) r else none
 |_,_=>none
def DW:AV->Zy->AV->Option AV
 |v,[],x=>match x.width,v.width with|some a,some b=>if a=b then some x else none|_,_=>none
 | .st w l,.f i o::r,x=>if awL (l.take i)=some o then(match l[i]?with|some c=>(match DW c r x with|some c'=>some (.st w (l.set i c'))|none=>none)|none=>none)else none
 | .ar sz n l,.i j s::r,x=>if s=sz then(match l[j]?with|some c=>(match DW c r x with|some c'=>some (.ar sz n (l.set j c'))|none=>none)|none=>none)else none
 |_,_,_=>none
theorem qx:∀ {r:Zy} {a b:AV} {p:PV},gm a p->y8 a r=some b->∃q,aO p r=some q∧gm b q
 |
  [],a,b,p,h,hb=>by
  have:y8 a []=some a:=by cases a<;>rfl
  rw[this]at hb
  cases hb
  exact⟨p,by cases p<;>rfl,h⟩
 |
  .f i o::r,a,b,p,h,hb=>by
  cases a<;>simp only[y8,reduceCtorEq]at hb
  rename_i w l
  split at hb
  ·rename_i ho
   split at hb
   ·rename_i c hc
    cases p<;>simp only[gm]at h
    rename_i w' m
    obtain⟨q,hq,hg⟩:=h.2.at hc
    obtain⟨x,hx,Zf⟩:=qx hg hb
    refine⟨x,?_,Zf⟩
    simp only[aO,(h.2.take i).au ho,if_true,hq,hx]
   ·simp at hb
  ·simp at hb
 |
  .i j s::r,a,b,p,h,hb=>by
  cases a<;>simp only[y8,reduceCtorEq]at hb
  rename_i sz n l
  split at hb
  ·rename_i ho
   split at hb
   ·rename_i c hc
    cases p<;>simp only[gm]at h
    rename_i bu n' m
    obtain⟨q,hq,hg⟩:=h.2.at hc
    obtain⟨x,hx,Zf⟩:=qx hg hb
    refine⟨x,?_,Zf⟩
    simp only[aO,h.1.1,ho,if_true,hq,hx]
   ·simp at hb
  ·simp at hb
 |
  .w o n s::r,a,b,p,h,hb=>by
  cases a<;>simp only[y8,reduceCtorEq]at hb
  rename_i sz n0 l
  split at hb
  ·rename_i ho
   cases p<;>simp only[gm]at h
   rename_i bu n' m
   have hl:=h.2.length
   obtain⟨x,hx,Zf⟩:=qx (p:= .ar bu n ((m.drop o).take n)) (by simp only[gm];exact⟨⟨h.1.1,trivial⟩,(h.2.drop o).take n⟩) hb
   refine⟨x,?_,Zf⟩
   simp only[aO]
   rw[if_pos ⟨by rw[h.1.1];exact ho.1,by omega⟩]
   exact hx
  ·simp at hb
theorem xI:∀ {r:Zy} {a x b:AV} {p q:PV},gm a p->gm x q->DW a r x=some b->∃p',cu p r q=some p'∧gm b p'
 |
  [],a,x,b,p,q,h,hx,hb=>by
  have e:DW a [] x=match x.width,a.width with|some u,some v=>if u=v then some x else none|_,_=>none:=by cases a<;>rfl
  rw[e]at hb
  split at hb
  ·rename_i u v h1 h2
   split at hb<;>simp only[sJ,reduceCtorEq]at hb
   subst hb
   rename_i huv
   refine⟨q,?_,hx⟩
   have e2:cu p [] q=if q.width=p.width then some q else none:=by cases p<;>rfl
   rw[e2,hx.width h1,h.width h2,if_pos huv]
  ·simp at hb
 |
  .f i o::r,a,x,b,p,q,h,hx,hb=>by
  cases a<;>simp only[DW,reduceCtorEq]at hb
  rename_i w l
  split at hb
  ·rename_i ho
   split at hb
   ·rename_i c hc
    split at hb<;>simp only[sJ,reduceCtorEq]at hb
    rename_i c' GY
    subst hb
    cases p<;>simp only[gm]at h
    rename_i w' m
    obtain⟨y,hy,hg⟩:=h.2.at hc
    obtain⟨z,hz,JH⟩:=xI hg hx GY
    refine⟨.st w' (m.set i z),?_,?_⟩
    ·simp only[cu,(h.2.take i).au ho,if_true,hy,hz]
    ·simp only[gm];exact⟨h.1,h.2.set JH⟩
   ·simp at hb
  ·simp at hb
 |
  .i j s::r,a,x,b,p,q,h,hx,hb=>by
  cases a<;>simp only[DW,reduceCtorEq]at hb
  rename_i sz n l
  split at hb
  ·rename_i ho
   split at hb
   ·rename_i c hc
    split at hb<;>simp only[sJ,reduceCtorEq]at hb
    rename_i c' GY
    subst hb
    cases p<;>simp only[gm]at h
    rename_i bu n' m
    obtain⟨y,hy,hg⟩:=h.2.at hc
    obtain⟨z,hz,JH⟩:=xI hg hx GY
    refine⟨.ar bu n' (m.set j z),?_,?_⟩
    ·simp only[cu,h.1.1,ho,if_true,hy,hz]
    ·simp only[gm];exact⟨h.1,h.2.set JH⟩
   ·simp at hb
  ·simp at hb
 | .w o n s::r,a,x,b,p,q,h,hx,hb=>by cases a<;>simp[DW]at hb
inductive AB where
 |box (v:AV)
 |arr (sz:Nat) (l:List AV)
def AB.aD:AB->Nat
 | .box _=>0
 | .arr _ l=>l.length
def gB:AB->aU->Prop
 | .box a,.box p=>gm a p
 | .arr sz l,.arr bu m=>bu=sz∧bB l m
 |_,_=>False
def gB.aD {a:AB} {b:aU} (h:gB a b):b.aD=a.aD:=by
 cases a<;>cases b<;>simp only[gB]at h
 ·rfl
 ·exact h.2.length
def Ay:AB->Zy->Option AV
 | .box v,p=>y8 v p
 | .arr sz l,.i j s::r=>if s=sz then(match l[j]?with|some c=>y8 c r|none=>none)else none
 | .arr sz l,.w o n s::r=>if s=sz∧o+n≤l.length then y8 (.ar sz n ((l.drop o).take n)) r else none
 | .arr _ _,_=>none
def CN:AB->Zy->AV->Option AB
 | .box v,p,x=>match DW v p x with|some v'=>some (.box v')|none=>none
 | .arr sz l,.i j s::r,x=>if s=sz then(match l[j]?with|some c=>(match DW c r x with|some c'=>some (.arr sz (l.set j c'))|none=>none)|none=>none)else none
 | .arr _ _,_,_=>none
def HZ {r:Zy} {a:AB} {b:AV} {p:aU} (h:gB a p) (hb:Ay a r=some b):∃q,lW p r=some q∧gm b q:=by
 cases a<;>cases p<;>simp only[gB]at h
 ·obtain⟨q,h1,h2⟩:=qx h (by simpa only[Ay]using hb);exact⟨q,by simpa only[lW]using h1,h2⟩
 ·match r,hb with
  |[],hb=>simp[Ay]at hb
  | .f _ _::_,hb=>simp[Ay]at hb
  |
   .i j s::r,hb=>
   simp only[Ay]at hb
   split at hb
   ·rename_i ho
    split at hb
    ·rename_i c hc
     obtain⟨q,hq,hg⟩:=h.2.at hc
     obtain⟨x,hx,Zf⟩:=qx hg hb
     exact⟨x,by simp only[lW,h.1,ho,if_true,hq,hx],Zf⟩
    ·simp at hb
   ·simp at hb
  |
   .w o n s::r,hb=>
   simp only[Ay]at hb
   split at hb
   ·rename_i sz l bu m ho
    have hl:=h.2.length
    obtain⟨x,hx,Zf⟩:=qx (p:= .ar bu n ((m.drop o).take n)) (by simp only[gm];exact⟨⟨h.1,trivial⟩,(h.2.drop o).take n⟩) hb
    refine⟨x,?_,Zf⟩
    simp only[lW]
    rw[if_pos ⟨by rw[h.1];exact ho.1,by omega⟩]
    exact hx
   ·simp at hb
def Rb {r:Zy} {a b:AB} {x:AV} {q:PV} {p:aU} (h:gB a p) (hx:gm x q) (hb:CN a r x=some b):∃p',rz p r q=some p'∧gB b p':=by
 cases a<;>cases p<;>simp only[gB]at h
 ·simp only[CN]at hb;split at hb<;>simp only[sJ,reduceCtorEq]at hb;rename_i v' hv;subst hb;obtain⟨z,h1,h2⟩:=xI h hx hv;exact⟨.box z,by simp only[rz,h1],h2⟩
 ·match r,hb with
  |[],hb=>simp[CN]at hb
  | .f _ _::_,hb=>simp[CN]at hb
  | .w _ _ _::_,hb=>simp[CN]at hb
  |
   .i j s::r,hb=>
   simp only[CN]at hb
   split at hb
   ·rename_i ho
    split at hb
    ·rename_i c hc
     split at hb<;>simp only[sJ,reduceCtorEq]at hb
     rename_i c' GY
     subst hb
     obtain⟨y,hy,hg⟩:=h.2.at hc
     obtain⟨z,hz,JH⟩:=xI hg hx GY
     refine⟨_,by simp only[rz,h.1,ho,if_true,hy,hz];rfl,?_⟩
     simp[gB,h.2.set JH]
    ·simp at hb
   ·simp at hb
mutual
def H0:PV->AV
 | .bl b=> .bl (some b)
 | .int k n=> .int k (some n)
 | .str l=> .str l
 | .st w l=> .st w (Km l)
 | .ar sz n l=> .ar sz n (Km l)
 | .sl sz l c=> .sl sz (Km l) c
 | .np=> .np
 |_=> .un
def Km:WG->List AV
 |[]=>[]
 |p::l=>H0 p::Km l
end
mutual
theorem y9:∀p:PV,gm (H0 p) p
 | .bl b=>by simp[H0,gm]
 | .int k n=>by simp[H0,gm]
 | .str l=>by simp[H0,gm]
 | .st w l=>by simp[H0,gm,xJ l]
 | .ar sz n l=>by simp[H0,gm,xJ l]
 | .sl sz l c=>by simp[H0,gm,xJ l]
 | .np=>by simp[H0,gm]
 | .un| .tup _| .rs .. | .pt .. | .fp .. | .fn .. | .nf| .gd .. | .ifc .. | .ni| .mp .. =>by simp[H0,gm]
theorem xJ:∀l:WG,bB (Km l) l
 |[]=>by simp[Km,bB]
 |p::l=>by simp[Km,bB,y9 p,xJ l]
end
mutual
def AV.pure:AV->Bool
 | .bl _| .int .. | .str _| .np=>true
 | .st _ l| .ar _ _ l| .sl _ l _=>mi l
 |_=>false
def mi:List AV->Bool
 |[]=>true
 |a::l=>a.pure&&mi l
end
mutual
theorem gm.refs:∀ {a:AV} {p:PV},gm a p->a.pure=true->ae (λ_=>false) p=true
 | .bl _,p,h,_=>by cases p<;>simp[gm]at h<;>rfl
 | .int _ _,p,h,_=>by cases p<;>simp[gm]at h<;>rfl
 | .str _,p,h,_=>by cases p<;>simp[gm]at h<;>rfl
 | .np,p,h,_=>by simp only[gm]at h;subst h;rfl
 |
  .st _ l,p,h,hp=>by
  cases p<;>simp only[gm]at h
  simp only[ae];exact bB.refs h.2 (by simpa[AV.pure]using hp)
 |
  .ar _ _ l,p,h,hp=>by
  cases p<;>simp only[gm]at h
  simp only[ae];exact bB.refs h.2 (by simpa[AV.pure]using hp)
 |
  .sl _ l _,p,h,hp=>by
  cases p<;>simp only[gm]at h
  simp only[ae];exact bB.refs h.2 (by simpa[AV.pure]using hp)
 | .un,_,_,hp| .no,_,_,hp| .tup _,_,_,hp| .rs ..,_,_,hp| .pt ..,_,_,hp| .fp ..,_,_,hp| .gd ..,_,_,hp=>by simp[AV.pure]at hp
theorem bB.refs:∀ {l:List AV} {m:WG},bB l m->mi l=true->al (λ_=>false) m=true
 |[],[],_,_=>rfl
 |[],_::_,h,_=>by simp[bB]at h
 |_::_,[],h,_=>by simp[bB]at h
 |
  a::l,p::m,h,hp=>by
  simp only[bB]at h
  simp only[mi,aJ]at hp
  simp[al,h.1.refs hp.1,h.2.refs hp.2]
end
def gm.als [cM] {a:AV} {p:PV} (h:gm a p) (hp:a.pure=true):Pure p:=Pure.of (h.refs hp)
def bB.xK [cM] {l:List AV} {m:WG} (h:bB l m) (hp:mi l=true):aB m:=aB.of (h.refs hp)
end Go.Ab
namespace Go.Ab
variable [cM]
variable {P:Program}
structure AS where
 env:List (Nat×AV)
 bx:List (Nat×AB)
def xL {α:Type}:List (Nat×α)->Prop
 |[]=>True
 |(k,_)::r=>(∀j x,get r j=some x->k<j)∧xL r
theorem xL.put {α:Type}:∀ {l:List (Nat×α)} (n:Nat) (x:α),xL l->xL (put l n x)
 |[],n,x,_=>by simp[xL]
 |
  (k,v)::r,n,x,h=>by
  obtain⟨h1,h2⟩:=h
  simp only[Ab.put]
  split
  ·rename_i hk;subst hk;exact⟨h1,h2⟩
  ·split
   ·rename_i hk dx
    refine⟨λj y hj=> ?_,h1,h2⟩
    simp only[get]at hj
    split at hj
    ·omega
    ·have:=h1 j y hj;omega
   ·rename_i hk dx
    refine⟨λj y hj=> ?_,h2.put n x⟩
    rw[dc]at hj
    split at hj
    ·omega
    ·exact h1 j y hj
theorem xL.mem {α:Type}:∀ {l:List (Nat×α)} {k:Nat} {x:α},xL l->(k,x)∈l->get l k=some x
 |[],_,_,_,h=>by simp at h
 |
  (k,v)::r,n,x,hs,h=>by
  rcases cJ.1 h with h|h
  ·cases h;simp
  ·have:=hs.2.mem h
   simp only[get]
   rw[if_neg,this]
   intro e
   have:=hs.1 n x this
   omega
structure gS (σ:AS) (s:St):Prop where
 env:∀k a,get σ.env k=some a->∃p,get s.env k=some p∧gm a p
 none:∀k,get σ.bx k=none->get s.bx k=none
 bx:∀k b,get σ.bx k=some b->∃blk,get s.bx k=some blk∧gB b blk
 se:xL s.env
 sb:xL s.bx
def AS.put (σ:AS) (d:Option Nat) (a:AV):AS:=
 match d with
 |some d=> {σ with env:=Ab.put σ.env d a}
 |none=>σ
theorem gS.put {σ:AS} {s:St} (h:gS σ s) (d:Option Nat) {a:AV} {p:PV} (ha:gm a p):gS (σ.put d a) (s.put d p):=by
 cases d with
 |none=>exact h
 |
  some d=>
  refine⟨λk b hb=> ?_,h.none,h.bx,h.se.put _ _,h.sb⟩
  simp only[AS.put,dc]at hb
  simp only[St.put,dc]
  split at hb
  ·rename_i e;cases hb;rw[if_pos e];exact⟨p,rfl,ha⟩
  ·rename_i e;rw[if_neg e];exact h.env k b hb
def gS.Oj {σ:AS} {s:St} (h:gS σ s) (k:Nat) {b:AB} {blk:aU} (hb:gB b blk):gS {σ with bx:=Ab.put σ.bx k b} {s with bx:=Ab.put s.bx k blk}:=by
 refine⟨h.env,λj hj=> ?_,λj c hc=> ?_,h.se,h.sb.put _ _⟩
 ·simp only[dc]at hj⊢;split at hj
  ·simp at hj
  ·rename_i e;rw[if_neg e];exact h.none j hj
 ·simp only[dc]at hc⊢;split at hc
  ·rename_i e;cases hc;rw[if_pos e];exact⟨blk,rfl,hb⟩
  ·rename_i e;rw[if_neg e];exact h.bx j c hc
def vxA (σ:AS):AX->Option AV
 | .t n=>get σ.env n
 | .c p=>some (H0 p)
theorem j8 {σ:AS} {s:St} (h:gS σ s) {x:AX} {a:AV} (hx:vxA σ x=some a):gm a (vx s x):=by
 cases x with
 |
  t n=>
  obtain⟨p,h1,h2⟩:=h.env n a hx
  simp only[vx,h1,Option.getD_some];exact h2
 |c p=>simp only[vxA,sJ]at hx;subst hx;exact y9 p
def rm (g:Bool) (σ:AS) (x:AX):Option AV:=
 match vxA σ x with
 |some (.gd b v)=>if g&& !b then none else some v
 |some .un=>none
 |r=>r
def cP {σ:AS} {s:St} (h:gS σ s) {g:Bool} {x:AX} {a:AV} (hx:rm g σ x=some a):∃p,gm a p∧∀K:W7,K p->vg g s x K:=by
 unfold rm at hx;split at hx
 ·rename_i b v hv;split at hx<;>simp only[sJ,reduceCtorEq]at hx;rename_i hb;subst hx;have:=j8 h hv;unfold vg;generalize vx s x=q at this;cases q<;>simp only[gm]at this;rename_i b' p;refine⟨p,this.2,λK hK=>⟨λhg=> ?_,hK⟩⟩;rw[this.1];cases b<;>simp_all
 ·simp at hx
 ·rename_i r h1 h2;have:=j8 h hx;refine⟨vx s x,this,λK hK=> ?_⟩;unfold vg;generalize vx s x=q at this hK;cases q<;>first|exact hK|skip
  cases a<;>simp only[gm]at this
  ·exact absurd hx h2
  all_goals first|exact(h1 _ _ hx).elim|exact absurd this (by simp)
def Kn (g:Bool) (σ:AS):ZP->Option (List AV)
 |[]=>some []
 |x::r=>match rm g σ x,Kn g σ r with|some a,some l=>some (a::l)|_,_=>none
theorem Br {σ:AS} {s:St} (h:gS σ s) {g:Bool}:∀ {xs:ZP} {l:List AV},Kn g σ xs=some l->∃ps,bB l ps∧∀K:WG->Prop,K ps->wh g s xs K
 |[],l,hx=>by simp only[Kn,sJ]at hx;subst hx;exact⟨[],by simp[bB],λK hK=>hK⟩
 |
  x::r,l,hx=>by
  simp only[Kn]at hx
  split at hx<;>simp only[sJ,reduceCtorEq]at hx
  rename_i a l' h1 h2
  subst hx
  obtain⟨p,g1,g2⟩:=cP h h1
  obtain⟨ps,g3,g4⟩:=Br h h2
  exact⟨p::ps,by simp[bB,g1,g3],λK hK=>g2 _ (g4 _ hK)⟩
def Ok (g:Bool) (σ:AS):List (Nat×AX)->Option (List (Nat×AV))
 |[]=>some []
 |(i,x)::r=>match rm g σ x,Ok g σ r with|some a,some l=>some ((i,a)::l)|_,_=>none
def nn:List AV->List (Nat×AV)->Option (List AV)
 |l,[]=>some l
 |
  l,(i,p)::r=>match l[i]?with
  |some q=>(match p.width,q.width with|some a,some b=>if a=b∧p.Wh=true then nn (l.set i p) r else none|_,_=>none)
  |none=>none
theorem Bs {σ:AS} {s:St} (h:gS σ s) {g:Bool}:∀ {xs:List (Nat×AX)} {l:List (Nat×AV)},Ok g σ xs=some l->∃ps:List (Nat×PV),(ps.map (·.1)=l.map (·.1)∧bB (l.map (·.2)) (ps.map (·.2)))∧∀K:List (Nat×PV)->Prop,K ps->Bf g s xs K
 |[],l,hx=>by simp only[Ok,sJ]at hx;subst hx;exact⟨[],by simp[bB],λK hK=>hK⟩
 |
  (i,x)::r,l,hx=>by
  simp only[Ok]at hx
  split at hx<;>simp only[sJ,reduceCtorEq]at hx
  rename_i a l' h1 h2
  subst hx
  obtain⟨p,g1,g2⟩:=cP h h1
  obtain⟨ps,⟨g3,g5⟩,g4⟩:=Bs h h2
  exact⟨(i,p)::ps,by simp[bB,g1,g3,g5],λK hK=>g2 _ (g4 _ hK)⟩
theorem oH:∀ {qs:List (Nat×AV)} {ps:List (Nat×PV)} {l l':List AV} {m:WG},bB l m->ps.map (·.1)=qs.map (·.1)->bB (qs.map (·.2)) (ps.map (·.2))->nn l qs=some l'->∃m',cD m ps=some m'∧bB l' m'
 |[],[],l,l',m,h,_,_,hs=>by simp only[nn,sJ]at hs;subst hs;exact⟨m,rfl,h⟩
 |[],_::_,_,_,_,_,h,_,_=>by simp at h
 |_::_,[],_,_,_,_,h,_,_=>by simp at h
 |
  (i,a)::qs,(j,p)::ps,l,l',m,h,hi,hg,hs=>by
  simp only[JcQ,List.cons.injEq,bB]at hi hg
  obtain⟨rfl,hi⟩:=hi
  simp only[nn]at hs
  split at hs
  ·rename_i q hq
   split at hs
   ·rename_i x y h1 h2
    split at hs
    ·rename_i LG
     obtain⟨q',h3,h4⟩:=h.at hq
     obtain⟨m',h5,h6⟩:=oH (h.set hg.1) hi hg.2 hs
     refine⟨m',?_,h6⟩
     simp only[cD,h3]
     rw[if_pos ⟨by rw[hg.1.width h1,h4.width h2];exact LG.1,hg.1.Wh LG.2⟩]
     exact h5
    ·simp at hs
   ·simp at hs
  ·simp at hs
def Ko (a b:Option Int) (f:Int->Int->Int):Option Int:=match a,b with|some x,some y=>some (f x y)|_,_=>none
def ZY (a b:Option Int) (f:Int->Int->Bool):Option Bool:=match a,b with|some x,some y=>some (f x y)|_,_=>none
def Rc (op:BinOp) (k:IntKind) (a b:Option Int):Option AV:=
 match op with
 | .add=>some (.int k (Ko a b λx y=>k.wrap (x+y)))
 | .sub=>some (.int k (Ko a b λx y=>k.wrap (x-y)))
 | .mul=>some (.int k (Ko a b λx y=>k.wrap (x*y)))
 | .quo=>(match b with|some y=>if y≠0 then some (.int k (Ko a b λx y=>k.wrap (x.tdiv y)))else none|none=>none)
 | .rem=>(match b with|some y=>if y≠0 then some (.int k (Ko a b λx y=>x.tmod y))else none|none=>none)
 | .and=>some (.int k (Ko a b λx y=>bits .and k x y))
 | .or=>some (.int k (Ko a b λx y=>bits .or k x y))
 | .xor=>some (.int k (Ko a b λx y=>bits .xor k x y))
 | .andNot=>some (.int k (Ko a b λx y=>bits .andNot k x y))
 | .eql=>some (.bl (ZY a b λx y=>x==y))
 | .neq=>some (.bl (ZY a b λx y=>x !=y))
 | .lss=>some (.bl (ZY a b λx y=>decide (x<y)))
 | .leq=>some (.bl (ZY a b λx y=>decide (x≤y)))
 | .gtr=>some (.bl (ZY a b λx y=>decide (x>y)))
 | .geq=>some (.bl (ZY a b λx y=>decide (x≥y)))
 | .shl=>(match b with|some y=>if 0≤y then some (.int k (Ko a b λx y=>k.wrap (x*2^min y.toNat k.bits)))else none|none=>none)
 | .shr=>(match b with|some y=>if 0≤y then some (.int k (Ko a b λx y=>x.fdiv (2^min y.toNat k.bits)))else none|none=>none)
def Kq {a b:Option Int} {x y:Int} {f:Int->Int->Int} (ha:∀z,a=some z->x=z) (hb:∀z,b=some z->y=z):∀z,Ko a b f=some z->f x y=z:=by
 intro z hz;unfold Ko at hz;split at hz<;>simp only[sJ,reduceCtorEq]at hz;rw[←hz,ha _ rfl,hb _ rfl]
def adi {a b:Option Int} {x y:Int} {f:Int->Int->Bool} (ha:∀z,a=some z->x=z) (hb:∀z,b=some z->y=z):∀z,ZY a b f=some z->f x y=z:=by
 intro z hz;unfold ZY at hz;split at hz<;>simp only[sJ,reduceCtorEq]at hz;rw[←hz,ha _ rfl,hb _ rfl]
def oi {k:IntKind} {a:Option Int} {x:Int} (h:∀z,a=some z->x=z):gm (.int k a) (.int k x):=by simp only[gm,true_and];exact h
def CO {a:Option Bool} {x:Bool} (h:∀z,a=some z->x=z):gm (.bl a) (.bl x):=by simp only[gm];exact h
def Rd {op:BinOp} {k:IntKind} {a b:Option Int} {x y:Int} {r:AV} (ha:∀z,a=some z->x=z) (hb:∀z,b=some z->y=z) (h:Rc op k a b=some r):∃p,gm r p∧∀K:W7,K p->qj op k x y K:=by
 cases op<;>simp only[Rc,sJ]at h
 case quo|rem|shl|shr=>
  split at h
  ·rename_i z;split at h<;>simp only[sJ,reduceCtorEq]at h;rename_i hz;subst h;have:=hb z rfl;exact⟨_,oi (Kq ha hb),λK hK=>⟨by rw[this];exact hz,hK⟩⟩
  ·simp at h
 all_goals
  subst h
  first|exact⟨_,oi (Kq ha hb),λK hK=>hK⟩|exact⟨_,CO (adi ha hb),λK hK=>hK⟩
mutual
def DX:Sh->AV->Bool
 | .b,.bl _=>true
 | .i k,.int k' _=>decide (k=k')
 | .s,.str _=>true
 | .st l,.st w m=>decide (w=rC l)&&EL l m
 | .ar n e,.ar sz k m=>decide (sz=qi e∧k=n∧m.length=n)&&Mf e m
 |_,_=>false
def EL:List Sh->List AV->Bool
 |[],[]=>true
 |x::l,y::m=>DX x y&&EL l m
 |_,_=>false
def Mf:Sh->List AV->Bool
 |_,[]=>true
 |e,y::m=>DX e y&&Mf e m
end
mutual
theorem Bt:∀ {x:Sh} {a:AV} {p:PV},gm a p->DX x a=true->fits x p=true
 | .b,a,p,h,hf=>by cases a<;>simp[DX]at hf;cases p<;>simp[gm]at h;rfl
 | .i k,a,p,h,hf=>by cases a<;>simp[DX]at hf;cases p<;>simp[gm]at h;simp[fits,hf,h.1]
 | .s,a,p,h,hf=>by cases a<;>simp[DX]at hf;cases p<;>simp[gm]at h;rfl
 |
  .st l,a,p,h,hf=>by
  cases a<;>simp only[DX,aJ,decide_eq_true_eq,reduceCtorEq]at hf
  cases p<;>simp only[gm]at h
  simp[fits,h.1,hf.1,H2 h.2 hf.2]
 |
  .ar n e,a,p,h,hf=>by
  cases a<;>simp only[DX,aJ,decide_eq_true_eq,reduceCtorEq]at hf
  cases p<;>simp only[gm]at h
  have hl:=h.2.length
  simp[fits,h.1.1,h.1.2,hf.1.1,hf.1.2.1,hl,hf.1.2.2,H3 h.2 hf.2]
theorem H2:∀ {l:List Sh} {m:List AV} {ps:WG},bB m ps->EL l m=true->iL l ps=true
 |[],[],[],_,_=>rfl
 |[],[],_::_,h,_=>by simp[bB]at h
 |[],_::_,_,_,hf=>by simp[EL]at hf
 |_::_,[],_,_,hf=>by simp[EL]at hf
 |_::_,_::_,[],h,_=>by simp[bB]at h
 |
  x::l,y::m,p::ps,h,hf=>by
  simp only[bB]at h
  simp only[EL,aJ]at hf
  simp[iL,Bt h.1 hf.1,H2 h.2 hf.2]
theorem H3:∀ {e:Sh} {m:List AV} {ps:WG},bB m ps->Mf e m=true->kR e ps=true
 |_,[],[],_,_=>rfl
 |_,[],_::_,h,_=>by simp[bB]at h
 |_,_::_,[],h,_=>by simp[bB]at h
 |
  e,y::m,p::ps,h,hf=>by
  simp only[bB]at h
  simp only[Mf,aJ]at hf
  simp[kR,Bt h.1 hf.1,H3 h.2 hf.2]
end
def Re (op:BinOp) (eqs:ET) (p q:AV):Option AV:=
 match eqs,p,q with
 | .no,.int k a,.int k' b=>if op= .shl∨op= .shr∨k=k' then Rc op k a b else none
 |
  .bl,.bl a,.bl b=>(match op with
  | .eql=>some (.bl (match a,b with|some x,some y=>some (x==y)|_,_=>none))
  | .neq=>some (.bl (match a,b with|some x,some y=>some (!(x==y))|_,_=>none))
  |_=>none)
 | .sh x,p,q=>if DX x p=true∧DX x q=true then(match op with| .eql| .neq=>some (.bl none)|_=>none)else none
 |_,_,_=>none
def Rf {s:St} {op:BinOp} {e:ET} {a b r:AV} {p q:PV} (ha:gm a p) (hb:gm b q) (h:Re op e a b=some r):∃v,gm r v∧∀K:W7,K v->qN s op e p q K:=by
 unfold Re at h;split at h
 ·rename_i k x k' y;split at h<;>(try simp only[reduceCtorEq]at h)
  rename_i hk;cases p<;>simp only[gm]at ha;cases q<;>simp only[gm]at hb;obtain⟨v,h1,h2⟩:=Rd ha.2 hb.2 h;refine⟨v,?_,λK hK=>⟨?_,?_⟩⟩
  ·exact h1
  ·rw[ha.1,hb.1];exact hk
  ·rw[ha.1];exact h2 K hK
 ·rename_i x y;cases p<;>simp only[gm]at ha;cases q<;>simp only[gm]at hb;rename_i u v;split at h<;>simp only[sJ,reduceCtorEq]at h
  ·subst h;refine⟨.bl (u==v),λz hz=> ?_,λK hK=>hK⟩;split at hz<;>simp only[sJ,reduceCtorEq]at hz;rw[←hz,ha _ rfl,hb _ rfl]
  ·subst h;refine⟨.bl (!(u==v)),λz hz=> ?_,λK hK=>hK⟩;split at hz<;>simp only[sJ,reduceCtorEq]at hz;rw[←hz,ha _ rfl,hb _ rfl]
 ·rename_i x p' q';split at h<;>(try simp only[reduceCtorEq]at h)
  rename_i hf;have h1:=Bt ha hf.1;have h2:=Bt hb hf.2;split at h<;>simp only[sJ,reduceCtorEq]at h<;>subst h
  ·exact⟨.bl (PV.beq p q),by simp[gm],λK hK=>⟨⟨h1,h2⟩,hK⟩⟩
  ·exact⟨.bl (!PV.beq p q),by simp[gm],λK hK=>⟨⟨h1,h2⟩,hK⟩⟩
 ·simp at h
end Go.Ab
namespace Go.Ab
variable [cM]
variable {P:Program}
def loA (g:Bool) (σ:AS) (x:Option AX) (dflt most:Nat):Option Nat:=
 match x with
 |none=>some dflt
 |
  some x=>match rm g σ x with
  |some (.int _ (some h))=>if 0≤h∧h≤most then some h.toNat else none
  |_=>none
def H4 (g:Bool) (σ:AS) (lo hi:Option AX) (len cap:Nat):Option (Nat×Nat):=
 match loA g σ hi len cap with
 |some h=>(match loA g σ lo 0 h with|some l=>some (l,h)|none=>none)
 |none=>none
def oI {σ:AS} {s:St} (h:gS σ s) {g:Bool} {x:AX} {k:IntKind} {n:Int} (hx:rm g σ x=some (.int k (some n))):∀K:W7,K (.int k n)->vg g s x K:=by
 obtain⟨p,h1,h2⟩:=cP h hx;cases p<;>simp only[gm]at h1;obtain⟨rfl,h3⟩:=h1;rw[h3 n rfl]at h2;exact h2
def CP {σ:AS} {s:St} (h:gS σ s) {g:Bool} {lo hi:Option AX} {len cap a b:Nat} (hx:H4 g σ lo hi len cap=some (a,b)):∀K:Nat->Nat->Prop,K a b->jX g s lo hi len cap K:=by
 intro K hK;unfold H4 at hx;split at hx
 ·rename_i h' hh;split at hx<;>simp only[sJ,Prod.mk.injEq,reduceCtorEq]at hx;rename_i l' hl;obtain⟨rfl,rfl⟩:=hx
  have LC:∀J:Nat->Prop,J l'->(match lo with|none=>λ(J:Nat->Prop)=>J 0|some x=>λJ=>vg g s x λp=>mS p λl=>(0≤l∧l≤h')∧J l.toNat) J:=by
   intro J hJ;cases lo with
   |none=>simp only[loA,sJ]at hl;subst hl;exact hJ
   |
    some x=>
    simp only[loA]at hl
    split at hl
    ·rename_i k n hv
     split at hl<;>simp only[sJ,reduceCtorEq]at hl
     rename_i hc
     subst hl
     exact oI h hv _ ⟨hc,hJ⟩
    ·simp at hl
  cases hi with
  |
   none=>
   simp only[loA,sJ]at hh;subst hh
   exact LC _ hK
  |
   some x=>
   simp only[loA]at hh
   split at hh
   ·rename_i k n hv
    split at hh<;>simp only[sJ,reduceCtorEq]at hh
    rename_i hc
    subst hh
    exact oI h hv _ ⟨hc,LC _ hK⟩
   ·simp at hh
 ·simp at hx
def H5:List AV->Option (List (Option Int))
 |[]=>some []
 | .int _ n::r=>(match H5 r with|some l=>some (n::l)|none=>none)
 |_=>none
def H6 (mx:Bool):Option Int->List (Option Int)->Option Int
 |a,[]=>a
 |a,b::r=>H6 mx (Ko a b λx y=>if mx then max x y else min x y) r
theorem H7 {mx:Bool}:∀ {r:List AV} {l:List (Option Int)} {ps:WG} {a:Option Int} {x:Int},H5 r=some l->bB r ps->(∀z,a=some z->x=z)->∃y,(∀z,H6 mx a l=some z->y=z)∧∀K:Int->Prop,K y->lX mx x ps K
 |
  [],l,[],a,x,h,_,ha=>by
  simp only[H5,sJ]at h;subst h
  exact⟨x,by simpa only[H6]using ha,λK hK=>hK⟩
 |[],_,_::_,_,_,_,h,_=>by simp[bB]at h
 |_::_,_,[],_,_,_,h,_=>by simp[bB]at h
 |
  b::r,l,p::ps,a,x,h,hg,ha=>by
  cases b<;>simp only[H5,reduceCtorEq]at h
  rename_i k n
  split at h<;>simp only[sJ,reduceCtorEq]at h
  rename_i l' hl
  subst h
  simp only[bB]at hg
  cases p<;>simp only[gm,false_and]at hg
  rename_i k' m
  obtain⟨y,h1,h2⟩:=H7 (mx:=mx) (a:=Ko a n λx y=>if mx then max x y else min x y) (x:=if mx then max x m else min x m) hl hg.2 (Kq ha hg.1.2)
  exact⟨y,by simpa only[H6]using h1,λK hK=>h2 K hK⟩
def A3 (σ:AS) (k aD:Nat):Option AB:=match get σ.bx k with|some b=>if aD=b.aD then some b else none|none=>none
def nP {σ:AS} {s:St} (h:gS σ s) {k aD:Nat} {b:AB} (hb:A3 σ k aD=some b):∃blk,get s.bx k=some blk∧aD=blk.aD∧gB b blk:=by
 unfold A3 at hb;split at hb
 ·rename_i b' hg;split at hb<;>simp only[sJ,reduceCtorEq]at hb;rename_i ht;subst hb;obtain⟨blk,h1,h2⟩:=h.bx k _ hg;exact⟨blk,h1,by rw[h2.aD];exact ht,h2⟩
 ·simp at hb
def okW (u:AV) (w:Nat) (agg:Bool):Option AV:=match u.width,u.agg with|some a,some b=>if a=w∧b=agg then some u else none|_,_=>none
def Ks {u r:AV} {w:Nat} {agg:Bool} {q:PV} (h:okW u w agg=some r) (hq:gm u q):u=r∧q.width=w∧q.isAgg=agg:=by
 unfold okW at h;split at h
 ·rename_i a b h1 h2;split at h<;>simp only[sJ,reduceCtorEq]at h;rename_i hc;exact⟨h,by rw[hq.width h1];exact hc.1,by rw[hq.agg h2];exact hc.2⟩
 ·simp at h
def xf (g:Bool) (σ:AS):AK->Option AV
 | .mv x=>rm g σ x
 |
  .pick c a b=>match rm g σ c,vxA σ a,vxA σ b with
  |some (.bl x),some (.bl ya),some (.bl yb)=>some (.bl (match x with|some x=>bif x then ya else yb|none=>none))
  |some (.bl x),some (.bl ya),some (.gd gb (.bl yb))=>if gb=true∨x=some true then some (.bl (match x with|some x=>bif x then ya else yb|none=>none))else none
  |some (.bl x),some (.gd ga (.bl ya)),some (.bl yb)=>if ga=true∨x=some false then some (.bl (match x with|some x=>bif x then ya else yb|none=>none))else none
  |some (.bl (some true)),some (.bl ya),some .no=>some (.bl ya)
  |some (.bl (some false)),some .no,some (.bl yb)=>some (.bl yb)
  |_,_,_=>none
 |
  .build z parts=>match Ok g σ parts,H0 z with
  |some ps,.st w l=>(match nn l ps with|some l'=>some (.st w l')|none=>none)
  |some ps,.ar sz n l=>(match nn l ps with|some l'=>some (.ar sz n l')|none=>none)
  |_,_=>none
 |
  .load agg w x=>match rm g σ x with
  |some (.pt k p aD)=>(match A3 σ k aD with|some b=>(match Ay b p with|some u=>okW u w agg|none=>none)|none=>none)
  |some (.fp sz l p)=>(match Ay (.arr sz l) p with|some u=>okW u w agg|none=>none)
  |_=>none
 |
  .nilCheck x=>match rm g σ x with
  |some (.pt k p aD)=>(match A3 σ k aD with|some _=>some (.pt k p aD)|none=>none)
  |some (.fp sz l p)=>some (.fp sz l p)
  |_=>none
 | .bin op eqs x y=>match rm g σ x,rm g σ y with|some p,some q=>Re op eqs p q|_,_=>none
 |
  .un op x=>match op,rm g σ x with
  | .not,some (.bl b)=>some (.bl (b.map λy=> !y))
  | .neg,some (.int k n)=>some (.int k (n.map λy=>k.wrap (0-y)))
  | .xor,some (.int k n)=>some (.int k (n.map λy=>bits .xor k (if k.signed then-1 else k.max) y))
  |_,_=>none
 | .convI k x=>match rm g σ x with|some (.int _ n)=>some (.int k (n.map λy=>k.wrap y))|_=>none
 |
  .slice (.sl sz) x lo hi none=>match rm g σ x with
  |some (.sl bu l clip)=>if bu=sz then(match H4 g σ lo hi l.length l.length with|some (a,b)=>some (.sl sz ((l.take b).drop a) (clip&&decide (b=l.length)))|none=>none)else none
  |
   some (.rs k p off len aD bu c)=>if bu=sz then(match A3 σ k aD with
   |some _=>(match H4 g σ lo hi len (BU c off len aD)with|some (a,b)=>some (.rs k p (off+a) (b-a) aD sz (Fv c a (decide (b=len))))|none=>none)
   |none=>none)else none
  |_=>none
 |
  .slice (.ar n sz) x lo hi none=>match rm g σ x with
  |
   some (.pt k p aD)=>(match A3 σ k aD with
   |some _=>(match H4 g σ lo hi n n with|some (a,b)=>some (.rs k p a (b-a) aD sz (if b=n then .clip else .any))|none=>none)
   |none=>none)
  |_=>none
 |
  .fieldA i off x=>match rm g σ x with
  |some (.pt k p aD)=>(match A3 σ k aD with|some _=>some (.pt k (p++[.f i off]) aD)|none=>none)
  |some (.fp sz l p)=>some (.fp sz l (p++[.f i off]))
  |_=>none
 |
  .s2a n sz x=>match rm g σ x with
  |some (.sl bu l _)=>if bu=sz∧0<n∧n≤l.length then some (.fp sz l [.w 0 n sz])else none
  |some (.rs k p off len aD bu _)=>(match A3 σ k aD with|some _=>if bu=sz∧0<n∧n≤len then some (.pt k (p++[.w off n sz]) aD)else none|none=>none)
  |_=>none
 |
  .field i off agg w x=>match rm g σ x with
  |some (.st _ l)=>(match l[i]?with|some c=>if awL (l.take i)=some off then okW c w agg else none|none=>none)
  |_=>none
 |
  .indexA (.sl sz) x i=>match rm g σ x,rm g σ i with
  |some (.sl bu l _),some (.int _ (some j))=>if bu=sz∧0≤j∧j<l.length then some (.fp sz l [.i j.toNat sz])else none
  |some (.rs k p off len aD bu _),some (.int _ (some j))=>(match A3 σ k aD with|some _=>if bu=sz∧0≤j∧j<len then some (.pt k (p++[.i (off+j.toNat) sz]) aD)else none|none=>none)
  |_,_=>none
 |
  .indexA (.ar n sz) x i=>match rm g σ x,rm g σ i with
  |some (.pt k p aD),some (.int _ (some j))=>if 0≤j∧j<n then(match A3 σ k aD with|some _=>some (.pt k (p++[.i j.toNat sz]) aD)|none=>none)else none
  |some (.fp bu l p),some (.int _ (some j))=>if 0≤j∧j<n then some (.fp bu l (p++[.i j.toNat sz]))else none
  |_,_=>none
 |
  .index agg n w x i=>match rm g σ x,rm g σ i with
  |some (.ar sz n' l),some (.int _ (some j))=>(match l[j.toNat]?with|some c=>if 0≤j∧j<n∧n'=n∧sz=w∧c.agg=some agg then some c else none|none=>none)
  |_,_=>none
 | .extract i x=>match vxA σ x with|some (.tup l)=>l[i]? |_=>none
 |
  .len x=>match rm g σ x with
  |some (.sl _ l _)=>some (.int .i64 (some l.length))
  |some (.rs k _ _ len aD _ _)=>(match A3 σ k aD with|some _=>some (.int .i64 (some len))|none=>none)
  |_=>none
 | .lenS x=>match rm g σ x with|some (.str b)=>some (.int .i64 (some b.length))|_=>none
 | .lenC n=>some (.int .i64 (some n))
 |
  .mm mx xs=>match Kn g σ xs with
  |some (.int k a::r)=>(match H5 r with|some l=>some (.int k (H6 mx a l))|none=>none)
  |_=>none
 |_=>none
theorem Kt {n:Option Int} {m:Int} {f:Int->Int} (h:∀y,n=some y->m=y):∀z,n.map f=some z->f m=z:=by
 intro z hz;cases n with
 |none=>simp at hz
 |some y=>simp at hz;rw[h y rfl];exact hz
theorem Ku {x ya yb:Option Bool} {u v w:Bool} (hx:∀z,x=some z->u=z) (ha:∀z,ya=some z->v=z) (hb:∀z,yb=some z->w=z):
  ∀z,(match x with|some x=>bif x then ya else yb|none=>none)=some z->(bif u then v else w)=z:=by
 intro z hz;cases x with
 |none=>simp at hz
 |
  some x=>
  rw[hx x rfl]
  cases x
  ·exact hb z hz
  ·exact ha z hz
def adj {l:List AV} {p:PV} (h:gm (.tup l) p):∃m,p= .tup m∧bB l m:=by
 cases p<;>simp only[gm]at h;exact⟨_,rfl,h⟩
theorem CQ {σ:AS} {s:St} (h:gS σ s) {g:Bool}:∀ {k:AK} {r:AV},xf g σ k=some r->∃p,gm r p∧∀K:W7,K p->ev g s k K:=by
 intro k r hr;cases k with
 |mv x=>exact cP h hr
 |
  pick c a b=>
  simp only[xf]at hr
  split at hr
  ·rename_i x ya yb h1 h2 h3
   simp only[sJ]at hr;subst hr
   obtain⟨pc,g1,g2⟩:=cP h h1
   have ha:=j8 h h2
   have hb:=j8 h h3
   cases pc<;>simp only[gm]at g1
   cases Uj:vx s a<;>rw[Uj]at ha<;>simp only[gm]at ha
   cases Uk:vx s b<;>rw[Uk]at hb<;>simp only[gm]at hb
   refine⟨_,CO (Ku g1 ha hb),λK hK=>g2 _ ?_⟩
   simp only[Uj,Uk]
   exact hK
  ·rename_i x ya gb yb h1 h2 h3
   split at hr<;>simp only[sJ,reduceCtorEq]at hr
   rename_i hc
   subst hr
   obtain⟨pc,g1,g2⟩:=cP h h1
   have ha:=j8 h h2
   have hb:=j8 h h3
   cases pc<;>simp only[gm]at g1
   rename_i u
   cases Uj:vx s a<;>rw[Uj]at ha<;>simp only[gm]at ha
   cases Uk:vx s b<;>rw[Uk]at hb<;>simp only[gm]at hb
   rename_i gb' q
   cases q<;>simp only[gm,and_false]at hb
   refine⟨_,CO (Ku g1 ha hb.2),λK hK=>g2 _ ?_⟩
   simp only[Uj,Uk]
   refine⟨λhu=> ?_,hK⟩
   rcases hc with hc|hc
   ·rw[hb.1];exact hc
   ·have:=g1 true hc;rw[this]at hu;cases hu
  ·rename_i x ga ya yb h1 h2 h3
   split at hr<;>simp only[sJ,reduceCtorEq]at hr
   rename_i hc
   subst hr
   obtain⟨pc,g1,g2⟩:=cP h h1
   have ha:=j8 h h2
   have hb:=j8 h h3
   cases pc<;>simp only[gm]at g1
   rename_i u
   cases Uk:vx s b<;>rw[Uk]at hb<;>simp only[gm]at hb
   cases Uj:vx s a<;>rw[Uj]at ha<;>simp only[gm]at ha
   rename_i ga' q
   cases q<;>simp only[gm,and_false]at ha
   refine⟨_,CO (Ku g1 ha.2 hb),λK hK=>g2 _ ?_⟩
   simp only[Uj,Uk]
   refine⟨λhu=> ?_,hK⟩
   rcases hc with hc|hc
   ·rw[ha.1];exact hc
   ·have:=g1 false hc;rw[this]at hu;cases hu
  ·rename_i ya h1 h2 h3
   simp only[sJ]at hr;subst hr
   obtain⟨pc,g1,g2⟩:=cP h h1
   have ha:=j8 h h2
   have hb:=j8 h h3
   cases pc<;>simp only[gm]at g1
   rename_i u
   have hu:=g1 true rfl
   subst hu
   cases Uj:vx s a<;>rw[Uj]at ha<;>simp only[gm]at ha
   simp only[gm]at hb
   rename_i v
   refine⟨_,CO ha,λK hK=>g2 _ ?_⟩
   simp only[Uj,hb]
   exact⟨by trivial,hK⟩
  ·rename_i yb h1 h2 h3
   simp only[sJ]at hr;subst hr
   obtain⟨pc,g1,g2⟩:=cP h h1
   have ha:=j8 h h2
   have hb:=j8 h h3
   cases pc<;>simp only[gm]at g1
   rename_i u
   have hu:=g1 false rfl
   subst hu
   cases Uk:vx s b<;>rw[Uk]at hb<;>simp only[gm]at hb
   simp only[gm]at ha
   refine⟨_,CO hb,λK hK=>g2 _ ?_⟩
   simp only[Uk,ha]
   exact⟨by trivial,hK⟩
  ·simp at hr
 |
  build z parts=>
  simp only[xf]at hr
  have hz:=y9 z
  split at hr
  ·rename_i ps w l h1 h2
   split at hr<;>simp only[sJ,reduceCtorEq]at hr
   rename_i l' h3
   subst hr
   obtain⟨qs,⟨g1,g2⟩,g3⟩:=Bs h h1
   rw[h2]at hz
   cases z<;>simp only[gm]at hz
   obtain⟨m',g4,g5⟩:=oH hz.2 g1 g2 h3
   exact⟨.st _ m',by simp only[gm];exact⟨hz.1,g5⟩,λK hK=>g3 _ (by simp only[g4];exact hK)⟩
  ·rename_i ps sz n l h1 h2
   split at hr<;>simp only[sJ,reduceCtorEq]at hr
   rename_i l' h3
   subst hr
   obtain⟨qs,⟨g1,g2⟩,g3⟩:=Bs h h1
   rw[h2]at hz
   cases z<;>simp only[gm]at hz
   obtain⟨m',g4,g5⟩:=oH hz.2 g1 g2 h3
   exact⟨.ar _ _ m',by simp only[gm];exact⟨hz.1,g5⟩,λK hK=>g3 _ (by simp only[g4];exact hK)⟩
  ·simp at hr
 |
  load agg w x=>
  simp only[xf]at hr
  split at hr
  ·rename_i k p aD h1
   split at hr
   ·rename_i b hb
    split at hr
    ·rename_i u hu
     obtain⟨q,g1,g2⟩:=cP h h1
     simp only[gm]at g1;subst g1
     obtain⟨blk,b1,b2,b3⟩:=nP h hb
     obtain⟨v,c1,c2⟩:=HZ b3 hu
     obtain⟨rfl,d1,d2⟩:=Ks hr c2
     exact⟨v,c2,λK hK=>g2 _ (by simp only[b1,c1];exact⟨⟨b2,d1,d2⟩,hK⟩)⟩
    ·simp at hr
   ·simp at hr
  ·rename_i sz l p h1
   split at hr
   ·rename_i u hu
    obtain⟨q,g1,g2⟩:=cP h h1
    cases q<;>simp only[gm]at g1
    obtain⟨⟨rfl,rfl⟩,g3⟩:=g1
    rename_i sz m p
    obtain⟨v,c1,c2⟩:=HZ (p:= .arr sz m) (a:= .arr sz l) (by simp only[gB];exact⟨trivial,g3⟩) hu
    obtain⟨rfl,d1,d2⟩:=Ks hr c2
    exact⟨v,c2,λK hK=>g2 _ (by simp only[c1];exact⟨⟨d1,d2⟩,hK⟩)⟩
   ·simp at hr
  ·simp at hr
 |
  nilCheck x=>
  simp only[xf]at hr
  split at hr
  ·rename_i k p aD h1
   split at hr<;>simp only[sJ,reduceCtorEq]at hr
   rename_i b hb
   subst hr
   obtain⟨q,g1,g2⟩:=cP h h1
   simp only[gm]at g1;subst g1
   obtain⟨blk,b1,b2,b3⟩:=nP h hb
   exact⟨.pt k p aD,by simp only[gm],λK hK=>g2 _ (by simp only[b1];exact⟨b2,hK⟩)⟩
  ·rename_i sz l p h1
   simp only[sJ]at hr;subst hr
   obtain⟨q,g1,g2⟩:=cP h h1
   have g1':=g1
   cases q<;>simp only[gm]at g1
   exact⟨_,g1',λK hK=>g2 _ hK⟩
  ·simp at hr
 |
  bin op eqs x y=>
  simp only[xf]at hr
  split at hr
  ·rename_i p q h1 h2
   obtain⟨u,g1,g2⟩:=cP h h1
   obtain⟨v,g3,g4⟩:=cP h h2
   obtain⟨w,g5,g6⟩:=Rf (s:=s) g1 g3 hr
   exact⟨w,g5,λK hK=>g2 _ (g4 _ (g6 K hK))⟩
  ·simp at hr
 |
  un op x=>
  simp only[xf]at hr
  split at hr
  ·rename_i b h1
   simp only[sJ]at hr;subst hr
   obtain⟨u,g1,g2⟩:=cP h h1
   cases u<;>simp only[gm]at g1
   rename_i x
   refine⟨.bl (!x),CO λz hz=> ?_,λK hK=>g2 _ hK⟩
   cases b with
   |none=>simp at hz
   |some y=>rw[g1 y rfl];simpa using hz
  ·rename_i k n h1
   simp only[sJ]at hr;subst hr
   obtain⟨u,g1,g2⟩:=cP h h1
   cases u<;>simp only[gm]at g1
   obtain⟨rfl,g1⟩:=g1
   exact⟨_,oi (Kt g1),λK hK=>g2 _ hK⟩
  ·rename_i k n h1
   simp only[sJ]at hr;subst hr
   obtain⟨u,g1,g2⟩:=cP h h1
   cases u<;>simp only[gm]at g1
   obtain⟨rfl,g1⟩:=g1
   exact⟨_,oi (Kt g1),λK hK=>g2 _ hK⟩
  ·simp at hr
 |
  convI k x=>
  simp only[xf]at hr
  split at hr<;>simp only[sJ,reduceCtorEq]at hr
  rename_i k' n h1
  subst hr
  obtain⟨u,g1,g2⟩:=cP h h1
  cases u<;>simp only[gm]at g1
  exact⟨_,oi (Kt g1.2),λK hK=>g2 _ hK⟩
 |
  slice kd x lo hi mx=>
  cases mx with
  |some m=>cases kd<;>simp[xf]at hr
  |
   none=>
   cases kd with
   |str=>simp[xf]at hr
   |
    sl sz=>
    simp only[xf]at hr
    split at hr
    ·rename_i bu l clip h1
     split at hr
     ·rename_i hs
      split at hr<;>simp only[sJ,reduceCtorEq]at hr
      rename_i a b hl
      subst hr hs
      obtain⟨u,g1,g2⟩:=cP h h1
      cases u<;>simp only[gm]at g1
      obtain⟨⟨rfl,rfl⟩,g3⟩:=g1
      rename_i sz m c
      have hlen:=g3.length
      refine⟨.sl sz ((m.take b).drop a) (c&&decide (b=m.length)),?_,λK hK=>g2 _ ?_⟩
      ·simp only[gm,hlen,true_and]
       first|exact(g3.take b).drop a|exact⟨trivial,(g3.take b).drop a⟩
      ·simp only
       rw[hlen]
       refine CP h hl _ ⟨by trivial,?_⟩
       rw[←hlen];exact hK
     ·simp at hr
    ·rename_i k p off len aD bu c h1
     split at hr
     ·rename_i hs
      split at hr
      ·rename_i bb hb
       split at hr<;>simp only[sJ,reduceCtorEq]at hr
       rename_i a b hl
       subst hr hs
       obtain⟨u,g1,g2⟩:=cP h h1
       simp only[gm]at g1;subst g1
       obtain⟨blk,b1,b2,b3⟩:=nP h hb
       refine⟨.rs _ _ _ _ _ _ _,by simp only[gm];rfl,λK hK=>g2 _ ?_⟩
       simp only[b1]
       exact⟨⟨b2,by trivial⟩,CP h hl _ hK⟩
      ·simp at hr
     ·simp at hr
    ·simp at hr
   |
    ar n sz=>
    simp only[xf]at hr
    split at hr
    ·rename_i k p aD h1
     split at hr
     ·rename_i bb hb
      split at hr<;>simp only[sJ,reduceCtorEq]at hr
      rename_i a b hl
      subst hr
      obtain⟨u,g1,g2⟩:=cP h h1
      simp only[gm]at g1;subst g1
      obtain⟨blk,b1,b2,b3⟩:=nP h hb
      refine⟨.rs _ _ _ _ _ _ _,by simp only[gm];rfl,λK hK=>g2 _ ?_⟩
      simp only[b1]
      exact⟨b2,by trivial,CP h hl _ hK⟩
     ·simp at hr
    ·simp at hr
 |
  fieldA i off x=>
  simp only[xf]at hr
  split at hr
  ·rename_i k p aD h1
   split at hr<;>simp only[sJ,reduceCtorEq]at hr
   rename_i b hb
   subst hr
   obtain⟨q,g1,g2⟩:=cP h h1
   simp only[gm]at g1;subst g1
   obtain⟨blk,b1,b2,b3⟩:=nP h hb
   exact⟨.pt k (p++[.f i off]) aD,by simp only[gm],λK hK=>g2 _ (by simp only[b1];exact⟨b2,hK⟩)⟩
  ·rename_i sz l p h1
   simp only[sJ]at hr;subst hr
   obtain⟨q,g1,g2⟩:=cP h h1
   cases q<;>simp only[gm]at g1
   rename_i bu m p'
   refine⟨.fp bu m (p'++[.f i off]),by simp only[gm];exact⟨⟨g1.1.1,by rw[g1.1.2]⟩,g1.2⟩,λK hK=>g2 _ hK⟩
  ·simp at hr
 |
  s2a n sz x=>
  simp only[xf]at hr
  split at hr
  ·rename_i bu l c h1
   split at hr<;>simp only[sJ,reduceCtorEq]at hr
   rename_i hc
   subst hr
   obtain⟨q,g1,g2⟩:=cP h h1
   cases q<;>simp only[gm]at g1
   have hlen:=g1.2.length
   rename_i sz2 m c2
   refine⟨.fp sz m [.w 0 n sz],by simp only[gm];exact⟨⟨trivial,trivial⟩,g1.2⟩,λK hK=>g2 _ ?_⟩
   exact⟨⟨g1.1.1.trans hc.1,hc.2.1,by rw[hlen];exact hc.2.2⟩,hK⟩
  ·rename_i k p off len aD bu c h1
   split at hr
   ·rename_i b hb
    split at hr<;>simp only[sJ,reduceCtorEq]at hr
    rename_i hc
    subst hr
    obtain⟨q,g1,g2⟩:=cP h h1
    simp only[gm]at g1;subst g1
    obtain⟨blk,b1,b2,b3⟩:=nP h hb
    exact⟨.pt k (p++[.w off n sz]) aD,by simp only[gm],λK hK=>g2 _ (by simp only[b1];exact⟨⟨b2,hc.1,hc.2.1,hc.2.2⟩,hK⟩)⟩
   ·simp at hr
  ·simp at hr
 |
  field i off agg w x=>
  simp only[xf]at hr
  split at hr
  ·rename_i w' l h1
   split at hr
   ·rename_i c hc
    split at hr
    ·rename_i ho
     obtain⟨q,g1,g2⟩:=cP h h1
     cases q<;>simp only[gm]at g1
     obtain⟨v,c1,c2⟩:=g1.2.at hc
     obtain⟨rfl,d1,d2⟩:=Ks hr c2
     exact⟨v,c2,λK hK=>g2 _ (by simp only[c1];exact⟨⟨(g1.2.take i).au ho,d1,d2⟩,hK⟩)⟩
    ·simp at hr
   ·simp at hr
  ·simp at hr
 |
  indexA kd x i=>
  cases kd with
  |str=>simp[xf]at hr
  |
   sl sz=>
   simp only[xf]at hr
   split at hr
   ·rename_i bu l c k' j h1 h2
    split at hr<;>simp only[sJ,reduceCtorEq]at hr
    rename_i hc
    subst hr
    obtain⟨q,g1,g2⟩:=cP h h1
    have g3:=oI h h2
    cases q<;>simp only[gm]at g1
    have hlen:=g1.2.length
    rename_i sz2 m c2
    refine⟨.fp sz m [.i j.toNat sz],by simp only[gm];exact⟨⟨trivial,trivial⟩,g1.2⟩,λK hK=>g2 _ (g3 _ ?_)⟩
    exact⟨⟨g1.1.1.trans hc.1,hc.2.1,by rw[hlen];exact hc.2.2⟩,hK⟩
   ·rename_i k p off len aD bu c k' j h1 h2
    split at hr
    ·rename_i b hb
     split at hr<;>simp only[sJ,reduceCtorEq]at hr
     rename_i hc
     subst hr
     obtain⟨q,g1,g2⟩:=cP h h1
     have g3:=oI h h2
     simp only[gm]at g1;subst g1
     obtain⟨blk,b1,b2,b3⟩:=nP h hb
     refine⟨.pt _ _ _,by simp only[gm];rfl,λK hK=>g2 _ (g3 _ ?_)⟩
     simp only[mS,b1]
     exact⟨⟨b2,hc⟩,hK⟩
    ·simp at hr
   ·simp at hr
  |
   ar n sz=>
   simp only[xf]at hr
   split at hr
   ·rename_i k p aD k' j h1 h2
    split at hr
    ·rename_i hc
     split at hr<;>simp only[sJ,reduceCtorEq]at hr
     rename_i b hb
     subst hr
     obtain⟨q,g1,g2⟩:=cP h h1
     have g3:=oI h h2
     simp only[gm]at g1;subst g1
     obtain⟨blk,b1,b2,b3⟩:=nP h hb
     refine⟨.pt _ _ _,by simp only[gm];rfl,λK hK=>g2 _ (g3 _ ?_)⟩
     simp only[mS,b1]
     exact⟨hc,b2,hK⟩
    ·simp at hr
   ·rename_i bu l p k' j h1 h2
    split at hr<;>simp only[sJ,reduceCtorEq]at hr
    rename_i hc
    subst hr
    obtain⟨q,g1,g2⟩:=cP h h1
    have g3:=oI h h2
    cases q<;>simp only[gm]at g1
    rename_i sz2 m p2
    refine⟨.fp sz2 m (p2++[.i j.toNat sz]),by simp only[gm];exact⟨⟨g1.1.1,by rw[g1.1.2]⟩,g1.2⟩,λK hK=>g2 _ (g3 _ ⟨hc,hK⟩)⟩
   ·simp at hr
 |
  index agg n w x i=>
  simp only[xf]at hr
  split at hr
  ·rename_i sz n' l k' j h1 h2
   split at hr
   ·rename_i c hc
    split at hr<;>simp only[sJ,reduceCtorEq]at hr
    rename_i ho
    subst hr
    obtain⟨q,g1,g2⟩:=cP h h1
    have g3:=oI h h2
    cases q<;>simp only[gm]at g1
    obtain⟨v,c1,c2⟩:=g1.2.at hc
    refine⟨v,c2,λK hK=>g2 _ (g3 _ ?_)⟩
    simp only[mS,c1]
    exact⟨⟨ho.1,ho.2.1,by rw[g1.1.2];exact ho.2.2.1,by rw[g1.1.1];exact ho.2.2.2.1,c2.agg ho.2.2.2.2⟩,hK⟩
   ·simp at hr
  ·simp at hr
 |
  extract i x=>
  simp only[xf]at hr
  split at hr
  ·rename_i l h1
   obtain⟨m,g1,g2⟩:=adj (j8 h h1)
   obtain⟨v,c1,c2⟩:=g2.at hr
   exact⟨v,c2,λK hK=>by simp only[ev,g1,c1];exact hK⟩
  ·simp at hr
 |
  len x=>
  simp only[xf]at hr
  split at hr
  ·rename_i sz l c h1
   simp only[sJ]at hr;subst hr
   obtain⟨q,g1,g2⟩:=cP h h1
   cases q<;>simp only[gm]at g1
   exact⟨_,oi (λz hz=>by cases hz;rw[g1.2.length]),λK hK=>g2 _ hK⟩
  ·rename_i k p off len aD sz c h1
   split at hr<;>simp only[sJ,reduceCtorEq]at hr
   rename_i b hb
   subst hr
   obtain⟨q,g1,g2⟩:=cP h h1
   simp only[gm]at g1;subst g1
   obtain⟨blk,b1,b2,b3⟩:=nP h hb
   exact⟨_,oi (λz hz=>by cases hz;rfl),λK hK=>g2 _ (by simp only[b1];exact⟨b2,hK⟩)⟩
  ·simp at hr
 |
  lenS x=>
  simp only[xf]at hr
  split at hr<;>simp only[sJ,reduceCtorEq]at hr
  rename_i b h1
  subst hr
  obtain⟨q,g1,g2⟩:=cP h h1
  cases q<;>simp only[gm]at g1
  subst g1
  exact⟨_,oi (λz hz=>by cases hz;rfl),λK hK=>g2 _ hK⟩
 |
  lenC n=>
  simp only[xf,sJ]at hr;subst hr
  exact⟨_,oi (λz hz=>by cases hz;rfl),λK hK=>hK⟩
 |
  mm mx xs=>
  simp only[xf]at hr
  split at hr
  ·rename_i k a r' h1
   split at hr<;>simp only[sJ,reduceCtorEq]at hr
   rename_i l hl
   subst hr
   obtain⟨ps,g1,g2⟩:=Br h h1
   cases ps<;>simp only[bB]at g1
   rename_i p ps
   cases p<;>simp only[gm,false_and]at g1
   obtain⟨⟨rfl,g3⟩,g4⟩:=g1
   obtain⟨y,d1,d2⟩:=H7 (mx:=mx) hl g4 g3
   exact⟨_,oi d1,λK hK=>g2 _ (d2 _ hK)⟩
  ·simp at hr
 |_=>simp[xf]at hr
end Go.Ab
namespace Go.Ab
variable [cM]
variable {P:Program}
mutual
def qS:AV->AV
 | .sl sz l _=> .sl sz (DY l) false
 | .st w l=> .st w (DY l)
 | .ar z n l=> .ar z n (DY l)
 | .tup l=> .tup (DY l)
 |p=>p
def DY:List AV->List AV
 |[]=>[]
 |p::l=>qS p::DY l
end
mutual
theorem xM:∀ {a:AV} {p:PV},gm a p->gm (qS a) (wk p)
 | .un,p,_=>by simp[qS,gm]
 | .no,p,h=>by simp only[gm]at h;subst h;simp[qS,wk,gm]
 | .bl _,p,h=>by cases p<;>simp only[gm]at h;simpa only[qS,wk,gm]using h
 | .int _ _,p,h=>by cases p<;>simp only[gm]at h;simpa only[qS,wk,gm]using h
 | .str _,p,h=>by cases p<;>simp only[gm]at h;simpa only[qS,wk,gm]using h
 | .st _ l,p,h=>by cases p<;>simp only[gm]at h;simp only[qS,wk,gm];exact⟨h.1,sQ h.2⟩
 | .ar _ _ l,p,h=>by cases p<;>simp only[gm]at h;simp only[qS,wk,gm];exact⟨h.1,sQ h.2⟩
 | .tup l,p,h=>by cases p<;>simp only[gm]at h;simp only[qS,wk,gm];exact sQ h
 | .sl _ l _,p,h=>by cases p<;>simp only[gm]at h;simp only[qS,wk,gm];exact⟨⟨h.1.1,trivial⟩,sQ h.2⟩
 | .rs ..,p,h=>by simp only[gm]at h;subst h;simp[qS,wk,gm]
 | .pt ..,p,h=>by simp only[gm]at h;subst h;simp[qS,wk,gm]
 | .np,p,h=>by simp only[gm]at h;subst h;simp[qS,wk,gm]
 | .fp ..,p,h=>by cases p<;>simp only[gm]at h;simpa only[qS,wk,gm]using h
 | .gd ..,p,h=>by cases p<;>simp only[gm]at h;simpa only[qS,wk,gm]using h
theorem sQ:∀ {l:List AV} {m:WG},bB l m->bB (DY l) (gI m)
 |[],[],_=>by simp[DY,gI,bB]
 |[],_::_,h=>by simp[bB]at h
 |_::_,[],h=>by simp[bB]at h
 |a::l,p::m,h=>by simp only[bB]at h;simp[DY,gI,bB,xM h.1,sQ h.2]
end
def alu:AB->AV->AV
 | .arr _ _,v=>qS v
 | .box _,v=>v
def Wi {b:AB} {blk:aU} {a:AV} {p:PV} (hb:gB b blk) (h:gm a p):gm (alu b a) (Zp blk p):=by
 cases b<;>cases blk<;>simp only[gB]at hb
 ·exact h
 ·exact xM h
def rV (σ:AS):AV->Option (Nat×List AV)
 | .sl sz l _=>some (sz,l)
 |
  .rs k p off len aD sz _=>match get σ.bx k with
  |some (.arr bu l)=>if aD=l.length∧p=[]∧sz=bu∧off+len≤l.length then some (sz,(l.drop off).take len)else none
  |some (.box v)=>(match y8 v p with|some (.ar bu n l)=>if aD=0∧sz=bu∧off+len≤n then some (sz,(l.drop off).take len)else none|_=>none)
  |none=>none
 |_=>none
def Az {σ:AS} {s:St} (h:gS σ s) {a:AV} {p:PV} (hp:gm a p) {sz:Nat} {l:List AV} (hc:rV σ a=some (sz,l)):∃m,bB l m∧∀K:Nat->WG->Prop,K sz m->content s p K:=by
 cases a<;>simp only[rV,reduceCtorEq,sJ,Prod.mk.injEq]at hc
 ·cases p<;>simp only[gm]at hp;obtain⟨rfl,rfl⟩:=hc;exact⟨_,hp.2,λK hK=>by rw[←hp.1.1]at hK;exact hK⟩
 ·simp only[gm]at hp;subst hp;split at hc
  ·rename_i bu l' hb;split at hc<;>simp only[sJ,Prod.mk.injEq,reduceCtorEq]at hc;rename_i ho;obtain⟨rfl,rfl⟩:=hc;obtain⟨blk,h1,h2⟩:=h.bx _ _ hb;cases blk<;>simp only[gB]at h2;have hl:=h2.2.length;refine⟨_,(h2.2.drop _).take _,λK hK=> ?_⟩;simp only[content,h1];exact⟨⟨by rw[hl];exact ho.1,ho.2.1,by rw[h2.1];exact ho.2.2.1,by rw[hl];exact ho.2.2.2⟩,hK⟩
  ·rename_i v hb;split at hc
   ·rename_i bu n l' hg;split at hc<;>simp only[sJ,Prod.mk.injEq,reduceCtorEq]at hc;rename_i ho;obtain⟨rfl,rfl⟩:=hc;obtain⟨blk,h1,h2⟩:=h.bx _ _ hb;cases blk<;>simp only[gB]at h2;obtain⟨q,g1,g2⟩:=qx h2 hg;cases q<;>simp only[gm]at g2;refine⟨_,(g2.2.drop _).take _,λK hK=> ?_⟩;simp only[content,h1,g1];exact⟨⟨ho.1,by rw[g2.1.1];exact ho.2.1,by rw[g2.1.2];exact ho.2.2⟩,hK⟩
   ·simp at hc
  ·simp at hc
def Rg (σ:AS) (str:Bool) (sz:Nat) (q:AV):Option (List AV):=
 if str then(match q with| .str bs=>if sz=1 then some (bs.map λb=> .int .u8 (some b.toNat))else none|_=>none)
 else match rV σ q with|some (bu,ys)=>if ys.isEmpty=true∨bu=sz then some ys else none|none=>none
theorem Mg (bs:Zz):bB (bs.map λb=>AV.int .u8 (some (b.toNat:Int))) (bs.map u8):=by
 induction bs with
 |nil=>simp[bB]
 |cons b bs ih=>simp[bB,gm,u8,ih]
def Mh {σ:AS} {s:St} (h:gS σ s) {str:Bool} {sz:Nat} {a:AV} {p:PV} (hp:gm a p) {l:List AV} (hc:Rg σ str sz a=some l):∃m,bB l m∧∀K:WG->Prop,K m->src s str sz p K:=by
 unfold Rg at hc;split at hc
 ·rename_i hs;split at hc<;>(try simp only[reduceCtorEq]at hc)
  rename_i bs;split at hc<;>simp only[sJ,reduceCtorEq]at hc;rename_i h1;subst hc h1;cases p<;>simp only[gm]at hp;subst hp;exact⟨_,Mg _,λK hK=>by unfold src;rw[if_pos hs];exact⟨rfl,hK⟩⟩
 ·rename_i hs;split at hc<;>(try simp only[reduceCtorEq]at hc)
  rename_i bu ys hy;split at hc<;>simp only[sJ,reduceCtorEq]at hc;rename_i ho;subst hc;obtain⟨m,g1,g2⟩:=Az h hp hy;refine⟨m,g1,λK hK=> ?_⟩;unfold src;rw[if_neg hs];refine g2 _ ⟨?_,hK⟩;rcases ho with ho|ho
  ·left;have:=g1.length;rw[List.isEmpty_iff.1 ho]at this;exact JfZ.1 this
  ·exact .inr ho
def Py (σ:AS) (d:Option Nat):AK->Option AS
 | .alloc z=>match d with|some k=>if(get σ.bx k).isNone=true then some {env:=put σ.env k (.pt k [] 0),bx:=put σ.bx k (.box (H0 z))}else none|none=>none
 | .box x=>match d,rm true σ x with|some k,some a=>if(get σ.bx k).isNone=true∧a.Wh=true then some {env:=put σ.env k (.pt k [] 0),bx:=put σ.bx k (.box a)}else none|_,_=>none
 |
  .store n x y=>match rm true σ x,rm true σ y with
  |
   some (.pt k pth aD),some v=>(match A3 σ k aD with
   |some b=>(match CN b pth (alu b v)with|some b'=>if v.width=some n∧v.Wh=true then some {σ with bx:=put σ.bx k b'}else none|none=>none)
   |none=>none)
  |_,_=>none
 |
  .buildSlice own sz z n parts=>match Ok true σ parts with
  |
   some ps=>(match nn (List.replicate n (H0 z)) (ps.map λx=>(x.1,qS x.2))with
   |some l=>if own=true then(match d with
     |some k=>if(get σ.bx k).isNone=true then some {env:=put σ.env k (.rs k [] 0 n n sz .tip),bx:=put σ.bx k (.arr sz l)}else none
     |none=>none)else some (σ.put d (.sl sz l true))
   |none=>none)
  |none=>none
 |
  .makeSlice sz bytes z len cap=>match d,rm true σ len,rm true σ cap with
  |some k,some (.int _ (some l)),some (.int _ (some c))=>if(get σ.bx k).isNone=true∧0≤l∧l≤c∧c*bytes≤281474976710656∧c≤9223372036854775807 then
    some {env:=put σ.env k (.rs k [] 0 l.toNat l.toNat sz .tip),bx:=put σ.bx k (.arr sz (List.replicate l.toNat (H0 z)))}else none
  |_,_,_=>none
 |
  .append sz bytes str x y=>match d,rm true σ x,rm true σ y with
  |
   some d,some p,some q=>(match Rg σ str sz q with
   |
    some ys=>(match p with
    | .sl sz0 l true=>if(get σ.bx d).isNone=true∧(l.isEmpty=true∨(sz0=sz∧ys.isEmpty=false))∧(l.length+ys.length)*bytes≤140737488355328∧l.length+ys.length≤9223372036854775807 then
      some {env:=put σ.env d (.rs d [] 0 (l.length+ys.length) (l.length+ys.length) sz .tip),bx:=put σ.bx d (.arr sz (l++ys))}else none
    |
     .rs k [] 0 len aD bu .tip=>(match get σ.bx k with
     |
      some (.arr sz'' l)=>if aD=l.length∧len=l.length∧bu=sz∧sz''=sz∧(l.length+ys.length)*bytes≤140737488355328∧l.length+ys.length≤9223372036854775807 then
      some {env:=put σ.env d (.rs k [] 0 (l.length+ys.length) (l.length+ys.length) sz .tip),bx:=put σ.bx k (.arr sz (l++ys))}else none
     |_=>none)
    |_=>none)
   |none=>none)
  |_,_,_=>none
 |
  .copy sz x y=>match rm true σ x,rm true σ y with
  |
   some (.rs k pth off len aD bu _),some q=>(match Rg σ (match q with| .str _=>true|_=>false) sz q with
   |
    some ys=>(match get σ.bx k with
    |some (.arr sz'' l)=>if aD=l.length∧pth=[]∧bu=sz∧sz''=sz∧off+len≤l.length then
      some (AS.put {σ with bx:=put σ.bx k (.arr sz (l.take off++ys.take (min ys.length len)++l.drop (off+min ys.length len)))} d (.int .i64 (some (min ys.length len:Nat))))else none
    |
     some (.box v)=>(match y8 v pth with
     |
      some (.ar sz'' n l)=>(match DW v pth (.ar sz'' n (l.take off++ys.take (min ys.length len)++l.drop (off+min ys.length len)))with
      |some v'=>if aD=0∧bu=sz∧sz''=sz∧off+len≤n then some (AS.put {σ with bx:=put σ.bx k (.box v')} d (.int .i64 (some (min ys.length len:Nat))))else none
      |none=>none)
     |_=>none)
    |none=>none)
   |none=>none)
  |_,_=>none
 |
  .convL x=>match rm true σ x with
  |
   some (.rs k pth off len aD sz c)=>(match get σ.bx k with
   |some (.arr bu l)=>if pth=[]∧off=0∧sz=1∧bu=1∧c= .tip∧len=l.length∧aD=l.length∧l.isEmpty=false∧l.all AV.isNum=true then
     some (AS.put {σ with bx:=put σ.bx k (.arr 1 (l++[.int .u8 (some 0)]))} d (.sl 1 l false))else none
   |_=>none)
  |_=>none
 | .convB x=>match rm true σ x with|some (.str bs)=>some (σ.put d (.sl 1 (bs.map λb=> .int .u8 (some b.toNat)) false))|_=>none
 |_=>none
def dk:Option Nat->Yx
 |some d=>[d]
 |none=>[]
def Ol (σ:AS) (d:Option Nat):AK->Yx
 | .store _ x _=>match rm true σ x with|some (.pt k _ _)=>[k]|_=>[]
 | .append _ _ _ x _=>match rm true σ x with|some (.rs k _ _ _ _ _ _)=>[k]|_=>dk d
 | .copy _ x _=>match rm true σ x with|some (.rs k _ _ _ _ _ _)=>[k]|_=>[]
 | .convL x=>match rm true σ x with|some (.rs k _ _ _ _ _ _)=>[k]|_=>[]
 | .buildSlice own .. =>if own=true then dk d else []
 | .alloc _| .box _| .makeSlice .. | .call .. =>dk d
 |_=>[]
def Kp (l:Yx) (s s':St):Prop:=∀k,k∉l->get s'.bx k=get s.bx k
def Kp.new {s:St} {k:Nat} {e:List (Nat×PV)} {b:aU}:Kp [k] s {env:=e,bx:=Ab.put s.bx k b}:=by
 intro j hj;simp only[dc];rw[if_neg];rintro rfl;simp at hj
def Kp.same {s:St} {l:Yx} {d:Option Nat} {p:PV}:Kp l s (s.put d p):=by cases d<;>exact λ_ _=>rfl
def Kp.put {s s':St} {l:Yx} {d:Option Nat} {p:PV} (h:Kp l s s'):Kp l s (s'.put d p):=by cases d<;>exact h
def gS.new {σ:AS} {s:St} (h:gS σ s) (k:Nat) {a:AV} {p:PV} {b:AB} {blk:aU} (ha:gm a p) (hb:gB b blk):gS {env:=Ab.put σ.env k a,bx:=Ab.put σ.bx k b} {env:=Ab.put s.env k p,bx:=Ab.put s.bx k blk}:=
 (h.Oj k hb).put (some k) ha
def mj {α:Type} {o:Option α} (h:o.isNone=true):o=none:=by cases o<;>simp_all
theorem H8:∀ {l:List AV} {m:WG},bB l m->l.all AV.isNum=true->m.all PV.isNum=true
 |[],[],_,_=>rfl
 |[],_::_,h,_=>by simp[bB]at h
 |_::_,[],h,_=>by simp[bB]at h
 |
  a::l,p::m,h,hn=>by
  simp only[bB]at h
  simp only[JgX,aJ]at hn⊢
  refine⟨?_,H8 h.2 hn.2⟩
  cases a<;>simp[AV.isNum]at hn
  cases p<;>simp[gm]at h
  rfl
theorem adk {σ σ':AS} {s:St} (h:gS σ s) {d:Option Nat} {k:AK} (hr:Py σ d k=some σ'):∃s',gS σ' s'∧Kp (Ol σ d k) s s'∧∀K:UD,K s'->ex s d k K:=by
 cases k with
 |
  alloc z=>
  simp only[Py]at hr
  split at hr<;>(try simp only[reduceCtorEq]at hr)
  split at hr<;>simp only[sJ,reduceCtorEq]at hr
  rename_i k hn
  subst hr
  exact⟨_,h.new k (p:= .pt k [] 0) (by simp only[gm]) (b:= .box (H0 z)) (blk:= .box z) (by simp only[gB];exact y9 z),Kp.new,λK hK=>⟨h.none k (mj hn),hK⟩⟩
 |
  box x=>
  simp only[Py]at hr
  split at hr<;>(try simp only[reduceCtorEq]at hr)
  rename_i k a h1
  split at hr<;>simp only[sJ,reduceCtorEq]at hr
  rename_i hn
  subst hr
  obtain⟨p,g1,g2⟩:=cP h h1
  exact⟨_,h.new k (p:= .pt k [] 0) (by simp only[gm]) (b:= .box a) (blk:= .box p) (by simp only[gB];exact g1),Kp.new,λK hK=>g2 _ ⟨⟨h.none k (mj hn.1),g1.Wh hn.2⟩,hK⟩⟩
 |
  store n x y=>
  simp only[Py]at hr
  split at hr<;>(try simp only[reduceCtorEq]at hr)
  rename_i k pth aD v h1 h2
  split at hr<;>(try simp only[reduceCtorEq]at hr)
  rename_i b hb
  split at hr<;>(try simp only[reduceCtorEq]at hr)
  rename_i b' tB
  split at hr<;>simp only[sJ,reduceCtorEq]at hr
  rename_i hn
  subst hr
  obtain⟨p,g1,g2⟩:=cP h h1
  simp only[gm]at g1;subst g1
  obtain⟨q,g3,g4⟩:=cP h h2
  obtain⟨blk,b1,b2,b3⟩:=nP h hb
  obtain⟨bL,c1,c2⟩:=Rb b3 (Wi b3 g3) tB
  refine⟨_,h.Oj k c2,by simp only[Ol,h1];exact Kp.new,λK hK=>g2 _ (g4 _ ?_)⟩
  simp only[b1,c1]
  exact⟨⟨b2,g3.width hn.1,g3.Wh hn.2⟩,hK⟩
 |
  buildSlice own sz z n parts=>
  simp only[Py]at hr
  split at hr<;>(try simp only[reduceCtorEq]at hr)
  rename_i ps h1
  split at hr<;>(try simp only[reduceCtorEq]at hr)
  rename_i l hl
  obtain⟨qs,⟨g1,g2⟩,g3⟩:=Bs h h1
  have UZ:∀ {as:List (Nat×AV)} {bs:List (Nat×PV)},bB (as.map (·.2)) (bs.map (·.2))->bB ((as.map λx=>(x.1,qS x.2)).map (·.2)) ((bs.map λx=>(x.1,wk x.2)).map (·.2)):=by
   intro as;induction as with
   |nil=>intro bs h;cases bs with|nil=>simp[bB]|cons b bs=>simp[bB]at h
   |
    cons a as ih=>
    intro bs h
    cases bs with
    |nil=>simp[bB]at h
    |
     cons b bs=>
     simp only[JcQ,bB]at h⊢
     exact⟨xM h.1,ih h.2⟩
  obtain⟨m,g4,g5⟩:=oH (bB.rep (y9 z) n) (ps:=qs.map λx=>(x.1,wk x.2)) (by simp only[List.map_map];simpa[Function.comp_def]using g1) (UZ g2) hl
  split at hr
  ·rename_i ho
   split at hr<;>(try simp only[reduceCtorEq]at hr)
   rename_i k
   split at hr<;>simp only[sJ,reduceCtorEq]at hr
   rename_i hn
   subst hr
   refine⟨_,h.new k (p:= .rs k [] 0 n n sz .tip) (by simp only[gm]) (b:= .arr sz l) (blk:= .arr sz m) (by simp only[gB,true_and];exact g5),by simp only[Ol,ho,if_true,dk];exact Kp.new,λK hK=>g3 _ ?_⟩
   simp only[g4,ho,if_true]
   exact⟨h.none k (mj hn),hK⟩
  ·rename_i ho
   simp only[sJ]at hr
   subst hr
   refine⟨_,h.put d (p:= .sl sz m true) (by simp only[gm,true_and];exact g5),Kp.same,λK hK=>g3 _ ?_⟩
   simp only[g4]
   rw[if_neg ho]
   exact hK
 |
  makeSlice sz bytes z len cap=>
  simp only[Py]at hr
  split at hr<;>(try simp only[reduceCtorEq]at hr)
  rename_i k k1 l k2 c h1 h2
  split at hr<;>simp only[sJ,reduceCtorEq]at hr
  rename_i hn
  subst hr
  refine⟨_,h.new k (p:= .rs k [] 0 l.toNat l.toNat sz .tip) (by simp only[gm]) (b:= .arr sz (List.replicate l.toNat (H0 z))) (blk:= .arr sz (List.replicate l.toNat z)) (by simp only[gB,true_and];exact bB.rep (y9 z) _),Kp.new,λK hK=>oI h h1 _ ?_⟩
  exact oI h h2 _ ⟨⟨h.none k (mj hn.1),hn.2⟩,hK⟩
 |
  append sz bytes str x y=>
  simp only[Py]at hr
  split at hr<;>(try simp only[reduceCtorEq]at hr)
  rename_i dd p q h1 h2
  split at hr<;>(try simp only[reduceCtorEq]at hr)
  rename_i ys hy
  obtain⟨pp,g1,g2⟩:=cP h h1
  obtain⟨qq,g3,g4⟩:=cP h h2
  obtain⟨m,g5,g6⟩:=Mh h g3 hy
  have Nq:=g5.length
  split at hr<;>(try simp only[reduceCtorEq]at hr)
  ·rename_i sz0 l
   split at hr<;>simp only[sJ,reduceCtorEq]at hr
   rename_i hn
   subst hr
   cases pp<;>simp only[gm]at g1
   rename_i sz1 l1 c1
   obtain⟨⟨rfl,rfl⟩,g1⟩:=g1
   have Ah:=g1.length
   refine⟨{env:=Ab.put s.env dd (.rs dd [] 0 (l1.length+m.length) (l1.length+m.length) sz .tip),bx:=Ab.put s.bx dd (.arr sz (l1++m))},h.new dd (by simp only[gm,Ah,Nq]) (by simp only[gB,true_and];exact g1.append g5),by simp only[Ol,h1];exact Kp.new,λK hK=>g2 _ (g4 _ (g6 _ ?_))⟩
   simp only[eO]
   refine⟨⟨h.none dd (mj hn.1),?_,by rw[Ah,Nq];exact hn.2.2.1,by rw[Ah,Nq];exact hn.2.2.2⟩,hK⟩
   rcases hn.2.1 with h0|h0
   ·left;rw[List.isEmpty_iff.1 h0]at Ah;exact JfZ.1 Ah
   ·right
    refine⟨h0.1,λhe=> ?_⟩
    rw[he]at Nq
    have:=JfZ.1 Nq.symm
    rw[this]at h0
    simp at h0
  ·rename_i k len aD bu
   split at hr<;>(try simp only[reduceCtorEq]at hr)
   rename_i sz'' l hb
   split at hr<;>simp only[sJ,reduceCtorEq]at hr
   rename_i hn
   subst hr
   simp only[gm]at g1;subst g1
   obtain⟨blk,b1,b2⟩:=h.bx _ _ hb
   cases blk<;>simp only[gB]at b2
   rename_i sz3 l1
   obtain⟨rfl,b2⟩:=b2
   have Ah:=b2.length
   refine⟨{env:=Ab.put s.env dd (.rs k [] 0 (l1.length+m.length) (l1.length+m.length) sz .tip),bx:=Ab.put s.bx k (.arr sz (l1++m))},(h.Oj k (by simp only[gB,true_and];exact b2.append g5)).put (some dd) (by simp only[gm,Ah,Nq]),by simp only[Ol,h1];exact Kp.new,λK hK=>g2 _ (g4 _ (g6 _ ?_))⟩
   simp only[eO,b1]
   rw[Ah,Nq]at*
   exact⟨hn,hK⟩
 |
  copy sz x y=>
  simp only[Py]at hr
  split at hr<;>(try simp only[reduceCtorEq]at hr)
  rename_i k pth off len aD bu c q h1 h2
  split at hr<;>(try simp only[reduceCtorEq]at hr)
  rename_i ys hy
  obtain⟨pp,g1,g2⟩:=cP h h1
  simp only[gm]at g1;subst g1
  obtain⟨qq,g3,g4⟩:=cP h h2
  obtain⟨m,g5,g6⟩:=Mh h g3 hy
  have Nq:=g5.length
  have Y5:∀K:UD,iE s d sz (.rs k pth off len aD bu c) m K->ex s d (.copy sz x y) K:=by
   intro K hK;simp only[ex];refine g2 _ (g4 _ ?_);have:=g6 (λys=>iE s d sz (.rs k pth off len aD bu c) ys K) hK;cases q<;>cases qq<;>simp only[gm,reduceCtorEq]at g3<;>first|exact this|(simp[Rg,rV]at hy;done)|(exact absurd g3 (by simp))
  split at hr<;>(try simp only[reduceCtorEq]at hr)
  ·rename_i sz'' l hb
   split at hr<;>simp only[sJ,reduceCtorEq]at hr
   rename_i hn
   subst hr
   obtain⟨blk,b1,b2⟩:=h.bx _ _ hb
   cases blk<;>simp only[gB]at b2
   rename_i sz3 l1
   obtain⟨rfl,b2⟩:=b2
   have Ah:=b2.length
   refine⟨_,(h.Oj k (b:= .arr sz (l.take off++ys.take (min ys.length len)++l.drop (off+min ys.length len))) (blk:= .arr sz (l1.take off++m.take (min m.length len)++l1.drop (off+min m.length len))) ?_).put d (oi (x:=((min m.length len:Nat):Int)) ?_),by simp only[Ol,h1];exact Kp.put Kp.new,λK hK=>Y5 K ?_⟩
   ·simp only[gB,true_and,Nq]
    exact((b2.take _).append (g5.take _)).append (b2.drop _)
   ·intro z hz;cases hz;rw[Nq]
   ·simp only[iE,b1]
    exact⟨⟨by rw[Ah];exact hn.1,hn.2.1,hn.2.2.1,hn.2.2.2.1,by rw[Ah];exact hn.2.2.2.2⟩,hK⟩
  ·rename_i v hb
   split at hr<;>(try simp only[reduceCtorEq]at hr)
   rename_i sz'' n l hg
   split at hr<;>(try simp only[reduceCtorEq]at hr)
   rename_i v' hv
   split at hr<;>simp only[sJ,reduceCtorEq]at hr
   rename_i hn
   subst hr
   obtain⟨blk,b1,b2⟩:=h.bx _ _ hb
   cases blk<;>simp only[gB]at b2
   rename_i u
   obtain⟨w,c1,c2⟩:=qx b2 hg
   cases w<;>simp only[gm]at c2
   rename_i sz3 n3 l1
   obtain⟨⟨rfl,rfl⟩,c2⟩:=c2
   have Dy:gm (.ar sz3 n3 (l.take off++ys.take (min ys.length len)++l.drop (off+min ys.length len))) (.ar sz3 n3 (l1.take off++m.take (min m.length len)++l1.drop (off+min m.length len))):=by
    simp only[gm,true_and,Nq];exact((c2.take _).append (g5.take _)).append (c2.drop _)
   obtain⟨u',e1,e2⟩:=xI b2 Dy hv
   refine⟨_,(h.Oj k (b:= .box v') (blk:= .box u') (by simp only[gB];exact e2)).put d (oi (x:=((min m.length len:Nat):Int)) ?_),by simp only[Ol,h1];exact Kp.put Kp.new,λK hK=>Y5 K ?_⟩
   ·intro z hz;cases hz;rw[Nq]
   ·simp only[iE,b1,c1,e1]
    exact⟨hn,hK⟩
 |
  convL x=>
  simp only[Py]at hr
  split at hr<;>(try simp only[reduceCtorEq]at hr)
  rename_i k pth off len aD sz c h1
  split at hr<;>(try simp only[reduceCtorEq]at hr)
  rename_i bu l hb
  split at hr<;>simp only[sJ,reduceCtorEq]at hr
  rename_i hn
  obtain⟨rfl,rfl,rfl,rfl,rfl,rfl,rfl,bY,Po⟩:=hn
  subst hr
  obtain⟨pp,g1,g2⟩:=cP h h1
  simp only[gm]at g1;subst g1
  obtain⟨blk,b1,b2⟩:=h.bx _ _ hb
  cases blk<;>simp only[gB]at b2
  rename_i sz3 l1
  obtain⟨rfl,b2⟩:=b2
  have Ah:=b2.length
  refine⟨_,(h.Oj k (b:= .arr 1 (l++[.int .u8 (some 0)])) (blk:= .arr 1 (l1++[.int .u8 0])) ?_).put d (p:= .sl 1 l1 false) (by simp only[gm,true_and];exact b2),by simp only[Ol,h1];exact Kp.put Kp.new,λK hK=> ?_⟩
  ·simp only[gB,true_and]
   exact b2.append (by simp[bB,gm])
  ·simp only[ex]
   refine g2 _ ?_
   simp only[b1]
   refine⟨⟨trivial,trivial,trivial,trivial,trivial,Ah.symm,Ah.symm,?_,H8 b2 Po⟩,hK⟩
   rintro rfl
   cases l<;>simp at bY Ah
 |
  convB x=>
  simp only[Py]at hr
  split at hr<;>simp only[sJ,reduceCtorEq]at hr
  rename_i bs h1
  subst hr
  obtain⟨p,g1,g2⟩:=cP h h1
  cases p<;>simp only[gm]at g1
  subst g1
  rename_i l
  exact⟨_,h.put d (p:= .sl 1 (l.map u8) false) (by simp only[gm,true_and];exact Mg l),Kp.same,λK hK=>g2 _ hK⟩
 |_=>simp[Py]at hr
end Go.Ab
namespace Go.Ab
variable [cM]
theorem CR:zeroOf=kq:=by
 funext P t;cases h:kq P t with
 |none=>simp only[zeroOf,h]
 |
  some z=>
  simp only[zeroOf,h]
  rw[dh]
  unfold kq at h
  split at h
  ·rename_i z' i hz hi
   rw[hz]
   (repeat' split at h)<;>first|exact h|(simp at h;done)
  ·simp at h
def wJ (P:Program) (b:Builtin) (args:ZI) (tys:List TypeId):Option AK:=
 match b,args,tys with
 |
  .len,[x],[t]=>match P.underlying t,eH x with
  |some .string,some y=>some (.lenS y)
  |some (.slice _),some y=>some (.len y)
  |some (.array n _),some _=>some (.lenC n)
  |some (.pointer a),some _=>match P.underlying a with|some (.array n _)=>some (.lenC n)|_=>none
  |_,_=>none
 |
  .cap,[x],[t]=>match P.underlying t,eH x with
  |some (.slice _),some y=>some (.cap y)
  |_,_=>none
 | .min,xs,_=>match sv xs with|some l=>some (.mm false l)|none=>none
 | .max,xs,_=>match sv xs with|some l=>some (.mm true l)|none=>none
 |
  .append,[x,y],[t,u]=>match P.underlying t,P.underlying u,eH x,eH y with
  |
   some (.slice e),some d,some x,some y=>match P.info? e with
   |
    some i=>match i.zero with
    |
     some z=>if z.cells.size=i.size∧0<i.size∧z.cells.toList.all ew=true then(match d with
     | .slice _=>some (.append i.size i.bytes false x y)
     | .string=>if i.size=1 then some (.append i.size i.bytes true x y)else none
     | .int _=>match kq P e with|some zz=>some (.appendZ i.size i.bytes zz x y)|none=>none
     |_=>none)else none
    |none=>none
   |none=>none
  |_,_,_,_=>none
 |
  .clear,[x],[t]=>match P.underlying t,eH x with
  |some (.slice e),some x=>match eK P e,kq P e with|some n,some z=>if 0<n then some (.fill n z x)else none|_,_=>none
  |_,_=>none
 |
  .copy,[x,y],[t,_]=>match P.underlying t,eH x,eH y with
  |some (.slice e),some x,some y=>match eK P e with|some n=>some (.copy n x y)|none=>none
  |_,_,_=>none
 |_,_,_=>none
def adl (P:Program) (own:Bool):Op->Option AK
 | .move x| .assign x=>match eH x with|some y=>some (.mv y)|none=>none
 | .pick c a b=>match eH c,eH a,eH b with|some c,some a,some b=>some (.pick c a b)|_,_,_=>none
 | .alloc t=>match kq P t with|some z=>some (.alloc z)|none=>none
 | .box _ x=>match eH x with|some y=>some (.box y)|none=>none
 |
  .build t parts=>match kq P t,oB parts.toList,P.underlying t with
  |some (.st w l),some ps,some (.struct fs)=>if fs.toList.map (λf=>(f.offset,P.cellsOf f.type))=Nu 0 l∧fs.toList.all (λf=>(P.info? f.type).isSome)=true then some (.build (.st w l) ps)else none
  |some (.ar sz n l),some ps,some (.array _ e)=>if eK P e=some sz then some (.build (.ar sz n l) ps)else none
  |_,_,_=>none
 |
  .buildSlice t n parts=>match P.underlying t,oB parts.toList with
  |
   some (.slice e),some ps=>match kq P e,eK P e with
   |some z,some sz=>if 0<sz∧n*sz≤2^24 then some (.buildSlice own sz z n ps)else none
   |_,_=>none
  |_,_=>none
 |
  .load t a=>match lD P t,eK P t,eH a with
  |some g,some n,some x=>if g=true∨n=1 then some (.load g n x)else none
  |_,_,_=>none
 | .store t a v=>match eK P t,eH a,eH v with|some n,some x,some y=>some (.store n x y)|_,_,_=>none
 | .makeInterface .. | .panic _=>some (.len (.c (.bl true)))
 | .nilCheck x=>match eH x with|some y=>some (.nilCheck y)|none=>none
 |
  .binOp op t x y _=>match eH x,eH y with
  |some p,some q=>if op= .eql∨op= .neq then(match P.underlying t with
    |some (.int _)|some .string=>some (.bin op .no p q)
    |some .bool=>some (.bin op .bl p q)
    |some (.pointer _)=>some (.bin op .ptr p q)
    |some (.func ..)=>some (.bin op .fnc p q)
    |some (.slice _)=>(match y with| .const (.slice none 0 0)=>some (.isNil (decide (op= .neq)) p)|_=>none)
    |some (.struct _)|some (.array _ _)=>if P.eqGuardType P.depth t=false then(match BV P 20 t with|some sh=>some (.bin op (.sh sh) p q)|none=>none)else none
    |_=>none)else some (.bin op .no p q)
  |_,_=>none
 | .unOp op _ x=>match eH x with|some y=>some (.un op y)|none=>none
 |
  .convert s d x=>match P.underlying s,P.underlying d,eH x with
  |some (.int _),some (.int k),some y=>some (.convI k y)
  |some (.slice e),some .string,some y=>(match P.underlying e with|some (.int .u8)=>some (.convS y)|_=>none)
  |some .string,some (.slice e),some y=>(match P.underlying e with|some (.int .u8)=>some (.convB y)|_=>none)
  |some (.slice _),some (.slice e),some y=>if s=d then(match P.underlying e with|some (.int .u8)=>some (.convL y)|_=>none)else none
  |_,_,_=>none
 | .makeFunc f a b=>match sv a.toList,sv b.toList with|some p,some q=>some (.mkFunc f p q)|_,_=>none
 |
  .makeSlice t l c=>match P.underlying t,eH l,eH c with
  |some (.slice e),some l,some c=>(match kq P e,P.info? e with|some z,some i=>if 0<i.size then some (.makeSlice i.size i.bytes z l c)else none|_,_=>none)
  |_,_,_=>none
 |
  .slice t x lo hi mx=>match P.underlying t,eH x,DG lo,DG hi,DG mx with
  |some .string,some x,some lo,some hi,some mx=>some (.slice .str x lo hi mx)
  |some (.slice e),some x,some lo,some hi,some mx=>(match eK P e with|some n=>if mx.isSome=true->hi.isSome=true then some (.slice (.sl n) x lo hi mx)else none|none=>none)
  |some (.array n e),some x,some lo,some hi,some mx=>(match eK P e with|some sz=>some (.slice (.ar n sz) x lo hi mx)|none=>none)
  |_,_,_,_,_=>none
 |
  .fieldAddr t x f=>match P.underlying t,eH x with
  |
   some (.struct fs),some y=>(match fs[f]?with
   |some g=>(match eK P g.type with|some (_+1)=>some (.fieldA f g.offset y)|_=>none)
   |none=>none)
  |_,_=>none
 |
  .field t x f=>match P.underlying t,eH x with
  |
   some (.struct fs),some y=>(match fs[f]?with
   |some g=>(match lD P g.type,eK P g.type with|some a,some n=>if a=true∨n=1 then some (.field f g.offset a n y)else none|_,_=>none)
   |none=>none)
  |_,_=>none
 |
  .indexAddr t x i=>match P.underlying t,eH x,eH i with
  |some (.slice e),some x,some i=>(match eK P e with|some n=>some (.indexA (.sl n) x i)|none=>none)
  |some (.array k e),some x,some i=>(match eK P e with|some n=>some (.indexA (.ar k n) x i)|none=>none)
  |_,_,_=>none
 |
  .index t x i=>match P.underlying t,eH x,eH i with
  |some (.array k e),some x,some i=>(match lD P e,eK P e with|some a,some n=>if a=true∨n=1 then some (.index a k n x i)else none|_,_=>none)
  |some .string,some x,some i=>some (.indexS x i)
  |_,_,_=>none
 | .extract x i=>match eH x with|some y=>some (.extract i y)|none=>none
 | .call {callee:= .value f,args,..}=>match eH f,sv args.toList with|some g,some l=>some (.call g l)|_,_=>none
 | .call {callee:= .builtin b,args,argTypes}=>wJ P b args.toList argTypes.toList
 |
  .sliceToArrayPointer t x=>match P.underlying t,eH x with
  |some (.array n e),some y=>(match eK P e with|some sz=>some (.s2a n sz y)|none=>none)
  |_,_=>none
 |_=>none
def F5 (P:Program) (nt:Nat) (ops:Array Oper) (own sp:Yx) (draw:Bool) (o:Oper):Option AO:=
 match adl P (match o.dst with|some d=>own.contains d|none=>false) o.op,u6 ops o.guard with
 |some k,some g=>if xq nt o.dst k=true then some ⟨o.dst,g,rN k&& !(match o.dst with|some d=>sp.contains d|none=>false),xr P (draw&& !Vn own o.dst) o.type k⟩else none
 |_,_=>none
def rW (P:Program) (nt:Nat) (ops:Array Oper) (own sp:Yx) (draw:Bool):List Oper->Option (UN)
 |[]=>some []
 |o::r=>match F5 P nt ops own sp draw o,rW P nt ops own sp draw r with|some x,some l=>some (x::l)|_,_=>none
def jo (P:Program) (nt:Nat) (own sp:Yx):Code->Option bT
 | .skip=>some .skip
 | .region _ ops false=>match rW P nt ops own sp false ops.toList with|some l=>some (.region l)|none=>none
 | .region _ ops true=>match rW P nt ops own sp true ops.toList with|some l=>if P.follows .mixedOrders=true then(if Cq ops l=true then some (.region l)else match ajD own l with|some (p,q)=>(if Bn ops l (ED ops l p q) p q (EE ops l p q) (F1 ops l p q)=true then some (.regionE l (ED ops l p q) p q (EE ops l p q) (F1 ops l p q))else none)|none=>if vj ops l (ub ops l) (Bm ops l)=true then some (.regionD l (ub ops l) (Bm ops l))else none)else none|none=>none
 | .seq x y=>match jo P nt own sp x,jo P nt own sp y with|some x,some y=>some (.seq x y)|_,_=>none
 | .cond c x y=>match eH c,jo P nt own sp x,jo P nt own sp y with|some c,some x,some y=>some (.cond c x y)|_,_,_=>none
 | .block id x=>match jo P nt own sp x with|some x=>some (.block id x)|none=>none
 | .loop x=>match jo P nt own sp x with|some x=>some (.loop x)|none=>none
 | .exit id=>some (.exit id)
 | .ret=>some .ret
 |_=>none
def Kv (P:Program) (own sp:Yx) (f:FuncId):Option dP:=
 match P.funcs[f]?with
 |
  some fn=>if(fn.name== "runtime.NumGoroutine")=false then(match fn.body with
  |
   some c=>match jo P fn.ntmps own sp c,allM (CD P) fn.results.toList with
   |some ac,some rs=>some ⟨fn.ntmps,rs,ac⟩
   |_,_=>none
  |none=>none)else none
 |none=>none
def H9:b8=wJ:=by
 funext P b x y;unfold b8 wJ;rw[CR];rfl
def alv:kr=adl:=by
 funext P b x;unfold kr adl;rw[CR,H9];rfl
def Rh:oh=F5:=by
 funext P nt ops own sp d o;unfold oh F5;rw[alv];rfl
theorem EM (P:Program) (nt:Nat) (ops:Array Oper) (own sp:Yx) (draw:Bool):∀l,jS P nt ops own sp draw l=rW P nt ops own sp draw l
 |[]=>by unfold jS rW;rfl
 |
  o::r=>by
  unfold jS rW
  rw[Rh,EM P nt ops own sp draw r]
  rfl
theorem Ri (P:Program) (nt:Nat) (own sp:Yx):∀c,dO P nt own sp c=jo P nt own sp c:=by
 intro c;induction c with
 |seq x y ihx ihy=>(simp only[dO,jo,ihx,ihy];rfl)
 |cond c x y ihx ihy=>(simp only[dO,jo,ihx,ihy];rfl)
 |block id x ih=>(simp only[dO,jo,ih];rfl)
 |loop x ih=>(simp only[dO,jo,ih];rfl)
 |region id ops d=>cases d<;>(simp only[dO,jo,EM];rfl)
 |_=>simp only[dO,jo]
def Wj:eI=Kv:=by
 funext P own sp f;unfold eI Kv;have e:dO=jo:=by funext P nt own sp c;exact Ri P nt own sp c
 rw[e];rfl
end Go.Ab
namespace Go.Ab
variable [cM]
variable {P:Program} [gQ]
mutual
def Om:AV->AV->Bool
 |_,.un=>true
 | .bl x,.bl y=>(match y with|none=>true|some y=>(match x with|some x=>x==y|none=>false))
 | .int k n,.int k' m=>decide (k=k')&&(match m with|none=>true|some y=>(match n with|some x=>decide (x=y)|none=>false))
 | .str l,.str m=>decide (l=m)
 | .st w l,.st w' m=>decide (w=w')&&A4 l m
 | .ar sz n l,.ar bu n' m=>decide (sz=bu∧n=n')&&A4 l m
 | .sl sz l c,.sl bu m c'=>decide (sz=bu∧c=c')&&A4 l m
 | .tup l,.tup m=>A4 l m
 | .np,.np=>true
 |_,_=>false
def A4:List AV->List AV->Bool
 |[],[]=>true
 |a::l,b::m=>Om a b&&A4 l m
 |_,_=>false
end
mutual
theorem Kw:∀ {a b:AV} {p:PV},Om a b=true->gm a p->gm b p:=by
 intro a b p h hp;cases b with
 |un=>simp[gm]
 |
  bl y=>
  cases a<;>simp only[Om,fJ]at h
  cases p<;>simp only[gm]at hp⊢
  intro z hz;subst hz
  simp only at h
  split at h
  ·rename_i x;have:x=z:=by simpa using h
   subst this;exact hp _ rfl
  ·simp at h
 |
  int k' m=>
  cases a<;>simp only[Om,aJ,decide_eq_true_eq,fJ]at h
  cases p<;>simp only[gm]at hp⊢
  refine⟨hp.1.trans h.1,λz hz=> ?_⟩
  subst hz
  have h2:=h.2
  simp only at h2
  split at h2
  ·rename_i x;have:x=z:=by simpa using h2
   subst this;exact hp.2 _ rfl
  ·simp at h2
 |
  str m=>
  cases a<;>simp only[Om,decide_eq_true_eq,fJ]at h
  cases p<;>simp only[gm]at hp⊢
  rw[hp,h]
 |
  st w m=>
  cases a<;>simp only[Om,aJ,decide_eq_true_eq,fJ]at h
  cases p<;>simp only[gm]at hp⊢
  exact⟨hp.1.trans h.1,qy h.2 hp.2⟩
 |
  ar sz n m=>
  cases a<;>simp only[Om,aJ,decide_eq_true_eq,fJ]at h
  cases p<;>simp only[gm]at hp⊢
  exact⟨⟨hp.1.1.trans h.1.1,hp.1.2.trans h.1.2⟩,qy h.2 hp.2⟩
 |
  sl sz m c=>
  cases a<;>simp only[Om,aJ,decide_eq_true_eq,fJ]at h
  cases p<;>simp only[gm]at hp⊢
  exact⟨⟨hp.1.1.trans h.1.1,hp.1.2.trans h.1.2⟩,qy h.2 hp.2⟩
 |
  tup m=>
  cases a<;>simp only[Om,fJ]at h
  cases p<;>simp only[gm]at hp⊢
  exact qy h hp
 |np=>cases a<;>simp only[Om,fJ]at h;exact hp
 |_=>cases a<;>simp[Om]at h
theorem qy:∀ {l m:List AV} {ps:WG},A4 l m=true->bB l ps->bB m ps
 |[],[],_,_,h=>h
 |[],_::_,_,h,_=>by simp[A4]at h
 |_::_,[],_,h,_=>by simp[A4]at h
 |a::l,b::m,[],_,h=>by simp[bB]at h
 |
  a::l,b::m,p::ps,h,hg=>by
  simp only[A4,aJ]at h
  simp only[bB]at hg⊢
  exact⟨Kw h.1 hg.1,qy h.2 hg.2⟩
end
inductive SR where
 |val (a:AV)
 |own (sz:Nat) (l:List AV)
 |gen (r:AV) (sz:Nat) (l:List AV)
structure Spec where
 f:FuncId
 args:List AV
 res:SR
def AV.rX:AV->Bool
 | .tup l=>mi l
 |a=>a.pure
def Ux (k:Nat):AV->Bool
 | .rs k' _ _ _ _ _ _=>decide (k'=k)
 |_=>false
def On (k:Nat):AV->Bool
 | .tup l=>l.all λa=>a.pure||Ux k a
 |_=>false
def rnA (k':Nat):AV->AV
 | .rs _ p o le t s c=> .rs k' p o le t s c
 |a=>a
def Jr (k':Nat):AV->AV
 | .tup l=> .tup (l.map (rnA k'))
 |a=>a
theorem Rj {k:Nat} (ρ:Nat->Nat):∀ {l:List AV} {m:WG},bB l m->(l.all λa=>a.pure||Ux k a)=true->bB (l.map (rnA (ρ k))) (bw ρ m)
 |[],[],_,_=>by simp[bB,bw]
 |[],_::_,h,_=>by simp[bB]at h
 |_::_,[],h,_=>by simp[bB]at h
 |
  a::l,p::m,h,hp=>by
  simp only[bB]at h
  simp only[JgX,aJ,JhQ]at hp
  simp only[JcQ,bw,bB]
  refine⟨?_,Rj ρ h.2 hp.2⟩
  rcases hp.1 with hq|hq
  ·rw[iT (h.1.refs hq)]
   have:rnA (ρ k) a=a:=by cases a<;>first|rfl|simp[AV.pure]at hq
   rw[this];exact h.1
  ·cases a<;>simp only[Ux,decide_eq_true_eq,fJ]at hq
   subst hq
   have h1:=h.1
   simp only[gm]at h1
   subst h1
   simp only[rnA,aI,gm]
theorem ZZ {k:Nat} {f:Nat->Bool} (hf:f k=true):∀ {l:List AV} {m:WG},bB l m->(l.all λa=>a.pure||Ux k a)=true->al f m=true
 |[],[],_,_=>rfl
 |[],_::_,h,_=>by simp[bB]at h
 |_::_,[],h,_=>by simp[bB]at h
 |
  a::l,p::m,h,hp=>by
  simp only[bB]at h
  simp only[JgX,aJ,JhQ]at hp
  simp only[al,aJ]
  refine⟨?_,ZZ hf h.2 hp.2⟩
  rcases hp.1 with hq|hq
  ·exact e9 (by simp) p (h.1.refs hq)
  ·cases a<;>simp only[Ux,decide_eq_true_eq,fJ]at hq
   subst hq
   have h1:=h.1
   simp only[gm]at h1
   subst h1
   simpa only[ae]using hf
def F6 {k:Nat} (ρ:Nat->Nat) {r:AV} {v:PV} (h:gm r v) (ho:On k r=true):gm (Jr (ρ k) r) (aI ρ v):=by
 cases r<;>simp only[On,fJ]at ho;cases v<;>simp only[gm]at h;simp only[Jr,aI,gm];exact Rj ρ h ho
def CS {k:Nat} {f:Nat->Bool} (hf:f k=true) {r:AV} {v:PV} (h:gm r v) (ho:On k r=true):ae f v=true:=by
 cases r<;>simp only[On,fJ]at ho;cases v<;>simp only[gm]at h;simp only[ae];exact ZZ hf h ho
def Wk {k k':Nat} {r:AV} (ho:On k r=true):On k' (Jr k' r)=true:=by
 cases r<;>simp only[On,fJ]at ho;rename_i l;simp only[Jr,On,List.all_map];rw[JbJ]at ho⊢;intro a ha;have:=ho a ha;simp only[JhQ,Function.comp]at this⊢;rcases this with h|h
 ·left;cases a<;>first|exact h|simp[AV.pure]at h
 ·right;cases a<;>simp only[Ux,decide_eq_true_eq,fJ]at h;simp[rnA,Ux]
def Wl {k k':Nat} (r:AV):Jr k (Jr k' r)=Jr k r:=by
 cases r<;>simp only[Jr,List.map_map];congr 1;apply List.map_congr_left;intro a _;cases a<;>rfl
def Spec.ok (P:Program) (e:Spec):Prop:=∀ps,bB e.args ps->match e.res with
 | .val r=>r.rX=true∧∃v,gm r v∧aP P e.f ps v
 | .own sz l=>mi l=true∧∃m,bB l m∧uf P e.f ps sz m
 | .gen r sz l=>(On KB r=true∧mi l=true)∧∃v m,gm r v∧bB l m∧ab P e.f ps [] (λr' fp=>r'=v∧fp=[.arr sz m])
def av (P:Program) (l:List Spec):Prop:=∀e∈l,e.ok P
def av.nil:av P []:=λ_ h=>by cases h
def av.cons {e:Spec} {l:List Spec} (h:e.ok P) (hl:av P l):av P (e::l):=by
 intro x hx;rcases cJ.1 hx with rfl|hx
 ·exact h
 ·exact hl x hx
def gm.rX {a:AV} {p:PV} (h:gm a p) (hp:a.rX=true):Pure p:=by
 cases a<;>simp only[AV.rX]at hp
 case tup l=>
  cases p<;>simp only[gm]at h;exact Pure.of (by simp only[ae];exact h.refs hp)
 all_goals exact h.als hp
def Ia:AV->Yx
 | .rs k _ _ _ _ _ _=>[k]
 |_=>[]
def gO:List AV->Yx
 |[]=>[]
 | .sl _ l _::r=>(l.map Ia).flatten++gO r
 |a::r=>Ia a++gO r
def dd:Yx->Yx
 |[]=>[]
 |k::r=>if(dd r).contains k=true then dd r else k::dd r
theorem Kx:∀ {l:Yx} {k:Nat},k∈l->k∈dd l
 |[],_,h=>h
 |
  x::r,k,h=>by
  simp only[dd]
  split
  ·rename_i hc
   rcases cJ.1 h with rfl|h
   ·simpa using hc
   ·exact Kx h
  ·rcases cJ.1 h with rfl|h
   ·simp
   ·exact List.mem_cons_of_mem _ (Kx h)
theorem CT:∀l:Yx,(dd l).Nodup
 |[]=>by simp[dd]
 |
  x::r=>by
  simp only[dd]
  split
  ·exact CT r
  ·rename_i hc
   exact JiQ.2 ⟨by simpa using hc,CT r⟩
def AB.pure:AB->Bool
 | .box v=>v.pure
 | .arr _ l=>mi l
def fzA (σ:AS):AV->Option AV
 | .rs k p off len aD sz c=>match rV σ (.rs k p off len aD sz c)with|some (_,l)=>if mi l=true∧0<sz then some (.sl sz l false)else none|none=>none
 |a=>if a.pure=true∧(qS a).pure=true then some (qS a)else none
def fzL (σ:AS):List AV->Option (List AV)
 |[]=>some []
 |a::r=>match fzA σ a,fzL σ r with|some x,some l=>some (x::l)|_,_=>none
def vwA (σ:AS):AV->Option AV
 | .sl sz l _=>match fzL σ l with|some l'=>some (.sl sz l' false)|none=>none
 |a=>fzA σ a
def vwL (σ:AS):List AV->Option (List AV)
 |[]=>some []
 |a::r=>match vwA σ a,vwL σ r with|some x,some l=>some (x::l)|_,_=>none
structure DZ (s:St) (ks:Yx) (bf:WD):Prop where
 g:getAll s.bx ks=some bf
 p:∀b∈bf,af (λ_=>false) b=true
theorem oJ {f:Nat->Bool} {b:aU} (h:af (λ_=>false) b=true):af f b=true:=by
 cases b with
 |box v=>exact e9 (by simp) v h
 |arr sz l=>exact di (by simp) l h
 |map b ks vs l=>rfl
theorem Oo {ρ:Nat->Nat} {b:aU} (h:af (λ_=>false) b=true):aG ρ b=b:=by
 cases b with
 |box v=>simp only[aG];rw[iT h]
 |arr sz l=>simp only[aG];rw[me h]
 |map b ks vs l=>rfl
def DZ.aI {s:St} {ks:Yx} {bf:WD} (h:DZ s ks bf) (ρ:Nat->Nat):bf.map (aG ρ)=bf:=by
 have:∀l:WD,(∀b∈l,af (λ_=>false) b=true)->l.map (aG ρ)=l:=by
  intro l;induction l with
  |nil=>intro _;rfl
  |cons b l ih=>intro hl;rw[JcQ,Oo (hl b (by simp)),ih λx hx=>hl x (by simp[hx])]
 exact this bf h.p
theorem Mi:∀ {l:Yx} {k:Nat},k∈l->∃i,idx l k=some i
 |[],_,h=>by cases h
 |
  x::r,k,h=>by
  by_cases hx:x=k
  ·exact⟨0,by simp[idx,hx]⟩
  ·obtain⟨i,hi⟩:=Mi (l:=r) (k:=k) (by rcases cJ.1 h with h|h;exact absurd h.symm hx;exact h)
   exact⟨i+1,by simp[idx,hx,hi]⟩
def DZ.at {s:St} {ks:Yx} {bf:WD} (h:DZ s ks bf) {k:Nat} (hk:k∈ks):∃b,get s.bx k=some b∧get (az 0 bf) (bV ks k)=some b∧cW ks k=true:=by
 obtain⟨i,hi⟩:=Mi hk;obtain⟨h1,h2⟩:=df h.g;obtain⟨b,h3,h4⟩:=h2 i k (k9 hi);refine⟨b,h3,?_,by simp[cW,hi]⟩;rw[eS];simp only[bV,hi];rw[if_pos (by omega),show KB+i-KB-0=i by omega];exact h4
def Ib {s s':St} {k k' off len aD sz:Nat} {p:Zy} {c:iO} (h:get s.bx k=get s'.bx k') (K:Nat->WG->Prop):content s (.rs k p off len aD sz c) K=content s' (.rs k' p off len aD sz c) K:=by
 simp only[content,h]
def Rk {σ:AS} {s:St} (h:gS σ s) {ks:Yx} {bf:WD} (hL:DZ s ks bf) {a b:AV} {p:PV} (hp:gm a p) (hf:fzA σ a=some b) (hk:∀k∈Ia a,k∈ks):
  ∃q,gm b q∧V0 (az 0 bf) (wk (aI (bV ks) p)) q∧ae (cW ks) p=true:=by
 unfold fzA at hf;split at hf
 ·rename_i k pth off len aD sz c;split at hf<;>(try simp only[reduceCtorEq]at hf)
  rename_i z l hc;split at hf<;>simp only[sJ,reduceCtorEq]at hf;rename_i He;subst hf;have hp':=hp;simp only[gm]at hp;subst hp;obtain⟨m,g1,g2⟩:=Az h hp' hc;obtain⟨b,h1,h2,h3⟩:=hL.at (hk k (by simp[Ia]));refine⟨.sl sz m false,by simp only[gm,true_and];exact g1,?_,by simpa only[ae]using h3⟩;simp only[aI,wk]
  have hz:z=sz:=by
   have:=g2 (λa _=>a=z) rfl;simp only[content]at this;simp only[rV]at hc;split at hc
   ·split at hc<;>simp only[sJ,Prod.mk.injEq,reduceCtorEq]at hc;exact hc.1.symm
   ·split at hc
    ·split at hc<;>simp only[sJ,Prod.mk.injEq,reduceCtorEq]at hc;exact hc.1.symm
    ·simp at hc
   ·simp at hc
  refine .inr ⟨_,pth,off,len,aD,sz,c,m,rfl,?_,g1.refs He.1,He.2,rfl⟩;rw[Ib (s:=⟨[],az 0 bf⟩) (s':=s) (k':=k) (by rw[h1];exact h2)];exact g2 _ ⟨hz,rfl⟩
 ·rename_i bY;split at hf<;>simp only[sJ,reduceCtorEq]at hf;rename_i He;subst hf;have hr:=hp.refs He.1;refine⟨wk p,xM hp,?_,e9 (by simp) p hr⟩;rw[iT hr];exact .inl ⟨rfl,(xM hp).refs He.2⟩
theorem Rl {σ:AS} {s:St} (h:gS σ s) {ks:Yx} {bf:WD} (hL:DZ s ks bf):∀ {l m:List AV} {ps:WG},bB l ps->fzL σ l=some m->(∀k∈(l.map Ia).flatten,k∈ks)->
  ∃qs,bB m qs∧Me (az 0 bf) (gI (bw (bV ks) ps)) qs∧al (cW ks) ps=true
 |[],m,[],_,hf,_=>by simp only[fzL,sJ]at hf;subst hf;exact⟨[],by simp[bB],by simp[bw,Me],rfl⟩
 |[],_,_::_,h,_,_=>by simp[bB]at h
 |_::_,_,[],h,_,_=>by simp[bB]at h
 |
  a::l,m,p::ps,hg,hf,hk=>by
  simp only[bB]at hg
  simp only[fzL]at hf
  split at hf<;>simp only[sJ,reduceCtorEq]at hf
  rename_i x l' h1 h2
  subst hf
  simp only[JcQ,List.flatten_cons,JaX]at hk
  obtain⟨q,a1,a2,a3⟩:=Rk h hL hg.1 h1 (λk Fk=>hk k (.inl Fk))
  obtain⟨qs,b1,b2,b3⟩:=Rl h hL hg.2 h2 (λk Fk=>hk k (.inr Fk))
  exact⟨q::qs,by simp only[bB];exact⟨a1,b1⟩,by simp only[bw,gI,Me];exact⟨a2,b2⟩,by simp[al,a3,b3]⟩
def adm {σ:AS} {s:St} (h:gS σ s) {ks:Yx} {bf:WD} (hL:DZ s ks bf) {a b:AV} {p:PV} (hp:gm a p) (hf:vwA σ a=some b) (hk:∀k∈gO [a],k∈ks):
  ∃q,gm b q∧V1 (az 0 bf) (wk (aI (bV ks) p)) q∧ae (cW ks) p=true:=by
 unfold vwA at hf;split at hf
 ·rename_i sz l c;split at hf<;>simp only[sJ,reduceCtorEq]at hf;rename_i l' hl;subst hf;cases p<;>simp only[gm]at hp;obtain⟨⟨rfl,rfl⟩,hp⟩:=hp;simp only[gO,JdW]at hk;obtain⟨qs,b1,b2,b3⟩:=Rl h hL hp hl hk;refine⟨.sl _ qs false,by simp only[gm];exact⟨⟨rfl,trivial⟩,b1⟩,?_,by simpa only[ae]using b3⟩;simp only[aI,wk];exact .inr (.inl ⟨_,_,qs,false,rfl,b2,rfl⟩)
 ·rename_i bY
  have Fk:∀k∈Ia a,k∈ks:=by
   intro k hkk;cases a<;>simp[Ia]at hkk;subst hkk;exact hk _ (by simp[gO,Ia])
  obtain⟨q,a1,a2,a3⟩:=Rk h hL hp hf Fk;exact⟨q,a1,.inl a2,a3⟩
theorem Rm {σ:AS} {s:St} (h:gS σ s) {ks:Yx} {bf:WD} (hL:DZ s ks bf):∀ {l m:List AV} {ps:WG},bB l ps->vwL σ l=some m->(∀k∈gO l,k∈ks)->
  ∃qs,bB m qs∧Q5 (az 0 bf) (gI (bw (bV ks) ps)) qs∧al (cW ks) ps=true
 |[],m,[],_,hf,_=>by simp only[vwL,sJ]at hf;subst hf;exact⟨[],by simp[bB],by simp[bw,Q5],rfl⟩
 |[],_,_::_,h,_,_=>by simp[bB]at h
 |_::_,_,[],h,_,_=>by simp[bB]at h
 |
  a::l,m,p::ps,hg,hf,hk=>by
  simp only[bB]at hg
  simp only[vwL]at hf
  split at hf<;>simp only[sJ,reduceCtorEq]at hf
  rename_i x l' h1 h2
  subst hf
  have hka:∀k∈gO [a],k∈ks:=λk Fk=>hk k (by cases a<;>simp[gO]at Fk⊢<;>first|exact .inl Fk|skip)
  have uY:∀k∈gO l,k∈ks:=λk Fk=>hk k (by cases a<;>simp[gO,Fk])
  obtain⟨q,a1,a2,a3⟩:=adm h hL hg.1 h1 hka
  obtain⟨qs,b1,b2,b3⟩:=Rm h hL hg.2 h2 uY
  exact⟨q::qs,by simp only[bB];exact⟨a1,b1⟩,by simp only[bw,gI,Q5];exact⟨a2,b2⟩,by simp[al,a3,b3]⟩
end Go.Ab
namespace Go.Ab
variable [cM]
variable {P:Program} [gQ]
mutual
def xN:AV->Bool
 | .sl _ l _=>l.isEmpty
 | .st _ l| .ar _ _ l=>wK l
 | .bl _| .int .. | .str _| .np=>true
 |_=>false
def wK:List AV->Bool
 |[]=>true
 |a::l=>xN a&&wK l
end
mutual
theorem CU:∀ {a:AV} {p:PV},gm a p->xN a=true->lS p=true
 |
  .sl _ l _,p,h,hp=>by
  cases p<;>simp only[gm]at h
  simp only[xN,List.isEmpty_iff]at hp
  subst hp
  simp only[lS,List.isEmpty_iff]
  exact JfZ.1 h.2.length
 | .st _ l,p,h,hp=>by cases p<;>simp only[gm]at h;simp only[lS];exact pg h.2 (by simpa[xN]using hp)
 | .ar _ _ l,p,h,hp=>by cases p<;>simp only[gm]at h;simp only[lS];exact pg h.2 (by simpa[xN]using hp)
 | .bl _,p,h,_=>by cases p<;>simp only[gm]at h;rfl
 | .int ..,p,h,_=>by cases p<;>simp only[gm]at h;rfl
 | .str _,p,h,_=>by cases p<;>simp only[gm]at h;rfl
 | .np,p,h,_=>by simp only[gm]at h;subst h;rfl
 | .un,_,_,hp| .no,_,_,hp| .tup _,_,_,hp| .rs ..,_,_,hp| .pt ..,_,_,hp| .fp ..,_,_,hp| .gd ..,_,_,hp=>by simp[xN]at hp
theorem pg:∀ {l:List AV} {m:WG},bB l m->wK l=true->fT m=true
 |[],[],_,_=>rfl
 |[],_::_,h,_=>by simp[bB]at h
 |_::_,[],h,_=>by simp[bB]at h
 |
  a::l,p::m,h,hp=>by
  simp only[bB]at h
  simp only[wK,aJ]at hp
  simp[fT,CU h.1 hp.1,pg h.2 hp.2]
end
def F7:AV->Bool
 | .tup l=>wK l
 |a=>xN a
def Oq {a:AV} {p:PV} (h:gm a p) (hp:F7 a=true):pQ p=true:=by
 cases a
 case tup l=>
  cases p<;>simp only[gm]at h;simp only[pQ];exact pg h (by simpa only[F7]using hp)
 all_goals exact Q4 (CU h (by simpa only[F7]using hp))
def Rn:AV->Bool
 | .tup l=>l.all λa=>xN a||Ux KB a
 |_=>false
theorem EN:∀ {l:List AV} {m:WG},bB l m->(l.all λa=>xN a||Ux KB a)=true->fT m=true
 |[],[],_,_=>rfl
 |[],_::_,h,_=>by simp[bB]at h
 |_::_,[],h,_=>by simp[bB]at h
 |
  a::l,p::m,h,hp=>by
  simp only[bB]at h
  simp only[JgX,aJ,JhQ]at hp
  simp only[fT,aJ]
  refine⟨?_,EN h.2 hp.2⟩
  rcases hp.1 with hq|hq
  ·exact CU h.1 hq
  ·cases a<;>simp only[Ux,fJ]at hq
   have h1:=h.1
   simp only[gm]at h1
   subst h1;rfl
def Ro {r:AV} {v:PV} (h:gm r v) (hp:Rn r=true):pQ v=true:=by
 cases r<;>simp only[Rn,fJ]at hp;cases v<;>simp only[gm]at h;simp only[pQ];exact EN h hp
def pS (f:FuncId) (bs:List AV):List Spec->Option SR
 |[]=>none
 |e::r=>if decide (e.f=f)&&A4 bs e.args then some e.res else pS f bs r
theorem fH {f:FuncId} {bs:List AV} {qs:WG} (hg:bB bs qs):∀ {SP:List Spec} {r:SR},av P SP->pS f bs SP=some r->match r with
  | .val r=>r.rX=true∧∃v,gm r v∧aP P f qs v
  | .own sz l=>mi l=true∧∃m,bB l m∧uf P f qs sz m
  | .gen r sz l=>(On KB r=true∧mi l=true)∧∃v m,gm r v∧bB l m∧ab P f qs [] (λr' fp=>r'=v∧fp=[.arr sz m])
 |[],_,_,h=>by simp[pS]at h
 |
  e::SP,r,hS,h=>by
  simp only[pS]at h
  split at h
  ·rename_i hc
   simp only[aJ,decide_eq_true_eq]at hc
   simp only[sJ]at h
   subst h
   have:=hS e (by simp) qs (qy hc.2 hg)
   rw[hc.1]at this
   exact this
  ·exact fH hg (λx hx=>hS x (by simp[hx])) h
def Rp (SP:List Spec) (σ:AS) (d:Option Nat) (f:AX) (args:ZP):Option AS:=
 match f,Kn true σ args with
 | .c (.fn (.func fid) [] []),some as=>if mi as=true then(match pS fid (DY as) SP with
   |some (.val r)=>some (σ.put d r)
   |some (.own sz l)=>(match d with|some k=>if(get σ.bx k).isNone=true then some {env:=put σ.env k (.rs k [] 0 l.length l.length sz .tip),bx:=put σ.bx k (.arr sz l)}else none|none=>none)
   |some (.gen r sz l)=>(match d with|some k=>if(get σ.bx k).isNone=true then some {env:=put σ.env k (Jr k r),bx:=put σ.bx k (.arr sz l)}else none|none=>none)
   |none=>none)
  else(match vwL σ as with
   |some bs=>if((dd (gO as)).all λk=>match get σ.bx k with|some b=>b.pure|none=>false)=true then(match pS fid bs SP with
     |some (.val r)=>if F7 r=true then some (σ.put d r)else none
     |some (.own sz l)=>(match d with|some k=>if(get σ.bx k).isNone=true∧wK l=true then some {env:=put σ.env k (.rs k [] 0 l.length l.length sz .tip),bx:=put σ.bx k (.arr sz l)}else none|none=>none)
     |some (.gen r sz l)=>(match d with|some k=>if(get σ.bx k).isNone=true∧Rn r=true∧wK l=true then some {env:=put σ.env k (Jr k r),bx:=put σ.bx k (.arr sz l)}else none|none=>none)
     |none=>none)else none
   |none=>none)
 |_,_=>none
def gB.pure {b:AB} {blk:aU} (h:gB b blk) (hp:b.pure=true):af (λ_=>false) blk=true:=by
 cases b<;>cases blk<;>simp only[gB]at h<;>simp only[AB.pure]at hp<;>simp only[af]
 ·exact h.refs hp
 ·exact h.2.refs hp
theorem Mj {σ:AS} {s:St} (h:gS σ s):∀ {ks:Yx},(ks.all λk=>match get σ.bx k with|some b=>b.pure|none=>false)=true->∃bf,DZ s ks bf
 |[],_=>⟨[],rfl,by simp⟩
 |
  k::r,hk=>by
  simp only[JgX,aJ]at hk
  obtain⟨bs,h1,h2⟩:=Mj h hk.2
  have h3:=hk.1
  split at h3
  ·rename_i b hb
   obtain⟨blk,h4,h5⟩:=h.bx _ _ hb
   refine⟨blk::bs,by simp only[getAll,h4,h1],λx hx=> ?_⟩
   rcases cJ.1 hx with rfl|hx
   ·exact h5.pure h3
   ·exact h2 x hx
  ·simp at h3
theorem CV:∀ {ks:Yx} {bs:WD} {bx:List (Nat×aU)},xL bx->xL (aQ bx ks bs)
 |[],[],_,h=>h
 |[],_::_,_,h=>h
 |_::_,[],_,h=>h
 |k::ks,b::bs,_,h=>by simp only[aQ];exact CV (h.put k b)
def xO {s:St} {ks:Yx} {bf:WD} (hL:DZ s ks bf) (hn:ks.Nodup) (k:Nat):get (aQ s.bx ks bf) k=get s.bx k:=by
 obtain⟨h1,h2⟩:=df hL.g;rw[sB k hn h1];split
 ·rename_i i hi;obtain⟨b,h3,h4⟩:=h2 i k (k9 hi);rw[h3,h4]
 ·rfl
def gS.same {σ:AS} {s s':St} (h:gS σ s) (he:s'.env=s.env) (hb:∀k,get s'.bx k=get s.bx k) (hs:xL s'.bx):gS σ s':=
 ⟨λk a hk=>by rw[he];exact h.env k a hk,λk hk=>by rw[hb];exact h.none k hk,λk b hk=>by rw[hb];exact h.bx k b hk,by rw[he];exact h.se,hs⟩
theorem ui {b:aU} {o:Nat}:∀ {ks:Yx} {bf:WD} {bx:List (Nat×aU)},bf.length=ks.length->aQ bx (ks++[o]) (bf++[b])=put (aQ bx ks bf) o b
 |[],[],_,_=>rfl
 |[],_::_,_,h=>by simp at h
 |_::_,[],_,h=>by simp at h
 |k::ks,x::bf,_,h=>by simp only[JdV,aQ];exact ui (by simpa using h)
def Rq {SP:List Spec} (hS:av P SP) {σ σ':AS} {s:St} (h:gS σ s) {d:Option Nat} {f:AX} {args:ZP} (hr:Rp SP σ d f args=some σ'):∃s',gS σ' s'∧Kp (dk d) s s'∧∀K:UD,K s'->kD P s d f args K:=by
 unfold Rp at hr;split at hr<;>(try simp only[reduceCtorEq]at hr)
 rename_i fid as h1;obtain⟨ps,g1,g2⟩:=Br h h1
 have key:∀(s':St),(∀(K:UD),K s'->aj P s d fid ps K .mk)->∀K:UD,K s'->kD P s d (.c (.fn (.func fid) [] [])) args K:=by
  intro s' hc K hK;unfold kD;refine g2 _ ?_;show∃ks os,vP P s d fid ([]++ps++[]) ks os K;rw[JjJ,JdW];exact hc K hK
 split at hr
 ·rename_i He;have Ag:=g1.xK He;have g3:=sQ g1;split at hr<;>(try simp only[reduceCtorEq]at hr)
  ·rename_i r hf;simp only[sJ]at hr;subst hr;obtain⟨e1,v,e2,e3⟩:=fH g3 hS hf;exact⟨_,h.put d e2,Kp.same,key _ λK hK=>aj.ret e3 rfl Ag (e2.rX e1) hK⟩
  ·rename_i sz l hf;split at hr<;>(try simp only[reduceCtorEq]at hr)
   rename_i k;split at hr<;>simp only[sJ,reduceCtorEq]at hr;rename_i hn;subst hr;obtain⟨e1,m,e2,e3⟩:=fH g3 hS hf;have hl:=e2.length;exact⟨_,h.new k (p:= .rs k [] 0 m.length m.length sz .tip) (by simp only[gm,hl]) (b:= .arr sz l) (blk:= .arr sz m) (by simp only[gB,true_and];exact e2),Kp.new,key _ λK hK=>aj.own k e3 rfl Ag (e2.xK e1) (h.none k (mj hn)) hK⟩
  ·rename_i r sz l hf;split at hr<;>(try simp only[reduceCtorEq]at hr)
   rename_i k;split at hr<;>simp only[sJ,reduceCtorEq]at hr;rename_i hn;subst hr;obtain⟨⟨e0,e1⟩,v,m,e2,e3,e4⟩:=fH g3 hS hf;have hm:=e3.xK e1;have od:cN [k] KB=k:=by simp[cN]
   have hg:gm (Jr k r) (aI (cN [k]) v):=by have:=F6 (cN [k]) e2 e0;rwa [od]at this
   refine⟨{env:=put s.env k (aI (cN [k]) v),bx:=put s.bx k (.arr sz m)},h.new k (p:=aI (cN [k]) v) hg (b:= .arr sz l) (blk:= .arr sz m) (by simp only[gB,true_and];exact e3),Kp.new,key _ λK hK=>aj.Wc [] [k] [] e4 rfl (by simp) (by simpa using h.none k (mj hn)) (Ag.refs _) rfl (by rw[Ag.aI]) rfl ?_⟩;rintro r' fp ⟨rfl,rfl⟩;refine⟨⟨rfl,CS (by simp[dL]) e2 e0,by simp[af,hm.refs]⟩,?_⟩;simp only[JjJ,JcQ,List.map_nil,aG,hm.aI,aQ];exact hK
 ·split at hr<;>(try simp only[reduceCtorEq]at hr)
  rename_i bs Jh;split at hr<;>(try simp only[reduceCtorEq]at hr)
  rename_i cU;obtain⟨bf,hL⟩:=Mj h cU;have u9:=CT (gO as);obtain⟨qs,q1,q2,q3⟩:=Rm h hL g1 Jh (λk hk=>Kx hk);have Jp:=hL.aI;have JB:bf.all (af (cW (dd (gO as))))=true:=JbJ.2 λb hb=>oJ (hL.p b hb);have hfp:∀n,bf.all (af (dL n))=true:=λn=>JbJ.2 λb hb=>oJ (hL.p b hb);have oA:gS σ {s with bx:=aQ s.bx (dd (gO as)) bf}:=h.same rfl (λk=>xO hL u9 k) (CV h.sb);have hlen:bf.length=(dd (gO as)).length:=(df hL.g).1;split at hr<;>(try simp only[reduceCtorEq]at hr)
  ·rename_i r hf;split at hr<;>simp only[sJ,reduceCtorEq]at hr;rename_i hns;subst hr;obtain⟨e1,v,e2,e3⟩:=fH q1 hS hf;have hv:=e2.rX e1;refine⟨_,oA.put d e2,Kp.put (λj _=>xO hL u9 j),key _ λK hK=>aj.view (dd (gO as)) [] bf e3 hL.g (by simpa using u9) (by simp) q3 JB rfl (Jp _) q2 ?_ ?_⟩
   ·rintro r new ⟨rfl,rfl⟩;exact⟨⟨Oq e2 hns,rfl⟩,rfl⟩
   ·rintro r new ⟨rfl,rfl⟩;refine⟨⟨by rw[hv.aI];exact hv.refs _,by simp only[List.map_nil,JdW];exact hfp _⟩,?_⟩;simp only[List.map_nil,JdW,Jp,hv.aI];exact hK
  ·rename_i sz l hf;split at hr<;>(try simp only[reduceCtorEq]at hr)
   rename_i k;split at hr<;>simp only[sJ,reduceCtorEq]at hr;rename_i hn;subst hr;obtain⟨e1,m,e2,e3⟩:=fH q1 hS hf;have hm:=e2.xK e1;have hl:=e2.length;have mX:get s.bx k=none:=h.none k (mj hn.1)
   have hkn:k∉dd (gO as):=λhk=>by
    obtain⟨b,hb,_⟩:=hL.at hk;rw[mX]at hb;cases hb
   refine⟨{env:=put s.env k (.rs k [] 0 m.length m.length sz .tip),bx:=put (aQ s.bx (dd (gO as)) bf) k (.arr sz m)},oA.new k (p:= .rs k [] 0 m.length m.length sz .tip) (by simp only[gm,hl]) (b:= .arr sz l) (blk:= .arr sz m) (by simp only[gB,true_and];exact e2),
    λj hj=>by
     simp only[dc];rw[if_neg (by rintro rfl;simp[dk]at hj)];exact xO hL u9 j,
    key _ λK hK=>aj.view (dd (gO as)) [k] bf e3 hL.g (by rw[JeQ];exact⟨u9,by simp,by simp;intro a ha e;subst e;exact hkn ha⟩) (by simpa using mX) q3 JB rfl (Jp _) q2 ?_ ?_⟩
   ·rintro r new ⟨rfl,rfl⟩;exact⟨⟨rfl,by simp only[JgX,List.all_nil,Bool.and_true,EK];exact pg e2 hn.2⟩,rfl⟩
   ·rintro r new ⟨rfl,rfl⟩
    have od:cN (dd (gO as)++[k]) (KB+bf.length)=k:=by
     unfold cN;rw[if_pos (by omega),show KB+bf.length-KB=bf.length by omega,hlen,List.getElem?_append_right (JaQ _)];simp
    refine⟨⟨?_,?_⟩,?_⟩
    ·simp only[aI,ae,dL,JbZ,List.length_nil,decide_eq_true_eq];omega
    ·simp only[JcQ,List.map_nil,List.all_append,aJ,JgX,List.all_nil,Bool.and_true];exact⟨hfp _,oJ (by simp only[aG,af,hm.aI];exact hm.refs _)⟩
    ·have e4:(bf++[aU.arr sz m].map (aG (·+bf.length))).map (aG (cN (dd (gO as)++[k])))=bf++[.arr sz m]:=by
      simp only[List.map_append,Jp,JcQ,List.map_nil,aG,hm.aI]
     rw[e4,ui hlen];simp only[aI,od];exact hK
  ·rename_i r sz l hf;split at hr<;>(try simp only[reduceCtorEq]at hr)
   rename_i k;split at hr<;>simp only[sJ,reduceCtorEq]at hr;rename_i hn;subst hr;obtain⟨⟨e0,e1⟩,v,m,e2,e3,e4⟩:=fH q1 hS hf;have hm:=e3.xK e1;have mX:get s.bx k=none:=h.none k (mj hn.1)
   have hkn:k∉dd (gO as):=λhk=>by
    obtain⟨b,hb,_⟩:=hL.at hk;rw[mX]at hb;cases hb
   have od:cN (dd (gO as)++[k]) (KB+bf.length)=k:=by
    unfold cN;rw[if_pos (by omega),show KB+bf.length-KB=bf.length by omega,hlen,List.getElem?_append_right (JaQ _)];simp
   have Ul:gm (Jr (KB+bf.length) r) (aI (·+bf.length) v):=F6 (·+bf.length) e2 e0;have YT:On (KB+bf.length) (Jr (KB+bf.length) r)=true:=Wk e0
   have hg:gm (Jr k r) (aI (cN (dd (gO as)++[k])) (aI (·+bf.length) v)):=by
    have:=F6 (cN (dd (gO as)++[k])) Ul YT;rwa [od,Wl]at this
   refine⟨{env:=put s.env k (aI (cN (dd (gO as)++[k])) (aI (·+bf.length) v)),bx:=put (aQ s.bx (dd (gO as)) bf) k (.arr sz m)},oA.new k (p:=aI (cN (dd (gO as)++[k])) (aI (·+bf.length) v)) hg (b:= .arr sz l) (blk:= .arr sz m) (by simp only[gB,true_and];exact e3),
    λj hj=>by
     simp only[dc];rw[if_neg (by rintro rfl;simp[dk]at hj)];exact xO hL u9 j,
    key _ λK hK=>aj.view (dd (gO as)) [k] bf e4 hL.g (by rw[JeQ];exact⟨u9,by simp,by simp;intro a ha e;subst e;exact hkn ha⟩) (by simpa using mX) q3 JB rfl (Jp _) q2 ?_ ?_⟩
   ·rintro r new ⟨rfl,rfl⟩;exact⟨⟨Ro e2 hn.2.1,by simp only[JgX,List.all_nil,Bool.and_true,EK];exact pg e3 hn.2.2⟩,rfl⟩
   ·rintro r' new ⟨rfl,rfl⟩;refine⟨⟨?_,?_⟩,?_⟩
    ·exact CS (by simp[dL]) Ul YT
    ·simp only[JcQ,List.map_nil,List.all_append,aJ,JgX,List.all_nil,Bool.and_true];exact⟨hfp _,oJ (by simp only[aG,af,hm.aI];exact hm.refs _)⟩
    ·have e4:(bf++[aU.arr sz m].map (aG (·+bf.length))).map (aG (cN (dd (gO as)++[k])))=bf++[.arr sz m]:=by
      simp only[List.map_append,Jp,JcQ,List.map_nil,aG,hm.aI]
     rw[e4,ui hlen];exact hK
def Ky (SP:List Spec) (σ:AS) (d:Option Nat) (f:AX) (args:ZP):Option AS:=
 match f,Kn true σ args with
 | .c (.fn (.func fid) [] []),some as=>if mi as=true then(match pS fid (DY as) SP with
   |some (.val r)=>some (σ.put d r)
   |_=>none)else none
 |_,_=>none
def Ot {SP:List Spec} (hS:av P SP) {σ σ':AS} {s:St} (h:gS σ s) {d:Option Nat} {f:AX} {args:ZP} (hr:Ky SP σ d f args=some σ'):∃s',gS σ' s'∧Kp [] s s'∧∀K:UD,K s'->nR P s d f args K:=by
 unfold Ky at hr;split at hr<;>(try simp only[reduceCtorEq]at hr)
 rename_i fid as h1;obtain⟨ps,g1,g2⟩:=Br h h1;split at hr<;>(try simp only[reduceCtorEq]at hr)
 rename_i He;have Ag:=g1.xK He;split at hr<;>simp only[sJ,reduceCtorEq]at hr;rename_i r hf;subst hr;obtain⟨e1,v,e2,e3⟩:=fH (sQ g1) hS hf;refine⟨_,h.put d e2,Kp.same,λK hK=> ?_⟩;unfold nR;refine g2 _ ?_;show∃v,(al (λ_=>false) ([]++ps++[])=true∧ae (λ_=>false) v=true)∧ab P fid ([]++ps++[]) [] (λr fp=>r=v∧fp=[])∧K (s.put d v);rw[JjJ,JdW];exact⟨v,⟨Ag.refs _,(e2.rX e1).refs _⟩,ab.ZH e3,hK⟩
def Rr (SP:List Spec) (σ:AS) (o:AO):Option AS:=
 match o.k with
 | .call f args=>Rp SP σ o.dst f args
 | .callq f args=>Ky SP σ o.dst f args
 |k=>if og k=true then Py σ o.dst k else(match xf true σ k with|some a=>some (σ.put o.dst a)|none=>none)
def F8 {SP:List Spec} (hS:av P SP) {σ σ':AS} {s:St} (h:gS σ s) {o:AO} (hr:Rr SP σ o=some σ'):∃s',gS σ' s'∧Kp (Ol σ o.dst o.k) s s'∧∀K:UD,K s'->ko P s o K:=by
 unfold Rr at hr;unfold ko;split at hr
 ·rename_i f args hk;obtain⟨s',h1,BO,h2⟩:=Rq hS h hr;exact⟨s',h1,by rw[hk];exact BO,λK hK=>by simp only[hk];exact h2 K hK⟩
 ·rename_i f args hk;obtain⟨s',h1,BO,h2⟩:=Ot hS h hr;exact⟨s',h1,by rw[hk];exact BO,λK hK=>by simp only[hk];exact h2 K hK⟩
 ·rename_i k n1 n2;split at hr
  ·rename_i he;obtain⟨s',h1,BO,h2⟩:=adk h hr;refine⟨s',h1,BO,λK hK=> ?_⟩;split
   ·rename_i f args hk;exact absurd hk (by intro e;exact n1 _ _ e)
   ·rename_i f args hk;exact absurd hk (by intro e;exact n2 _ _ e)
   ·rw[if_pos he];exact h2 K hK
  ·rename_i he;split at hr<;>simp only[sJ,reduceCtorEq]at hr;rename_i a ha;subst hr;obtain⟨p,h1,h2⟩:=CQ h ha;refine⟨_,h.put _ h1,Kp.same,λK hK=> ?_⟩;split
   ·rename_i f args hk;exact absurd hk (by intro e;exact n1 _ _ e)
   ·rename_i f args hk;exact absurd hk (by intro e;exact n2 _ _ e)
   ·rw[if_neg he];exact h2 _ hK
def Kz (SP:List Spec) (σ:AS) (o:AO):Option AS:=
 match o.guard with
 |none=>Rr SP σ o
 |
  some (sl,want)=>match get σ.env sl with
  |some (.bl (some b))=>if o.mg=true then(match xf (b==want) σ o.k with|some p=>some (σ.put o.dst (.gd (b==want) p))|none=>none)
    else if b=want then Rr SP σ o else some (σ.put o.dst .no)
  |some (.gd true (.bl (some b)))=>if o.mg=true then(match xf (b==want) σ o.k with|some p=>some (σ.put o.dst (.gd (b==want) p))|none=>none)
    else if b=want then Rr SP σ o else some (σ.put o.dst .no)
  |some (.gd false (.bl (some b)))=>if o.mg=true then(match xf false σ o.k with|some p=>some (σ.put o.dst (.gd false p))|none=>none)
    else some (σ.put o.dst .no)
  |_=>none
def Bu {SP:List Spec} (hS:av P SP) {σ σ':AS} {s:St} (h:gS σ s) {o:AO} (hr:Kz SP σ o=some σ'):∃s',gS σ' s'∧Kp (Ol σ o.dst o.k) s s'∧∀K:UD,K s'->fA P s o K:=by
 unfold Kz at hr;unfold fA;split at hr
 ·rename_i hg;rw[hg];exact F8 hS h hr
 ·rename_i sl want hg;rw[hg];simp only;split at hr<;>(try simp only[reduceCtorEq]at hr)
  ·rename_i b hb;obtain⟨q,g1,g2⟩:=h.env _ _ hb;cases q<;>simp only[gm]at g2;have:=g2 b rfl;subst this;rw[g1];simp only[Option.getD_some];split at hr
   ·rename_i hm;split at hr<;>simp only[sJ,reduceCtorEq]at hr;rename_i p hp;subst hr;obtain⟨v,e1,e2⟩:=CQ h hp;refine⟨_,h.put _ (p:= .gd _ v) (by simp only[gm];exact⟨rfl,e1⟩),Kp.same,λK hK=> ?_⟩;rw[if_pos hm];exact e2 _ hK
   ·rename_i hm;split at hr
    ·rename_i hw;obtain⟨s',e1,ek,e2⟩:=F8 hS h hr;refine⟨s',e1,ek,λK hK=> ?_⟩;rw[if_neg hm];exact⟨λ_=>e2 K hK,λbY=>absurd hw bY⟩
    ·rename_i hw;simp only[sJ]at hr;subst hr;refine⟨_,h.put _ (p:= .un) (by simp only[gm]),Kp.same,λK hK=> ?_⟩;rw[if_neg hm];exact⟨λhe=>absurd he hw,λ_=>hK⟩
  ·rename_i b hb;obtain⟨q,g1,g2⟩:=h.env _ _ hb;cases q<;>simp only[gm]at g2;rename_i g' q;obtain⟨rfl,g2⟩:=g2;cases q<;>simp only[gm]at g2;have:=g2 b rfl;subst this;rw[g1];simp only[Option.getD_some,JhW];split at hr
   ·rename_i hm;split at hr<;>simp only[sJ,reduceCtorEq]at hr;rename_i p hp;subst hr;obtain⟨v,e1,e2⟩:=CQ h hp;refine⟨_,h.put _ (p:= .gd _ v) (by simp only[gm];exact⟨rfl,e1⟩),Kp.same,λK hK=> ?_⟩;rw[if_pos hm];exact e2 _ hK
   ·rename_i hm;split at hr
    ·rename_i hw;obtain⟨s',e1,ek,e2⟩:=F8 hS h hr;refine⟨s',e1,ek,λK hK=> ?_⟩;rw[if_neg hm];exact⟨λ_ _=>e2 K hK,λbY=>absurd hw (bY (by trivial))⟩
    ·rename_i hw;simp only[sJ]at hr;subst hr;refine⟨_,h.put _ (p:= .un) (by simp only[gm]),Kp.same,λK hK=> ?_⟩;rw[if_neg hm];exact⟨λ_ he=>absurd he hw,λ_=>hK⟩
  ·rename_i b hb;obtain⟨q,g1,g2⟩:=h.env _ _ hb;cases q<;>simp only[gm]at g2;rename_i g' q;obtain⟨rfl,g2⟩:=g2;cases q<;>simp only[gm]at g2;rw[g1];simp only[Option.getD_some,Bool.false_and];split at hr
   ·rename_i hm;split at hr<;>simp only[sJ,reduceCtorEq]at hr;rename_i p hp;subst hr;obtain⟨v,e1,e2⟩:=CQ h hp;refine⟨_,h.put _ (p:= .gd _ v) (by simp only[gm];exact⟨rfl,e1⟩),Kp.same,λK hK=> ?_⟩;rw[if_pos hm];exact e2 _ hK
   ·rename_i hm;simp only[sJ]at hr;subst hr;refine⟨_,h.put _ (p:= .un) (by simp only[gm]),Kp.same,λK hK=> ?_⟩;rw[if_neg hm];first|exact⟨λhe=>by cases he,λ_=>hK⟩|simpa using hK
def Rs (SP:List Spec):AS->UN->Option AS
 |σ,[]=>some σ
 |σ,o::l=>match Kz SP σ o with|some σ'=>Rs SP σ' l|none=>none
theorem Mk {SP:List Spec} (hS:av P SP):∀ {l:UN} {σ σ':AS} {s:St},gS σ s->Rs SP σ l=some σ'->∃s',gS σ' s'∧∀K:UD,K s'->JT P s l K
 |[],σ,σ',s,h,hr=>by simp only[Rs,sJ]at hr;subst hr;exact⟨s,h,λK hK=>hK⟩
 |
  o::l,σ,σ',s,h,hr=>by
  simp only[Rs]at hr
  split at hr<;>(try simp only[reduceCtorEq]at hr)
  rename_i σ1 h1
  obtain⟨s1,e1,_,e2⟩:=Bu hS h h1
  obtain⟨s2,e3,e4⟩:=Mk hS e1 hr
  exact⟨s2,e3,λK hK=>e2 _ (e4 _ hK)⟩
def AS.less (σ:AS) (W:Yx):AS:= {σ with bx:=σ.bx.filter λp=> !W.contains p.1}
theorem uj {W:Yx} (k:Nat):∀l:List (Nat×AB),get (l.filter λp=> !W.contains p.1) k=if W.contains k=true then none else get l k
 |[]=>by simp[get]
 |
  (n,v)::r=>by
  have ih:=uj (W:=W) k r
  by_cases hn:W.contains n=true
  ·rw[List.filter_cons_of_neg (by simpa using hn),ih]
   by_cases hk:n=k
   ·subst hk;rw[if_pos hn,if_pos hn]
   ·simp only[get,if_neg hk]
  ·rw[JjQ (by simpa using hn)]
   simp only[get,ih]
   by_cases hk:n=k
   ·subst hk;rw[if_pos rfl,if_neg hn,if_pos rfl]
   ·rw[if_neg hk,if_neg hk]
theorem wM {W:Yx}:∀ {l:List (Nat×aU)},xL l->xL (l.filter λp=> !W.contains p.1)
 |[],_=>trivial
 |
  (n,v)::r,h=>by
  by_cases hn:W.contains n=true
  ·rw[List.filter_cons_of_neg (by simpa using hn)];exact wM h.2
  ·rw[JjQ (by simpa using hn)]
   refine⟨λj x hj=> ?_,wM h.2⟩
   rw[get_filter (c:=λn=> !W.contains n)]at hj
   split at hj
   ·exact h.1 j x hj
   ·simp at hj
def adn {W:Yx} (hW:FX W=false) (l:List (Nat×aU)):((l.filter λp=>FX W|| !W.contains p.1).map λp=>(p.1,vF W p.1 p.2))=l.filter λp=> !W.contains p.1:=by
 simp only[hW,Bool.false_or];conv=>rhs;rw[←List.map_id (l.filter λp=> !W.contains p.1)]
 refine List.map_congr_left λp _=> ?_;obtain⟨k,b⟩:=p;cases b<;>simp[vF,hW]
def gS.less {σ:AS} {s:St} (h:gS σ s) {W:Yx} (hW:FX W=false):gS (σ.less W) (s.less W):=by
 have he:(s.less W).bx=s.bx.filter λp=> !W.contains p.1:=adn hW _;refine⟨h.env,λk hk=> ?_,λk b hk=> ?_,h.se,by rw[he];exact wM h.sb⟩
 ·rw[he];simp only[AS.less,uj]at hk⊢;rw[get_filter (c:=λn=> !W.contains n)];split at hk
  ·rename_i hw;rw[hw];simp
  ·rename_i hw;rw[if_pos (by simpa using hw)];exact h.none k hk
 ·rw[he];simp only[AS.less,uj]at hk⊢;rw[get_filter (c:=λn=> !W.contains n)];split at hk
  ·simp at hk
  ·rename_i hw;rw[if_pos (by simpa using hw)];exact h.bx k b hk
def Rt (l:UN) (σ:AS) (o:Yx):Bool:=o.all λi=>match l[i]?with|some x=>(match x.eA with|some k=>(get σ.bx k).isNone|none=>true)|none=>true
theorem Ru {σ:AS} {s:St} (h:gS σ s) {l:UN} {o:Yx} (hf:Rt l σ o=true):dX l s o=true:=by
 unfold Rt at hf;unfold dX;rw[JbJ]at hf⊢;intro i hi;have:=hf i hi;cases hl:l[i]?with
 |none=>simp
 |
  some x=>
  simp only[hl]at this⊢
  cases hk:x.eA with
  |none=>rfl
  |
   some k=>
   simp only[hk]at this⊢
   rw[h.none k (mj this)];rfl
def drA (SP:List Spec) (l:UN) (u W:Yx):AS->Yx->Option AS
 |σ,[]=>some σ
 |
  σ,i::r=>match l[i]?with
  |some x=>if Rt l σ (i::r)=true then(if x.quiet=true then(if u.contains i=true then(match Kz SP (σ.less W) x with
      |some τ=>if(Ol (σ.less W) x.dst x.k).isEmpty=true then drA SP l u W {τ with bx:=σ.bx} r else none
      |none=>none)else(match Kz SP σ x with|some τ=>drA SP l u W τ r|none=>none))
     else(match Kz SP σ x with|some τ=>if(!u.contains i||(Ol σ x.dst x.k).all λk=>W.contains k)=true then drA SP l u W τ r else none|none=>none))else none
  |none=>none
theorem F9 {SP:List Spec} (hS:av P SP) {l:UN} {u W:Yx} (hW:FX W=false):∀ {o:Yx} {σ σ':AS} {s:St},gS σ s->drA SP l u W σ o=some σ'->∃s',gS σ' s'∧∀K:UD,K s'->gL P l u.contains W s o K
 |[],σ,σ',s,h,hr=>by simp only[drA,sJ]at hr;subst hr;exact⟨s,h,λK hK=>hK⟩
 |
  i::r,σ,σ',s,h,hr=>by
  simp only[drA]at hr
  split at hr<;>(try simp only[reduceCtorEq]at hr)
  rename_i x hx
  split at hr<;>(try simp only[reduceCtorEq]at hr)
  rename_i hf
  have n7:=Ru h hf
  split at hr
  ·rename_i hq
   split at hr
   ·rename_i hu
    split at hr<;>(try simp only[reduceCtorEq]at hr)
    rename_i τ ht
    split at hr<;>(try simp only[reduceCtorEq]at hr)
    obtain⟨t1,e1,_,e2⟩:=Bu hS (h.less hW) ht
    have h2:gS {τ with bx:=σ.bx} {t1 with bx:=s.bx}:=⟨e1.env,h.none,h.bx,e1.se,h.sb⟩
    obtain⟨s',e3,e4⟩:=F9 hS hW h2 hr
    refine⟨s',e3,λK hK=> ?_⟩
    simp only[gL,hx]
    refine⟨n7,?_⟩
    unfold ig
    rw[if_pos hq,if_pos hu]
    exact e2 _ (e4 K hK)
   ·rename_i hu
    split at hr<;>(try simp only[reduceCtorEq]at hr)
    rename_i τ ht
    obtain⟨t1,e1,_,e2⟩:=Bu hS h ht
    obtain⟨s',e3,e4⟩:=F9 hS hW e1 hr
    refine⟨s',e3,λK hK=> ?_⟩
    simp only[gL,hx]
    refine⟨n7,?_⟩
    unfold ig
    rw[if_pos hq,if_neg hu]
    exact e2 _ (e4 K hK)
  ·rename_i hq
   split at hr<;>(try simp only[reduceCtorEq]at hr)
   rename_i τ ht
   split at hr<;>(try simp only[reduceCtorEq]at hr)
   rename_i hw
   obtain⟨t1,e1,ek,e2⟩:=Bu hS h ht
   obtain⟨s',e3,e4⟩:=F9 hS hW e1 hr
   refine⟨s',e3,λK hK=> ?_⟩
   simp only[gL,hx]
   refine⟨n7,?_⟩
   unfold ig
   rw[if_neg hq]
   refine e2 _ ⟨λhu k b hk hb=> ?_,e4 K hK⟩
   rw[ek k,hb]
   ·exact⟨b,rfl,rfl⟩
   intro Al
   rw[JhQ]at hw
   rcases hw with hw|hw
   ·exact absurd (by simpa using hu) (by simpa using hw)
   ·have:=JbJ.1 hw k Al
    rw[this,hW]at hk;cases hk
def drW (SP:List Spec) (l:UN) (u:Yx):AS->Yx->Yx
 |_,[]=>[]
 |
  σ,i::r=>match l[i]?with
  |some x=>(if x.quiet=false&&u.contains i then Ol σ x.dst x.k else [])++(match Kz SP σ x with|some τ=>drW SP l u τ r|none=>[])
  |none=>[]
abbrev ZQ:=List Spec
abbrev Xe:=List AV
end Go.Ab

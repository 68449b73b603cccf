/- Rules by which the abstract reading is worked out. No condition. -/
import Derived.Test.YtjkfnhhekobfgaaGreatDoorA4
set_option linter.all false
namespace Go.Ab
variable [eJ]
variable {P:Program}
structure Pure (p:PV):Prop where
 refs:∀f,ae f p=true
 aB:∀ρ,aB ρ p=p
 iB:∀k sz l0,iB k sz l0 p=p
structure cD (l:List PV):Prop where
 refs:∀f,ab f l=true
 aB:∀ρ,aD ρ l=l
 iB:∀k sz l0,jj k sz l0 l=l
theorem Pure.of {p:PV} (h:ae (λ_=>false) p=true):Pure p where
 refs f:=jz (by simp) p h
 aB ρ:=oL h
 iB k sz l0:=Bo p (jz (by simp) p h)
theorem cD.of {l:List PV} (h:ab (λ_=>false) l=true):cD l where
 refs f:=eM (by simp) l h
 aB ρ:=nY h
 iB k sz l0:=mW l (eM (by simp) l h)
theorem cD.mk' {l:List PV} (h:∀p∈l,Pure p):cD l:=by
 refine cD.of ?_
 induction l with
 |nil=>rfl
 |cons p l ih=>simp only[ab,aJ];exact⟨(h p (by simp)).refs _,ih λq hq=>h q (by simp[hq])⟩
theorem cD.map {α:Type} {e:α->PV} (h:∀x,Pure (e x)) (l:List α):cD (l.map e):=
 cD.mk' λp hp=>by obtain⟨x,_,rfl⟩:=List.mem_map.1 hp;exact h x
theorem cD.forget {l:List PV} (h:cD l):∀p∈l,Pure p:=by
 intro p hp
 have h0:=h.refs (λ_=>false)
 refine Pure.of ?_
 clear h
 induction l with
 |nil=>simp at hp
 |
  cons q l ih=>
  simp only[ab,aJ]at h0
  rcases List.mem_cons.1 hp with rfl|hp
  ·exact h0.1
  ·exact ih hp h0.2
theorem cD.append {l m:List PV} (h:cD l) (h':cD m):cD (l++m):=
 cD.mk' λp hp=>by rcases List.mem_append.1 hp with hp|hp;exact h.forget p hp;exact h'.forget p hp
theorem cD.take {l:List PV} (h:cD l) (n:Nat):cD (l.take n):=cD.mk' λp hp=>h.forget p (List.mem_of_mem_take hp)
theorem cD.drop {l:List PV} (h:cD l) (n:Nat):cD (l.drop n):=cD.mk' λp hp=>h.forget p (List.mem_of_mem_drop hp)
theorem cD.sl {l:List PV} (h:cD l) (sz:Nat) (c:Bool):Pure (.sl sz l c):=Pure.of (by simp only[ae];exact h.refs _)
theorem cD.st {l:List PV} (h:cD l) (w:Nat):Pure (.st w l):=Pure.of (by simp only[ae];exact h.refs _)
theorem cD.ar {l:List PV} (h:cD l) (sz n:Nat):Pure (.ar sz n l):=Pure.of (by simp only[ae];exact h.refs _)
end Go.Ab
namespace Go.Ab
variable [eJ]
variable {P:Program} [ji]
@[congr] theorem Zj {mx:Bool} {a a':Int} {l l':List PV} {K:Int->Prop} (h1:a=a') (h2:l=l'):lB mx a l K=lB mx a' l' K:=by subst h1 h2;rfl
@[congr] theorem age {s s':St} {o:AO} {K:St->Prop} (h:s=s'):iu P s o K=iu P s' o K:=by subst h;rfl
@[congr] theorem ajH {s s':St} {c:dT} {Q:Exit->St->Prop} (h:s=s'):aw P c Q s=aw P c Q s':=by subst h;rfl
@[congr] theorem ad3 {s s':St} {c:List Cut} {K:St->Prop} (h:s=s'):jq c s K=jq c s' K:=by subst h;rfl
end Go.Ab
namespace Go.Ab
variable [eJ]
variable {P:Program} {s:St} {g:Bool}
def dV {α:Type}:Option α->(α->Prop)->Prop
 |some a,K=>K a
 |none,_=>False
@[congr] theorem ad4 {α:Type} {o o':Option α} {K:α->Prop} (h:o=o'):dV o K=dV o' K:=by subst h;rfl
@[simp↓] theorem An {α:Type} (a:α) (K:α->Prop):dV (some a) K=K a:=id rfl
@[simp↓] theorem WH {α:Type} (K:α->Prop):dV none K=False:=id rfl
def gG (g:Bool):PV->(PV->Prop)->Prop
 | .gd b p,K=>(g=true->b=true)∧K p
 |p,K=>K p
@[congr] theorem agf {g g':Bool} {p p':PV} {K:PV->Prop} (h:g=g') (h1:p=p'):gG g p K=gG g' p' K:=by subst h h1;rfl
theorem jD (x:AX) (K:PV->Prop):vg g s x K=gG g (vx s x) K:=by unfold vg;cases vx s x<;>rfl
def tO (x:Bool) (K:PV->Prop):PV->PV->Prop
 | .bl ya,.bl yb=>K (.bl (bif x then ya else yb))
 | .bl ya,.gd gb (.bl yb)=>(x=false->gb=true)∧K (.bl (bif x then ya else yb))
 | .gd ga (.bl ya),.bl yb=>(x=true->ga=true)∧K (.bl (bif x then ya else yb))
 | .gd ga (.bl ya),.gd gb (.bl yb)=>((x=true->ga=true)∧(x=false->gb=true))∧K (.bl (bif x then ya else yb))
 | .bl ya,.un=>x=true∧K (.bl ya)
 | .un,.bl yb=>x=false∧K (.bl yb)
 |_,_=>False
@[congr] theorem Zk {x x':Bool} {K:PV->Prop} {p p' q q':PV} (h:x=x') (h1:p=p') (h2:q=q'):tO x K p q=tO x' K p' q':=by subst h h1 h2;rfl
def Qh (s:St) (a b:AX) (K:PV->Prop):PV->Prop
 | .bl x=>tO x K (vx s a) (vx s b)
 |_=>False
theorem SM (c a b:AX) (K:PV->Prop):ev g s (.pick c a b) K=gG g (vx s c) (Qh s a b K):=by
 simp only[ev,jD];congr 1
def Bv (ps:List (Nat×PV)) (K:PV->Prop):PV->Prop
 | .st w l=>dV (eh l ps) λl'=>K (.st w l')
 | .ar sz n l=>dV (eh l ps) λl'=>K (.ar sz n l')
 |_=>False
theorem Nl (z:PV) (parts:List (Nat×AX)) (K:PV->Prop):ev g s (.build z parts) K=y9 g s parts λps=>Bv ps K z:=by
 simp only[ev];congr 1;funext ps;cases z<;>simp only[Bv]<;>first|rfl|(unfold dV;(repeat' split)<;>simp_all;done)
def Gj (s:St) (agg:Bool) (w:Nat) (K:PV->Prop):PV->Prop
 | .pt k p aQ=>dV (get s.bx k) λblk=>dV (jN blk p) λu=>(aQ=blk.aQ∧u.width=w∧u.isAgg=agg)∧K u
 | .fp sz l p=>dV (jN (.arr sz l) p) λu=>(u.width=w∧u.isAgg=agg)∧K u
 |_=>False
theorem SN (agg:Bool) (w:Nat) (x:AX) (K:PV->Prop):ev g s (.load agg w x) K=gG g (vx s x) (Gj s agg w K):=by
 simp only[ev,jD];congr 1;funext p;cases p<;>simp only[Gj]<;>first|rfl|(unfold dV;(repeat' split)<;>simp_all;done)
def SO (s:St) (K:PV->Prop):PV->Prop
 | .pt k p aQ=>dV (get s.bx k) λblk=>aQ=blk.aQ∧K (.pt k p aQ)
 | .fp sz l p=>K (.fp sz l p)
 | .fn (.func f) a b=>K (.fn (.func f) a b)
 |_=>False
theorem EN (x:AX) (K:PV->Prop):ev g s (.nilCheck x) K=gG g (vx s x) (SO s K):=by
 simp only[ev,jD];congr 1;funext p
 cases p<;>(try(rename_i f a b;cases f))<;>simp only[SO]<;>first|rfl|(unfold dV;(repeat' split)<;>simp_all;done)
def Zl (s:St) (op:BinOp) (K:PV->Prop):PV->PV->Prop
 | .np,.np=>sc op true K
 | .pt k _ aQ,.np=>dV (get s.bx k) λblk=>aQ=blk.aQ∧sc op false K
 | .fp _ _ _,.np=>sc op false K
 |_,_=>False
def j4 (op:BinOp) (K:PV->Prop):PV->PV->Prop
 | .int k a,.int k' b=>(op= .shl∨op= .shr∨k=k')∧ot op k a b K
 | .str a,.str b=>uA op a b K
 |_,_=>False
def Zm (op:BinOp) (K:PV->Prop):PV->PV->Prop
 | .bl a,.bl b=>sc op (a==b) K
 |_,_=>False
theorem SP (op:BinOp) (x y:AX) (K:PV->Prop):ev g s (.bin op .no x y) K=gG g (vx s x) λp=>gG g (vx s y) λq=>j4 op K p q:=by
 simp only[ev,jD];congr 1
theorem SQ (op:BinOp) (x y:AX) (K:PV->Prop):ev g s (.bin op .bl x y) K=gG g (vx s x) λp=>gG g (vx s y) λq=>Zm op K p q:=by
 simp only[ev,jD];congr 1
theorem SR (op:BinOp) (x y:AX) (K:PV->Prop):ev g s (.bin op .ptr x y) K=gG g (vx s x) λp=>gG g (vx s y) λq=>Zl s op K p q:=by
 simp only[ev,jD];congr 1;funext p;congr 1;funext q;cases p<;>cases q<;>simp only[pq,Zl]<;>first|rfl|(unfold dV;(repeat' split)<;>simp_all;done)
theorem SS (op:BinOp) (sh:Sh) (x y:AX) (K:PV->Prop):ev g s (.bin op (.sh sh) x y) K=gG g (vx s x) λp=>gG g (vx s y) λq=>(fits sh p=true∧fits sh q=true)∧sc op (PV.beq p q) K:=by
 simp only[ev,jD];congr 1
def pL (K:Int->Prop):PV->Prop
 | .int _ n=>K n
 |_=>False
theorem nG (p:PV) (K:Int->Prop):mS p K=pL K p:=by cases p<;>rfl
def unK (op:UnOp) (K:PV->Prop):PV->Prop
 | .bl b=>(match op with| .not=>K (.bl (!b))|_=>False)
 | .int k n=>(match op with| .neg=>K (.int k (k.wrap (0-n)))| .xor=>K (.int k (bits .xor k (if k.signed then-1 else k.max) n))|_=>False)
 |_=>False
theorem agi (op:UnOp) (x:AX) (K:PV->Prop):ev g s (.un op x) K=gG g (vx s x) (unK op K):=by
 simp only[ev,jD];congr 1;funext p;cases p<;>cases op<;>rfl
def zo (s:St) (K:Nat->List PV->Prop):PV->Prop
 | .sl sz l _=>K sz l
 |
  .rs k p off len aQ sz _=>dV (get s.bx k) λ
  | .arr dR l=>(aQ=l.length∧p=[]∧sz=dR∧off+len≤l.length)∧K sz ((l.drop off).take len)
  |
   .box v=>dV (bf v p) λ
   | .ar dR n l=>(aQ=0∧sz=dR∧off+len≤n)∧K sz ((l.drop off).take len)
   |_=>False
  | .map .. =>False
 |_=>False
theorem rf (p:PV) (K:Nat->List PV->Prop):content s p K=zo s K p:=by
 cases p<;>simp only[content,zo]
 rename_i k p off len aQ sz c
 cases get s.bx k with
 |none=>rfl
 |
  some b=>
  cases b with
  |arr dR l=>rfl
  |
   box v=>
   simp only[An]
   cases bf v p with
   |none=>rfl
   |some u=>cases u<;>rfl
  |map b ks vs l=>rfl
theorem Nn (x:AX) (K:PV->Prop):ev g s (.convS x) K=gG g (vx s x) (zo s λsz l=>sz=1∧dV (ij l) λbs=>K (.str bs)):=by
 simp only[ev,jD];congr 1;funext p;rw[rf];congr 1;funext sz l;cases ij l<;>rfl
def wZ (s:St) (i off:Nat) (K:PV->Prop):PV->Prop
 | .pt k p aQ=>dV (get s.bx k) λblk=>aQ=blk.aQ∧K (.pt k (p++[.f i off]) aQ)
 | .fp sz l p=>K (.fp sz l (p++[.f i off]))
 |_=>False
theorem JV (i off:Nat) (x:AX) (K:PV->Prop):ev g s (.fieldA i off x) K=gG g (vx s x) (wZ s i off K):=by
 simp only[ev,jD];congr 1;funext p;cases p<;>simp only[wZ]<;>first|rfl|(unfold dV;(repeat' split)<;>simp_all;done)
def SU (s:St) (n sz:Nat) (K:PV->Prop):PV->Prop
 | .sl dR l _=>(dR=sz∧0<n∧n≤l.length)∧K (.fp sz l [.w 0 n sz])
 | .rs k p off len aQ dR _=>dV (get s.bx k) λblk=>(aQ=blk.aQ∧dR=sz∧0<n∧n≤len)∧K (.pt k (p++[.w off n sz]) aQ)
 |_=>False
theorem Zn (n sz:Nat) (x:AX) (K:PV->Prop):ev g s (.s2a n sz x) K=gG g (vx s x) (SU s n sz K):=by
 simp only[ev,jD];congr 1;funext p;cases p<;>simp only[SU]<;>first|rfl|(unfold dV;(repeat' split)<;>simp_all;done)
def JW (i off:Nat) (agg:Bool) (w:Nat) (K:PV->Prop):PV->Prop
 | .st _ l=>dV l[i]? λc=>(av (l.take i)=off∧c.width=w∧c.isAgg=agg)∧K c
 |_=>False
theorem No (i off:Nat) (agg:Bool) (w:Nat) (x:AX) (K:PV->Prop):ev g s (.field i off agg w x) K=gG g (vx s x) (JW i off agg w K):=by
 simp only[ev,jD];congr 1;funext p;cases p<;>simp only[JW]<;>first|rfl|(unfold dV;(repeat' split)<;>simp_all;done)
def nH (s:St) (sz:Nat) (j:Int) (K:PV->Prop):PV->Prop
 | .sl dR l _=>(dR=sz∧0≤j∧j<l.length)∧K (.fp sz l [.i j.toNat sz])
 | .rs k p off len aQ dR _=>dV (get s.bx k) λblk=>(aQ=blk.aQ∧dR=sz∧0≤j∧j<len)∧K (.pt k (p++[.i (off+j.toNat) sz]) aQ)
 |_=>False
theorem C2 (sz:Nat) (x i:AX) (K:PV->Prop):ev g s (.indexA (.sl sz) x i) K=gG g (vx s x) λp=>gG g (vx s i) (pL λj=>nH s sz j K p):=by
 simp only[ev,jD,nG];congr 1;funext p;congr 1;funext q;congr 1;funext j;cases p<;>simp only[nH]<;>first|rfl|(unfold dV;(repeat' split)<;>simp_all;done)
def JX (s:St) (sz:Nat) (j:Int) (K:PV->Prop):PV->Prop
 | .pt k p aQ=>dV (get s.bx k) λblk=>aQ=blk.aQ∧K (.pt k (p++[.i j.toNat sz]) aQ)
 | .fp dR l p=>K (.fp dR l (p++[.i j.toNat sz]))
 |_=>False
theorem C3 (n sz:Nat) (x i:AX) (K:PV->Prop):ev g s (.indexA (.ar n sz) x i) K=gG g (vx s x) λp=>gG g (vx s i) (pL λj=>(0≤j∧j<n)∧JX s sz j K p):=by
 simp only[ev,jD,nG];congr 1;funext p;congr 1;funext q;congr 1;funext j;cases p<;>simp only[JX]<;>first|rfl|(unfold dV;(repeat' split)<;>simp_all;done)
@[congr] theorem Zo {s s':St} {sz:Nat} {j j':Int} {K:PV->Prop} {p p':PV} (h:s=s') (h1:j=j') (h2:p=p'):nH s sz j K p=nH s' sz j' K p':=by subst h h1 h2;rfl
def Zp (agg:Bool) (n w:Nat) (j:Int) (K:PV->Prop):PV->Prop
 | .ar sz n' l=>dV l[j.toNat]? λc=>(0≤j∧j<n∧n'=n∧sz=w∧c.isAgg=agg)∧K c
 |_=>False
theorem Np (agg:Bool) (n w:Nat) (x i:AX) (K:PV->Prop):ev g s (.index agg n w x i) K=gG g (vx s x) λp=>gG g (vx s i) (pL λj=>Zp agg n w j K p):=by
 simp only[ev,jD,nG];congr 1;funext p;congr 1;funext q;congr 1;funext j;cases p<;>simp only[Zp]<;>first|rfl|(unfold dV;(repeat' split)<;>simp_all;done)
def SV (j:Int) (K:PV->Prop):PV->Prop
 | .str bs=>dV bs[j.toNat]? λc=>0≤j∧K (.int .u8 c.toNat)
 |_=>False
theorem JY (x i:AX) (K:PV->Prop):ev g s (.indexS x i) K=gG g (vx s x) λp=>gG g (vx s i) (pL λj=>SV j K p):=by
 simp only[ev,jD,nG];congr 1;funext p;congr 1;funext q;congr 1;funext j;cases p<;>simp only[SV]<;>first|rfl|(unfold dV;(repeat' split)<;>simp_all;done)
def JZ (i:Nat) (K:PV->Prop):PV->Prop
 | .tup l=>dV l[i]? K
 |_=>False
@[congr] theorem ad5 {i:Nat} {K:PV->Prop} {p p':PV} (h:p=p'):JZ i K p=JZ i K p':=by subst h;rfl
theorem HP (i:Nat) (x:AX) (K:PV->Prop):ev g s (.extract i x) K=JZ i K (vx s x):=by
 simp only[ev];cases vx s x<;>simp only[JZ]<;>first|rfl|(unfold dV;(repeat' split)<;>simp_all;done)
def uZ (s:St) (K:PV->Prop):PV->Prop
 | .sl _ l _=>K (.int .i64 l.length)
 | .rs k _ _ len aQ _ _=>dV (get s.bx k) λblk=>aQ=blk.aQ∧K (.int .i64 len)
 |_=>False
theorem Zq (x:AX) (K:PV->Prop):ev g s (.len x) K=gG g (vx s x) (uZ s K):=by
 simp only[ev,jD];congr 1;funext p;cases p<;>simp only[uZ]<;>first|rfl|(unfold dV;(repeat' split)<;>simp_all;done)
end Go.Ab
namespace Go.Ab
variable [eJ]
variable {P:Program} {s:St} {g:Bool}
def Qi (s:St) (g:Bool) (lo hi mx:Option AX) (K:PV->Prop):PV->Prop
 | .str bs=>mx.isNone=true∧jh g s lo hi bs.length bs.length λl h=>K (.str ((bs.take h).drop l))
 |_=>False
theorem C4 (x:AX) (lo hi mx:Option AX) (K:PV->Prop):ev g s (.slice .str x lo hi mx) K=gG g (vx s x) (Qi s g lo hi mx K):=by
 simp only[ev,jD];congr 1
def SW (s:St) (g:Bool) (n sz:Nat) (lo hi mx:Option AX) (K:PV->Prop):PV->Prop
 | .ar z' n' l'=>(z'=sz∧n'=n∧mx.isNone=true)∧jh g s lo hi n n λa b=>K (.sl sz ((l'.take b).drop a) (decide (b=n)))
 |_=>False
def Nq (s:St) (g:Bool) (n sz:Nat) (lo hi mx:Option AX) (K:PV->Prop):PV->Prop
 | .pt k p aQ=>dV (get s.bx k) λblk=>aQ=blk.aQ∧mx.isNone=true∧jh g s lo hi n n λa b=>K (.rs k p a (b-a) aQ sz (if b=n then .clip else .any))
 | .fp z l q=>dV (jN (.arr z l) q) (SW s g n sz lo hi mx K)
 |_=>False
theorem EO (n sz:Nat) (x:AX) (lo hi mx:Option AX) (K:PV->Prop):ev g s (.slice (.ar n sz) x lo hi mx) K=gG g (vx s x) (Nq s g n sz lo hi mx K):=by
 simp only[ev,jD];congr 1;funext p;cases p<;>simp only[Nq]<;>first|rfl|(unfold dV;(repeat' split)<;>simp_all;done)|(rename_i z l q;cases jN (.arr z l) q with|none=>rfl|some u=>cases u<;>rfl)
def rF (s:St) (g:Bool) (sz:Nat) (lo hi:Option AX) (K:PV->Prop):PV->Prop
 | .sl dR l clip=>jh g s lo hi l.length l.length λa b=>(dR=sz)∧K (.sl sz ((l.take b).drop a) (clip&&decide (b=l.length)))
 | .rs k p off len aQ dR c=>dV (get s.bx k) λblk=>(aQ=blk.aQ∧dR=sz)∧jh g s lo hi len (Cr c off len aQ) λa b=>K (.rs k p (off+a) (b-a) aQ sz (Eh c a (decide (b=len))))
 |_=>False
theorem EP (sz:Nat) (x:AX) (lo hi:Option AX) (K:PV->Prop):ev g s (.slice (.sl sz) x lo hi none) K=gG g (vx s x) (rF s g sz lo hi K):=by
 simp only[ev,jD];congr 1;funext p;cases p<;>simp only[rF]<;>first|rfl|(unfold dV;(repeat' split)<;>simp_all;done)
@[simp] theorem Zr (a:Nat) (e:Bool):Eh .tip a e= .tip:=_root_.id rfl
def J0 (s:St) (g:Bool) (sz:Nat) (lo hi:Option AX) (m:AX) (K:PV->Prop):PV->Prop
 | .sl dR l _=>gG g (vx s m) (pL λm=>(0≤m∧m≤l.length)∧jh g s lo hi l.length m.toNat λa b=>(dR=sz)∧K (.sl sz ((l.take b).drop a) (decide (b=m.toNat))))
 | .rs k p off len aQ dR _=>dV (get s.bx k) λblk=>(aQ=blk.aQ∧dR=sz)∧gG g (vx s m) (pL λm=>(0≤m∧m≤len)∧jh g s lo hi len m.toNat λa b=>K (.rs k p (off+a) (b-a) aQ sz (if b=m.toNat then .clip else .any)))
 |_=>False
theorem ER (sz:Nat) (x:AX) (lo hi:Option AX) (m:AX) (K:PV->Prop):ev g s (.slice (.sl sz) x lo hi (some m)) K=gG g (vx s x) (J0 s g sz lo hi m K):=by
 simp only[ev,jD];congr 1;funext p;cases p<;>simp only[J0,nG]<;>first|rfl|(unfold dV;(repeat' split)<;>simp_all;done)
def HQ (g:Bool) (s:St) (lo:Option AX) (K:Nat->Nat->Prop) (h:Nat):Prop:=
 match lo with|none=>K 0 h|some x=>gG g (vx s x) (pL λl=>(0≤l∧l≤h)∧K l.toNat h)
theorem J1 (lo:Option AX) (len cap:Nat) (K:Nat->Nat->Prop):jh g s lo none len cap K=HQ g s lo K len:=by
 cases lo<;>simp only[jh,HQ,jD,nG]
theorem J2 (lo:Option AX) (x:AX) (len cap:Nat) (K:Nat->Nat->Prop):jh g s lo (some x) len cap K=gG g (vx s x) (pL λh=>(0≤h∧h≤cap)∧HQ g s lo K h.toNat):=by
 cases lo<;>simp only[jh,HQ,jD,nG]
end Go.Ab
namespace Go.Ab
variable [eJ]
variable {P:Program} {s:St} {g:Bool}
def Nr (s:St) (sz:Nat) (K:List PV->Prop) (q:PV):Prop:=zo s (λdR ys=>(ys=[]∨dR=sz)∧K ys) q
theorem Qj (sz:Nat) (q:PV) (K:List PV->Prop):src s false sz q K=Nr s sz K q:=by simp only[src,fJ,if_false,Nr,rf]
def Zs (sz:Nat) (K:List PV->Prop):PV->Prop
 | .str bs=>sz=1∧K (bs.map u8)
 |_=>False
theorem J3 (sz:Nat) (q:PV) (K:List PV->Prop):src s true sz q K=Zs sz K q:=by simp only[src,if_true];cases q<;>rfl
theorem J4 (d:Option Nat) (sz bytes:Nat) (str:Bool) (x y:AX) (K:St->Prop):ex s d (.append sz bytes str x y) K=gG true (vx s x) λp=>gG true (vx s y) λq=>src s str sz q λys=>ic s d sz bytes p ys K:=by
 simp only[ex,jD]
theorem Ns (k:Nat) (z:PV) (K:St->Prop):ex s (some k) (.alloc z) K=(get s.bx k=none∧K {env:=put s.env k (.pt k [] 0),bx:=put s.bx k (.box z)}):=id rfl
theorem Zt (k:Nat) (x:AX) (K:St->Prop):ex s (some k) (.box x) K=gG true (vx s x) λp=>(get s.bx k=none∧p.bG=true)∧K {env:=put s.env k (.pt k [] 0),bx:=put s.bx k (.box p)}:=by
 simp only[ex,jD]
theorem yd (d:Option Nat) (sz n:Nat) (z:PV) (parts:List (Nat×AX)) (K:St->Prop):ex s d (.buildSlice false sz z n parts) K=y9 true s parts λps=>dV (eh (List.replicate n z) (ps.map λx=>(x.1,wk x.2))) λl=>K (s.put d (.sl sz l true)):=by
 simp only[ex,fJ,if_false];congr 1;funext ps;cases eh (List.replicate n z) (ps.map λx=>(x.1,wk x.2))<;>rfl
theorem ye (k:Nat) (sz n:Nat) (z:PV) (parts:List (Nat×AX)) (K:St->Prop):ex s (some k) (.buildSlice true sz z n parts) K=y9 true s parts λps=>dV (eh (List.replicate n z) (ps.map λx=>(x.1,wk x.2))) λl=>get s.bx k=none∧K {env:=put s.env k (.rs k [] 0 n n sz .tip),bx:=put s.bx k (.arr sz l)}:=by
 simp only[ex,if_true];congr 1;funext ps;cases eh (List.replicate n z) (ps.map λx=>(x.1,wk x.2))<;>rfl
def Qk (s:St) (d k len aQ sz dR bytes:Nat) (ys:List PV) (K:St->Prop):bX->Prop
 | .arr sz'' l=>(aQ=l.length∧len=l.length∧dR=sz∧sz''=sz∧(l.length+ys.length)*bytes≤140737488355328∧l.length+ys.length≤9223372036854775807)∧
   K {env:=put s.env d (.rs k [] 0 (l.length+ys.length) (l.length+ys.length) sz .tip),bx:=put s.bx k (.arr sz (l++ys))}
 |_=>False
theorem
    Nt (d sz bytes sz0:Nat) (l ys:List PV) (K:St->Prop):ic s (some d) sz bytes (.sl sz0 l true) ys K=((get s.bx d=none∧(l=[]∨(sz0=sz∧ys≠[]))∧(l.length+ys.length)*bytes≤140737488355328∧l.length+ys.length≤9223372036854775807)∧
    K {env:=put s.env d (.rs d [] 0 (l.length+ys.length) (l.length+ys.length) sz .tip),bx:=put s.bx d (.arr sz (l++ys))}):=rfl
theorem J5 (d sz bytes k len aQ dR:Nat) (ys:List PV) (K:St->Prop):ic s (some d) sz bytes (.rs k [] 0 len aQ dR .tip) ys K=dV (get s.bx k) (Qk s d k len aQ sz dR bytes ys K):=by
 simp only[ic]
 cases get s.bx k with
 |none=>rfl
 |some b=>cases b<;>rfl
def SX (s:St) (d k len aQ n sz dR bytes:Nat) (ys:List PV) (K:St->Prop):bX->Prop
 | .arr sz'' l=>(aQ=l.length∧dR=sz∧sz''=sz∧len≤n∧n≤l.length∧ys≠[]∧get s.bx d=none∧(len+ys.length)*bytes≤140737488355328∧len+ys.length≤9223372036854775807)∧
    (len+ys.length≤n->K {env:=put s.env d (.rs k [] 0 (len+ys.length) aQ sz (.full n)),bx:=put s.bx k (.arr sz (l.take len++ys++l.drop (len+ys.length)))})∧
    (n<len+ys.length->K {env:=put s.env d (.rs d [] 0 (len+ys.length) (len+ys.length) sz .tip),bx:=put s.bx d (.arr sz (l.take len++ys))})
 |_=>False
theorem HR (d sz bytes k len aQ dR n:Nat) (ys:List PV) (K:St->Prop):ic s (some d) sz bytes (.rs k [] 0 len aQ dR (.full n)) ys K=dV (get s.bx k) (SX s d k len aQ n sz dR bytes ys K):=by
 simp only[ic]
 cases get s.bx k with
 |none=>rfl
 |some b=>cases b<;>rfl
def apZ (s:St) (d k len aQ n sz dR bytes:Nat) (z:PV) (m:Int) (K:St->Prop):bX->Prop
 | .arr sz'' l=>(get s.bx d=none∧aQ=l.length∧dR=sz∧sz''=sz∧len≤n∧n≤l.length∧0<m∧n<len+m.toNat∧(len+m.toNat)*bytes≤140737488355328∧len+m.toNat≤9223372036854775807)∧
    K {env:=put s.env d (.rs d [] 0 (len+m.toNat) (len+m.toNat) sz .tip),bx:=put s.bx d (.arr sz (l.take len++List.replicate m.toNat z))}
 |_=>False
theorem ES (d sz bytes k len aQ dR n:Nat) (z:PV) (m:Int) (K:St->Prop):ny s (some d) sz bytes z (.rs k [] 0 len aQ dR (.full n)) m K=dV (get s.bx k) (apZ s d k len aQ n sz dR bytes z m K):=by
 simp only[ny]
 cases get s.bx k with
 |none=>rfl
 |some b=>cases b<;>rfl
theorem HS (d:Option Nat) (sz bytes:Nat) (z:PV) (x y:AX) (K:St->Prop):ex s d (.appendZ sz bytes z x y) K=gG true (vx s x) λp=>gG true (vx s y) (pL λm=>ny s d sz bytes z p m K):=by
 simp only[ex,jD,nG]
theorem
    HT (d sz bytes k off len aQ dR:Nat) (p:List Step) (ys:List PV) (K:St->Prop):ic s (some d) sz bytes (.rs k p off len aQ dR .clip) ys K=zo s (λsz'' l=>(get s.bx d=none∧sz''=sz∧ys≠[]∧(l.length+ys.length)*bytes≤140737488355328∧l.length+ys.length≤9223372036854775807)∧
    K {env:=put s.env d (.rs d [] 0 (l.length+ys.length) (l.length+ys.length) sz .tip),bx:=put s.bx d (.arr sz (l++ys))}) (.rs k p off len aQ dR .clip):=by
 rw[←rf]
 cases p<;>cases off<;>rfl
end Go.Ab
namespace Go.Ab
variable [eJ]
variable {P:Program} {s:St} {g:Bool} [ji]
def EU (s:St) (n:Nat) (v:PV) (K:St->Prop):PV->Prop
 | .pt k pth aQ=>dV (get s.bx k) λblk=>dV (qu blk pth (SA blk v)) λcI=>(aQ=blk.aQ∧v.width=n∧v.bG=true)∧K {s with bx:=put s.bx k cI}
 |_=>False
theorem Nu (d:Option Nat) (n:Nat) (x y:AX) (K:St->Prop):ex s d (.store n x y) K=gG true (vx s x) λp=>gG true (vx s y) λv=>EU s n v K p:=by
 simp only[ex,jD];congr 1;funext p;congr 1;funext v
 cases p<;>simp only[EU]
 rename_i k pth aQ
 cases get s.bx k with
 |none=>rfl
 |some b=>simp only[An];cases qu b pth (SA b v)<;>rfl
def J6 (s:St) (d:Option Nat) (ng:Bool) (K:St->Prop):PV->Prop
 | .sl _ l _=>∀b:Bool,(b=true->l=[])->K (s.put d (.bl (b !=ng)))
 | .rs k _ _ len aQ _ _=>dV (get s.bx k) λblk=>aQ=blk.aQ∧∀b:Bool,(b=true->len=0)->K (s.put d (.bl (b !=ng)))
 |_=>False
theorem Nv (d:Option Nat) (ng:Bool) (x:AX) (K:St->Prop):ex s d (.isNil ng x) K=gG true (vx s x) (J6 s d ng K):=by
 simp only[ex,jD];congr 1;funext p
 cases p<;>simp only[J6]
 rename_i k _ _ _ _ _ _
 cases get s.bx k<;>rfl
theorem C5 (k sz bytes:Nat) (z:PV) (len cap:AX) (K:St->Prop):ex s (some k) (.makeSlice sz bytes z len cap) K=gG true (vx s len) (pL λl=>gG true (vx s cap) (pL λc=>
  (get s.bx k=none∧0≤l∧l≤c∧c*bytes≤281474976710656∧c≤9223372036854775807)∧
    K {env:=put s.env k (.rs k [] 0 l.toNat l.toNat sz .tip),bx:=put s.bx k (.arr sz (List.replicate l.toNat z))})):=by
 simp only[ex,jD,nG]
def w6 (want mg:Bool) (M:Bool->Prop) (D U:Prop):PV->Prop
 | .bl b=>if mg=true then M (b==want)else(b=want->D)∧(b≠want->U)
 | .gd g (.bl b)=>if mg=true then M (g&&b==want)else(g=true->b=want->D)∧((g=true->b≠want)->U)
 |_=>False
@[congr] theorem agj {want mg:Bool} {M:Bool->Prop} {D U:Prop} {p p':PV} (h:p=p'):w6 want mg M D U p=w6 want mg M D U p':=by subst h;rfl
theorem Nw (d:Option Nat) (sl:Nat) (want mg:Bool) (k:AK) (K:St->Prop):iu P s ⟨d,some (sl,want),mg,k⟩ K=
  w6 want mg (λg=>ev g s k λp=>K (s.put d (.gd g p))) (kI P s ⟨d,some (sl,want),mg,k⟩ K) (K (s.put d .un)) ((get s.env sl).getD .un):=by
 simp only[iu]
 generalize (get s.env sl).getD .un=p
 cases p<;>try rfl
def Nx (A B:Prop):PV->Prop
 | .bl b=>(b=true->A)∧(b=false->B)
 | .gd g (.bl b)=>g=true∧(b=true->A)∧(b=false->B)
 |_=>False
@[congr] theorem agk {A B:Prop} {p p':PV} (h:p=p'):Nx A B p=Nx A B p':=by subst h;rfl
theorem SY (c:AX) (x y:dT) (Q:Exit->St->Prop):aw P (.cond c x y) Q s=Nx (aw P x Q s) (aw P y Q s) (vx s c):=by
 simp only[aw]
 generalize vx s c=p
 cases p<;>try rfl
def Zu (P:Program) (s:St) (d:Option Nat) (K:St->Prop) (args:List PV):PV->Prop
 | .fn (.func fid) first cap=>∃ks os,tm P s d fid (first++args++cap) ks os K
 | .fn (.yield l) [] []=>Eo s d l args K
 |_=>False
theorem Ny (K:List PV->Prop):sY g s [] K=K []:=id rfl
theorem Nz (x:AX) (xs:List AX) (K:List PV->Prop):sY g s (x::xs) K=gG g (vx s x) λp=>sY g s xs λps=>K (p::ps):=by simp only[sY,jD]
theorem NA (K:List (Nat×PV)->Prop):y9 g s [] K=K []:=id rfl
theorem NB (i:Nat) (x:AX) (xs:List (Nat×AX)) (K:List (Nat×PV)->Prop):y9 g s ((i,x)::xs) K=gG g (vx s x) λp=>y9 g s xs λps=>K ((i,p)::ps):=by simp only[y9,jD]
theorem NC (d:Option Nat) (f:AX) (args:List AX) (K:St->Prop):lh P s d f args K=gG true (vx s f) λpf=>sY true s args λps=>Zu P s d K ps pf:=by
 simp only[lh,jD];congr 1
end Go.Ab
namespace Go.Ab
variable [eJ]
@[simp↓] theorem agl {g:Bool} {K:PV->Prop} (cx:Bool):gG g (.bl cx) K=K (.bl cx):=id rfl
@[simp↓] theorem ad6 {g:Bool} {K:PV->Prop} (ck:IntKind) (cn:Int):gG g (.int ck cn) K=K (.int ck cn):=id rfl
@[simp↓] theorem ad7 {g:Bool} {K:PV->Prop} (cl:List UInt8):gG g (.str cl) K=K (.str cl):=id rfl
@[simp↓] theorem agm {g:Bool} {K:PV->Prop} (cw:Nat) (cl:List PV):gG g (.st cw cl) K=K (.st cw cl):=id rfl
@[simp↓] theorem agn {g:Bool} {K:PV->Prop} (cz cn:Nat) (cl:List PV):gG g (.ar cz cn cl) K=K (.ar cz cn cl):=id rfl
@[simp↓] theorem ad8 {g:Bool} {K:PV->Prop} (cl:List PV):gG g (.tup cl) K=K (.tup cl):=id rfl
@[simp↓] theorem ago {g:Bool} {K:PV->Prop} (cz:Nat) (cl:List PV) (cc:Bool):gG g (.sl cz cl cc) K=K (.sl cz cl cc):=id rfl
@[simp↓] theorem agp {g:Bool} {K:PV->Prop} (ck:Nat) (cp:List Step) (co cl ct cz:Nat) (cc:kY):gG g (.rs ck cp co cl ct cz cc) K=K (.rs ck cp co cl ct cz cc):=id rfl
@[simp↓] theorem agq {g:Bool} {K:PV->Prop}:gG g .np K=K .np:=id rfl
@[simp↓] theorem agr {g:Bool} {K:PV->Prop} (ck:Nat) (cp:List Step) (ct:Nat):gG g (.pt ck cp ct) K=K (.pt ck cp ct):=id rfl
@[simp↓] theorem ags {g:Bool} {K:PV->Prop} (cz:Nat) (cl:List PV) (cp:List Step):gG g (.fp cz cl cp) K=K (.fp cz cl cp):=id rfl
@[simp↓] theorem agt {g:Bool} {K:PV->Prop} (cf:FuncId) (ca cb:List PV):gG g (.fn (.func cf) ca cb) K=K (.fn (.func cf) ca cb):=id rfl
@[simp↓] theorem agu {g:Bool} {K:PV->Prop} (cb:Bool) (cv:PV):gG g (.gd cb cv) K=((g=true->cb=true)∧K cv):=id rfl
@[simp↓] theorem Zv {s:St} {agg:Bool} {w:Nat} {K:PV->Prop} (ck:Nat) (cp:List Step) (ct:Nat):Gj s agg w K (.pt ck cp ct)=(dV (get s.bx ck) λblk=>dV (jN blk cp) λu=>(ct=blk.aQ∧u.width=w∧u.isAgg=agg)∧K u):=id rfl
@[simp↓] theorem Zw {s:St} {agg:Bool} {w:Nat} {K:PV->Prop} (cz:Nat) (cl:List PV) (cp:List Step):Gj s agg w K (.fp cz cl cp)=(dV (jN (.arr cz cl) cp) λu=>(u.width=w∧u.isAgg=agg)∧K u):=id rfl
@[simp↓] theorem ad9 {s:St} {K:PV->Prop} (ck:Nat) (cp:List Step) (ct:Nat):SO s K (.pt ck cp ct)=(dV (get s.bx ck) λblk=>ct=blk.aQ∧K (.pt ck cp ct)):=id rfl
@[simp↓] theorem WJ {ps:List (Nat×PV)} {K:PV->Prop} (cw:Nat) (cl:List PV):Bv ps K (.st cw cl)=(dV (eh cl ps) λl'=>K (.st cw l')):=id rfl
@[simp↓] theorem WK {ps:List (Nat×PV)} {K:PV->Prop} (cz cn:Nat) (cl:List PV):Bv ps K (.ar cz cn cl)=(dV (eh cl ps) λl'=>K (.ar cz cn l')):=id rfl
@[simp↓] theorem Zx {K:Int->Prop} (ck:IntKind) (cn:Int):pL K (.int ck cn)=(K cn):=id rfl
@[simp↓] theorem aea {s:St} {K:Nat->List PV->Prop} (cz:Nat) (cl:List PV) (cc:Bool):zo s K (.sl cz cl cc)=(K cz cl):=id rfl
@[simp↓] theorem SZ {s:St} {i off:Nat} {K:PV->Prop} (ck:Nat) (cp:List Step) (ct:Nat):wZ s i off K (.pt ck cp ct)=(dV (get s.bx ck) λblk=>ct=blk.aQ∧K (.pt ck (cp++[.f i off]) ct)):=id rfl
@[simp↓] theorem S0 {s:St} {i off:Nat} {K:PV->Prop} (cz:Nat) (cl:List PV) (cp:List Step):wZ s i off K (.fp cz cl cp)=(K (.fp cz cl (cp++[.f i off]))):=id rfl
@[simp↓] theorem aeb {s:St} {n sz:Nat} {K:PV->Prop} (cz:Nat) (cl:List PV) (cc:Bool):SU s n sz K (.sl cz cl cc)=((cz=sz∧0<n∧n≤cl.length)∧K (.fp sz cl [.w 0 n sz])):=id rfl
@[simp↓] theorem Zy {s:St} {sz:Nat} {j:Int} {K:PV->Prop} (cz:Nat) (cl:List PV) (cc:Bool):nH s sz j K (.sl cz cl cc)=((cz=sz∧0≤j∧j<cl.length)∧K (.fp sz cl [.i j.toNat sz])):=id rfl
@[simp↓] theorem Zz {s:St} {sz:Nat} {j:Int} {K:PV->Prop} (ck:Nat) (cp:List Step) (co cl ct cz:Nat) (cc:kY):nH s sz j K (.rs ck cp co cl ct cz cc)=(dV (get s.bx ck) λblk=>(ct=blk.aQ∧cz=sz∧0≤j∧j<cl)∧K (.pt ck (cp++[.i (co+j.toNat) sz]) ct)):=id rfl
@[simp↓] theorem ZA {s:St} {sz:Nat} {j:Int} {K:PV->Prop} (ck:Nat) (cp:List Step) (ct:Nat):JX s sz j K (.pt ck cp ct)=(dV (get s.bx ck) λblk=>ct=blk.aQ∧K (.pt ck (cp++[.i j.toNat sz]) ct)):=id rfl
@[simp↓] theorem ZB {j:Int} {K:PV->Prop} (cl:List UInt8):SV j K (.str cl)=(dV cl[j.toNat]? λc=>0≤j∧K (.int .u8 c.toNat)):=id rfl
@[simp↓] theorem ZC {i:Nat} {K:PV->Prop} (cl:List PV):JZ i K (.tup cl)=(dV cl[i]? K):=id rfl
@[simp↓] theorem aec {s:St} {K:PV->Prop} (cz:Nat) (cl:List PV) (cc:Bool):uZ s K (.sl cz cl cc)=(K (.int .i64 cl.length)):=id rfl
@[simp↓] theorem aed {s:St} {K:PV->Prop} (ck:Nat) (cp:List Step) (co cl ct cz:Nat) (cc:kY):uZ s K (.rs ck cp co cl ct cz cc)=(dV (get s.bx ck) λblk=>ct=blk.aQ∧K (.int .i64 cl)):=id rfl
@[simp↓] theorem WL {s:St} {g:Bool} {lo hi mx:Option AX} {K:PV->Prop} (cl:List UInt8):Qi s g lo hi mx K (.str cl)=(mx.isNone=true∧jh g s lo hi cl.length cl.length λl h=>K (.str ((cl.take h).drop l))):=id rfl
@[simp↓] theorem aee {s:St} {g:Bool} {n sz:Nat} {lo hi mx:Option AX} {K:PV->Prop} (cz:Nat) (cl:List PV) (cp:List Step):Nq s g n sz lo hi mx K (.fp cz cl cp)=dV (jN (.arr cz cl) cp) (SW s g n sz lo hi mx K):=id rfl
@[simp↓] theorem aef {s:St} {g:Bool} {n sz:Nat} {lo hi mx:Option AX} {K:PV->Prop} (z' n':Nat) (l':List PV):SW s g n sz lo hi mx K (.ar z' n' l')=((z'=sz∧n'=n∧mx.isNone=true)∧jh g s lo hi n n λa b=>K (.sl sz ((l'.take b).drop a) (decide (b=n)))):=id rfl
@[simp↓] theorem aeg {s:St} {g:Bool} {n sz:Nat} {lo hi mx:Option AX} {K:PV->Prop} (ck:Nat) (cp:List Step) (ct:Nat):Nq s g n sz lo hi mx K (.pt ck cp ct)=(dV (get s.bx ck) λblk=>ct=blk.aQ∧mx.isNone=true∧jh g s lo hi n n λa b=>K (.rs ck cp a (b-a) ct sz (if b=n then .clip else .any))):=id rfl
@[simp↓] theorem WM {s:St} {n:Nat} {v:PV} {K:St->Prop} (ck:Nat) (cp:List Step) (ct:Nat):EU s n v K (.pt ck cp ct)=(dV (get s.bx ck) λblk=>dV (qu blk cp (SA blk v)) λcI=>(ct=blk.aQ∧v.width=n∧v.bG=true)∧K {s with bx:=put s.bx ck cI}):=id rfl
@[simp↓500] theorem agv {A B:Prop} (cx:Bool):Nx A B (.bl cx)=((cx=true->A)∧(cx=false->B)):=id rfl
@[simp↓] theorem ZD {s:St} {a b:AX} {K:PV->Prop} (cx:Bool):Qh s a b K (.bl cx)=(tO cx K (vx s a) (vx s b)):=id rfl
end Go.Ab
namespace Go.Ab
variable [eJ]
variable {P:Program} {s:St} {g:Bool}
theorem agw (x:AX) (K:PV->Prop):ev g s (.mv x) K=gG g (vx s x) K:=by simp only[ev,jD]
theorem ND (k:IntKind) (x:AX) (K:PV->Prop):ev g s (.convI k x) K=gG g (vx s x) (pL λn=>K (.int k (k.wrap n))):=by simp only[ev,jD,nG]
theorem S1 (n:Nat) (K:PV->Prop):ev g s (.lenC n) K=K (.int .i64 n):=id rfl
end Go.Ab
namespace Go.Ab
variable [eJ]
variable {P:Program} {s:St} [ji]
@[simp↓] theorem agx (d:Option Nat) (gd:Option (Nat×Bool)) (mg:Bool) (x:AX) (K:St->Prop):kI P s ⟨d,gd,mg,.mv x⟩ K=ev true s (.mv x) λp=>K (s.put d p):=id rfl
@[simp↓] theorem ZE (d:Option Nat) (gd:Option (Nat×Bool)) (mg:Bool) (c a b:AX) (K:St->Prop):kI P s ⟨d,gd,mg,.pick c a b⟩ K=ev true s (.pick c a b) λp=>K (s.put d p):=id rfl
@[simp↓] theorem WN (d:Option Nat) (gd:Option (Nat×Bool)) (mg:Bool) (z:PV) (ps:List (Nat×AX)) (K:St->Prop):kI P s ⟨d,gd,mg,.build z ps⟩ K=ev true s (.build z ps) λp=>K (s.put d p):=id rfl
@[simp↓] theorem ZF (d:Option Nat) (gd:Option (Nat×Bool)) (mg:Bool) (a:Bool) (w:Nat) (x:AX) (K:St->Prop):kI P s ⟨d,gd,mg,.load a w x⟩ K=ev true s (.load a w x) λp=>K (s.put d p):=id rfl
@[simp↓] theorem NF (d:Option Nat) (gd:Option (Nat×Bool)) (mg:Bool) (x:AX) (K:St->Prop):kI P s ⟨d,gd,mg,.nilCheck x⟩ K=ev true s (.nilCheck x) λp=>K (s.put d p):=id rfl
@[simp↓] theorem aeh (d:Option Nat) (gd:Option (Nat×Bool)) (mg:Bool) (o:BinOp) (e:ET) (x y:AX) (K:St->Prop):kI P s ⟨d,gd,mg,.bin o e x y⟩ K=ev true s (.bin o e x y) λp=>K (s.put d p):=id rfl
@[simp↓] theorem agy (d:Option Nat) (gd:Option (Nat×Bool)) (mg:Bool) (o:UnOp) (x:AX) (K:St->Prop):kI P s ⟨d,gd,mg,.un o x⟩ K=ev true s (.un o x) λp=>K (s.put d p):=id rfl
@[simp↓] theorem WO (d:Option Nat) (gd:Option (Nat×Bool)) (mg:Bool) (k:IntKind) (x:AX) (K:St->Prop):kI P s ⟨d,gd,mg,.convI k x⟩ K=ev true s (.convI k x) λp=>K (s.put d p):=id rfl
@[simp↓] theorem WQ (d:Option Nat) (gd:Option (Nat×Bool)) (mg:Bool) (x:AX) (K:St->Prop):kI P s ⟨d,gd,mg,.convS x⟩ K=ev true s (.convS x) λp=>K (s.put d p):=id rfl
@[simp↓] theorem S2 (d:Option Nat) (gd:Option (Nat×Bool)) (mg:Bool) (f:Fn) (a b:List AX) (K:St->Prop):kI P s ⟨d,gd,mg,.mkFunc f a b⟩ K=ev true s (.mkFunc f a b) λp=>K (s.put d p):=id rfl
@[simp↓] theorem WR (d:Option Nat) (gd:Option (Nat×Bool)) (mg:Bool) (k:SK) (x:AX) (l h m:Option AX) (K:St->Prop):kI P s ⟨d,gd,mg,.slice k x l h m⟩ K=ev true s (.slice k x l h m) λp=>K (s.put d p):=id rfl
@[simp↓] theorem S3 (d:Option Nat) (gd:Option (Nat×Bool)) (mg:Bool) (i o:Nat) (x:AX) (K:St->Prop):kI P s ⟨d,gd,mg,.fieldA i o x⟩ K=ev true s (.fieldA i o x) λp=>K (s.put d p):=id rfl
@[simp↓] theorem aei (d:Option Nat) (gd:Option (Nat×Bool)) (mg:Bool) (n z:Nat) (x:AX) (K:St->Prop):kI P s ⟨d,gd,mg,.s2a n z x⟩ K=ev true s (.s2a n z x) λp=>K (s.put d p):=id rfl
@[simp↓] theorem S4 (d:Option Nat) (gd:Option (Nat×Bool)) (mg:Bool) (k:SK) (x i:AX) (K:St->Prop):kI P s ⟨d,gd,mg,.indexA k x i⟩ K=ev true s (.indexA k x i) λp=>K (s.put d p):=id rfl
@[simp↓] theorem S5 (d:Option Nat) (gd:Option (Nat×Bool)) (mg:Bool) (x i:AX) (K:St->Prop):kI P s ⟨d,gd,mg,.indexS x i⟩ K=ev true s (.indexS x i) λp=>K (s.put d p):=id rfl
@[simp↓] theorem Ql (d:Option Nat) (gd:Option (Nat×Bool)) (mg:Bool) (i:Nat) (x:AX) (K:St->Prop):kI P s ⟨d,gd,mg,.extract i x⟩ K=ev true s (.extract i x) λp=>K (s.put d p):=id rfl
@[simp↓] theorem aej (d:Option Nat) (gd:Option (Nat×Bool)) (mg:Bool) (x:AX) (K:St->Prop):kI P s ⟨d,gd,mg,.len x⟩ K=ev true s (.len x) λp=>K (s.put d p):=id rfl
@[simp↓] theorem agz (d:Option Nat) (gd:Option (Nat×Bool)) (mg:Bool) (m:Bool) (xs:List AX) (K:St->Prop):kI P s ⟨d,gd,mg,.mm m xs⟩ K=ev true s (.mm m xs) λp=>K (s.put d p):=id rfl
@[simp↓] theorem WS (d:Option Nat) (gd:Option (Nat×Bool)) (mg:Bool) (z:PV) (K:St->Prop):kI P s ⟨d,gd,mg,.alloc z⟩ K=ex s d (.alloc z) K:=id rfl
@[simp↓] theorem aek (d:Option Nat) (gd:Option (Nat×Bool)) (mg:Bool) (x:AX) (K:St->Prop):kI P s ⟨d,gd,mg,.box x⟩ K=ex s d (.box x) K:=id rfl
@[simp↓] theorem J7 (d:Option Nat) (gd:Option (Nat×Bool)) (mg:Bool) (o:Bool) (sz:Nat) (z:PV) (n:Nat) (ps:List (Nat×AX)) (K:St->Prop):kI P s ⟨d,gd,mg,.buildSlice o sz z n ps⟩ K=ex s d (.buildSlice o sz z n ps) K:=id rfl
@[simp↓] theorem Mw (d:Option Nat) (gd:Option (Nat×Bool)) (mg:Bool) (sz b:Nat) (z:PV) (l c:AX) (K:St->Prop):kI P s ⟨d,gd,mg,.makeSlice sz b z l c⟩ K=ex s d (.makeSlice sz b z l c) K:=id rfl
@[simp↓] theorem WT (d:Option Nat) (gd:Option (Nat×Bool)) (mg:Bool) (w:Nat) (a x:AX) (K:St->Prop):kI P s ⟨d,gd,mg,.store w a x⟩ K=ex s d (.store w a x) K:=id rfl
@[simp↓] theorem S6 (d:Option Nat) (gd:Option (Nat×Bool)) (mg:Bool) (sz b:Nat) (st:Bool) (x y:AX) (K:St->Prop):kI P s ⟨d,gd,mg,.append sz b st x y⟩ K=ex s d (.append sz b st x y) K:=id rfl
@[simp↓] theorem ZG (d:Option Nat) (gd:Option (Nat×Bool)) (mg:Bool) (sz:Nat) (x y:AX) (K:St->Prop):kI P s ⟨d,gd,mg,.copy sz x y⟩ K=ex s d (.copy sz x y) K:=id rfl
@[simp↓] theorem ZH (d:Option Nat) (gd:Option (Nat×Bool)) (mg:Bool) (sz:Nat) (z:PV) (x:AX) (K:St->Prop):kI P s ⟨d,gd,mg,.fill sz z x⟩ K=ex s d (.fill sz z x) K:=id rfl
@[simp↓] theorem ZI (d:Option Nat) (gd:Option (Nat×Bool)) (mg:Bool) (f:AX) (l:List AX) (K:St->Prop):kI P s ⟨d,gd,mg,.call f l⟩ K=lh P s d f l K:=id rfl
@[simp↓] theorem WU (d:Option Nat) (gd:Option (Nat×Bool)) (mg:Bool) (f:AX) (l:List AX) (K:St->Prop):kI P s ⟨d,gd,mg,.callq f l⟩ K=nB P s d f l K:=id rfl
end Go.Ab
namespace Go.Ab
variable [eJ]
variable {P:Program} {s:St}
theorem EV {d:Option Nat} {f:FuncId} {args:List PV} {R:PV->Prop} {K:St->Prop} (hA:ai P f args [] (λr fp=>R r∧fp=[])) (hp:cD args) (hr:∀r,R r->Pure r) (h:∀r,R r->K (s.put d r)):
  ∃ks os,tm P s d f args ks os K:=by
 refine⟨[],[],[],(λr fp=>R r∧fp=[]),rfl,by simp,by simp,hp.refs _,rfl,?_,?_⟩
 ·rw[hp.aB];exact hA
 ·rintro r fp ⟨hR,rfl⟩
  refine⟨⟨rfl,(hr r hR).refs _,rfl⟩,?_⟩
  rw[(hr r hR).aB]
  exact h r hR
theorem HU {d:Option Nat} {f:FuncId} {args:List PV} {sz:Nat} {R:List PV->Prop} {K:St->Prop} (o:Nat) (hA:ai P f args [] (λr fp=>∃l,R l∧r= .rs KB [] 0 l.length l.length sz .tip∧fp=[.arr sz l])) (hp:cD args) (ho:get s.bx o=none)
  (hl:∀l,R l->cD l) (h:∀l,R l->K ({s with bx:=put s.bx o (.arr sz l)}.put d (.rs o [] 0 l.length l.length sz .tip))):∃ks os,tm P s d f args ks os K:=by
 refine⟨[],[o],[],(λr fp=>∃l,R l∧r= .rs KB [] 0 l.length l.length sz .tip∧fp=[.arr sz l]),rfl,by simp,by simpa using ho,hp.refs _,rfl,?_,?_⟩
 ·rw[hp.aB];exact hA
 ·rintro r fp ⟨l,hR,rfl,rfl⟩
  have sZ:=hl l hR
  have e:dv [o] KB=o:=by simp[dv]
  refine⟨⟨rfl,by simp[ae,fj],by simp[af,sZ.refs]⟩,?_⟩
  simpa[bb,aE,sZ.aB,aB,e]using h l hR
end Go.Ab
namespace Go.Ab
variable [eJ]
variable {P:Program} {s:St} {g:Bool} [ji]
attribute [simp↓] SM Nl SN EN SR SP SQ SS nG agi rf Nn JV Zn No C2 C3 Np JY HP Zq
 C4 EO EP ER J1 J2 Qj J3 J4 Ns Zt yd ye Nt J5 HR ES HS HT
 Nu Nv C5 Ny Nz NA NB agw ND S1
inductive Tg {α:Sort _} (a:α):Type
 |mk
def an (P:Program) (s:St) (d:Option Nat) (f:FuncId) (args:List PV) (K:St->Prop) (_:Tg K):Prop:=∃ks os,tm P s d f args ks os K
def aU (P:Program) (s:St) (d:Option Nat) (f:FuncId) (args:List PV) (K:St->Prop) (_:Tg K):Prop:=
 ∃v,(ab (λ_=>false) args=true∧ae (λ_=>false) v=true)∧ai P f args [] (λr fp=>r=v∧fp=[])∧K (s.put d v)
def yS (s:St) (d:Option Nat) (l:Nat) (args:List PV) (K:St->Prop) (_:Tg K):Prop:=Eo s d l args K
def J8 (P:Program) (s:St) (d:Option Nat) (K:St->Prop) (t:Tg K) (args:List PV):PV->Prop
 | .fn (.func fid) first cap=>an P s d fid (first++args++cap) K t
 | .fn (.yield l) [] []=>yS s d l args K t
 |_=>False
def J9 (P:Program) (s:St) (d:Option Nat) (K:St->Prop) (t:Tg K) (args:List PV):PV->Prop
 | .fn (.func fid) first cap=>aU P s d fid (first++args++cap) K t
 |_=>False
@[simp↓] theorem WV (d:Option Nat) (K:St->Prop) (t:Tg K) (l a b:List PV) (f:FuncId):J8 P s d K t l (.fn (.func f) a b)=an P s d f (a++l++b) K t:=_root_.id rfl
@[simp↓] theorem WW (d:Option Nat) (K:St->Prop) (t:Tg K) (l a b:List PV) (f:FuncId):J9 P s d K t l (.fn (.func f) a b)=aU P s d f (a++l++b) K t:=_root_.id rfl
@[simp↓] theorem ael (d:Option Nat) (f:AX) (args:List AX) (K:St->Prop):lh P s d f args K=gG true (vx s f) λpf=>sY true s args λps=>J8 P s d K .mk ps pf:=by
 rw[NC];congr 1
@[simp↓] theorem aem (d:Option Nat) (f:AX) (args:List AX) (K:St->Prop):nB P s d f args K=gG true (vx s f) λpf=>sY true s args λps=>J9 P s d K .mk ps pf:=by
 simp only[nB,jD];congr 1
@[simp↓] theorem ak5 (n:Nat):vx s (.t n)=(get s.env n).getD .un:=_root_.id rfl
@[simp↓] theorem ak6 (p:PV):vx s (.c p)=p:=_root_.id rfl
@[simp↓] theorem get_nil {α:Type} (n:Nat):get ([]:List (Nat×α)) n=none:=_root_.id rfl
@[simp↓] theorem ZJ {α:Type} (k n:Nat) (v:α) (r:List (Nat×α)):get ((k,v)::r) n=if k=n then some v else get r n:=_root_.id rfl
@[simp↓] theorem aen {α:Type} (n:Nat) (x:α):put [] n x=[(n,x)]:=_root_.id rfl
@[simp↓] theorem ZK {α:Type} (k n:Nat) (v x:α) (r:List (Nat×α)):put ((k,v)::r) n x=if k=n then(n,x)::r else if n<k then(n,x)::(k,v)::r else(k,v)::put r n x:=_root_.id rfl
@[simp↓] theorem S7 (d:Nat) (p:PV):s.put (some d) p= {s with env:=put s.env d p}:=_root_.id rfl
@[simp↓] theorem S8 (p:PV):s.put none p=s:=_root_.id rfl
@[simp↓] theorem aeo (K:St->Prop):HC P s [] K=K s:=_root_.id rfl
@[simp↓] theorem ZL (o:AO) (l:List AO) (K:St->Prop):HC P s (o::l) K=iu P s o λs'=>HC P s' l K:=_root_.id rfl
def fb (P:Program) (x:dT) (Q:Exit->St->Prop) (_:Tg (x,Q)) (s:St):Prop:=Lp (λQ s=>aw P x Q s) Q s
def NG (P:Program) (x y:dT) (Q:Exit->St->Prop) (_:Tg (x,y,Q)) (s:St):Prop:=Md (λQ s=>aw P x Q s) (λQ s=>aw P y Q s) Q s
def RgS (P:Program) (ps:List Nat) (x y:dT) (Q:Exit->St->Prop) (_:Tg (x,y,Q)) (s:St):PV->Prop
 | .fn (.func fid) [] cap=>EG P (λQ s=>aw P x Q s) (λQ s=>aw P y Q s) s fid cap ps λs'=>Q .normal s'
 |_=>False
def ZM (n:Nat) (R:List bX->Prop) (_:Tg R) (s:St):Prop:=Ze n R s
def al (n:Nat) (res:List AK) (R:PV->List bX->Prop) (_:Tg R) (s:St):Prop:=Nk n res R s
theorem ah (c:dT) (Q:Exit->St->Prop):aw P (lk c) Q s=aw P c Q s:=by rw[Nj]
@[simp↓] theorem aep (Q:Exit->St->Prop):aw P .skip Q s=Q .normal s:=_root_.id rfl
@[simp↓] theorem WX (l:List AO) (Q:Exit->St->Prop):aw P (.region l) Q s=HC P s l (Q .normal):=_root_.id rfl
@[simp↓] theorem agA (x y:dT) (Q:Exit->St->Prop):aw P (.seq x y) Q s=aw P x (xV Q λs'=>aw P y Q s') s:=_root_.id rfl
@[simp↓] theorem aeq (n:Nat) (v:PV) (e:List (Nat×PV)) (b:List (Nat×bX)) (c:AX) (x y:dT) (Q:Exit->St->Prop):aw P (.cond c x y) Q ⟨(n,v)::e,b⟩=Nx (aw P x Q ⟨(n,v)::e,b⟩) (aw P y Q ⟨(n,v)::e,b⟩) (vx ⟨(n,v)::e,b⟩ c):=SY c x y Q
@[simp↓] theorem ajJ (n:Nat) (v:PV) (e:List (Nat×PV)) (b:List (Nat×bX)) (d:Option Nat) (mg:Bool) (k:AK) (K:St->Prop):iu P ⟨(n,v)::e,b⟩ ⟨d,none,mg,k⟩ K=kI P ⟨(n,v)::e,b⟩ ⟨d,none,mg,k⟩ K:=_root_.id rfl
@[simp↓] theorem agB (b:List (Nat×bX)) (d:Option Nat) (mg:Bool) (k:AK) (K:St->Prop):iu P ⟨[],b⟩ ⟨d,none,mg,k⟩ K=kI P ⟨[],b⟩ ⟨d,none,mg,k⟩ K:=_root_.id rfl
@[simp↓] theorem ajK (n:Nat) (v:PV) (e:List (Nat×PV)) (b:List (Nat×bX)) (d:Option Nat) (sl:Nat) (want mg:Bool) (k:AK) (K:St->Prop):iu P ⟨(n,v)::e,b⟩ ⟨d,some (sl,want),mg,k⟩ K=
  w6 want mg (λg=>ev g ⟨(n,v)::e,b⟩ k λp=>K (St.put ⟨(n,v)::e,b⟩ d (.gd g p))) (kI P ⟨(n,v)::e,b⟩ ⟨d,some (sl,want),mg,k⟩ K) (K (St.put ⟨(n,v)::e,b⟩ d .un)) ((get ((n,v)::e) sl).getD .un):=Nw d sl want mg k K
@[simp↓] theorem ZN (id:Nat) (x:dT) (Q:Exit->St->Prop):aw P (.block id x) Q s=aw P x (Qe id Q) s:=_root_.id rfl
@[simp↓] theorem aer (x:dT) (Q:Exit->St->Prop):aw P (.loop x) Q s=fb P x Q .mk s:=_root_.id rfl
@[simp↓] theorem aes (x y:dT) (Q:Exit->St->Prop):aw P (.seqm x y) Q s=NG P x y Q .mk s:=_root_.id rfl
@[simp↓] theorem aet (id:Nat) (Q:Exit->St->Prop):aw P (.exit id) Q s=Q (.exit id) s:=_root_.id rfl
@[simp↓] theorem agC (Q:Exit->St->Prop):aw P .ret Q s=Q .ret s:=_root_.id rfl
@[simp↓] theorem S9 (Q:Exit->St->Prop) (K:St->Prop):xV Q K .normal s=K s:=_root_.id rfl
@[simp↓] theorem aeu (Q:Exit->St->Prop) (K:St->Prop):xV Q K .ret s=Q .ret s:=_root_.id rfl
@[simp↓] theorem ZO (Q:Exit->St->Prop) (K:St->Prop) (i:Nat):xV Q K (.exit i) s=Q (.exit i) s:=_root_.id rfl
@[simp↓] theorem Ta (Q:Exit->St->Prop) (i:Nat):Qe i Q .normal s=Q .normal s:=_root_.id rfl
@[simp↓] theorem aev (Q:Exit->St->Prop) (i:Nat):Qe i Q .ret s=Q .ret s:=_root_.id rfl
@[simp↓] theorem ZP (Q:Exit->St->Prop) (i j:Nat):Qe i Q (.exit j) s=if j=i then Q .normal s else Q (.exit j) s:=_root_.id rfl
@[simp↓] theorem ZQ (n:Nat) (res:List AK) (R:PV->List bX->Prop):ends n res R .ret s=al n res R .mk s:=_root_.id rfl
@[simp↓] theorem Qm (n:Nat) (res:List AK) (R:PV->List bX->Prop):ends n res R .normal s=al n res R .mk s:=_root_.id rfl
@[simp↓] theorem ZR (K:St->Prop):jq [] s K=K s:=_root_.id rfl
@[simp↓] theorem eT (c:Cut) (r:List Cut) (K:St->Prop):jq (c::r) s K=ku c s λs'=>jq r s' K:=_root_.id rfl
@[simp↓] theorem WY (sl:List Nat) (K:St->Prop):ku (.keep sl) s K=K {s with env:=me sl s.env}:=_root_.id rfl
def ak7 (s:St) (n k len aQ sz:Nat) (K:St->Prop):bX->Prop
 | .arr dR l=>(dR=sz∧aQ=l.length)∧∀c j:Nat,(c=l.length+j∨(c=0∧j=0∧len=0))->
    K {env:=put s.env n (.rs k [] 0 len (l.length+j) sz (.full c)),bx:=put s.bx k (.arr sz (l++List.replicate j (Mv sz)))}
 |_=>False
def ZS (s:St) (k:Nat) (K:St->Prop):bX->Prop
 | .box v=>K {s with bx:=put s.bx k (.box (wk v))}
 |_=>False
@[simp↓] theorem ZT (k:Nat) (K:St->Prop) (v:PV):ZS s k K (.box v)=K {s with bx:=put s.bx k (.box (wk v))}:=_root_.id rfl
@[simp↓] theorem aew (k:Nat) (K:St->Prop):ku (.wb k) s K=dV (get s.bx k) (ZS s k K):=by
 simp only[ku,WE]
 cases get s.bx k with
 |none=>rfl
 |some b=>cases b<;>rfl
def ZU (s:St) (b k sz:Nat) (w:Option PV) (K:St->Prop):PV->Prop
 | .sl _ [] true=>dV w λv'=>(get s.bx k=none∧0<sz)∧K {s with bx:=put (put s.bx k (.arr sz [])) b (.box v')}
 |_=>False
@[simp↓] theorem agD (b k sz z:Nat) (w:Option PV) (K:St->Prop):ZU s b k sz w K (.sl z [] true)=dV w λv'=>(get s.bx k=none∧0<sz)∧K {s with bx:=put (put s.bx k (.arr sz [])) b (.box v')}:=_root_.id rfl
def vbK (s:St) (b:Nat) (p:List Step) (k sz:Nat) (K:St->Prop):bX->Prop
 | .box v=>dV (bf v p) (ZU s b k sz (eL v p (.rs k [] 0 0 0 sz .tip)) K)
 |_=>False
@[simp↓] theorem aex (b:Nat) (p:List Step) (k sz:Nat) (v:PV) (K:St->Prop):vbK s b p k sz K (.box v)=dV (bf v p) (ZU s b k sz (eL v p (.rs k [] 0 0 0 sz .tip)) K):=_root_.id rfl
@[simp↓] theorem aey (b:Nat) (p:List Step) (k sz:Nat) (K:St->Prop):ku (.vb b p k sz) s K=dV (get s.bx b) (vbK s b p k sz K):=by
 simp only[ku,WG]
 cases get s.bx b with
 |none=>rfl
 |
  some x=>
  cases x with
  |arr _ _=>rfl
  |map b ks vs l=>rfl
  |
   box v=>
   simp only[dV,vbK]
   cases h1:bf v p with
   |none=>cases eL v p (.rs k [] 0 0 0 sz .tip)<;>rfl
   |
    some u=>
    cases h2:eL v p (.rs k [] 0 0 0 sz .tip)with
    |
     none=>
     simp only[ZU]
     split<;>simp_all
    |
     some v'=>
     simp only[ZU]
     split<;>simp_all
@[simp↓] theorem aez (n:Nat) (K:St->Prop):ku (.wk n) s K=dV (get s.env n) λp=>K {s with env:=put s.env n (wk p)}:=by
 simp only[ku,IJ];cases get s.env n<;>rfl
def fzK (s:St) (k:Nat) (K:St->Prop):bX->Prop
 | .arr sz l=>(ab (λj=>decide (j≠k)) l=true∧k<KB)∧K {env:=lK (iB k sz l) s.env,bx:=lK (wB k sz l) (del s.bx k)}
 |_=>False
@[simp↓] theorem aeA (k sz:Nat) (l:List PV) (K:St->Prop):fzK s k K (.arr sz l)=((ab (λj=>decide (j≠k)) l=true∧k<KB)∧K {env:=lK (iB k sz l) s.env,bx:=lK (wB k sz l) (del s.bx k)}):=_root_.id rfl
@[simp↓] theorem aeB (k:Nat) (K:St->Prop):ku (.fz k) s K=dV (get s.bx k) (fzK s k K):=by
 simp only[ku,WB];cases get s.bx k with
 |none=>rfl
 |some b=>cases b<;>rfl
@[simp↓] theorem aeC (k:Nat) (K:St->Prop):ku (.dr k) s K=((eI (λj=>decide (j≠k)) s.env=true∧fE (λj=>decide (j≠k)) (del s.bx k)=true∧k<KB)∧K {s with bx:=del s.bx k}):=_root_.id rfl
def vtK (s:St) (n k sz:Nat) (K:St->Prop):PV->Prop
 | .sl _ [] true=>(get s.bx k=none∧0<sz)∧K {env:=put s.env n (.rs k [] 0 0 0 sz .tip),bx:=put s.bx k (.arr sz [])}
 |_=>False
@[simp↓] theorem agF (n k sz z:Nat) (K:St->Prop):vtK s n k sz K (.sl z [] true)=((get s.bx k=none∧0<sz)∧K {env:=put s.env n (.rs k [] 0 0 0 sz .tip),bx:=put s.bx k (.arr sz [])}):=_root_.id rfl
@[simp↓] theorem aeD (n k sz:Nat) (K:St->Prop):ku (.vt n k sz) s K=dV (get s.env n) (vtK s n k sz K):=by
 simp only[ku,WC];cases get s.env n with
 |none=>rfl
 |
  some p=>
  cases p with
  |sl z l c=>cases l<;>cases c<;>rfl
  |_=>rfl
@[simp] theorem ajN {n:Nat} (h:n<9000):n<KB:=h
@[simp↓] theorem aeE (K:List PV->Prop):Gg s [] K=K []:=_root_.id rfl
@[simp↓] theorem ZV (k:AK) (r:List AK) (K:List PV->Prop):Gg s (k::r) K=ev true s k λp=>Gg s r λps=>K (p::ps):=_root_.id rfl
@[simp↓] theorem Qn:eC 0=[]:=_root_.id rfl
@[simp↓] theorem Tb (bx:List (Nat×bX)):getAll bx []=some []:=_root_.id rfl
@[simp↓] theorem WZ (p:PV):cT [p]=p:=_root_.id rfl
@[simp↓] theorem HV (p q:PV) (l:List PV):cT (p::q::l)= .tup (p::q::l):=_root_.id rfl
theorem al.plain {res:List AK} {R:PV->List bX->Prop} {t:Tg R} (c:List Cut) (h:jq c s λs'=>Gg s' res λps=>(ps.all PV.flat=true∧cD ps)∧R (cT ps) []):al 0 res R t s:=by
 refine⟨c,[],?_⟩
 have hm:∀(c:List Cut) (s:St) (K K':St->Prop),(∀s,K s->K' s)->jq c s K->jq c s K':=by
  intro c
  induction c with
  |nil=>intro s K K' h hk;exact h s hk
  |
   cons x c ih=>
   intro s K K' h hk
   cases x with
   |fz k=>simp only[eT,ku,WB]at hk⊢;split at hk<;>simp_all;exact ih _ _ _ (λs hs=>h s hs) hk.2
   |dr k=>simp only[eT,ku,dr1]at hk⊢;exact⟨hk.1,ih _ _ _ h hk.2⟩
   |keep sl=>simp only[eT,ku]at hk⊢;exact ih _ _ _ h hk
   |vt n k z=>simp only[eT,ku,WC]at hk⊢;split at hk<;>simp_all;exact ih _ _ _ (λs hs=>h s hs) hk.2
   |wk n=>simp only[eT,ku,IJ]at hk⊢;split at hk<;>simp_all;exact ih _ _ _ (λs hs=>h s hs) hk
   |wb n=>simp only[eT,ku,WE]at hk⊢;split at hk<;>simp_all;exact ih _ _ _ (λs hs=>h s hs) hk
   |vb n p k z=>simp only[eT,ku,WG]at hk⊢;split at hk<;>simp_all;split at hk<;>simp_all;exact ih _ _ _ (λs hs=>h s hs) hk.2
   |
    mv k k'=>
    simp only[eT,ku,Zb]at hk⊢
    split at hk
    ·exact⟨hk.1,ih _ _ _ h hk.2⟩
    ·exact hk.elim
   |
    mt n=>
    simp only[eT,ku,Zc]at hk⊢
    split at hk
    ·split at hk
     ·exact⟨hk.1,λc j e=>ih _ _ _ h (hk.2 c j e)⟩
     ·exact hk.elim
    ·exact hk.elim
 have Sg:∀(k:AK) (s:St) (K K':PV->Prop),(∀p,K p->K' p)->ev true s k K->ev true s k K':=by
  intro k s K K' h hk
  obtain⟨p,h1,h2⟩:=pX true s k K hk
  exact h2 K' (h p h1)
 have V2:∀(l:List AK) (s:St) (K K':List PV->Prop),(∀p,K p->K' p)->Gg s l K->Gg s l K':=by
  intro l
  induction l with
  |nil=>intro s K K' h hk;exact h _ hk
  |cons x l ih=>intro s K K' h hk;exact Sg _ _ _ _ (λp hp=>ih _ _ _ (λq hq=>h _ hq) hp) hk
 refine hm _ _ _ _ (λs' ur=>V2 _ _ _ _ (λps Cb=> ?_) ur) h
 obtain⟨⟨h1,h2⟩,h3⟩:=Cb
 have hp:Pure (cT ps):=by
  match ps,h2 with
  |[],h2=>exact Pure.of rfl
  |[p],h2=>exact h2.forget p (by simp)
  |p::q::l,h2=>exact Pure.of (by simp only[HV,ae];exact h2.refs _)
 refine⟨[],⟨rfl,by simp,rfl⟩,⟨h1,hp.refs _,rfl⟩,?_⟩
 rw[hp.aB];exact h3
end Go.Ab
namespace Go.Ab
variable [eJ]
variable {P:Program} {s:St} [ji]
theorem C6:∀ {l:List AO} {s:St} {K K':St->Prop},(∀p,K p->K' p)->HC P s l K->HC P s l K'
 |[],s,K,K',h,hk=>h _ hk
 |o::l,s,K,K',h,hk=>eF (λs' ur=>C6 h ur) hk
theorem yf {W:List Nat} {f:Bool} {o:AO} {K K':St->Prop} (h:∀p,K p->K' p) (hk:jW P W f s o K):jW P W f s o K':=by
 unfold jW at hk⊢
 split at hk
 ·split at hk
  ·rename_i h1 h2;rw[if_pos h1,if_pos h2];exact eF (λt ht=>h _ ht) hk
  ·rename_i h1 h2;rw[if_pos h1,if_neg h2];exact eF h hk
 ·rename_i h1;rw[if_neg h1];exact eF (λt ht=>⟨ht.1,h _ ht.2⟩) hk
theorem rh {aos:List AO} {fl:Nat->Bool} {W:List Nat}:∀ {l:List Nat} {s:St} {K K':St->Prop},(∀p,K p->K' p)->jk P aos fl W s l K->jk P aos fl W s l K'
 |[],s,K,K',h,hk=>h _ hk
 |
  i::l,s,K,K',h,hk=>by
  simp only[jk]at hk⊢
  split at hk
  ·exact⟨hk.1,yf (λt ht=>rh h ht) hk.2⟩
  ·exact hk.elim
theorem Gk:∀ {c:dT} {s:St} {Q Q':Exit->St->Prop},(∀e s,Q e s->Q' e s)->aw P c Q s->aw P c Q' s:=by
 have V3:∀ {Q Q':Exit->St->Prop} {K K':St->Prop},(∀e s,Q e s->Q' e s)->(∀s,K s->K' s)->∀e s,xV Q K e s->xV Q' K' e s:=by
  intro Q Q' K K' h hk e s he
  cases e<;>first|exact hk _ he|exact h _ _ he
 intro c
 induction c with
 |skip=>intro s Q Q' h hk;exact h _ _ hk
 |region l=>intro s Q Q' h hk;exact C6 (h .normal) hk
 |regionD l o u=>intro s Q Q' h hk;obtain⟨W,hk⟩:=hk;exact⟨W,rh (h .normal) hk⟩
 |regionE l a p q b u=>intro s Q Q' h hk;obtain⟨W,hk⟩:=hk;exact⟨W,tM (λt ht=>⟨rh (h .normal) ht.1,rh (h .normal) ht.2⟩) hk⟩
 |seq x y ihx ihy=>intro s Q Q' h hk;exact ihx (V3 h λs hs=>ihy h hs) hk
 |
  cond c x y ihx ihy=>
  intro s Q Q' h hk
  simp only[aw]at hk⊢
  split at hk
  ·exact⟨λe=>ihx h (hk.1 e),λe=>ihy h (hk.2 e)⟩
  ·exact⟨hk.1,λe=>ihx h (hk.2.1 e),λe=>ihy h (hk.2.2 e)⟩
  ·exact hk.elim
 |
  block id x ih=>
  intro s Q Q' h hk
  simp only[aw]at hk⊢
  refine ih (λe s he=> ?_) hk
  cases e<;>simp only[Qe]at he⊢<;>first|exact h _ _ he|(split at he<;>rename_i hi<;>simp only[hi,if_true,if_false]<;>exact h _ _ he)
 |
  loop x ih=>
  intro s Q Q' h hk
  obtain⟨I,c,h1,h2⟩:=hk
  exact⟨I,c,h1,λn s hs=>ih (V3 h λs hs=>hs) (h2 n s hs)⟩
 |exit id=>intro s Q Q' h hk;exact h _ _ hk
 |ret=>intro s Q Q' h hk;exact h _ _ hk
 |
  seqm x y ihx ihy=>
  intro s Q Q' h hk
  obtain⟨M,h1,h2⟩:=hk
  exact⟨M,ihx (V3 h λs hs=>hs) h1,λs hs=>ihy h (h2 s hs)⟩
 |
  rangeF g ps x y ihx ihy=>
  intro s Q Q' h hk
  simp only[aw]at hk⊢
  split at hk
  ·obtain⟨jP,ks,cY,Y,R,h1,h2,h3,h4⟩:=hk
   exact⟨jP,ks,cY,Y,R,h1,h2,h3,λfp hR=>⟨(h4 fp hR).1,h _ _ (h4 fp hR).2⟩⟩
  ·exact hk.elim
end Go.Ab
namespace Go.Ab
variable [eJ]
variable {P:Program} {s:St} [ji]
theorem iz:∀(c:List Cut) {s:St} {K K':St->Prop},(∀s,K s->K' s)->jq c s K->jq c s K'
 |[],s,K,K',h,hk=>h s hk
 |
  x::c,s,K,K',h,hk=>by
  cases x with
  |
   fz k=>
   simp only[eT,ku,WB]at hk⊢
   split at hk
   ·exact⟨hk.1,iz c h hk.2⟩
   ·exact hk.elim
  |dr k=>simp only[eT,ku,dr1]at hk⊢;exact⟨hk.1,iz c h hk.2⟩
  |keep sl=>simp only[eT,ku]at hk⊢;exact iz c h hk
  |
   vt n k z=>
   simp only[eT,ku,WC]at hk⊢
   split at hk
   ·exact⟨hk.1,iz c h hk.2⟩
   ·exact hk.elim
  |
   wk n=>
   simp only[eT,ku,IJ]at hk⊢
   split at hk
   ·exact iz c h hk
   ·exact hk.elim
  |
   wb n=>
   simp only[eT,ku,WE]at hk⊢
   split at hk
   ·exact iz c h hk
   ·exact hk.elim
  |
   vb n p k z=>
   simp only[eT,ku,WG]at hk⊢
   split at hk
   ·split at hk
    ·exact⟨hk.1,iz c h hk.2⟩
    ·exact hk.elim
   ·exact hk.elim
  |
   mv k k'=>
   simp only[eT,ku,Zb]at hk⊢
   split at hk
   ·exact⟨hk.1,iz c h hk.2⟩
   ·exact hk.elim
  |
   mt n=>
   simp only[eT,ku,Zc]at hk⊢
   split at hk
   ·split at hk
    ·exact⟨hk.1,λi j e=>iz c h (hk.2 i j e)⟩
    ·exact hk.elim
   ·exact hk.elim
theorem mf:∀(c d:List Cut) {s:St} {K:St->Prop},jq (c++d) s K=jq c s λs'=>jq d s' K
 |[],d,s,K=>rfl
 |
  x::c,d,s,K=>by
  simp only[List.cons_append,eT]
  congr 1;funext s'
  exact mf c d
def C7 {α:Type}:List (Nat×α)->List (Nat×α)->List (Nat×α)
 |l,[]=>l
 |l,x::r=>C7 (put l x.1 x.2) r
@[simp↓] theorem ZW {α:Type} (l:List (Nat×α)):C7 l []=l:=id rfl
@[simp↓] theorem W0 {α:Type} (l r:List (Nat×α)) (x:Nat×α):C7 l (x::r)=C7 (put l x.1 x.2) r:=id rfl
@[simp↓] theorem W2 {α:Type} (sl:List Nat):me sl ([]:List (Nat×α))=[]:=id rfl
@[simp↓] theorem Tc {α:Type} (sl:List Nat) (j:Nat) (v:α) (r:List (Nat×α)):me sl ((j,v)::r)=if sl.contains j=true then(j,v)::me sl r else me sl r:=id rfl
@[simp↓] theorem aeF {α:Type} (k:Nat):del ([]:List (Nat×α)) k=[]:=id rfl
@[simp↓] theorem ZX {α:Type} (j k:Nat) (v:α) (r:List (Nat×α)):del ((j,v)::r) k=if j=k then del r k else(j,v)::del r k:=id rfl
@[simp↓] theorem ZY {α:Type} (f:α->α):lK f []=[]:=id rfl
@[simp↓] theorem W3 {α:Type} (f:α->α) (j:Nat) (v:α) (r:List (Nat×α)):lK f ((j,v)::r)=(j,f v)::lK f r:=id rfl
def jH (s:St) (ks:List Nat) (E:List (Nat×PV)) (B:List (Nat×bX)):St:= {env:=C7 (me ks s.env) E,bx:=C7 s.bx B}
@[simp↓] theorem agG (e:List (Nat×PV)) (b:List (Nat×bX)) (ks:List Nat) (E:List (Nat×PV)) (B:List (Nat×bX)):jH ⟨e,b⟩ ks E B=⟨C7 (me ks e) E,C7 b B⟩:=id rfl
theorem fb.fG {x:dT} {Q:Exit->St->Prop} {t:Tg (x,Q)} (n:Nat) (I:Nat->Prop) (ks:List Nat) (E:Nat->List (Nat×PV)) (B:Nat->List (Nat×bX)) (c0:List Cut)
  (h:jq c0 s λs0=>jH s0 ks (E 0) (B 0)=jH s0 ks [] []∧I 0∧
   (∀i,i<n->I i->∀K:St->Prop,(∀s2,jH s2 ks [] []=jH s0 ks (E (i+1)) (B (i+1))->I (i+1)->K s2)->aw P x (xV Q λs'=>∃c:List Cut,jq c s' K) (jH s0 ks (E i) (B i)))∧
   (I n->∀K:St->Prop,aw P x (xV Q K) (jH s0 ks (E n) (B n)))):fb P x Q t s:=by
 refine⟨λm st=>∃s0 i,i≤n∧m=n-i∧I i∧st=jH s0 ks (E i) (B i)∧
  (∀i,i<n->I i->∀K:St->Prop,(∀s2,jH s2 ks [] []=jH s0 ks (E (i+1)) (B (i+1))->I (i+1)->K s2)->aw P x (xV Q λs'=>∃c:List Cut,jq c s' K) (jH s0 ks (E i) (B i)))∧
   (I n->∀K:St->Prop,aw P x (xV Q K) (jH s0 ks (E n) (B n))),c0++[.keep ks],?_,?_⟩
 ·rw[mf]
  refine iz c0 (λs0 hs=> ?_) h
  obtain⟨h1,h2,h3,h4⟩:=hs
  exact⟨n,s0,0,by omega,by omega,h2,by rw[h1];rfl,h3,h4⟩
 ·rintro m st ⟨s0,i,hi,rfl,hI,rfl,h3,h4⟩
  by_cases dG:i<n
  ·have V4:∀(K:St->Prop) s',(∃c:List Cut,jq c s' λs2=>jq [.keep ks] s2 K)->∃c:List Cut,jq c s' K:=λK s' ⟨c,hc⟩=>⟨c++[.keep ks],by rw[mf];exact hc⟩
   have:=h3 i dG hI (λs2=>jq [.keep ks] s2 λs'=>∃m,m<n-i∧∃s0 i,i≤n∧m=n-i∧I i∧s'=jH s0 ks (E i) (B i)∧
    (∀i,i<n->I i->∀K:St->Prop,(∀s2,jH s2 ks [] []=jH s0 ks (E (i+1)) (B (i+1))->I (i+1)->K s2)->aw P x (xV Q λs'=>∃c:List Cut,jq c s' K) (jH s0 ks (E i) (B i)))∧
    (I n->∀K:St->Prop,aw P x (xV Q K) (jH s0 ks (E n) (B n))))
    (λs2 e hI'=>⟨n-(i+1),by omega,s0,i+1,by omega,rfl,hI',by rw[←e];rfl,h3,h4⟩)
   refine Gk (λe s' he=> ?_) this
   cases e with
   |normal=>exact V4 _ _ he
   |_=>exact he
  ·have za:i=n:=by omega
   subst za
   exact h4 hI _
end Go.Ab
namespace Go.Ab
variable [eJ]
variable {P:Program} {s:St} [ji]
theorem oQ {p:PV}:Pure p↔ae (λ_=>false) p=true:=⟨λh=>h.refs _,Pure.of⟩
theorem nk {l:List PV}:cD l↔ab (λ_=>false) l=true:=⟨λh=>h.refs _,cD.of⟩
@[simp] theorem ZZ (k:IntKind) (n:Int):Pure (.int k n):=Pure.of rfl
@[simp] theorem aeG (b:Bool):Pure (.bl b):=Pure.of rfl
@[simp] theorem Z0 (b:List UInt8):Pure (.str b):=Pure.of rfl
@[simp] theorem aeH (b:UInt8):Pure (u8 b):=Pure.of rfl
@[simp] theorem aeI (z:Nat) (l:List PV) (c:Bool):Pure (.sl z l c)↔cD l:=by simp only[oQ,nk,ae]
@[simp] theorem aeJ (z:Nat) (l:List PV):Pure (.st z l)↔cD l:=by simp only[oQ,nk,ae]
@[simp] theorem aeK (z n:Nat) (l:List PV):Pure (.ar z n l)↔cD l:=by simp only[oQ,nk,ae]
@[simp] theorem Z1 (l:List PV):Pure (.tup l)↔cD l:=by simp only[oQ,nk,ae]
@[simp] theorem aeL (f:Fn) (a b:List PV):Pure (.fn f a b)↔cD a∧cD b:=by simp only[oQ,nk,ae,aJ]
@[simp] theorem W4:cD []:=cD.of rfl
@[simp] theorem Td (p:PV) (l:List PV):cD (p::l)↔Pure p∧cD l:=by simp only[oQ,nk,ab,aJ]
@[simp] theorem NH (l m:List PV):cD (l++m)↔cD l∧cD m:=by induction l<;>simp[*,and_assoc]
@[simp] theorem Te {l:List PV} (h:cD l) (n:Nat):cD (l.take n):=h.take n
@[simp] theorem Tf {l:List PV} (h:cD l) (n:Nat):cD (l.drop n):=h.drop n
@[simp] theorem dQ {α:Type} {e:α->PV} (h:∀x,Pure (e x)) (l:List α):cD (l.map e):=cD.map h l
@[simp] theorem wD {p:PV} (h:Pure p) (n:Nat):cD (List.replicate n p):=cD.mk' λq hq=>by rw[(List.mem_replicate.1 hq).2];exact h
@[simp] theorem Z2 {p:PV} (h:Pure p) (k z:Nat) (l:List PV):iB k z l p=p:=h.iB k z l
@[simp] theorem W5 {p:List PV} (h:cD p) (k z:Nat) (l:List PV):jj k z l p=p:=h.iB k z l
@[simp] theorem agH (k z k' off len aQ z':Nat) (l0:List PV) (p:List Step) (c:kY):iB k z l0 (.rs k' p off len aQ z' c)=if k'=k then(if aQ=l0.length∧p=[]∧z'=z∧off+len≤l0.length then .sl z ((l0.drop off).take len) (decide (c= .clip))else .un)else .rs k' p off len aQ z' c:=by simp[iB]
@[simp] theorem agI (k z k' aQ:Nat) (l0:List PV) (p:List Step):iB k z l0 (.pt k' p aQ)=if k'=k then(if aQ=l0.length then .fp z l0 p else .un)else .pt k' p aQ:=by simp[iB]
@[simp] theorem W6 (k z:Nat) (l0:List PV) (p:PV) (l:List PV):jj k z l0 (p::l)=iB k z l0 p::jj k z l0 l:=_root_.id rfl
@[simp] theorem Qo (k z:Nat) (l0 l m:List PV):jj k z l0 (l++m)=jj k z l0 l++jj k z l0 m:=by induction l<;>simp[*]
@[simp] theorem agJ (k z w:Nat) (l0 l:List PV):iB k z l0 (.st w l)= .st w (jj k z l0 l):=by simp[iB]
@[simp] theorem Z3 (k z z':Nat) (l0 l:List PV):wB k z l0 (.arr z' l)= .arr z' (jj k z l0 l):=id rfl
@[simp] theorem Z4 (k z:Nat) (l0:List PV) (v:PV):wB k z l0 (.box v)= .box (iB k z l0 v):=id rfl
@[simp] theorem NI {l:List PV} (h:cD l) (f:Nat->Bool):ab f l=true:=h.refs f
@[simp] theorem Qp {p:PV} (h:Pure p) (f:Nat->Bool):ae f p=true:=h.refs f
@[simp] theorem W7 (f:Nat->Bool) (k:Nat) (p:List Step) (a b c d:Nat) (e:kY):ae f (.rs k p a b c d e)=f k:=by simp[ae]
@[simp] theorem W8 (f:Nat->Bool) (k:Nat) (p:List Step) (a:Nat):ae f (.pt k p a)=f k:=by simp[ae]
@[simp] theorem NJ (f:Nat->Bool) (p:PV) (l:List PV):ab f (p::l)=(ae f p&&ab f l):=id rfl
@[simp] theorem Qq (f:Nat->Bool):eI f []=true:=id rfl
@[simp] theorem NK (f:Nat->Bool) (n:Nat) (p:PV) (r:List (Nat×PV)):eI f ((n,p)::r)=(ae f p&&eI f r):=id rfl
@[simp] theorem Th (f:Nat->Bool):fE f []=true:=id rfl
@[simp] theorem Qr (f:Nat->Bool) (n:Nat) (p:bX) (r:List (Nat×bX)):fE f ((n,p)::r)=(af f p&&fE f r):=id rfl
@[simp] theorem Qs (f:Nat->Bool) (z:Nat) (l:List PV):af f (.arr z l)=ab f l:=id rfl
@[simp] theorem Qt (f:Nat->Bool) (v:PV):af f (.box v)=ae f v:=id rfl
@[simp] theorem ajO (z:Nat) (l:List PV) (c:Bool):wk (.sl z l c)= .sl z (jo l) false:=by simp[wk]
@[simp] theorem ajP (z:Nat) (l:List PV):wk (.st z l)= .st z (jo l):=by simp[wk]
@[simp] theorem ajQ (z n:Nat) (l:List PV):wk (.ar z n l)= .ar z n (jo l):=by simp[wk]
@[simp] theorem agK (k:IntKind) (n:Int):wk (.int k n)= .int k n:=by simp[wk]
@[simp] theorem ajR (b:Bool):wk (.bl b)= .bl b:=by simp[wk]
@[simp] theorem agL (b:List UInt8):wk (.str b)= .str b:=by simp[wk]
@[simp] theorem ajS (k:Nat) (p:List Step) (a:Nat):wk (.pt k p a)= .pt k p a:=by simp[wk]
@[simp] theorem ajT (k:Nat) (p:List Step) (a b c d:Nat) (e:kY):wk (.rs k p a b c d e)= .rs k p a b c d e:=by simp[wk]
@[simp] theorem ajU (b:UInt8):wk (u8 b)=u8 b:=by simp[u8]
@[simp] theorem aeM:jo []=[]:=id rfl
@[simp] theorem Z5 (p:PV) (l:List PV):jo (p::l)=wk p::jo l:=id rfl
@[simp] theorem Ti (l m:List PV):jo (l++m)=jo l++jo m:=by induction l<;>simp[*]
@[simp] theorem Z6 (l:List PV) (n:Nat):jo (l.take n)=(jo l).take n:=by simp only[xv,List.map_take]
@[simp] theorem Z7 (l:List PV) (n:Nat):jo (l.drop n)=(jo l).drop n:=by simp only[xv,List.map_drop]
@[simp] theorem pM {α:Type} {e:α->PV} (h:∀x,wk (e x)=e x) (l:List α):jo (l.map e)=l.map e:=by rw[xv,List.map_map];congr 1;funext x;exact h x
@[simp] theorem zp {p:PV} (h:wk p=p) (n:Nat):jo (List.replicate n p)=List.replicate n p:=by rw[xv,List.map_replicate,h]
def bg (P:Program) (f:FuncId) (args:List PV) (v:PV):Prop:=ai P f args [] (λr fp=>r=v∧fp=[])
def Tj (P:Program) (f:FuncId) (args:List PV) (sz:Nat) (l:List PV):Prop:=ai P f args [] (λr fp=>r= .rs KB [] 0 l.length l.length sz .tip∧fp=[.arr sz l])
theorem gq.jo {Γ:Cx}:∀ {l:List PV} {vs:List Value},gq Γ l vs->gq Γ (Ab.jo l) vs
 |[],[],_=>trivial
 |[],_::_,h=>by simp[gq]at h
 |_::_,[],h=>by simp[gq]at h
 |p::l,v::vs,h=>by simp only[gq,Ab.jo]at h⊢;exact⟨h.1.wk,gq.jo h.2⟩
theorem ai.W9 {f:FuncId} {args:List PV} {fp:List bX} {R:PV->List bX->Prop} (h:ai P f (jo args) fp R):ai P f args fp R:=
 λΓ w vs h1 h2 h3 h4=>h Γ w vs h1 h2 h3 h4.jo
theorem Tj.iB {f:FuncId} {args:List PV} {sz:Nat} {l:List PV} (h:Tj P f args sz l) (hl:cD l):bg P f args (.sl sz l false):=by
 refine λΓ w vs h1 h2 h3 h4=>(h Γ w vs h1 h2 h3 h4).mono ?_
 rintro e w' ⟨v,r,pV,Γ',e1,⟨rfl,rfl⟩,e3,e4,e5,e6,e7,e8⟩
 have hg:get Γ'.bx KB=some (.arr sz l):=by rw[e5,fY];simp
 have hf:=Ew e4 hg (hl.refs _)
 refine⟨v,.sl sz l false,[],{Γ' with bx:=lK (wB KB sz l) (del Γ'.bx KB)},e1,⟨rfl,rfl⟩,e3,wV e4 _ (λj blk bS hb=>(e4.blk j blk hb).iB hf),?_,?_,?_,e8⟩
 ·rw[e5];simp[aF]
 ·have:=e6.iB hf
  simpa using this
 ·refine⟨e7.heap,λb hb hm=> ?_,e7.ed,e7.size,λk blk hk=> ?_⟩
  ·obtain⟨k,blk,g1,g2⟩:=hm
   rw[e5]at g1
   simp[aF]at g1
  ·rw[h3]at hk;simp[aF]at hk
theorem an.ret {d:Option Nat} {f:FuncId} {args gY:List PV} {v:PV} {K:St->Prop} {t:Tg K} (hA:bg P f gY v) (ha:jo args=gY) (hp:cD args) (hv:Pure v) (h:K (s.put d v)):an P s d f args K t:=by
 subst ha
 exact EV (R:=λr=>r=v) (ai.W9 hA) hp (by rintro r rfl;exact hv) (by rintro r rfl;exact h)
theorem an.own {d:Option Nat} {f:FuncId} {args gY:List PV} {sz:Nat} {l:List PV} {K:St->Prop} {t:Tg K} (o:Nat) (hA:Tj P f gY sz l) (ha:jo args=gY) (hp:cD args) (hl:cD l) (ho:get s.bx o=none)
  (h:K ({s with bx:=put s.bx o (.arr sz l)}.put d (.rs o [] 0 l.length l.length sz .tip))):an P s d f args K t:=by
 subst ha
 refine HU (R:=λl'=>l'=l) o (ai.mono (ai.W9 hA) ?_) hp ho (by rintro r rfl;exact hl) (by rintro r rfl;exact h)
 rintro r fp ⟨rfl,rfl⟩;exact⟨l,rfl,rfl,rfl⟩
theorem aU.ret {d:Option Nat} {f:FuncId} {args gY:List PV} {v:PV} {K:St->Prop} {t:Tg K} (hA:bg P f gY v) (ha:jo args=gY) (hp:cD args) (hv:Pure v) (h:K (s.put d v)):aU P s d f args K t:=by
 subst ha
 exact⟨v,⟨hp.refs _,hv.refs _⟩,ai.W9 hA,h⟩
end Go.Ab
namespace Go.Ab
variable [eJ]
variable {P:Program} {s:St} {K:PV->Prop} [ji]
@[simp↓] theorem Z8 (k:IntKind) (a b:Int):j4 .add K (.int k a) (.int k b)=K (.int k (k.wrap (a+b))):=by simp[j4,ot]
@[simp↓] theorem Z9 (k:IntKind) (a b:Int):j4 .sub K (.int k a) (.int k b)=K (.int k (k.wrap (a-b))):=by simp[j4,ot]
@[simp↓] theorem aaa (k:IntKind) (a b:Int):j4 .mul K (.int k a) (.int k b)=K (.int k (k.wrap (a*b))):=by simp[j4,ot]
@[simp↓] theorem aab (k:IntKind) (a b:Int):j4 .quo K (.int k a) (.int k b)=(b≠0∧K (.int k (k.wrap (a.tdiv b)))):=by simp[j4,ot]
@[simp↓] theorem aac (k:IntKind) (a b:Int):j4 .rem K (.int k a) (.int k b)=(b≠0∧K (.int k (a.tmod b))):=by simp[j4,ot]
@[simp↓] theorem aad (k:IntKind) (a b:Int):j4 .and K (.int k a) (.int k b)=K (.int k (bits .and k a b)):=by simp[j4,ot]
@[simp↓] theorem aeN (k:IntKind) (a b:Int):j4 .or K (.int k a) (.int k b)=K (.int k (bits .or k a b)):=by simp[j4,ot]
@[simp↓] theorem Qu (k:IntKind) (a b:Int):j4 .andNot K (.int k a) (.int k b)=K (.int k (bits .andNot k a b)):=by simp[j4,ot]
@[simp↓] theorem aae (k:IntKind) (a b:Int):j4 .eql K (.int k a) (.int k b)=K (.bl (decide (a=b))):=by simp[j4,ot];rfl
@[simp↓] theorem aaf (k:IntKind) (a b:Int):j4 .neq K (.int k a) (.int k b)=K (.bl (decide (a≠b))):=by
 simp only[j4,ot,or_true,true_and]
 congr 2;by_cases h:a=b<;>simp[h]
@[simp↓] theorem aag (k:IntKind) (a b:Int):j4 .lss K (.int k a) (.int k b)=K (.bl (decide (a<b))):=by simp[j4,ot]
@[simp↓] theorem aah (k:IntKind) (a b:Int):j4 .leq K (.int k a) (.int k b)=K (.bl (decide (a≤b))):=by simp[j4,ot]
@[simp↓] theorem aai (k:IntKind) (a b:Int):j4 .gtr K (.int k a) (.int k b)=K (.bl (decide (b<a))):=by simp[j4,ot]
@[simp↓] theorem aaj (k:IntKind) (a b:Int):j4 .geq K (.int k a) (.int k b)=K (.bl (decide (b≤a))):=by simp[j4,ot]
@[simp↓] theorem aak (k k':IntKind) (a b:Int):j4 .shl K (.int k a) (.int k' b)=(0≤b∧K (.int k (k.wrap (a*2^min b.toNat k.bits)))):=by simp[j4,ot]
@[simp↓] theorem aal (k k':IntKind) (a b:Int):j4 .shr K (.int k a) (.int k' b)=(0≤b∧K (.int k (a.fdiv (2^min b.toNat k.bits)))):=by simp[j4,ot]
@[simp↓] theorem aam (op:BinOp) (a b:List UInt8):j4 op K (.str a) (.str b)=uA op a b K:=id rfl
@[simp↓] theorem aan (a b:List UInt8):uA .add a b K=(a.length+b.length≤9223372036854775807∧K (.str (a++b))):=id rfl
@[simp↓] theorem aao (a b:List UInt8):uA .eql a b K=K (.bl (decide (a=b))):=by
 simp only[uA];congr 2;by_cases h:a=b<;>simp[h]
@[simp↓] theorem aap (a b:List UInt8):uA .neq a b K=K (.bl (decide (a≠b))):=by
 simp only[uA];congr 2;by_cases h:a=b<;>simp[h]
@[simp↓] theorem aaq (a b:List UInt8):uA .lss a b K=K (.bl (Op.bytesLess a b)):=id rfl
@[simp↓] theorem aar (b:Bool):sc .eql b K=K (.bl b):=id rfl
@[simp↓] theorem aas (b:Bool):sc .neq b K=K (.bl (!b)):=id rfl
@[simp↓] theorem aeO (op:BinOp) (a b:Bool):Zm op K (.bl a) (.bl b)=sc op (a==b) K:=id rfl
@[simp↓] theorem aeP (b:Bool):unK .not K (.bl b)=K (.bl (!b)):=id rfl
@[simp↓] theorem aeQ (k:IntKind) (n:Int):unK .xor K (.int k n)=K (.int k (bits .xor k (if k.signed then-1 else k.max) n)):=id rfl
@[simp↓] theorem aeR (sz:Nat) (K:List PV->Prop) (q:PV):Nr s sz K q=zo s (λdR ys=>(ys=[]∨dR=sz)∧K ys) q:=id rfl
@[simp↓] theorem Xa (d k len aQ sz dR bytes sz'':Nat) (ys l:List PV) (K:St->Prop):Qk s d k len aQ sz dR bytes ys K (.arr sz'' l)=((aQ=l.length∧len=l.length∧dR=sz∧sz''=sz∧(l.length+ys.length)*bytes≤140737488355328∧l.length+ys.length≤9223372036854775807)∧
   K {env:=put s.env d (.rs k [] 0 (l.length+ys.length) (l.length+ys.length) sz .tip),bx:=put s.bx k (.arr sz (l++ys))}):=rfl
def NL (off len aQ sz:Nat) (p:List Step) (K:Nat->List PV->Prop):bX->Prop
 | .arr dR l=>(aQ=l.length∧p=[]∧sz=dR∧off+len≤l.length)∧K sz ((l.drop off).take len)
 | .box v=>dV (bf v p) λ
   | .ar dR n l=>(aQ=0∧sz=dR∧off+len≤n)∧K sz ((l.drop off).take len)
   |_=>False
 | .map .. =>False
@[simp↓] theorem aeS (K:Nat->List PV->Prop) (k off len aQ sz:Nat) (p:List Step) (c:kY):zo s K (.rs k p off len aQ sz c)=dV (get s.bx k) (NL off len aQ sz p K):=by
 simp only[zo];congr 1
@[simp↓] theorem aat (off len aQ sz dR:Nat) (l:List PV) (p:List Step) (K:Nat->List PV->Prop):NL off len aQ sz p K (.arr dR l)=((aQ=l.length∧p=[]∧sz=dR∧off+len≤l.length)∧K sz ((l.drop off).take len)):=id rfl
def aau (off len aQ sz:Nat) (K:Nat->List PV->Prop):PV->Prop
 | .ar dR n l=>(aQ=0∧sz=dR∧off+len≤n)∧K sz ((l.drop off).take len)
 |_=>False
@[simp↓] theorem aav (off len aQ sz:Nat) (v:PV) (p:List Step) (K:Nat->List PV->Prop):NL off len aQ sz p K (.box v)=dV (bf v p) (aau off len aQ sz K):=by
 simp only[NL];congr 1
@[simp↓] theorem aeT (off len aQ sz dR n:Nat) (l:List PV) (K:Nat->List PV->Prop):aau off len aQ sz K (.ar dR n l)=((aQ=0∧sz=dR∧off+len≤n)∧K sz ((l.drop off).take len)):=id rfl
@[simp↓] theorem ri (g:Bool) (sz z:Nat) (lo hi:Option AX) (l:List PV) (c:Bool):rF s g sz lo hi K (.sl z l c)=jh g s lo hi l.length l.length (λa b=>(z=sz)∧K (.sl sz ((l.take b).drop a) (c&&decide (b=l.length)))):=id rfl
@[simp↓] theorem aeU (g:Bool) (sz z k off len aQ:Nat) (p:List Step) (c:kY) (lo hi:Option AX):rF s g sz lo hi K (.rs k p off len aQ z c)=dV (get s.bx k) λblk=>(aQ=blk.aQ∧z=sz)∧jh g s lo hi len (Cr c off len aQ) λa b=>K (.rs k p (off+a) (b-a) aQ sz (Eh c a (decide (b=len)))):=_root_.id rfl
@[simp↓] theorem aeV (g:Bool) (sz z:Nat) (lo hi:Option AX) (m:AX) (l:List PV) (c:Bool):J0 s g sz lo hi m K (.sl z l c)=gG g (vx s m) (pL λm=>(0≤m∧m≤l.length)∧jh g s lo hi l.length m.toNat λa b=>(z=sz)∧K (.sl sz ((l.take b).drop a) (decide (b=m.toNat)))):=id rfl
def Tk (e:Bool):kY:=bif e then .clip else .any
@[simp] theorem agM:Tk true= .clip:=id rfl
@[simp↓] theorem aeW (g:Bool) (sz z k off len aQ:Nat) (p:List Step) (c:kY) (lo hi:Option AX) (m:AX):J0 s g sz lo hi m K (.rs k p off len aQ z c)=dV (get s.bx k) λblk=>(aQ=blk.aQ∧z=sz)∧gG g (vx s m) (pL λm=>(0≤m∧m≤len)∧jh g s lo hi len m.toNat λa b=>K (.rs k p (off+a) (b-a) aQ sz (Tk (decide (b=m.toNat))))):=by
 simp only[J0];congr 1;funext blk;congr 2;congr 1;funext m;congr 2;funext a b;by_cases h:b=m.toNat<;>simp[h,Tk]
@[simp↓] theorem agN (g:Bool) (K:Nat->Nat->Prop) (h:Nat):HQ g s none K h=K 0 h:=id rfl
@[simp↓] theorem agO (g:Bool) (x:AX) (K:Nat->Nat->Prop) (h:Nat):HQ g s (some x) K h=gG g (vx s x) (pL λl=>(0≤l∧l≤h)∧K l.toNat h):=id rfl
def mmC (mx:Bool) (K:PV->Prop):List PV->Prop
 | .int k a::r=>lB mx a r λn=>K (.int k n)
 |_=>False
@[simp↓] theorem aeX (mx:Bool) (k:IntKind) (a:Int) (r:List PV):mmC mx K (.int k a::r)=lB mx a r λn=>K (.int k n):=id rfl
@[simp↓] theorem ak8 (g mx:Bool) (xs:List AX):ev g s (.mm mx xs) K=sY g s xs (mmC mx K):=by
 simp only[ev];congr 1
@[simp↓] theorem Xb (mx:Bool) (a:Int) (K:Int->Prop):lB mx a [] K=K a:=id rfl
@[simp↓] theorem Xc (a b:Int) (k:IntKind) (r:List PV) (K:Int->Prop):lB true a (.int k b::r) K=lB true (max a b) r K:=by simp[lB,pL]
@[simp↓] theorem Xd (a b:Int) (k:IntKind) (r:List PV) (K:Int->Prop):lB false a (.int k b::r) K=lB false (min a b) r K:=by simp[lB,pL]
@[simp↓] theorem aaw (g:Bool) (f:Fn) (a b:List AX):ev g s (.mkFunc f a b) K=sY g s a λps=>sY g s b λqs=>(ps.all (λp=> !p.isAgg&&p.bG)=true∧qs.all (λp=> !p.isAgg&&p.bG)=true)∧K (.fn f ps qs):=by simp only[ev]
@[simp] theorem ge0 {α:Type} (x:α) (l:List α):(x::l)[0]? =some x:=_root_.id rfl
@[simp↓] theorem agP (want:Bool) (M:Bool->Prop) (D U:Prop) (b:Bool):w6 want true M D U (.bl b)=M (b==want):=id rfl
@[simp↓] theorem agQ (M:Bool->Prop) (D U:Prop):w6 true false M D U (.bl true)=D:=by simp[w6]
@[simp↓] theorem agR (M:Bool->Prop) (D U:Prop):w6 true false M D U (.bl false)=U:=by simp[w6]
@[simp↓] theorem agS (M:Bool->Prop) (D U:Prop):w6 false false M D U (.bl true)=U:=by simp[w6]
@[simp↓] theorem agT (M:Bool->Prop) (D U:Prop):w6 false false M D U (.bl false)=D:=by simp[w6]
@[simp↓] theorem ajW (A B:Prop):Nx A B (.bl true)=A:=by simp[Nx]
@[simp↓] theorem ajX (A B:Prop):Nx A B (.bl false)=B:=by simp[Nx]
@[simp↓] theorem agU (want:Bool) (M:Bool->Prop) (D U:Prop) (g b:Bool):w6 want true M D U (.gd g (.bl b))=M (g&&b==want):=id rfl
@[simp↓] theorem aeY (M:Bool->Prop) (D U:Prop):w6 true false M D U (.gd true (.bl true))=D:=by simp[w6]
@[simp↓] theorem aeZ (M:Bool->Prop) (D U:Prop):w6 true false M D U (.gd true (.bl false))=U:=by simp[w6]
@[simp↓] theorem ae0 (M:Bool->Prop) (D U:Prop):w6 false false M D U (.gd true (.bl true))=U:=by simp[w6]
@[simp↓] theorem ae1 (M:Bool->Prop) (D U:Prop):w6 false false M D U (.gd true (.bl false))=D:=by simp[w6]
@[simp↓] theorem agV (w:Bool) (M:Bool->Prop) (D U:Prop) (b:Bool):w6 w false M D U (.gd false (.bl b))=U:=by simp[w6]
@[simp↓] theorem aax (x a b:Bool):tO x K (.bl a) (.bl b)=K (.bl (bif x then a else b)):=id rfl
@[simp↓] theorem aay (x a g b:Bool):tO x K (.bl a) (.gd g (.bl b))=((x=false->g=true)∧K (.bl (bif x then a else b))):=id rfl
@[simp↓] theorem aaz (x a g b:Bool):tO x K (.gd g (.bl a)) (.bl b)=((x=true->g=true)∧K (.bl (bif x then a else b))):=id rfl
@[simp↓] theorem aaA (x a:Bool):tO x K (.bl a) .un=(x=true∧K (.bl a)):=id rfl
@[simp↓] theorem aaB (x a:Bool):tO x K .un (.bl a)=(x=false∧K (.bl a)):=id rfl
@[simp] theorem wrap_i64 {n:Int} (h: -9223372036854775808≤n∧n≤9223372036854775807):IntKind.i64.wrap n=n:=by
 simp only[IntKind.wrap,IntKind.bits,IntKind.signed];simp;omega
@[simp] theorem wrap_u8 {n:Int} (h:0≤n∧n≤255):IntKind.u8.wrap n=n:=by
 simp only[IntKind.wrap,IntKind.bits,IntKind.signed];simp;omega
@[simp] theorem wrap_u32 {n:Int} (h:0≤n∧n≤4294967295):IntKind.u32.wrap n=n:=by
 simp only[IntKind.wrap,IntKind.bits,IntKind.signed];simp;omega
@[simp] theorem wrap_u64 {n:Int} (h:0≤n∧n≤18446744073709551615):IntKind.u64.wrap n=n:=by
 simp only[IntKind.wrap,IntKind.bits,IntKind.signed];simp;omega
theorem qC (b:List UInt8):ij (b.map u8)=some b:=by
 induction b with
 |nil=>rfl
 |
  cons x b ih=>
  have h:(x.toNat:Int)<256:=by have:=x.toNat_lt;omega
  simp[u8,ij,ih];omega
@[simp] theorem NM (b:List UInt8):ij (b.map u8)=some b:=qC b
@[simp↓] theorem Xe (sz j s:Nat) (l:List PV) (r:List Step):jN (.arr sz l) (.i j s::r)=if s=sz then l[j]?.bind λc=>bf c r else none:=by
 first|(simp only[jN];cases l[j]? <;>rfl)|(simp only[bf];cases l[j]? <;>rfl)
@[simp↓] theorem Xf (sz o n s:Nat) (l:List PV) (r:List Step):jN (.arr sz l) (.w o n s::r)=if s=sz∧o+n≤l.length then bf (.ar sz n ((l.drop o).take n)) r else none:=_root_.id rfl
@[simp↓] theorem Xg (v:PV) (p:List Step):jN (.box v) p=bf v p:=by cases p<;>rfl
@[simp↓] theorem aaC (v:PV):bf v []=some v:=by cases v<;>rfl
@[simp↓] theorem agW (w i o:Nat) (l:List PV) (r:List Step):bf (.st w l) (.f i o::r)=if av (l.take i)=o then l[i]?.bind λc=>bf c r else none:=by
 simp only[bf];cases l[i]? <;>rfl
@[simp↓] theorem agX (sz n j s:Nat) (l:List PV) (r:List Step):bf (.ar sz n l) (.i j s::r)=if s=sz then l[j]?.bind λc=>bf c r else none:=by
 first|(simp only[jN];cases l[j]? <;>rfl)|(simp only[bf];cases l[j]? <;>rfl)
@[simp↓] theorem aaD (v x:PV):eL v [] x=if x.width=v.width then some x else none:=by cases v<;>rfl
@[simp↓] theorem agY (w i o:Nat) (l:List PV) (r:List Step) (x:PV):eL (.st w l) (.f i o::r) x=if av (l.take i)=o then l[i]?.bind λc=>(eL c r x).bind λc'=>some (.st w (l.set i c'))else none:=by
 simp only[eL];cases l[i]?with
 |none=>rfl
 |some c=>simp only[Option.bind_some];cases eL c r x<;>rfl
@[simp↓] theorem agZ (sz n j s:Nat) (l:List PV) (r:List Step) (x:PV):eL (.ar sz n l) (.i j s::r) x=if s=sz then l[j]?.bind λc=>(eL c r x).bind λc'=>some (.ar sz n (l.set j c'))else none:=by
 simp only[eL];cases l[j]?with
 |none=>rfl
 |some c=>simp only[Option.bind_some];cases eL c r x<;>rfl
@[simp↓] theorem Xh (v x:PV) (p:List Step):qu (.box v) p x=(eL v p x).bind λv'=>some (.box v'):=by
 simp only[qu];cases eL v p x<;>rfl
@[simp↓] theorem Xi (sz j s:Nat) (l:List PV) (r:List Step) (x:PV):qu (.arr sz l) (.i j s::r) x=if s=sz then l[j]?.bind λc=>(eL c r x).bind λc'=>some (.arr sz (l.set j c'))else none:=by
 simp only[qu];cases l[j]?with
 |none=>rfl
 |some c=>simp only[Option.bind_some];cases eL c r x<;>rfl
@[simp] theorem ae2 (z:Nat) (l:List PV) (v:PV):SA (.arr z l) v=wk v:=id rfl
@[simp] theorem ae3 (u v:PV):SA (.box u) v=v:=id rfl
@[simp] theorem Qw (z:Nat) (l:List PV):(bX.arr z l).aQ=l.length:=id rfl
@[simp] theorem Qx (v:PV):(bX.box v).aQ=0:=id rfl
@[simp↓] theorem NN (l:List PV):eh l []=some l:=id rfl
@[simp↓] theorem Mx (l:List PV) (i:Nat) (p:PV) (r:List (Nat×PV)):eh l ((i,p)::r)=l[i]?.bind λq=>if p.width=q.width∧p.bG=true then eh (l.set i p) r else none:=by
 simp only[eh];cases l[i]? <;>rfl
@[simp] theorem ak9 (w:Nat) (l:List PV):(PV.st w l).width=w:=id rfl
@[simp] theorem ala (sz n:Nat) (l:List PV):(PV.ar sz n l).width=n*sz:=id rfl
@[simp] theorem ajY (k:IntKind) (n:Int):(PV.int k n).width=1:=id rfl
@[simp] theorem alb (b:Bool):(PV.bl b).width=1:=id rfl
@[simp] theorem ajZ (b:List UInt8):(PV.str b).width=1:=id rfl
@[simp] theorem alc (z:Nat) (l:List PV) (c:Bool):(PV.sl z l c).width=1:=id rfl
@[simp] theorem ald (k:Nat) (p:List Step) (a b c d:Nat) (e:kY):(PV.rs k p a b c d e).width=1:=id rfl
@[simp] theorem ale (b:UInt8):(u8 b).width=1:=id rfl
@[simp] theorem Tl:av []=0:=id rfl
@[simp] theorem Qy (p:PV) (l:List PV):av (p::l)=p.width+av l:=id rfl
@[simp] theorem ag0 (w:Nat) (l:List PV):(PV.st w l).isAgg=true:=id rfl
@[simp] theorem ag1 (sz n:Nat) (l:List PV):(PV.ar sz n l).isAgg=true:=id rfl
@[simp] theorem ae4 (k:IntKind) (n:Int):(PV.int k n).isAgg=false:=id rfl
@[simp] theorem ag2 (b:Bool):(PV.bl b).isAgg=false:=id rfl
@[simp] theorem ae5 (b:List UInt8):(PV.str b).isAgg=false:=id rfl
@[simp] theorem ag3 (z:Nat) (l:List PV) (c:Bool):(PV.sl z l c).isAgg=false:=id rfl
@[simp] theorem ag4 (k:Nat) (p:List Step) (a b c d:Nat) (e:kY):(PV.rs k p a b c d e).isAgg=false:=id rfl
@[simp] theorem ag5 (k:Nat) (p:List Step) (a:Nat):(PV.pt k p a).isAgg=false:=id rfl
@[simp] theorem ag6 (b:UInt8):(u8 b).isAgg=false:=id rfl
@[simp] theorem ag7 (w:Nat) (l:List PV):(PV.st w l).bG=true:=id rfl
@[simp] theorem ag8 (sz n:Nat) (l:List PV):(PV.ar sz n l).bG=true:=id rfl
@[simp] theorem ae6 (k:IntKind) (n:Int):(PV.int k n).bG=true:=id rfl
@[simp] theorem ag9 (b:Bool):(PV.bl b).bG=true:=id rfl
@[simp] theorem ae7 (b:List UInt8):(PV.str b).bG=true:=id rfl
@[simp] theorem aha (z:Nat) (l:List PV) (c:Bool):(PV.sl z l c).bG=true:=id rfl
@[simp] theorem ahb (k:Nat) (p:List Step) (a b c d:Nat) (e:kY):(PV.rs k p a b c d e).bG=true:=id rfl
@[simp] theorem ahc (k:Nat) (p:List Step) (a:Nat):(PV.pt k p a).bG=true:=id rfl
@[simp] theorem ahd (f:Fn) (a b:List PV):(PV.fn f a b).bG=true:=id rfl
@[simp] theorem ahe (f:Fn) (a b:List PV):(PV.fn f a b).isAgg=false:=id rfl
@[simp] theorem ae8 (w:Nat) (l:List PV):(PV.st w l).flat=true:=id rfl
@[simp] theorem ae9 (sz n:Nat) (l:List PV):(PV.ar sz n l).flat=true:=id rfl
@[simp] theorem aaE (k:IntKind) (n:Int):(PV.int k n).flat=true:=id rfl
@[simp] theorem afa (b:Bool):(PV.bl b).flat=true:=id rfl
@[simp] theorem aaF (b:List UInt8):(PV.str b).flat=true:=id rfl
@[simp] theorem afb (z:Nat) (l:List PV) (c:Bool):(PV.sl z l c).flat=true:=id rfl
@[simp] theorem afc (k:Nat) (p:List Step) (a:Nat):(PV.pt k p a).flat=true:=id rfl
end Go.Ab
namespace Go.Ab
variable [eJ]
variable {P:Program} {s:St} [ji]
theorem al.with {n:Nat} {res:List AK} {R:PV->List bX->Prop} {t:Tg R} (c:List Cut) (ks:List Nat)
  (h:jq c s λs'=>Gg s' res λps=>dV (getAll s'.bx ks) λcY=>(ks.Nodup∧ks.take n=eC n)∧(ps.all PV.flat=true∧ae (bM ks) (cT ps)=true∧cY.all (af (bM ks))=true)∧R (aB (bp ks) (cT ps)) (cY.map (aE (bp ks)))):al n res R t s:=by
 refine⟨c,ks,iz c (λs' ur=> ?_) h⟩
 have V2:∀(l:List AK) (s:St) (K K':List PV->Prop),(∀p,K p->K' p)->Gg s l K->Gg s l K':=by
  intro l
  induction l with
  |nil=>intro s K K' h hk;exact h _ hk
  |cons x l ih=>intro s K K' h hk;exact wX (λp hp=>ih _ _ _ (λq hq=>h _ hq) hp) hk
 refine V2 _ _ _ _ (λps Cb=> ?_) ur
 cases hg:getAll s'.bx ks with
 |none=>rw[hg]at Cb;exact Cb.elim
 |some cY=>rw[hg]at Cb;exact⟨cY,⟨rfl,Cb.1.1,Cb.1.2⟩,Cb.2.1,Cb.2.2⟩
@[simp] theorem Qz (bx:List (Nat×bX)) (k:Nat) (r:List Nat):getAll bx (k::r)=(get bx k).bind λb=>(getAll bx r).bind λl=>some (b::l):=by
 simp only[getAll];cases get bx k<;>cases getAll bx r<;>rfl
@[simp] theorem aaG {p:PV} (h:Pure p) (ρ:Nat->Nat):aB ρ p=p:=h.aB ρ
@[simp] theorem Xj {p:List PV} (h:cD p) (ρ:Nat->Nat):aD ρ p=p:=h.aB ρ
@[simp] theorem ahf (ρ:Nat->Nat) (k:Nat) (p:List Step) (a b c d:Nat) (e:kY):aB ρ (.rs k p a b c d e)= .rs (ρ k) p a b c d e:=by simp[aB]
@[simp] theorem ahg (ρ:Nat->Nat) (k:Nat) (p:List Step) (a:Nat):aB ρ (.pt k p a)= .pt (ρ k) p a:=by simp[aB]
@[simp] theorem ahh (ρ:Nat->Nat) (w:Nat) (l:List PV):aB ρ (.st w l)= .st w (aD ρ l):=by simp[aB]
@[simp] theorem Xk (ρ:Nat->Nat) (p:PV) (l:List PV):aD ρ (p::l)=aB ρ p::aD ρ l:=id rfl
@[simp] theorem aaH (ρ:Nat->Nat) (z:Nat) (l:List PV):aE ρ (.arr z l)= .arr z (aD ρ l):=id rfl
@[simp] theorem aaI (ρ:Nat->Nat) (v:PV):aE ρ (.box v)= .box (aB ρ v):=id rfl
@[simp] theorem Xl (k:Nat) (ks:List Nat) (j:Nat):bp (k::ks) j=((idx (k::ks) j).map (KB+·)).getD j:=by
 simp only[bp];cases idx (k::ks) j<;>rfl
@[simp] theorem aaJ (x:Nat) (r:List Nat) (k:Nat):idx (x::r) k=if x=k then some 0 else(idx r k).map (·+1):=by
 simp only[idx];cases idx r k<;>rfl
@[simp] theorem afd (ks:List Nat) (k:Nat):bM ks k=(idx ks k).isSome:=id rfl
@[simp] theorem Xm (f:Nat->Bool) (w:Nat) (l:List PV):ae f (.st w l)=ab f l:=by simp[ae]
@[simp] theorem NO {α β:Type} (f:α->β) (l:List α):(l.map f).take l.length=l.map f:=tJ (by simp)
@[simp] theorem My {α β:Type} (f:α->β) (l:List α) (x:β):(l.map f++[x]).take (l.length+1)=l.map f++[x]:=tJ (by simp)
@[simp] theorem afe {p:PV} (h:Pure p) (n:Nat):cD (zr n p):=by rw[fC];exact wD h n
@[simp] theorem aaK {p:PV} (h:wk p=p) (n:Nat):jo (zr n p)=zr n p:=by rw[fC];exact zp h n
@[simp] theorem ahi (n:Nat) (k:IntKind) (m:Int):jo (zr n (.int k m))=zr n (.int k m):=aaK (by simp) n
theorem HW (b:List UInt8):cD (b.map u8):=by simp
@[simp] theorem Tm (b:List UInt8):cD (b.map u8)↔True:=iff_true_intro (HW b)
end Go.Ab
namespace Go.Ab
variable [eJ]
variable {P:Program} {s:St} [ji]
def qD (P:Program) (l:List AO) (o u:List Nat) (K:St->Prop) (_:Tg K) (s:St):Prop:=∃W,jk P l u.contains W s o K
@[simp↓] theorem Tn (l:List AO) (o u:List Nat) (Q:Exit->St->Prop):aw P (.regionD l o u) Q s=qD P l o u (Q .normal) .mk s:=_root_.id rfl
def kC (s:St):List (AO×Bool)->Bool
 |[]=>true
 |(x,_)::r=>(match x.iC with|some k=>(get s.bx k).isNone|none=>true)&&kC s r
def Ka (P:Program) (W:List Nat) (s:St):List (AO×Bool)->(St->Prop)->Prop
 |[],K=>K s
 |(x,f)::r,K=>kC s ((x,f)::r)=true∧jW P W f s x λt=>Ka P W t r K
def nI (l:List AO) (u:List Nat):List Nat->Option (List (AO×Bool))
 |[]=>some []
 |i::r=>match l[i]?,nI l u r with|some x,some m=>some ((x,u.contains i)::m)|_,_=>none
theorem tP {l:List AO} {u:List Nat}:∀ {o:List Nat} {m:List (AO×Bool)},nI l u o=some m->kC s m=fO l s o
 |[],m,hm=>by simp[nI]at hm;subst hm;rfl
 |
  i::r,m,hm=>by
  simp only[nI]at hm
  split at hm
  ·rename_i x m' hx mO
   simp only[sJ]at hm;subst hm
   rw[fZ]
   simp only[kC,tP mO]
   congr 1
   simp only[fO,List.all_cons,List.all_nil,Bool.and_true,hx]
   cases x.iC<;>rfl
  ·simp at hm
theorem w7 {l:List AO} {u:List Nat} {W:List Nat}:∀ {o:List Nat} {m:List (AO×Bool)} {s:St} {K:St->Prop},nI l u o=some m->Ka P W s m K->jk P l u.contains W s o K
 |[],m,s,K,hm,h=>by simp[nI]at hm;subst hm;exact h
 |
  i::r,m,s,K,hm,h=>by
  simp only[nI]at hm
  split at hm
  ·rename_i x m' hx mO
   simp only[sJ]at hm;subst hm
   have hf:kC s ((x,u.contains i)::m')=fO l s (i::r):=tP (u:=u) (by simp only[nI,hx,mO])
   simp only[jk,hx,Ka]at h⊢
   exact⟨hf▸h.1,yf (λt ht=>w7 mO ht) h.2⟩
  ·simp at hm
theorem qD.of {l:List AO} {o u:List Nat} {K:St->Prop} {t:Tg K} (W:List Nat) (m:List (AO×Bool)) (hm:nI l u o=some m) (h:Ka P W s m K):qD P l o u K t s:=⟨W,w7 hm h⟩
def EW:Option bX->Bool
 |some (.box _)=>true
 |_=>false
def QA (W:List Nat) (c:List (Nat×bX)):List (Nat×bX)->Prop
 |[]=>True
 |(k,b)::r=>(if F2 W=true then get c k=some b∨W.contains k=true∧EW (some b)=true∧EW (get c k)=true else W.contains k=true∨get c k=some b)∧QA W c r
theorem Kb {W:List Nat} {t:St}:∀ {l:List (Nat×bX)} {e:List (Nat×PV)},QA W t.bx l->Fr W ⟨e,l⟩ t
 |[],e,_=>λk b _ h=>by simp[get]at h
 |
  (n,v)::r,e,h=>λk b hw hb=>by
  simp only[get]at hb
  split at hb
  ·rename_i hk;subst hk
   simp only[sJ]at hb;subst hb
   have h1:=h.1
   split at h1
   ·rename_i hm
    rcases h1 with h1|⟨h1,h2,h3⟩
    ·exact⟨_,h1,rfl⟩
    ·cases v with
     |
      box x=>
      cases hg:get t.bx n with
      |none=>rw[hg]at h3;simp[EW]at h3
      |
       some c=>
       rw[hg]at h3
       cases c with
       |box y=>exact⟨_,rfl,by simp only[wC,h1,hm,and_self,if_true]⟩
       |_=>simp[EW]at h3
     |_=>simp[EW]at h2
   ·rename_i hm
    rcases h1 with h1|h1
    ·rw[h1]at hw;simp at hw;exact absurd hw hm
    ·exact⟨_,h1,rfl⟩
  ·exact Kb (e:=e) h.2 k b hw hb
def rG (P:Program) (W:List Nat) (s:St):List (AO×Bool)->(St->Prop)->Prop
 |[],K=>K s
 |(x,f)::r,K=>if x.quiet=true then(if f=true then iu P (s.less W) x (λt=>rG P W {t with bx:=s.bx} r K)else iu P s x (λt=>rG P W t r K))
   else kC s ((x,f)::r)=true∧iu P s x (λt=>(f=true->QA W t.bx s.bx)∧rG P W t r K)
theorem qE {s s':St} (h:s'.bx=s.bx):∀m:List (AO×Bool),kC s' m=kC s m
 |[]=>rfl
 |(x,f)::r=>by simp only[kC,qE h r,h]
theorem u0 {W:List Nat}:∀ {m:List (AO×Bool)} {s:St} {K:St->Prop},rG P W s m K->kC s m=true
 |[],s,K,h=>rfl
 |
  (x,f)::r,s,K,h=>by
  simp only[rG]at h
  split at h
  ·rename_i hq
   simp only[kC,jX hq,Bool.true_and]
   split at h
   ·obtain⟨v,h1,_⟩:=qY hq h
    have:=u0 h1
    exact(qE (s:=s) (s':= {env:=((s.less W).put x.dst v).env,bx:=s.bx}) rfl r).symm.trans this
   ·obtain⟨v,h1,_⟩:=qY hq h
    have:=u0 h1
    rwa [qE (kd _ _)]at this
  ·exact h.1
theorem nm {W:List Nat}:∀ {m:List (AO×Bool)} {s:St} {K:St->Prop},rG P W s m K->Ka P W s m K
 |[],s,K,h=>h
 |
  (x,f)::r,s,K,h=>by
  refine⟨u0 h,?_⟩
  simp only[rG,jW]at h⊢
  split at h
  ·rename_i hq
   rw[if_pos hq]
   split at h
   ·rename_i hf;rw[if_pos hf];exact eF (λt ht=>nm ht) h
   ·rename_i hf;rw[if_neg hf];exact eF (λt ht=>nm ht) h
  ·rename_i hq
   rw[if_neg hq]
   exact eF (λt ht=>⟨λe=>Kb (e:=s.env) (ht.1 e),nm ht.2⟩) h.2
@[simp] theorem aj0:F2 []=false:=_root_.id rfl
@[simp] theorem aj1 (a:Nat):F2 [a]=false:=_root_.id rfl
@[simp] theorem aj2 (a b:Nat) (r:List Nat):F2 (a::b::r)=(a==b):=_root_.id rfl
theorem NP {W:List Nat} (h:F2 W=false) (k:Nat) (b:bX):wC W k b=b:=by cases b<;>simp[wC,h]
def yg (W:List Nat) (b:List (Nat×bX)):List (Nat×bX):=(b.filter λp=>F2 W|| !W.contains p.1).map λp=>(p.1,wC W p.1 p.2)
@[simp] theorem Xn (W:List Nat):yg W []=[]:=_root_.id rfl
@[simp] theorem To (W:List Nat) (k:Nat) (v:bX) (r:List (Nat×bX)):yg W ((k,v)::r)=if F2 W=true then(k,wC W k v)::yg W r else if W.contains k=true then yg W r else(k,v)::yg W r:=by
 unfold yg;rw[List.filter_cons]
 cases hm:F2 W
 ·cases W.contains k<;>simp[NP hm]
 ·simp
@[simp] theorem aaL (d:Option Nat) (gd:Option (Nat×Bool)) (mg:Bool) (a:AX):AO.quiet ⟨d,gd,mg,.mv a⟩=true:=_root_.id rfl
@[simp] theorem aff (d:Option Nat) (gd:Option (Nat×Bool)) (mg:Bool) (a:AX):AO.iC ⟨d,gd,mg,.mv a⟩=none:=by simp[AO.iC]
@[simp] theorem QB (d:Option Nat) (gd:Option (Nat×Bool)) (mg:Bool) (z:PV) (ps:List (Nat×AX)):AO.quiet ⟨d,gd,mg,.build z ps⟩=true:=_root_.id rfl
@[simp] theorem Tp (d:Option Nat) (gd:Option (Nat×Bool)) (mg:Bool) (z:PV) (ps:List (Nat×AX)):AO.iC ⟨d,gd,mg,.build z ps⟩=none:=by simp[AO.iC]
@[simp] theorem Tq (d:Option Nat) (gd:Option (Nat×Bool)) (mg:Bool) (g:Bool) (m:Nat) (a:AX):AO.quiet ⟨d,gd,mg,.load g m a⟩=true:=_root_.id rfl
@[simp] theorem Xo (d:Option Nat) (gd:Option (Nat×Bool)) (mg:Bool) (o:BinOp) (e:ET) (a b:AX):AO.quiet ⟨d,gd,mg,.bin o e a b⟩=true:=_root_.id rfl
@[simp] theorem aaM (d:Option Nat) (gd:Option (Nat×Bool)) (mg:Bool) (o:BinOp) (e:ET) (a b:AX):AO.iC ⟨d,gd,mg,.bin o e a b⟩=none:=by simp[AO.iC]
@[simp] theorem QC (d:Option Nat) (gd:Option (Nat×Bool)) (mg:Bool) (k:IntKind) (a:AX):AO.quiet ⟨d,gd,mg,.convI k a⟩=true:=_root_.id rfl
@[simp] theorem Tr (d:Option Nat) (gd:Option (Nat×Bool)) (mg:Bool) (k:IntKind) (a:AX):AO.iC ⟨d,gd,mg,.convI k a⟩=none:=by simp[AO.iC]
@[simp] theorem QD (d:Option Nat) (gd:Option (Nat×Bool)) (mg:Bool) (k:SK) (a:AX) (l h m:Option AX):AO.quiet ⟨d,gd,mg,.slice k a l h m⟩=true:=_root_.id rfl
@[simp] theorem NQ (d:Option Nat) (gd:Option (Nat×Bool)) (mg:Bool) (i o:Nat) (a:AX):AO.quiet ⟨d,gd,mg,.fieldA i o a⟩=true:=_root_.id rfl
@[simp] theorem QE (d:Option Nat) (gd:Option (Nat×Bool)) (mg:Bool) (i o:Nat) (a:AX):AO.iC ⟨d,gd,mg,.fieldA i o a⟩=none:=by simp[AO.iC]
@[simp] theorem NR (d:Option Nat) (gd:Option (Nat×Bool)) (mg:Bool) (k:SK) (a b:AX):AO.quiet ⟨d,gd,mg,.indexA k a b⟩=true:=_root_.id rfl
@[simp] theorem QF (d:Option Nat) (gd:Option (Nat×Bool)) (mg:Bool) (k:SK) (a b:AX):AO.iC ⟨d,gd,mg,.indexA k a b⟩=none:=by simp[AO.iC]
@[simp] theorem Mz (d:Option Nat) (gd:Option (Nat×Bool)) (mg:Bool) (i:Nat) (a:AX):AO.quiet ⟨d,gd,mg,.extract i a⟩=true:=_root_.id rfl
@[simp] theorem NS (d:Option Nat) (gd:Option (Nat×Bool)) (mg:Bool) (i:Nat) (a:AX):AO.iC ⟨d,gd,mg,.extract i a⟩=none:=by simp[AO.iC]
@[simp] theorem Xp (d:Option Nat) (gd:Option (Nat×Bool)) (mg:Bool) (a:AX):AO.quiet ⟨d,gd,mg,.len a⟩=true:=_root_.id rfl
@[simp] theorem aaN (d:Option Nat) (gd:Option (Nat×Bool)) (mg:Bool) (g:Bool) (as:List AX):AO.quiet ⟨d,gd,mg,.mm g as⟩=true:=_root_.id rfl
@[simp] theorem afg (d:Option Nat) (gd:Option (Nat×Bool)) (mg:Bool) (g:Bool) (as:List AX):AO.iC ⟨d,gd,mg,.mm g as⟩=none:=by simp[AO.iC]
@[simp] theorem Ts (d:Option Nat) (gd:Option (Nat×Bool)) (mg:Bool) (a:AX) (as:List AX):AO.quiet ⟨d,gd,mg,.call a as⟩=false:=_root_.id rfl
@[simp] theorem Xq (d:Option Nat) (gd:Option (Nat×Bool)) (mg:Bool) (a:AX) (as:List AX):AO.iC ⟨d,gd,mg,.call a as⟩=none:=by simp[AO.iC]
@[simp] theorem QG (d:Option Nat) (gd:Option (Nat×Bool)) (mg:Bool) (a:AX) (as:List AX):AO.quiet ⟨d,gd,mg,.callq a as⟩=true:=_root_.id rfl
@[simp] theorem Tt (d:Option Nat) (gd:Option (Nat×Bool)) (mg:Bool) (a:AX) (as:List AX):AO.iC ⟨d,gd,mg,.callq a as⟩=none:=by simp[AO.iC]
@[simp] theorem QH (d:Option Nat) (gd:Option (Nat×Bool)) (mg:Bool) (z:PV):AO.quiet ⟨d,gd,mg,.alloc z⟩=false:=_root_.id rfl
@[simp] theorem QI (d:Option Nat) (gd:Option (Nat×Bool)) (mg:Bool) (m:Nat) (a b:AX):AO.quiet ⟨d,gd,mg,.store m a b⟩=false:=_root_.id rfl
@[simp] theorem Tu (d:Option Nat) (gd:Option (Nat×Bool)) (mg:Bool) (m:Nat) (a b:AX):AO.iC ⟨d,gd,mg,.store m a b⟩=none:=by simp[AO.iC]
@[simp] theorem NT (d:Option Nat) (gd:Option (Nat×Bool)) (mg:Bool) (m m2:Nat) (g:Bool) (a b:AX):AO.quiet ⟨d,gd,mg,.append m m2 g a b⟩=false:=_root_.id rfl
@[simp] theorem QJ (d:Option Nat) (gd:Option (Nat×Bool)) (mg:Bool) (m m2:Nat) (g:Bool) (a b:AX):AO.iC ⟨d,gd,mg,.append m m2 g a b⟩=none:=by simp[AO.iC]
@[simp] theorem Tv (d:Option Nat) (gd:Option (Nat×Bool)) (mg:Bool) (m:Nat) (a b:AX):AO.quiet ⟨d,gd,mg,.copy m a b⟩=false:=_root_.id rfl
@[simp] theorem Xr (d:Option Nat) (gd:Option (Nat×Bool)) (mg:Bool) (m:Nat) (a b:AX):AO.iC ⟨d,gd,mg,.copy m a b⟩=none:=by simp[AO.iC]
@[simp] theorem Xs (d:Option Nat) (gd:Option (Nat×Bool)) (mg:Bool) (m:Nat) (z:PV) (n:Nat) (ps:List (Nat×AX)):AO.quiet ⟨d,gd,mg,.buildSlice true m z n ps⟩=false:=_root_.id rfl
@[simp] theorem aaO (d:Option Nat) (gd:Option (Nat×Bool)) (mg:Bool) (m:Nat) (z:PV) (n:Nat) (ps:List (Nat×AX)):AO.iC ⟨d,gd,mg,.buildSlice true m z n ps⟩=none:=by simp[AO.iC]
theorem qD.run {l:List AO} {o u:List Nat} {K:St->Prop} {t:Tg K} (W:List Nat) {m:List (AO×Bool)} (hm:nI l u o=some m) (h:rG P W s m K):qD P l o u K t s:=qD.of W m hm (nm h)
@[simp↓] theorem aaP (W:List Nat) (K:St->Prop):rG P W s [] K=K s:=_root_.id rfl
@[simp↓] theorem ahj (W:List Nat) (n:Nat) (v:PV) (e:List (Nat×PV)) (b:List (Nat×bX)) (x:AO) (f:Bool) (r:List (AO×Bool)) (K:St->Prop):rG P W ⟨(n,v)::e,b⟩ ((x,f)::r) K=
  if x.quiet=true then(if f=true then iu P ⟨(n,v)::e,yg W b⟩ x (λt=>rG P W {t with bx:=b} r K)else iu P ⟨(n,v)::e,b⟩ x (λt=>rG P W t r K))
  else(kC ⟨(n,v)::e,b⟩ ((x,f)::r)=true∧iu P ⟨(n,v)::e,b⟩ x (λt=>(f=true->QA W t.bx b)∧rG P W t r K)):=by
 simp only[rG];rfl
@[simp] theorem afh (x:AO) (f:Bool) (r:List (AO×Bool)):kC s ((x,f)::r)=((match x.iC with|some k=>(get s.bx k).isNone|none=>true)&&kC s r):=_root_.id rfl
def DrE (P:Program) (l:List AO) (a:List Nat) (p q:Nat) (b u:List Nat) (K:St->Prop) (_:Tg K) (s:St):Prop:=∃W,lN P l u.contains W (p::q::b) s a λt=>jk P l u.contains W t (p::q::b) K∧jk P l u.contains W t (q::p::b) K
def qF (P:Program) (W:List Nat) (mE:List (AO×Bool)) (s:St):List (AO×Bool)->(St->Prop)->Prop
 |[],K=>kC s mE=true∧K s
 |(x,f)::r,K=>if x.quiet=true then(if f=true then iu P (s.less W) x (λt=>qF P W mE {t with bx:=s.bx} r K)else iu P s x (λt=>qF P W mE t r K))
   else kC s ((x,f)::(r++mE))=true∧iu P s x (λt=>(f=true->QA W t.bx s.bx)∧qF P W mE t r K)
theorem C8 {l:List AO} {u:List Nat}:∀ {a b:List Nat} {m n:List (AO×Bool)},nI l u a=some m->nI l u b=some n->nI l u (a++b)=some (m++n)
 |[],b,m,n,h,h2=>by simp[nI]at h;subst h;exact h2
 |
  i::r,b,m,n,h,h2=>by
  simp only[nI]at h
  split at h
  ·rename_i x m' hx mO
   simp only[sJ]at h;subst h
   simp only[List.cons_append,nI,hx,C8 mO h2]
  ·simp at h
theorem su {W:List Nat} {mE:List (AO×Bool)}:∀ {m:List (AO×Bool)} {s:St} {K:St->Prop},qF P W mE s m K->kC s (m++mE)=true
 |[],s,K,h=>h.1
 |
  (x,f)::r,s,K,h=>by
  simp only[qF]at h
  split at h
  ·rename_i hq
   simp only[List.cons_append,kC,jX hq,Bool.true_and]
   split at h
   ·obtain⟨v,h1,_⟩:=qY hq h
    have:=su h1
    exact(qE (s:=s) (s':= {env:=((s.less W).put x.dst v).env,bx:=s.bx}) rfl _).symm.trans this
   ·obtain⟨v,h1,_⟩:=qY hq h
    have:=su h1
    rwa [qE (kd _ _)]at this
  ·exact h.1
theorem xa {l:List AO} {u:List Nat} {W E:List Nat} {mE:List (AO×Bool)} (hE:nI l u E=some mE):∀ {o:List Nat} {m:List (AO×Bool)} {s:St} {K:St->Prop},nI l u o=some m->qF P W mE s m K->lN P l u.contains W E s o K
 |[],m,s,K,hm,h=>by simp[nI]at hm;subst hm;exact⟨by rw[←tP hE];exact h.1,h.2⟩
 |
  i::r,m,s,K,hm,h=>by
  have LZ:=hm
  simp only[nI]at hm
  split at hm
  ·rename_i x m' hx mO
   simp only[sJ]at hm;subst hm
   have hf:=tP (s:=s) (C8 LZ hE)
   have nP:=su h
   rw[hf]at nP
   simp only[lN,hx]
   refine⟨by simpa using nP,?_⟩
   simp only[qF,jW]at h⊢
   split at h
   ·rename_i hq
    rw[if_pos hq]
    split at h
    ·rename_i hf;rw[if_pos hf];exact eF (λt ht=>xa hE mO ht) h
    ·rename_i hf;rw[if_neg hf];exact eF (λt ht=>xa hE mO ht) h
   ·rename_i hq
    rw[if_neg hq]
    exact eF (λt ht=>⟨λe=>Kb (e:=s.env) (ht.1 e),xa hE mO ht.2⟩) h.2
  ·simp at hm
theorem rj {W:List Nat} {mE:List (AO×Bool)}:∀ {m:List (AO×Bool)} {s:St} {K K':St->Prop},(∀t,K t->K' t)->qF P W mE s m K->qF P W mE s m K'
 |[],s,K,K',h,hk=>⟨hk.1,h _ hk.2⟩
 |
  (x,f)::r,s,K,K',h,hk=>by
  simp only[qF]at hk⊢
  split at hk
  ·rename_i hq;rw[if_pos hq]
   split at hk
   ·rename_i hf;rw[if_pos hf];exact eF (λt ht=>rj h ht) hk
   ·rename_i hf;rw[if_neg hf];exact eF (λt ht=>rj h ht) hk
  ·rename_i hq;rw[if_neg hq]
   exact⟨hk.1,eF (λt ht=>⟨ht.1,rj h ht.2⟩) hk.2⟩
theorem DrE.run {l:List AO} {a:List Nat} {p q:Nat} {b u:List Nat} {K:St->Prop} {t:Tg K} (W:List Nat) {m m1 m2:List (AO×Bool)} (hm:nI l u a=some m) (h1:nI l u (p::q::b)=some m1) (h2:nI l u (q::p::b)=some m2)
  (h:qF P W m1 s m λt=>rG P W t m1 K∧rG P W t m2 K):DrE P l a p q b u K t s:=⟨W,xa h1 hm (rj (λt ht=>⟨w7 h1 (nm ht.1),w7 h2 (nm ht.2)⟩) h)⟩
@[simp↓] theorem Xt:kC s []=true:=_root_.id rfl
@[simp↓] theorem aaQ (k:Nat) (mg f:Bool) (z:PV) (r:List (AO×Bool)):kC s ((⟨some k,none,mg,.alloc z⟩,f)::r)=((get s.bx k).isNone&&kC s r):=_root_.id rfl
@[simp] theorem afi (W:List Nat) (c:List (Nat×bX)):QA W c []=True:=_root_.id rfl
@[simp] theorem aaR (W:List Nat) (c:List (Nat×bX)) (k:Nat) (b:bX) (r:List (Nat×bX)):QA W c ((k,b)::r)=((if F2 W=true then get c k=some b∨W.contains k=true∧EW (some b)=true∧EW (get c k)=true else W.contains k=true∨get c k=some b)∧QA W c r):=_root_.id rfl
end Go.Ab
namespace Go.Ab
variable [eJ]
variable {P:Program} {s:St}
theorem RgS.of {ps:List Nat} {x y:dT} {Q:Exit->St->Prop} {t:Tg (x,y,Q)} {fid:FuncId} {cap sU:List PV} {wu Ec:List bX} {Y:List PV->List bX->(List bX->Prop)->Prop} (ks:List Nat) (cY:List bX)
  (hg:getAll s.bx ks=some cY) (hn:ks.Nodup) (hc:ab (bM ks) cap=true) (hb:cY.all (af (bM ks))=true) (FC:aD (bp ks) cap=sU) (yX:cY.map (aE (bp ks))=wu)
  (hI:Qg P fid sU wu Y λfp=>fp=Ec)
  (hr:∀args fp R1,Y args fp R1->(args.length=ps.length∧fp.length=ks.length)∧aw P x (xV noQ λs'=>aw P y (JQ ks.length R1) s') (Bt ks s ps args fp))
  (hl:Ec.length=ks.length∧Ec.all (af (fj Ec.length))=true) (hK:Q .normal {s with bx:=bb s.bx ks (Ec.map (aE (dv ks)))}):RgS P ps x y Q t s (.fn (.func fid) [] cap):=by
 refine⟨λ_ _ _ _ h=>h,ks,cY,Y,λfp=>fp=Ec,⟨hg,hn,hc,hb⟩,by rw[FC,yX];exact hI,hr,?_⟩
 rintro fp rfl
 exact⟨hl,hK⟩
theorem an.gen {d:Option Nat} {f:FuncId} {args gY:List PV} {wu Ec:List bX} {r1:PV} {K:St->Prop} {t:Tg K} (ks os:List Nat) (cY:List bX) (hA:ai P f gY wu λr fp=>r=r1∧fp=Ec)
  (hg:getAll s.bx ks=some cY) (hn:(ks++os).Nodup) (Sf:∀o∈os,get s.bx o=none) (ha:ab (bM ks) args=true) (hb:cY.all (af (bM ks))=true)
  (ha':jo (aD (bp ks) args)=gY) (yX:cY.map (aE (bp ks))=wu) (hl:Ec.length=(ks++os).length∧ae (fj Ec.length) r1=true∧Ec.all (af (fj Ec.length))=true)
  (h:K ({s with bx:=bb s.bx (ks++os) (Ec.map (aE (dv (ks++os))))}.put d (aB (dv (ks++os)) r1))):an P s d f args K t:=by
 subst ha' yX
 refine⟨ks,os,cY,_,hg,hn,Sf,ha,hb,ai.W9 hA,?_⟩
 rintro r fp ⟨rfl,rfl⟩
 exact⟨hl,h⟩
theorem ZM.of {n:Nat} {R:List bX->Prop} {t:Tg R} (c:List Cut) (h:jq c s λs'=>∃cY,getAll s'.bx (eC n)=some cY∧cY.all (af (fj n))=true∧R cY):ZM n R t s:=⟨c,h⟩
@[simp] theorem aaS:eC 1=[KB]:=rfl
@[simp] theorem aaT:eC 2=[KB,KB+1]:=rfl
@[simp] theorem aaU:eC 3=[KB,KB+1,KB+2]:=rfl
@[simp] theorem aaV:eC 5=[KB,KB+1,KB+2,KB+3,KB+4]:=rfl
@[simp] theorem aj4 {n:Nat} (h:n<9000):(KB=n)=False:=by simp only[KB,eq_iff_iff,iff_false];omega
@[simp] theorem ahk {n:Nat} (h:n<9000):(n=KB)=False:=by simp only[KB,eq_iff_iff,iff_false];omega
@[simp] theorem Xu {n i:Nat} (h:n<9000):(KB+i=n)=False:=by simp only[KB,eq_iff_iff,iff_false];omega
@[simp] theorem Tw {n i:Nat} (h:n<9000):(n=KB+i)=False:=by simp only[KB,eq_iff_iff,iff_false];omega
@[simp] theorem Xv {n:Nat} (h:n<9000):(KB<n)=False:=by simp only[KB,eq_iff_iff,iff_false];omega
@[simp] theorem MA {n i:Nat} (h:n<9000):(KB+i<n)=False:=by simp only[KB,eq_iff_iff,iff_false];omega
@[simp] theorem afj {i:Nat}:(KB+i<KB)=False:=by simp
end Go.Ab
namespace Go.Ab
variable [eJ]
structure ahl (sh:Sh) (p:PV):Prop where
 refs:ae (λ_=>false) p=true
 wk:wk p=p
 width:p.width=rO sh
 agg:p.isAgg=sh.agg
 beq:PV.beq p p=true
 cell:p.bG=true
 flat:p.flat=true
mutual
theorem gf:∀(p:PV) (sh:Sh),fits sh p=true->ahl sh p
 | .bl b,.b,_=>⟨rfl,by simp,rfl,rfl,by simp[PV.beq],rfl,rfl⟩
 | .int k n,.i k',h=>⟨rfl,by simp,rfl,rfl,by simp[PV.beq],rfl,rfl⟩
 | .str s,.s,_=>⟨rfl,by simp,rfl,rfl,by simp[PV.beq],rfl,rfl⟩
 |
  .st w m,.st l,h=>by
  simp only[fits,aJ,decide_eq_true_eq]at h
  obtain⟨h1,h2,h3,h4⟩:=yh m l h.2
  exact⟨by simpa[ae]using h1,by simp[h2],by simp[rO,h.1],rfl,by simp[PV.beq,h4],rfl,rfl⟩
 |
  .ar sz k m,.ar n e,h=>by
  simp only[fits,aJ,decide_eq_true_eq]at h
  obtain⟨h1,h2,h4⟩:=yi m e h.2
  exact⟨by simpa[ae]using h1,by simp[h2],by simp[rO,h.1.1,h.1.2.1],rfl,by simp[PV.beq,h4],rfl,rfl⟩
 | .un,sh,h=>by cases sh<;>simp[fits]at h
 | .tup _,sh,h=>by cases sh<;>simp[fits]at h
 | .sl _ _ _,sh,h=>by cases sh<;>simp[fits]at h
 | .rs _ _ _ _ _ _ _,sh,h=>by cases sh<;>simp[fits]at h
 | .np,sh,h=>by cases sh<;>simp[fits]at h
 | .pt _ _ _,sh,h=>by cases sh<;>simp[fits]at h
 | .fp _ _ _,sh,h=>by cases sh<;>simp[fits]at h
 | .fn _ _ _,sh,h=>by cases sh<;>simp[fits]at h
 | .nf,sh,h=>by cases sh<;>simp[fits]at h
 | .gd _ _,sh,h=>by cases sh<;>simp[fits]at h
 | .ifc _ _,sh,h=>by cases sh<;>simp[fits]at h
 | .ni,sh,h=>by cases sh<;>simp[fits]at h
 | .mp _ _,sh,h=>by cases sh<;>simp[fits]at h
 | .bl _,.i _,h=>by simp[fits]at h
 | .bl _,.s,h=>by simp[fits]at h
 | .bl _,.st _,h=>by simp[fits]at h
 | .bl _,.ar _ _,h=>by simp[fits]at h
 | .int _ _,.b,h=>by simp[fits]at h
 | .int _ _,.s,h=>by simp[fits]at h
 | .int _ _,.st _,h=>by simp[fits]at h
 | .int _ _,.ar _ _,h=>by simp[fits]at h
 | .str _,.b,h=>by simp[fits]at h
 | .str _,.i _,h=>by simp[fits]at h
 | .str _,.st _,h=>by simp[fits]at h
 | .str _,.ar _ _,h=>by simp[fits]at h
 | .st _ _,.b,h=>by simp[fits]at h
 | .st _ _,.i _,h=>by simp[fits]at h
 | .st _ _,.s,h=>by simp[fits]at h
 | .st _ _,.ar _ _,h=>by simp[fits]at h
 | .ar _ _ _,.b,h=>by simp[fits]at h
 | .ar _ _ _,.i _,h=>by simp[fits]at h
 | .ar _ _ _,.s,h=>by simp[fits]at h
 | .ar _ _ _,.st _,h=>by simp[fits]at h
theorem yh:∀(m:List PV) (l:List Sh),j7 l m=true->ab (λ_=>false) m=true∧jo m=m∧av m=tc l∧PV.mF m m=true
 |[],[],_=>⟨rfl,rfl,rfl,by simp[PV.mF]⟩
 |
  p::m,x::l,h=>by
  simp only[j7,aJ]at h
  have f:=gf p x h.1
  obtain⟨h1,h2,h3,h4⟩:=yh m l h.2
  exact⟨by simp[ab,f.refs,h1],by simp[f.wk,h2],by simp[tc,f.width,h3],by simp[PV.mF,f.beq,h4]⟩
 |[],_::_,h=>by simp[j7]at h
 |_::_,[],h=>by simp[j7]at h
theorem yi:∀(m:List PV) (e:Sh),qv e m=true->ab (λ_=>false) m=true∧jo m=m∧PV.mF m m=true
 |[],_,_=>⟨rfl,rfl,by simp[PV.mF]⟩
 |
  p::m,e,h=>by
  simp only[qv,aJ]at h
  have f:=gf p e h.1
  obtain⟨h1,h2,h4⟩:=yi m e h.2
  exact⟨by simp[ab,f.refs,h1],by simp[f.wk,h2],by simp[PV.mF,f.beq,h4]⟩
end
structure FV (sh:Sh) where
 p:PV
 ok:fits sh p=true
variable {sh:Sh} (v:FV sh)
@[simp] theorem FV.fits:Ab.fits sh v.p=true:=v.ok
@[simp] theorem FV.pure:Pure v.p:=Pure.of (gf v.p sh v.ok).refs
@[simp] theorem FV.wk:Ab.wk v.p=v.p:=(gf v.p sh v.ok).wk
@[simp] theorem FV.width:v.p.width=rO sh:=(gf v.p sh v.ok).width
@[simp] theorem FV.agg:v.p.isAgg=sh.agg:=(gf v.p sh v.ok).agg
@[simp] theorem FV.beq:PV.beq v.p v.p=true:=(gf v.p sh v.ok).beq
@[simp] theorem FV.cell:v.p.bG=true:=(gf v.p sh v.ok).cell
@[simp] theorem FV.flat:v.p.flat=true:=(gf v.p sh v.ok).flat
@[simp↓] theorem FV.gG (g:Bool) (K:PV->Prop):Ab.gG g v.p K=K v.p:=by
 have:=(gf v.p sh v.ok).flat
 cases h:v.p<;>rw[h]at this<;>simp[PV.flat]at this<;>rfl
end Go.Ab
namespace Go.Ab
variable [eJ]
variable {P:Program} {s:St} [ji]
theorem fb.C9 {α:Type} {x:dT} {Q:Exit->St->Prop} {t:Tg (x,Q)} (n:Nat) (x0:α) (I:Nat->α->Prop) (ks:List Nat) (E:Nat->α->List (Nat×PV)) (B:Nat->α->List (Nat×bX)) (c0:List Cut)
  (h:jq c0 s λs0=>jH s0 ks (E 0 x0) (B 0 x0)=jH s0 ks [] []∧I 0 x0∧
   (∀i y,i<n->I i y->∀K:St->Prop,(∀z s2,jH s2 ks [] []=jH s0 ks (E (i+1) z) (B (i+1) z)->I (i+1) z->K s2)->aw P x (xV Q λs'=>∃c:List Cut,jq c s' K) (jH s0 ks (E i y) (B i y)))∧
   (∀y,I n y->∀K:St->Prop,aw P x (xV Q K) (jH s0 ks (E n y) (B n y)))):fb P x Q t s:=by
 let
   R:St->Prop:=λs0=>(∀i y,i<n->I i y->∀K:St->Prop,(∀z s2,jH s2 ks [] []=jH s0 ks (E (i+1) z) (B (i+1) z)->I (i+1) z->K s2)->aw P x (xV Q λs'=>∃c:List Cut,jq c s' K) (jH s0 ks (E i y) (B i y)))∧
   (∀y,I n y->∀K:St->Prop,aw P x (xV Q K) (jH s0 ks (E n y) (B n y)))
 let J:Nat->St->Prop:=λm st=>∃s0 i y,i≤n∧m=n-i∧I i y∧st=jH s0 ks (E i y) (B i y)∧R s0
 refine⟨J,c0++[.keep ks],?_,?_⟩
 ·rw[mf]
  refine iz c0 (λs0 hs=> ?_) h
  obtain⟨h1,h2,h3⟩:=hs
  exact⟨n,s0,0,x0,by omega,by omega,h2,by rw[h1];rfl,h3⟩
 ·rintro m st ⟨s0,i,y,hi,rfl,hI,rfl,h3⟩
  by_cases dG:i<n
  ·have V4:∀(K:St->Prop) s',(∃c:List Cut,jq c s' λs2=>jq [.keep ks] s2 K)->∃c:List Cut,jq c s' K:=λK s' ⟨c,hc⟩=>⟨c++[.keep ks],by rw[mf];exact hc⟩
   have:=h3.1 i y dG hI (λs2=>jq [.keep ks] s2 λs'=>∃m,m<n-i∧J m s')
    (λz s2 e hI'=>⟨n-(i+1),by omega,s0,i+1,z,by omega,rfl,hI',by rw[←e];rfl,h3⟩)
   refine Gk (λe s' he=> ?_) this
   cases e with
   |normal=>exact V4 _ _ he
   |_=>exact he
  ·have za:i=n:=by omega
   subst za
   exact h3.2 y hI _
end Go.Ab
namespace Go.Ab
variable [eJ]
variable {P:Program} {s:St} [ji]
def cpA (s:St) (d:Option Nat) (sz:Nat) (ys:List PV) (K:St->Prop) (k:Nat) (v:PV) (pth:List Step) (off len aQ dR:Nat):PV->Prop
 | .ar sz'' n l=>dV (eL v pth (.ar sz'' n (l.take off++ys.take (min ys.length len)++l.drop (off+min ys.length len)))) λv'=>(aQ=0∧dR=sz∧sz''=sz∧off+len≤n)∧K ({s with bx:=put s.bx k (.box v')}.put d (.int .i64 (min ys.length len:Nat)))
 |_=>False
def cpB (s:St) (d:Option Nat) (sz:Nat) (ys:List PV) (K:St->Prop) (k:Nat) (pth:List Step) (off len aQ dR:Nat):bX->Prop
 | .arr sz'' l=>(aQ=l.length∧pth=[]∧dR=sz∧sz''=sz∧off+len≤l.length)∧K ({s with bx:=put s.bx k (.arr sz (l.take off++ys.take (min ys.length len)++l.drop (off+min ys.length len)))}.put d (.int .i64 (min ys.length len:Nat)))
 | .box v=>dV (bf v pth) (cpA s d sz ys K k v pth off len aQ dR)
 | .map .. =>False
def QK (s:St) (d:Option Nat) (sz:Nat) (ys:List PV) (K:St->Prop):PV->Prop
 | .rs k pth off len aQ dR _=>dV (get s.bx k) (cpB s d sz ys K k pth off len aQ dR)
 |_=>False
def cpQ (s:St) (d:Option Nat) (sz:Nat) (p:PV) (K:St->Prop):PV->Prop
 | .str bs=>sz=1∧QK s d sz (bs.map u8) K p
 |q=>zo s (λdR ys=>(ys=[]∨dR=sz)∧QK s d sz ys K p) q
theorem Ao (d:Option Nat) (sz:Nat) (p:PV) (ys:List PV) (K:St->Prop):jT s d sz p ys K=QK s d sz ys K p:=by
 cases p<;>try rfl
 rename_i k pth off len aQ dR c
 simp only[jT,QK]
 generalize get s.bx k=o
 cases o with
 |none=>rfl
 |
  some b=>
  cases b with
  |arr z l=>rfl
  |
   box v=>
   simp only[dV,cpB]
   generalize bf v pth=o
   cases o with
   |none=>rfl
   |
    some q=>
    cases q<;>simp only[cpA,dV]
    rename_i z n l
    generalize eL v pth (.ar z n (List.take off l++List.take (min ys.length len) ys++List.drop (off+min ys.length len) l))=o
    cases o<;>rfl
  |map b ks vs l=>rfl
@[simp↓] theorem ahn (d:Option Nat) (sz:Nat) (x y:AX) (K:St->Prop):ex s d (.copy sz x y) K=gG true (vx s x) λp=>gG true (vx s y) λq=>cpQ s d sz p K q:=by
 simp only[ex,jD]
 congr 1;funext p;congr 1;funext q
 cases q<;>simp only[cpQ,Qj,J3,Nr,Zs,Ao]
@[simp↓] theorem aho (d:Option Nat) (sz:Nat) (p:PV) (K:St->Prop) (z:Nat) (l:List PV) (c:Bool):cpQ s d sz p K (.sl z l c)=((l=[]∨z=sz)∧QK s d sz l K p):=_root_.id rfl
@[simp↓] theorem ahp (d:Option Nat) (sz:Nat) (ys:List PV) (K:St->Prop) (k:Nat) (pth:List Step) (off len aQ dR:Nat) (c:kY):QK s d sz ys K (.rs k pth off len aQ dR c)=dV (get s.bx k) (cpB s d sz ys K k pth off len aQ dR):=_root_.id rfl
@[simp↓] theorem afm (d:Option Nat) (sz:Nat) (ys:List PV) (K:St->Prop) (k:Nat) (pth:List Step) (off len aQ dR:Nat) (v:PV):cpB s d sz ys K k pth off len aQ dR (.box v)=dV (bf v pth) (cpA s d sz ys K k v pth off len aQ dR):=_root_.id rfl
@[simp↓] theorem ahq (d:Option Nat) (sz:Nat) (ys:List PV) (K:St->Prop) (k:Nat) (v:PV) (pth:List Step) (off len aQ dR z n:Nat) (l:List PV):cpA s d sz ys K k v pth off len aQ dR (.ar z n l)=dV (eL v pth (.ar z n (l.take off++ys.take (min ys.length len)++l.drop (off+min ys.length len)))) λv'=>(aQ=0∧dR=sz∧z=sz∧off+len≤n)∧K ({s with bx:=put s.bx k (.box v')}.put d (.int .i64 (min ys.length len:Nat))):=_root_.id rfl
def flP (s:St) (sz:Nat) (z:PV) (K:St->Prop):PV->Prop
 | .rs k pth off len aQ dR c=>QK s none sz (List.replicate len z) K (.rs k pth off len aQ dR c)
 |_=>False
@[simp↓] theorem ahs (sz:Nat) (z:PV) (K:St->Prop) (k:Nat) (pth:List Step) (off len aQ dR:Nat) (c:kY):flP s sz z K (.rs k pth off len aQ dR c)=QK s none sz (List.replicate len z) K (.rs k pth off len aQ dR c):=_root_.id rfl
@[simp↓] theorem aht (d:Option Nat) (sz:Nat) (z:PV) (x:AX) (K:St->Prop):ex s d (.fill sz z x) K=gG true (vx s x) λp=>d=none∧flP s sz z K p:=by
 simp only[ex,jD]
 congr 1;funext p
 simp only[Je]
 congr 1
 cases p<;>simp only[flP,Ao]
end Go.Ab
namespace Go.Ab
variable [eJ]
variable {P:Program} {Γ Δ:Cx}
mutual
def qh:PV->Bool
 | .sl _ l _=>l.isEmpty
 | .fp .. | .fn .. | .ifc .. | .gd .. | .tup _=>false
 | .st _ l=>ju l
 | .ar _ _ l=>ju l
 |_=>true
def ju:List PV->Bool
 |[]=>true
 |p::r=>qh p&&ju r
end
def Da:PV->Bool
 | .tup l=>ju l
 |p=>qh p
def QL:bX->Bool
 | .box v=>qh v
 | .arr _ l=>ju l
 | .map .. =>true
structure Tx (ρ:Nat->Nat) (Γ Δ:Cx):Prop where
 heap:Δ.heap=Γ.heap
 ref:∀k blk,get Γ.bx k=some blk->∃cI,get Δ.bx (ρ k)=some cI∧cI.aQ=blk.aQ∧Δ.ι (ρ k)=Γ.ι k
theorem yj (ρ:Nat->Nat):∀l:List PV,aD ρ l=l.map (Ab.aB ρ)
 |[]=>rfl
 |p::l=>by simp[aD,yj ρ l]
theorem aG.NU {ρ:Nat->Nat} (hs:Tx ρ Γ Δ) {l:List PV} {cs:List Value} (h:aG Γ l cs):ju l=true->aG Δ (aD ρ l) cs:=by
 induction h with
 |nil=>intro _;exact .nil
 |un h hr ih=>intro hf;simp only[ju,aJ]at hf;exact .un h (ih hf.2)
 |bl x hr ih=>intro hf;simp only[ju,aJ]at hf;exact .bl x (ih hf.2)
 |int k n hr ih=>intro hf;simp only[ju,aJ]at hf;exact .int k n (ih hf.2)
 |str l s h hr ih=>intro hf;simp only[ju,aJ]at hf;exact .str l s h (ih hf.2)
 |st w l hl hw hr ihl ih=>intro hf;simp only[ju,qh,aJ]at hf;exact .st w _ (ihl hf.1) hw (ih hf.2)
 |
  ar sz n l hl hn hw hr ihl ih=>
  intro hf;simp only[ju,qh,aJ]at hf
  refine .ar sz n _ (ihl hf.1) (by rw[kP];exact hn) ?_ (ih hf.2)
  intro x hx
  rw[yj]at hx
  obtain⟨y,hy,rfl⟩:=List.mem_map.1 hx
  rw[nc];exact hw y hy
 |
  sl sz l clip a bC hl hw hc hk hb hr ihl ih=>
  intro hf;simp only[ju,qh,aJ,List.isEmpty_iff]at hf
  obtain⟨rfl,hf2⟩:=hf
  cases hl
  exact .sl sz [] clip a bC .nil (by simp) hc hk (λh=>absurd rfl h) (ih hf2)
 |
  rs k p off len aQ sz c v blk hg h1 hv hr ih=>
  intro hf;simp only[ju,qh,aJ]at hf
  obtain⟨cI,g1,g2,g3⟩:=hs.ref k blk hg.1
  refine .rs (ρ k) p off len aQ sz c v cI ⟨g1,by rw[g2];exact hg.2⟩ h1 (λht=> ?_) (ih hf.2)
  obtain⟨a,bC,e1,e2⟩:=hv (by rw[ht,g2])
  exact⟨a,bC,e1,e2.aB g3 hs.heap⟩
 |np hr ih=>intro hf;simp only[ju,aJ]at hf;exact .np (ih hf.2)
 |
  pt k p aQ v blk hg h1 hv hr ih=>
  intro hf;simp only[ju,qh,aJ]at hf
  obtain⟨cI,g1,g2,g3⟩:=hs.ref k blk hg.1
  refine .pt (ρ k) p aQ v cI ⟨g1,by rw[g2];exact hg.2⟩ h1 (λht=> ?_) (ih hf.2)
  obtain⟨b,e1,e2⟩:=hv (by rw[ht,g2])
  exact⟨b,by rw[g3,e1],e2⟩
 |fp=>intro hf;simp[ju,qh]at hf
 |fn=>intro hf;simp[ju,qh]at hf
 |nf hr ih=>intro hf;simp only[ju,aJ]at hf;exact .nf (ih hf.2)
 |ifc=>intro hf;simp[ju,qh]at hf
 |ni hr ih=>intro hf;simp only[ju,aJ]at hf;exact .ni (ih hf.2)
 |mp k b hr ih=>intro hf;simp only[ju,aJ]at hf;exact .mp k b (ih hf.2)
theorem aG.EX {ρ:Nat->Nat} (hs:Tx ρ Γ Δ) {p:PV} {cs:List Value} (h:aG Γ [p] cs) (hf:qh p=true):aG Δ [Ab.aB ρ p] cs:=by
 have:=h.NU hs (by simp[ju,hf])
 simpa only[aD]using this
theorem aO.NU {ρ:Nat->Nat} (hs:Tx ρ Γ Δ) {p:PV} {v:Value} (h:aO Γ p v) (hf:qh p=true):aO Δ (Ab.aB ρ p) v:=by
 cases p
 case un=>trivial
 case st w l=>obtain⟨cs,h1,h2⟩:=h;exact⟨cs,h1,h2.EX hs hf⟩
 case ar sz n l=>obtain⟨cs,h1,h2⟩:=h;exact⟨cs,h1,h2.EX hs hf⟩
 case gd=>simp[qh]at hf
 case tup=>simp[qh]at hf
 all_goals exact aG.EX hs h hf
theorem jF.NU {ρ:Nat->Nat} (hs:Tx ρ Γ Δ) {p:PV} {v:Value} (h:jF Γ p v) (hf:qh p=true):jF Δ (Ab.aB ρ p) v:=by
 cases p
 case un=>trivial
 case st w l=>obtain⟨cs,h1,h2⟩:=h;exact⟨cs,h1,h2.EX hs hf⟩
 case ar sz n l=>obtain⟨cs,h1,h2⟩:=h;exact⟨cs,h1,h2.EX hs hf⟩
 all_goals exact aG.EX hs h hf
theorem j3.NU {ρ:Nat->Nat} (hs:Tx ρ Γ Δ):∀ {l:List PV} {vs:List Value},j3 Γ l vs->ju l=true->j3 Δ (aD ρ l) vs
 |[],[],_,_=>trivial
 |[],_::_,h,_=>h.elim
 |_::_,[],h,_=>h.elim
 |
  p::l,v::vs,h,hf=>by
  simp only[ju,aJ]at hf
  exact⟨h.1.NU hs hf.1,j3.NU hs h.2 hf.2⟩
theorem aO.ahu {ρ:Nat->Nat} (hs:Tx ρ Γ Δ) {p:PV} {v:Value} (h:aO Γ p v) (hf:Da p=true):aO Δ (Ab.aB ρ p) v:=by
 cases p
 case tup l=>
  obtain⟨vs,h1,h2⟩:=h
  exact⟨vs,h1,h2.NU hs hf⟩
 all_goals exact h.NU hs hf
def V0 (bx:List (Nat×bX)) (p p':PV):Prop:=
 (p'=p∧ae (λ_=>false) p=true)∨
 (∃k pth off len aQ sz c l,p= .rs k pth off len aQ sz c∧content ⟨[],bx⟩ p (λdR l0=>dR=sz∧l0=l)∧ab (λ_=>false) l=true∧0<sz∧p'= .sl sz l false)
def Kc (bx:List (Nat×bX)):List PV->List PV->Prop
 |[],[]=>True
 |p::r,p'::r'=>V0 bx p p'∧Kc bx r r'
 |_,_=>False
def V1 (bx:List (Nat×bX)) (p p':PV):Prop:=
 V0 bx p p'∨
 (∃sz l l' c,p= .sl sz l c∧Kc bx l l'∧p'= .sl sz l' c)∨
 (∃k pth off len aQ sz c l l',p= .rs k pth off len aQ sz c∧content ⟨[],bx⟩ p (λdR l0=>dR=sz∧l0=l)∧Kc bx l l'∧0<sz∧p'= .sl sz l' false)
def Xw (bx:List (Nat×bX)):List PV->List PV->Prop
 |[],[]=>True
 |p::r,p'::r'=>V1 bx p p'∧Xw bx r r'
 |_,_=>False
def Cx.bare (Γ:Cx):Cx:= {heap:=Γ.heap,ι:=λ_=>none,bx:=[],ed:=λ_=>False}
theorem nq {b:Nat}:¬Γ.bare.own b:=by
 rintro(⟨k,blk,h,_⟩|h)
 ·simp[Cx.bare,get]at h
 ·exact h
theorem HX (hm:Mem Γ):Mem Γ.bare:=by
 refine⟨λk blk h=> ?_,λi j b h=> ?_,λb h=>h.elim,λb h h2=>h2,λb cs h=>⟨λhb=>nq (.inl hb),(hm.te b cs h).2⟩⟩
 ·simp[Cx.bare,get]at h
 ·simp[Cx.bare,get]at h
theorem vc:uH (λ_=>false) id Γ Γ.bare:=⟨rfl,λb _ _=>nq,λk blk h=>by simp at h⟩
theorem NV {h:Array Obj} {b o:Nat} {v:Value} (e:cell h b o=some v):b<h.size:=by
 unfold cell at e
 split at e
 ·rename_i c _ _ hb;exact(Array.getElem?_eq_some_iff.1 hb).1
 ·simp at e
theorem aaW (Γ:Cx) (hm:Mem Γ):gK 0 [] ⟨[],Γ.bx⟩ Γ {tmps:= #[],defers:=[]}:=⟨rfl,rfl,rfl,λk p h=>by simp[get]at h,hm⟩
theorem rsV {k:Nat} {pth:List Step} {off len aQ sz:Nat} {c:kY} {l:List PV} {cs:List Value} (hm:Mem Γ) (hr:aG Γ [.rs k pth off len aQ sz c] cs)
  (hc:content ⟨[],Γ.bx⟩ (.rs k pth off len aQ sz c) (λdR l0=>dR=sz∧l0=l)):∃v ad bC us,cs=[v]∧v= .slice ad l.length bC∧aG Γ l us∧(∀x∈l,x.width=sz)∧l.length≤bC∧
   (l≠[]->∃b o,ad=some ⟨b,o,none⟩∧∀i c,us[i]? =some c->cell Γ.heap b (o+i)=some c):=by
 obtain⟨v,rfl⟩:∃v,cs=[v]:=by
  cases hr with
  |rs _ _ _ _ _ _ _ v _ _ _ _ hr=>cases hr;exact⟨v,rfl⟩
 obtain⟨dR,l0,us,ad,bC,⟨rfl,rfl⟩,h2,h3,h4,h5,h6⟩:=nV (v:=v) (aaW Γ hm) hc (by simpa only[aO]using hr)
 exact⟨v,ad,bC,us,rfl,h2,h3,h6,h5,h4⟩
theorem V0.width {bx:List (Nat×bX)} {p p':PV} (h:V0 bx p p'):p'.width=p.width:=by
 rcases h with⟨rfl,_⟩|⟨k,pth,off,len,aQ,sz,c,l,rfl,_,_,_,rfl⟩<;>rfl
theorem yk {l:List PV} {us:List Value} {sz:Nat} {ad:Option Addr} (iq:0<sz) (h3:aG Γ l us) (h4:∀x∈l,x.width=sz) (bS:l≠[])
  (h6:∃b o,ad=some ⟨b,o,none⟩∧∀i c,us[i]? =some c->cell Γ.heap b (o+i)=some c):
  ∃b o,ad=some ⟨b,o,none⟩∧b<Γ.bare.heap.size∧¬Γ.bare.own b∧∀i c,us[i]? =some c->cell Γ.bare.heap b (o+i)=some c:=by
 obtain⟨b,o,e1,e2⟩:=h6
 have hlen:0<us.length:=by
  rw[h3.length,b8 h4]
  have:0<l.length:=List.length_pos_iff.2 bS
  exact Nat.mul_pos this iq
 exact⟨b,o,e1,NV (e2 0 _ (gJ hlen)),nq,e2⟩
theorem V0.rep {p p':PV} {cs:List Value} (hm:Mem Γ) (h:V0 Γ.bx p p') (hr:aG Γ [p] cs):aG Γ.bare [p'] cs:=by
 rcases h with⟨rfl,h⟩|⟨k,pth,off,len,aQ,sz,c,l,rfl,hc,hl,iq,rfl⟩
 ·have:=hr.bp vc h
  rwa [wU h]at this
 ·obtain⟨v,ad,bC,us,rfl,rfl,h3,h4,h5,h6⟩:=rsV hm hr hc
  have h3':=h3.aB vc hl
  rw[xO hl]at h3'
  exact .sl sz l false ad bC h3' h4 h5 (by simp) (λbS=>yk iq h3 h4 bS (h6 bS)) .nil
theorem Kc.rep (hm:Mem Γ):∀ {l l':List PV} {cs:List Value},Kc Γ.bx l l'->aG Γ l cs->aG Γ.bare l' cs
 |[],[],cs,_,hr=>by cases hr;exact .nil
 |[],_::_,cs,h,_=>h.elim
 |_::_,[],cs,h,_=>h.elim
 |
  p::r,p'::r',cs,h,hr=>by
  obtain⟨c1,c2,rfl,h1,h2⟩:=aG.split (ps:=[p]) (qs:=r) hr
  exact(h.1.rep hm h1).cons (Kc.rep hm h.2 h2)
theorem Kc.av {bx:List (Nat×bX)} {sz:Nat}:∀ {l l':List PV},Kc bx l l'->(∀x∈l,x.width=sz)->l'.length=l.length∧∀x∈l',x.width=sz
 |[],[],_,_=>⟨rfl,by simp⟩
 |[],_::_,h,_=>h.elim
 |_::_,[],h,_=>h.elim
 |
  p::r,p'::r',h,hw=>by
  obtain⟨h1,h2⟩:=Kc.av h.2 (λx hx=>hw x (by simp[hx]))
  refine⟨by simp[h1],λx hx=> ?_⟩
  rcases List.mem_cons.1 hx with rfl|hx
  ·rw[h.1.width];exact hw p (by simp)
  ·exact h2 x hx
theorem V1.rep {p p':PV} {cs:List Value} (hm:Mem Γ) (h:V1 Γ.bx p p') (hr:aG Γ [p] cs):aG Γ.bare [p'] cs:=by
 rcases h with h|⟨sz,l,l',c,rfl,hl,rfl⟩|⟨k,pth,off,len,aQ,sz,c,l,l',rfl,hc,hl,iq,rfl⟩
 ·exact h.rep hm hr
 ·cases hr with
  |
   sl sz l clip a bC h1 hw h2 h3 hb hr=>
   cases hr
   obtain⟨e1,e2⟩:=hl.av hw
   rw[←e1]
   refine .sl sz l' c a bC (Kc.rep hm hl h1) e2 (by rw[e1];exact h2) (λh=>by rw[e1];exact h3 h) (λbS=> ?_) .nil
   obtain⟨b,o,f1,f2,_,f3⟩:=hb (λh=>bS (by rw[h]at e1;exact List.length_eq_zero_iff.1 e1))
   exact⟨b,o,f1,f2,nq,f3⟩
 ·obtain⟨v,ad,bC,us,rfl,rfl,h3,h4,h5,h6⟩:=rsV hm hr hc
  obtain⟨e1,e2⟩:=hl.av h4
  rw[←e1]
  refine .sl sz l' false ad bC (Kc.rep hm hl h3) e2 (by rw[e1];exact h5) (by simp) (λbS=> ?_) .nil
  have PX:l≠[]:=λh=>bS (by rw[h]at e1;exact List.length_eq_zero_iff.1 e1)
  exact yk iq h3 h4 PX (h6 PX)
theorem V1.NW {p p':PV} {v:Value} (hm:Mem Γ) (h:V1 Γ.bx p p') (hr:aO Γ p v):aO Γ.bare p' v:=by
 have h':=h
 rcases h with h|⟨sz,l,l',c,rfl,hl,rfl⟩|⟨k,pth,off,len,aQ,sz,c,l,l',rfl,hc,hl,iq,rfl⟩
 ·rcases h with⟨rfl,h⟩|⟨k,pth,off,len,aQ,sz,c,l,rfl,hc,hl,iq,rfl⟩
  ·have:=hr.aB vc h
   rwa [wU h]at this
  ·have:=V1.rep hm h' (by simpa only[aO]using hr)
   simpa only[aO]using this
 ·have:=V1.rep hm h' (by simpa only[aO]using hr)
  simpa only[aO]using this
 ·have:=V1.rep hm h' (by simpa only[aO]using hr)
  simpa only[aO]using this
theorem Xw.NW (hm:Mem Γ):∀ {l l':List PV} {vs:List Value},Xw Γ.bx l l'->gq Γ l vs->gq Γ.bare l' vs
 |[],[],[],_,_=>trivial
 |[],[],_::_,_,h=>h.elim
 |[],_::_,_,h,_=>h.elim
 |_::_,[],_,h,_=>h.elim
 |_::_,_::_,[],_,h=>h.elim
 |p::r,p'::r',v::vs,h,hr=>⟨h.1.NW hm hr.1,Xw.NW hm h.2 hr.2⟩
theorem ai.view {f:FuncId} {args gY:List PV} {fp:List bX} {R:PV->List bX->Prop} (hA:ai P f gY [] R) (hv:Xw (aF 0 fp) args gY)
  (hR:∀r new,R r new->Da r=true∧new.all QL=true):
  ai P f args fp (λr pV=>∃r0 new,R r0 new∧r=aB (·+fp.length) r0∧pV=fp++new.map (aE (·+fp.length))):=by
 intro Γ w vs h1 h2 h3 h4
 rw[←h3]at hv
 refine(hA Γ.bare w vs h1 (HX h2) (by simp[Cx.bare,aF]) (hv.NW h2 h4)).mono ?_
 rintro e w' ⟨v,r,new,Γ',e1,e2,e3,e4,e5,e6,e7,e8⟩
 obtain⟨g1,g2⟩:=hR r new e2
 have qT:∀b,b<Γ.heap.size->Γ'.heap[b]? =Γ.heap[b]? :=λb hb=>e7.heap b hb (λh=>nq (.inl h))
 have Cd:∀k blk b,get Γ'.bx k=some blk->Γ'.ι k=some b->Γ.heap.size≤b:=by
  intro k blk b hk hb
  rcases Nat.lt_or_ge b Γ.heap.size with h|h
  ·exact absurd (.inl (e7.hO b h ⟨k,blk,hk,hb⟩)) nq
  ·exact h
 let Δ:Cx:= {heap:=Γ'.heap,ι:=λk=>if k<KB+fp.length then Γ.ι k else Γ'.ι (k-fp.length),bx:=aF 0 (fp++new.map (aE (·+fp.length))),ed:=Γ.ed}
 have DU:∀k,k<KB+fp.length->get Δ.bx k=get Γ.bx k:=by
  intro k hk
  simp only[Δ,h3,fY]
  split
  ·rw[List.getElem?_append_left (by omega)]
  ·rfl
 have DV:∀k,KB≤k->get Δ.bx (k+fp.length)=(get Γ'.bx k).map (aE (·+fp.length)):=by
  intro k hk
  simp only[Δ,e5,fY]
  rw[if_pos (show KB+0≤k+fp.length by omega),if_pos (show KB+0≤k by omega),List.getElem?_append_right (by omega),List.getElem?_map,show k+fp.length-KB-0-fp.length=k-KB-0 by omega]
 have hle:Le Γ Δ:=by
  refine⟨λb hb _=>qT b hb,λb hb h=> ?_,rfl,e7.size,λk blk hk=> ?_⟩
  ·obtain⟨k,blk,f1,f2⟩:=h
   by_cases uv:k<KB+fp.length
   ·rw[DU k uv]at f1
    have f2':Γ.ι k=some b:=by simpa[Δ,uv]using f2
    exact⟨k,blk,f1,f2'⟩
   ·exfalso
    have f2':Γ'.ι (k-fp.length)=some b:=by simpa[Δ,uv]using f2
    have:get Δ.bx (k-fp.length+fp.length)=_:=DV (k-fp.length) (by omega)
    rw[show k-fp.length+fp.length=k by omega,f1]at this
    obtain⟨b0,f3,_⟩:=Option.map_eq_some_iff.1 this.symm
    have:=Cd _ _ _ f3 f2'
    omega
  ·have uv:k<KB+fp.length:=by
    rw[h3,fY]at hk
    split at hk
    ·have:=(List.getElem?_eq_some_iff.1 hk).1;simp at this;omega
    ·simp at hk
   refine⟨blk,by rw[DU k uv];exact hk,Nat.le_refl _,λ_=>⟨by simp[Δ,uv],λb hb cs e hh=>⟨cs,?_,rfl⟩⟩⟩
   show Γ'.heap[b]? =_
   rw[qT b (h2.lt ⟨k,blk,hk,hb⟩)];exact hh
 have V5:Tx (·+fp.length) Γ' Δ:=by
  refine⟨rfl,λk blk hk=> ?_⟩
  have YM:KB≤k:=by
   rw[e5,fY]at hk
   split at hk
   ·assumption
   ·simp at hk
  refine⟨aE (·+fp.length) blk,by rw[DV k YM,hk];rfl,js _ _,?_⟩
  show(if k+fp.length<KB+fp.length then _ else _)=_
  rw[if_neg (by omega),Nat.add_sub_cancel]
 have iV:Mem Δ:=by
  refine⟨λk blk hk=> ?_,λi j b hi hj q1 q2=> ?_,λb hb=>Nat.lt_of_lt_of_le (h2.ed b hb) e7.size,λb hb hp=> ?_,h2.lF hle⟩
  ·by_cases uv:k<KB+fp.length
   ·rw[DU k uv]at hk
    have:=(h2.blk k blk hk).mono hle (λb hb=>qT b (h2.lt ⟨k,blk,hk,hb⟩))
    have e:Δ.ι k=Γ.ι k:=by simp[Δ,uv]
    rw[e];exact this
   ·have AW:=DV (k-fp.length) (by omega)
    rw[show k-fp.length+fp.length=k by omega,hk]at AW
    obtain⟨b0,f3,rfl⟩:=Option.map_eq_some_iff.1 AW.symm
    have e:Δ.ι k=Γ'.ι (k-fp.length):=by simp[Δ,uv]
    rw[e]
    have Eb:QL b0=true:=by
     rw[e5,fY]at f3
     split at f3
     ·exact List.all_eq_true.1 g2 b0 (List.mem_of_getElem? f3)
     ·simp at f3
    have:=e4.blk _ _ f3
    cases b0 with
    |
     box v=>
     obtain⟨b,c,e,q1,q2,q3⟩:=this
     exact⟨b,c,e,q1,q2,q3.EX V5 Eb⟩
    |
     arr sz l=>
     obtain⟨q1,q2,q3⟩:=this
     refine⟨λx hx=> ?_,q2,?_⟩
     ·rw[yj]at hx
      obtain⟨y,hy,rfl⟩:=List.mem_map.1 hx
      rw[nc];exact q1 y hy
     ·cases hι:Γ'.ι (k-fp.length)with
      |none=>trivial
      |
       some b=>
       rw[hι]at q3
       obtain⟨c,e,cs,rest,r1,r2,r3,r4⟩:=q3
       exact⟨c,e,cs,rest,r1,r2,r3.NU V5 Eb,r4⟩
    |map b ks vs l=>exact this
  ·have key:∀k b,(get Δ.bx k).isSome=true->Δ.ι k=some b->(k<KB+fp.length∧(get Γ.bx k).isSome=true∧Γ.ι k=some b∧b<Γ.heap.size)∨(KB+fp.length≤k∧(get Γ'.bx (k-fp.length)).isSome=true∧Γ'.ι (k-fp.length)=some b∧Γ.heap.size≤b):=by
    intro k b hk hb
    by_cases uv:k<KB+fp.length
    ·left
     rw[DU k uv]at hk
     have yX:Γ.ι k=some b:=by simpa[Δ,uv]using hb
     obtain⟨blk,kl⟩:=Option.isSome_iff_exists.1 hk
     exact⟨uv,hk,yX,h2.lt ⟨k,blk,kl,yX⟩⟩
    ·right
     have AW:=DV (k-fp.length) (by omega)
     rw[show k-fp.length+fp.length=k by omega]at AW
     rw[AW]at hk
     have hk3:(get Γ'.bx (k-fp.length)).isSome=true:=by simpa using hk
     have yX:Γ'.ι (k-fp.length)=some b:=by simpa[Δ,uv]using hb
     obtain⟨blk,kl⟩:=Option.isSome_iff_exists.1 hk3
     exact⟨by omega,hk3,yX,Cd _ _ _ kl yX⟩
   rcases key i b hi q1 with⟨a1,a2,a3,a4⟩|⟨a1,a2,a3,a4⟩<;>rcases key j b hj q2 with⟨c1,c2,c3,c4⟩|⟨c1,c2,c3,c4⟩
   ·exact h2.inj i j b a2 c2 a3 c3
   ·omega
   ·omega
   ·have:=e4.inj _ _ b a2 c2 a3 c3;omega
  ·obtain⟨k,blk,f1,f2⟩:=hb
   by_cases uv:k<KB+fp.length
   ·rw[DU k uv]at f1
    have f2':Γ.ι k=some b:=by simpa[Δ,uv]using f2
    exact h2.apart b ⟨k,blk,f1,f2'⟩ hp
   ·have f2':Γ'.ι (k-fp.length)=some b:=by simpa[Δ,uv]using f2
    have AW:=DV (k-fp.length) (by omega)
    rw[show k-fp.length+fp.length=k by omega,f1]at AW
    obtain⟨b0,f3,_⟩:=Option.map_eq_some_iff.1 AW.symm
    have:=Cd _ _ _ f3 f2'
    have:=h2.ed b hp
    omega
 exact⟨v,_,_,Δ,e1,⟨r,new,e2,rfl,rfl⟩,e3,iV,rfl,e6.ahu V5 g1,hle,e8⟩
end Go.Ab

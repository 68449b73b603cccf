/- Rules by which the abstract reading is worked out. No condition. -/
import Derived.Test.YtlcojgogfjlceaaGreatDoorEA4
set_option linter.all false
namespace Go.Ab
variable [cK]
variable {P:Program}
structure Pure (p:PV):Prop where
 refs:∀f,af f p=true
 aE:∀ρ,aE ρ p=p
 iQ:∀k sz l0,iQ k sz l0 p=p
structure au (l:List PV):Prop where
 refs:∀f,ah f l=true
 aE:∀ρ,aS ρ l=l
 iQ:∀k sz l0,jf k sz l0 l=l
theorem Pure.of {p:PV} (h:af (λ_=>false) p=true):Pure p where
 refs f:=jC (by simp) p h
 aE ρ:=sr h
 iQ k sz l0:=FR p (jC (by simp) p h)
theorem au.of {l:List PV} (h:ah (λ_=>false) l=true):au l where
 refs f:=dm (by simp) l h
 aE ρ:=qT h
 iQ k sz l0:=px l (dm (by simp) l h)
theorem au.mk' {l:List PV} (h:∀p∈l,Pure p):au l:=by
 refine au.of ?_;induction l with
 |nil=>rfl
 |cons p l ih=>simp only[ah,aJ];exact⟨(h p (by simp)).refs _,ih λq hq=>h q (by simp[hq])⟩
theorem au.map {α:Type} {e:α->PV} (h:∀x,Pure (e x)) (l:List α):au (l.map e):=
 au.mk' λp hp=>by obtain⟨x,_,rfl⟩:=JgX.1 hp;exact h x
theorem au.forget {l:List PV} (h:au l):∀p∈l,Pure p:=by
 intro p hp;have h0:=h.refs (λ_=>false);refine Pure.of ?_;clear h;induction l with
 |nil=>simp at hp
 |
  cons q l ih=>
  simp only[ah,aJ]at h0
  rcases cJ.1 hp with rfl|hp
  ·exact h0.1
  ·exact ih hp h0.2
theorem au.append {l m:List PV} (h:au l) (h':au m):au (l++m):=
 au.mk' λp hp=>by rcases JaZ.1 hp with hp|hp;exact h.forget p hp;exact h'.forget p hp
theorem au.take {l:List PV} (h:au l) (n:Nat):au (l.take n):=au.mk' λp hp=>h.forget p (JbX hp)
theorem au.drop {l:List PV} (h:au l) (n:Nat):au (l.drop n):=au.mk' λp hp=>h.forget p (JdJ hp)
theorem au.sl {l:List PV} (h:au l) (sz:Nat) (c:Bool):Pure (.sl sz l c):=Pure.of (by simp only[af];exact h.refs _)
theorem au.st {l:List PV} (h:au l) (w:Nat):Pure (.st w l):=Pure.of (by simp only[af];exact h.refs _)
theorem au.ar {l:List PV} (h:au l) (sz n:Nat):Pure (.ar sz n l):=Pure.of (by simp only[af];exact h.refs _)
def uI (sz bytes:Nat) (z:PV):cZ:=⟨8,[.mv (.t 2)],
 .seq (.region [⟨(some 2),none,true,.mv (.c (.sl sz [] true))⟩])
 (.seq
    (.seq (.region [⟨(some 3),none,true,.mv (.t 0)⟩,
    ⟨(some 4),none,false,.isNil false (.t 3)⟩])
  (.cond (.t 4)
   (.seq (.region [⟨(some 2),none,true,.mv (.c (.sl sz [] true))⟩])
   (.ret))
   (.skip)))
 (.seq (.region [⟨(some 5),none,false,.buildSlice false sz z 0 []⟩,
   ⟨(some 6),none,true,.mv (.t 0)⟩,
   ⟨(some 7),none,false,.append sz bytes false (.t 5) (.t 6)⟩,
   ⟨(some 2),none,true,.mv (.t 7)⟩])
 (.ret)))⟩
theorem EL {f:FuncId} {sz bytes:Nat} {z:PV} (ht:mX P [] [] f=some (uI sz bytes z).er) (fA:0<sz) {l:List PV} (hr:au l) (c:Bool) (h1:l.length*bytes≤140737488355328) (h2:l.length≤9223372036854775807):
  ae P f [.sl sz l c] [] (λr fp=>r= .rs KB [] 0 l.length l.length sz .tip∧fp=[.arr sz l]):=by
 refine ae.intro ht (by simp[uI]) ?_;simp[uI,aw,K5,fR,jT,pw,ev,ex,vg,vx,get,aj,AD,av,St.put,put,B8,cA,src,content,fQ];refine⟨⟨⟨h1,h2⟩,?_⟩,?_⟩
 ·refine⟨[],[7],?_⟩;simp[iR,get,I5,ev,vg,vx,getAll,dM,dh,PV.flat,hr.refs,hr.aE,af,ab,az,aE,bz,idx,bT]
 ·rintro rfl;refine⟨[.vt 2 7 sz],[7],?_⟩;simp[iR,gM,vt1,fA,get,put,I5,ev,vg,vx,getAll,dM,dh,PV.flat,af,ah,ab,az,aE,aS,bz,idx,bT]
end Go.Ab
namespace Go.Ab
variable [cK]
variable {P:Program} [eE]
@[congr] theorem aih {mx:Bool} {a a':Int} {l l':List PV} {K:Int->Prop} (h1:a=a') (h2:l=l'):nH mx a l K=nH mx a' l' K:=by subst h1 h2;rfl
@[congr] theorem arN {s s':St} {o:AO} {K:St->Prop} (h:s=s'):fR P s o K=fR P s' o K:=by subst h;rfl
@[congr] theorem awi {s s':St} {c:cq} {Q:Exit->St->Prop} (h:s=s'):aw P c Q s=aw P c Q s':=by subst h;rfl
@[congr] theorem aox {s s':St} {c:List Cut} {K:St->Prop} (h:s=s'):iR c s K=iR c s' K:=by subst h;rfl
end Go.Ab
namespace Go.Ab
variable [cK]
variable {P:Program} {s:St} {g:Bool}
def bF {α:Type}:Option α->(α->Prop)->Prop
 |some a,K=>K a
 |none,_=>False
@[congr] theorem aoy {α:Type} {o o':Option α} {K:α->Prop} (h:o=o'):bF o K=bF o' K:=by subst h;rfl
@[simp↓] theorem EM {α:Type} (a:α) (K:α->Prop):bF (some a) K=K a:=id rfl
@[simp↓] theorem aeK {α:Type} (K:α->Prop):bF none K=False:=id rfl
def ei (g:Bool):PV->(PV->Prop)->Prop
 | .gd b p,K=>(g=true->b=true)∧K p
 |p,K=>K p
@[congr] theorem arO {g g':Bool} {p p':PV} {K:PV->Prop} (h:g=g') (h1:p=p'):ei g p K=ei g' p' K:=by subst h h1;rfl
theorem iF (x:AX) (K:PV->Prop):vg g s x K=ei g (vx s x) K:=by unfold vg;cases vx s x<;>rfl
def yk (x:Bool) (K:PV->Prop):PV->PV->Prop
 | .bl ya,.bl yb=>K (.bl (bif x then ya else yb))
 | .bl ya,.gd gb (.bl yb)=>(x=false->gb=true)∧K (.bl (bif x then ya else yb))
 | .gd ga (.bl ya),.bl yb=>(x=true->ga=true)∧K (.bl (bif x then ya else yb))
 | .gd ga (.bl ya),.gd gb (.bl yb)=>((x=true->ga=true)∧(x=false->gb=true))∧K (.bl (bif x then ya else yb))
 | .bl ya,.un=>x=true∧K (.bl ya)
 | .un,.bl yb=>x=false∧K (.bl yb)
 |_,_=>False
@[congr] theorem aii {x x':Bool} {K:PV->Prop} {p p' q q':PV} (h:x=x') (h1:p=p') (h2:q=q'):yk x K p q=yk x' K p' q':=by subst h h1 h2;rfl
def Xs (s:St) (a b:AX) (K:PV->Prop):PV->Prop
 | .bl x=>yk x K (vx s a) (vx s b)
 |_=>False
theorem aat (c a b:AX) (K:PV->Prop):ev g s (.pick c a b) K=ei g (vx s c) (Xs s a b K):=by
 simp only[ev,iF];congr 1
def F2 (ps:List (Nat×PV)) (K:PV->Prop):PV->Prop
 | .st w l=>bF (cA l ps) λl'=>K (.st w l')
 | .ar sz n l=>bF (cA l ps) λl'=>K (.ar sz n l')
 |_=>False
theorem TF (z:PV) (parts:List (Nat×AX)) (K:PV->Prop):ev g s (.build z parts) K=B8 g s parts λps=>F2 ps K z:=by
 simp only[ev];congr 1;funext ps;cases z<;>simp only[F2]<;>first|rfl|(unfold bF;(repeat' split)<;>simp_all;done)
def Ln (s:St) (agg:Bool) (w:Nat) (K:PV->Prop):PV->Prop
 | .pt k p aN=>bF (get s.bx k) λblk=>bF (oK blk p) λu=>(aN=blk.aN∧u.width=w∧u.isAgg=agg)∧K u
 | .fp sz l p=>bF (oK (.arr sz l) p) λu=>(u.width=w∧u.isAgg=agg)∧K u
 |_=>False
theorem aau (agg:Bool) (w:Nat) (x:AX) (K:PV->Prop):ev g s (.load agg w x) K=ei g (vx s x) (Ln s agg w K):=by
 simp only[ev,iF];congr 1;funext p;cases p<;>simp only[Ln]<;>first|rfl|(unfold bF;(repeat' split)<;>simp_all;done)
def TG (s:St) (K:PV->Prop):PV->Prop
 | .pt k p aN=>bF (get s.bx k) λblk=>aN=blk.aN∧K (.pt k p aN)
 | .fp sz l p=>K (.fp sz l p)
 | .fn (.func f) a b=>K (.fn (.func f) a b)
 |_=>False
theorem JN (x:AX) (K:PV->Prop):ev g s (.nilCheck x) K=ei g (vx s x) (TG s K):=by
 simp only[ev,iF];congr 1;funext p;cases p<;>(try(rename_i f a b;cases f))<;>simp only[TG]<;>first|rfl|(unfold bF;(repeat' split)<;>simp_all;done)
def Pr (s:St) (op:BinOp) (K:PV->Prop):PV->PV->Prop
 | .np,.np=>pX op true K
 | .pt k _ aN,.np=>bF (get s.bx k) λblk=>aN=blk.aN∧pX op false K
 | .fp _ _ _,.np=>pX op false K
 |_,_=>False
def jU (op:BinOp) (K:PV->Prop):PV->PV->Prop
 | .int k a,.int k' b=>(op= .shl∨op= .shr∨k=k')∧qI op k a b K
 | .str a,.str b=>B7 op a b K
 |_,_=>False
def aij (op:BinOp) (K:PV->Prop):PV->PV->Prop
 | .bl a,.bl b=>pX op (a==b) K
 |_,_=>False
def aik (op:BinOp) (K:PV->Prop):PV->PV->Prop
 | .nf,.nf=>pX op true K
 | .fn _ _ _,.nf=>pX op false K
 |_,_=>False
theorem aav (op:BinOp) (x y:AX) (K:PV->Prop):ev g s (.bin op .no x y) K=ei g (vx s x) λp=>ei g (vx s y) λq=>jU op K p q:=by
 simp only[ev,iF];congr 1
theorem aaw (op:BinOp) (x y:AX) (K:PV->Prop):ev g s (.bin op .bl x y) K=ei g (vx s x) λp=>ei g (vx s y) λq=>aij op K p q:=by
 simp only[ev,iF];congr 1
theorem aax (op:BinOp) (x y:AX) (K:PV->Prop):ev g s (.bin op .fnc x y) K=ei g (vx s x) λp=>ei g (vx s y) λq=>aik op K p q:=by
 simp only[ev,iF];congr 1
theorem aay (op:BinOp) (x y:AX) (K:PV->Prop):ev g s (.bin op .ptr x y) K=ei g (vx s x) λp=>ei g (vx s y) λq=>Pr s op K p q:=by
 simp only[ev,iF];congr 1;funext p;congr 1;funext q;cases p<;>cases q<;>simp only[sb,Pr]<;>first|rfl|(unfold bF;(repeat' split)<;>simp_all;done)
theorem aaz (op:BinOp) (sh:Sh) (x y:AX) (K:PV->Prop):ev g s (.bin op (.sh sh) x y) K=ei g (vx s x) λp=>ei g (vx s y) λq=>(fits sh p=true∧fits sh q=true)∧pX op (PV.beq p q) K:=by
 simp only[ev,iF];congr 1
def uK (K:Int->Prop):PV->Prop
 | .int _ n=>K n
 |_=>False
theorem qk (p:PV) (K:Int->Prop):pq p K=uK K p:=by cases p<;>rfl
def unK (op:UnOp) (K:PV->Prop):PV->Prop
 | .bl b=>(match op with| .not=>K (.bl (!b))|_=>False)
 | .int k n=>(match op with| .neg=>K (.int k (k.wrap (0-n)))| .xor=>K (.int k (bits .xor k (if k.signed then-1 else k.max) n))|_=>False)
 |_=>False
theorem arQ (op:UnOp) (x:AX) (K:PV->Prop):ev g s (.un op x) K=ei g (vx s x) (unK op K):=by
 simp only[ev,iF];congr 1;funext p;cases p<;>cases op<;>rfl
def Bb (s:St) (K:Nat->List PV->Prop):PV->Prop
 | .sl sz l _=>K sz l
 |
  .rs k p off len aN sz _=>bF (get s.bx k) λ
  | .arr bN l=>(aN=l.length∧p=[]∧sz=bN∧off+len≤l.length)∧K sz ((l.drop off).take len)
  |
   .box v=>bF (aO v p) λ
   | .ar bN n l=>(aN=0∧sz=bN∧off+len≤n)∧K sz ((l.drop off).take len)
   |_=>False
  | .map .. =>False
 |_=>False
theorem vG (p:PV) (K:Nat->List PV->Prop):content s p K=Bb s K p:=by
 cases p<;>simp only[content,Bb];rename_i k p off len aN sz c;cases get s.bx k with
 |none=>rfl
 |
  some b=>
  cases b with
  |arr bN l=>rfl
  |
   box v=>
   simp only[EM]
   cases aO v p with
   |none=>rfl
   |some u=>cases u<;>rfl
  |map b ks vs l=>rfl
theorem TH (x:AX) (K:PV->Prop):ev g s (.convS x) K=ei g (vx s x) (Bb s λsz l=>sz=1∧bF (gG l) λbs=>K (.str bs)):=by
 simp only[ev,iF];congr 1;funext p;rw[vG];congr 1;funext sz l;cases gG l<;>rfl
def BA (s:St) (i off:Nat) (K:PV->Prop):PV->Prop
 | .pt k p aN=>bF (get s.bx k) λblk=>aN=blk.aN∧K (.pt k (p++[.f i off]) aN)
 | .fp sz l p=>K (.fp sz l (p++[.f i off]))
 |_=>False
theorem Ps (i off:Nat) (x:AX) (K:PV->Prop):ev g s (.fieldA i off x) K=ei g (vx s x) (BA s i off K):=by
 simp only[ev,iF];congr 1;funext p;cases p<;>simp only[BA]<;>first|rfl|(unfold bF;(repeat' split)<;>simp_all;done)
def TI (s:St) (n sz:Nat) (K:PV->Prop):PV->Prop
 | .sl bN l _=>(bN=sz∧0<n∧n≤l.length)∧K (.fp sz l [.w 0 n sz])
 | .rs k p off len aN bN _=>bF (get s.bx k) λblk=>(aN=blk.aN∧bN=sz∧0<n∧n≤len)∧K (.pt k (p++[.w off n sz]) aN)
 |_=>False
theorem ail (n sz:Nat) (x:AX) (K:PV->Prop):ev g s (.s2a n sz x) K=ei g (vx s x) (TI s n sz K):=by
 simp only[ev,iF];congr 1;funext p;cases p<;>simp only[TI]<;>first|rfl|(unfold bF;(repeat' split)<;>simp_all;done)
def Pt (i off:Nat) (agg:Bool) (w:Nat) (K:PV->Prop):PV->Prop
 | .st _ l=>bF l[i]? λc=>(aB (l.take i)=off∧c.width=w∧c.isAgg=agg)∧K c
 |_=>False
theorem TJ (i off:Nat) (agg:Bool) (w:Nat) (x:AX) (K:PV->Prop):ev g s (.field i off agg w x) K=ei g (vx s x) (Pt i off agg w K):=by
 simp only[ev,iF];congr 1;funext p;cases p<;>simp only[Pt]<;>first|rfl|(unfold bF;(repeat' split)<;>simp_all;done)
def tP (s:St) (sz:Nat) (j:Int) (K:PV->Prop):PV->Prop
 | .sl bN l _=>(bN=sz∧0≤j∧j<l.length)∧K (.fp sz l [.i j.toNat sz])
 | .rs k p off len aN bN _=>bF (get s.bx k) λblk=>(aN=blk.aN∧bN=sz∧0≤j∧j<len)∧K (.pt k (p++[.i (off+j.toNat) sz]) aN)
 |_=>False
theorem HS (sz:Nat) (x i:AX) (K:PV->Prop):ev g s (.indexA (.sl sz) x i) K=ei g (vx s x) λp=>ei g (vx s i) (uK λj=>tP s sz j K p):=by
 simp only[ev,iF,qk];congr 1;funext p;congr 1;funext q;congr 1;funext j;cases p<;>simp only[tP]<;>first|rfl|(unfold bF;(repeat' split)<;>simp_all;done)
def Lo (s:St) (sz:Nat) (j:Int) (K:PV->Prop):PV->Prop
 | .pt k p aN=>bF (get s.bx k) λblk=>aN=blk.aN∧K (.pt k (p++[.i j.toNat sz]) aN)
 | .fp bN l p=>K (.fp bN l (p++[.i j.toNat sz]))
 |_=>False
theorem HT (n sz:Nat) (x i:AX) (K:PV->Prop):ev g s (.indexA (.ar n sz) x i) K=ei g (vx s x) λp=>ei g (vx s i) (uK λj=>(0≤j∧j<n)∧Lo s sz j K p):=by
 simp only[ev,iF,qk];congr 1;funext p;congr 1;funext q;congr 1;funext j;cases p<;>simp only[Lo]<;>first|rfl|(unfold bF;(repeat' split)<;>simp_all;done)
@[congr] theorem aim {s s':St} {sz:Nat} {j j':Int} {K:PV->Prop} {p p':PV} (h:s=s') (h1:j=j') (h2:p=p'):tP s sz j K p=tP s' sz j' K p':=by subst h h1 h2;rfl
def aaA (agg:Bool) (n w:Nat) (j:Int) (K:PV->Prop):PV->Prop
 | .ar sz n' l=>bF l[j.toNat]? λc=>(0≤j∧j<n∧n'=n∧sz=w∧c.isAgg=agg)∧K c
 |_=>False
theorem TK (agg:Bool) (n w:Nat) (x i:AX) (K:PV->Prop):ev g s (.index agg n w x i) K=ei g (vx s x) λp=>ei g (vx s i) (uK λj=>aaA agg n w j K p):=by
 simp only[ev,iF,qk];congr 1;funext p;congr 1;funext q;congr 1;funext j;cases p<;>simp only[aaA]<;>first|rfl|(unfold bF;(repeat' split)<;>simp_all;done)
def aaB (j:Int) (K:PV->Prop):PV->Prop
 | .str bs=>bF bs[j.toNat]? λc=>0≤j∧K (.int .u8 c.toNat)
 |_=>False
theorem Pu (x i:AX) (K:PV->Prop):ev g s (.indexS x i) K=ei g (vx s x) λp=>ei g (vx s i) (uK λj=>aaB j K p):=by
 simp only[ev,iF,qk];congr 1;funext p;congr 1;funext q;congr 1;funext j;cases p<;>simp only[aaB]<;>first|rfl|(unfold bF;(repeat' split)<;>simp_all;done)
def Pv (i:Nat) (K:PV->Prop):PV->Prop
 | .tup l=>bF l[i]? K
 |_=>False
@[congr] theorem aoz {i:Nat} {K:PV->Prop} {p p':PV} (h:p=p'):Pv i K p=Pv i K p':=by subst h;rfl
theorem M1 (i:Nat) (x:AX) (K:PV->Prop):ev g s (.extract i x) K=Pv i K (vx s x):=by
 simp only[ev];cases vx s x<;>simp only[Pv]<;>first|rfl|(unfold bF;(repeat' split)<;>simp_all;done)
def yl (s:St) (K:PV->Prop):PV->Prop
 | .sl _ l _=>K (.int .i64 l.length)
 | .rs k _ _ len aN _ _=>bF (get s.bx k) λblk=>aN=blk.aN∧K (.int .i64 len)
 |_=>False
theorem ain (x:AX) (K:PV->Prop):ev g s (.len x) K=ei g (vx s x) (yl s K):=by
 simp only[ev,iF];congr 1;funext p;cases p<;>simp only[yl]<;>first|rfl|(unfold bF;(repeat' split)<;>simp_all;done)
end Go.Ab
namespace Go.Ab
variable [cK]
variable {P:Program} {s:St} {g:Bool}
def Xt (s:St) (g:Bool) (lo hi mx:Option AX) (K:PV->Prop):PV->Prop
 | .str bs=>mx.isNone=true∧kJ g s lo hi bs.length bs.length λl h=>K (.str ((bs.take h).drop l))
 |_=>False
theorem HU (x:AX) (lo hi mx:Option AX) (K:PV->Prop):ev g s (.slice .str x lo hi mx) K=ei g (vx s x) (Xt s g lo hi mx K):=by
 simp only[ev,iF];congr 1
def aaC (s:St) (g:Bool) (n sz:Nat) (lo hi mx:Option AX) (K:PV->Prop):PV->Prop
 | .ar z' n' l'=>(z'=sz∧n'=n∧mx.isNone=true)∧kJ g s lo hi n n λa b=>K (.sl sz ((l'.take b).drop a) (decide (b=n)))
 |_=>False
def TL (s:St) (g:Bool) (n sz:Nat) (lo hi mx:Option AX) (K:PV->Prop):PV->Prop
 | .pt k p aN=>bF (get s.bx k) λblk=>aN=blk.aN∧mx.isNone=true∧kJ g s lo hi n n λa b=>K (.rs k p a (b-a) aN sz (if b=n then .clip else .any))
 | .fp z l q=>bF (oK (.arr z l) q) (aaC s g n sz lo hi mx K)
 |_=>False
theorem JO (n sz:Nat) (x:AX) (lo hi mx:Option AX) (K:PV->Prop):ev g s (.slice (.ar n sz) x lo hi mx) K=ei g (vx s x) (TL s g n sz lo hi mx K):=by
 simp only[ev,iF];congr 1;funext p;cases p<;>simp only[TL]<;>first|rfl|(unfold bF;(repeat' split)<;>simp_all;done)|(rename_i z l q;cases oK (.arr z l) q with|none=>rfl|some u=>cases u<;>rfl)
def TM (s:St) (g:Bool) (sz:Nat) (lo hi:Option AX) (K:PV->Prop):PV->Prop
 | .sl bN l clip=>kJ g s lo hi l.length l.length λa b=>(bN=sz)∧K (.sl sz ((l.take b).drop a) (clip&&decide (b=l.length)))
 | .rs k p off len aN bN c=>bF (get s.bx k) λblk=>(aN=blk.aN∧bN=sz)∧kJ g s lo hi len (DX c off len aN) λa b=>K (.rs k p (off+a) (b-a) aN sz (Fs c a (decide (b=len))))
 |_=>False
theorem JP (sz:Nat) (x:AX) (lo hi:Option AX) (K:PV->Prop):ev g s (.slice (.sl sz) x lo hi none) K=ei g (vx s x) (TM s g sz lo hi K):=by
 simp only[ev,iF];congr 1;funext p;cases p<;>simp only[TM]<;>first|rfl|(unfold bF;(repeat' split)<;>simp_all;done)
@[simp] theorem aio (off len aN:Nat):DX .tip off len aN=len:=_root_.id rfl
@[simp] theorem aeL (n off len aN:Nat):DX (.full n) off len aN=if off+n≤aN∧len≤n then n else len:=_root_.id rfl
@[simp] theorem aip (a:Nat) (e:Bool):Fs .tip a e= .tip:=_root_.id rfl
@[simp] theorem aeM (n a:Nat) (e:Bool):Fs (.full n) a e= .full (n-a):=_root_.id rfl
def Pw (s:St) (g:Bool) (sz:Nat) (lo hi:Option AX) (m:AX) (K:PV->Prop):PV->Prop
 | .sl bN l _=>ei g (vx s m) (uK λm=>(0≤m∧m≤l.length)∧kJ g s lo hi l.length m.toNat λa b=>(bN=sz)∧K (.sl sz ((l.take b).drop a) (decide (b=m.toNat))))
 | .rs k p off len aN bN _=>bF (get s.bx k) λblk=>(aN=blk.aN∧bN=sz)∧ei g (vx s m) (uK λm=>(0≤m∧m≤len)∧kJ g s lo hi len m.toNat λa b=>K (.rs k p (off+a) (b-a) aN sz (if b=m.toNat then .clip else .any)))
 |_=>False
theorem JQ (sz:Nat) (x:AX) (lo hi:Option AX) (m:AX) (K:PV->Prop):ev g s (.slice (.sl sz) x lo hi (some m)) K=ei g (vx s x) (Pw s g sz lo hi m K):=by
 simp only[ev,iF];congr 1;funext p;cases p<;>simp only[Pw,qk]<;>first|rfl|(unfold bF;(repeat' split)<;>simp_all;done)
def M3 (g:Bool) (s:St) (lo:Option AX) (K:Nat->Nat->Prop) (h:Nat):Prop:=
 match lo with|none=>K 0 h|some x=>ei g (vx s x) (uK λl=>(0≤l∧l≤h)∧K l.toNat h)
theorem Px (lo:Option AX) (len cap:Nat) (K:Nat->Nat->Prop):kJ g s lo none len cap K=M3 g s lo K len:=by
 cases lo<;>simp only[kJ,M3,iF,qk]
theorem Py (lo:Option AX) (x:AX) (len cap:Nat) (K:Nat->Nat->Prop):kJ g s lo (some x) len cap K=ei g (vx s x) (uK λh=>(0≤h∧h≤cap)∧M3 g s lo K h.toNat):=by
 cases lo<;>simp only[kJ,M3,iF,qk]
end Go.Ab
namespace Go.Ab
variable [cK]
variable {P:Program} {s:St} {g:Bool}
def TN (s:St) (sz:Nat) (K:List PV->Prop) (q:PV):Prop:=Bb s (λbN ys=>(ys=[]∨bN=sz)∧K ys) q
theorem Xu (sz:Nat) (q:PV) (K:List PV->Prop):src s false sz q K=TN s sz K q:=by simp only[src,fJ,if_false,TN,vG]
def aiq (sz:Nat) (K:List PV->Prop):PV->Prop
 | .str bs=>sz=1∧K (bs.map u8)
 |_=>False
theorem Pz (sz:Nat) (q:PV) (K:List PV->Prop):src s true sz q K=aiq sz K q:=by simp only[src,if_true];cases q<;>rfl
theorem PA (d:Option Nat) (sz bytes:Nat) (str:Bool) (x y:AX) (K:St->Prop):ex s d (.append sz bytes str x y) K=ei true (vx s x) λp=>ei true (vx s y) λq=>src s str sz q λys=>fQ s d sz bytes p ys K:=by
 simp only[ex,iF]
theorem TO (k:Nat) (z:PV) (K:St->Prop):ex s (some k) (.alloc z) K=(get s.bx k=none∧K {env:=put s.env k (.pt k [] 0),bx:=put s.bx k (.box z)}):=id rfl
theorem air (k:Nat) (x:AX) (K:St->Prop):ex s (some k) (.box x) K=ei true (vx s x) λp=>(get s.bx k=none∧p.aT=true)∧K {env:=put s.env k (.pt k [] 0),bx:=put s.bx k (.box p)}:=by
 simp only[ex,iF]
theorem CP (d:Option Nat) (sz n:Nat) (z:PV) (parts:List (Nat×AX)) (K:St->Prop):ex s d (.buildSlice false sz z n parts) K=B8 true s parts λps=>bF (cA (List.replicate n z) (ps.map λx=>(x.1,wk x.2))) λl=>K (s.put d (.sl sz l true)):=by
 simp only[ex,fJ,if_false];congr 1;funext ps;cases cA (List.replicate n z) (ps.map λx=>(x.1,wk x.2))<;>rfl
theorem CQ (k:Nat) (sz n:Nat) (z:PV) (parts:List (Nat×AX)) (K:St->Prop):ex s (some k) (.buildSlice true sz z n parts) K=B8 true s parts λps=>bF (cA (List.replicate n z) (ps.map λx=>(x.1,wk x.2))) λl=>get s.bx k=none∧K {env:=put s.env k (.rs k [] 0 n n sz .tip),bx:=put s.bx k (.arr sz l)}:=by
 simp only[ex,if_true];congr 1;funext ps;cases cA (List.replicate n z) (ps.map λx=>(x.1,wk x.2))<;>rfl
def Xv (s:St) (d k len aN sz bN bytes:Nat) (ys:List PV) (K:St->Prop):aU->Prop
 | .arr sz'' l=>(aN=l.length∧len=l.length∧bN=sz∧sz''=sz∧(l.length+ys.length)*bytes≤140737488355328∧l.length+ys.length≤9223372036854775807)∧
   K {env:=put s.env d (.rs k [] 0 (l.length+ys.length) (l.length+ys.length) sz .tip),bx:=put s.bx k (.arr sz (l++ys))}
 |_=>False
theorem
    TP (d sz bytes sz0:Nat) (l ys:List PV) (K:St->Prop):fQ s (some d) sz bytes (.sl sz0 l true) ys K=((get s.bx d=none∧(l=[]∨(sz0=sz∧ys≠[]))∧(l.length+ys.length)*bytes≤140737488355328∧l.length+ys.length≤9223372036854775807)∧
    K {env:=put s.env d (.rs d [] 0 (l.length+ys.length) (l.length+ys.length) sz .tip),bx:=put s.bx d (.arr sz (l++ys))}):=rfl
theorem PC (d sz bytes k len aN bN:Nat) (ys:List PV) (K:St->Prop):fQ s (some d) sz bytes (.rs k [] 0 len aN bN .tip) ys K=bF (get s.bx k) (Xv s d k len aN sz bN bytes ys K):=by
 simp only[fQ];cases get s.bx k with
 |none=>rfl
 |some b=>cases b<;>rfl
def PD (s:St) (d k len aN n sz bN bytes:Nat) (ys:List PV) (K:St->Prop):aU->Prop
 | .arr sz'' l=>(aN=l.length∧bN=sz∧sz''=sz∧len≤n∧n≤l.length∧ys≠[]∧get s.bx d=none∧(len+ys.length)*bytes≤140737488355328∧len+ys.length≤9223372036854775807)∧
    (len+ys.length≤n->K {env:=put s.env d (.rs k [] 0 (len+ys.length) aN sz (.full n)),bx:=put s.bx k (.arr sz (l.take len++ys++l.drop (len+ys.length)))})∧
    (n<len+ys.length->K {env:=put s.env d (.rs d [] 0 (len+ys.length) (len+ys.length) sz .tip),bx:=put s.bx d (.arr sz (l.take len++ys))})
 |_=>False
theorem M4 (d sz bytes k len aN bN n:Nat) (ys:List PV) (K:St->Prop):fQ s (some d) sz bytes (.rs k [] 0 len aN bN (.full n)) ys K=bF (get s.bx k) (PD s d k len aN n sz bN bytes ys K):=by
 simp only[fQ];cases get s.bx k with
 |none=>rfl
 |some b=>cases b<;>rfl
def apZ (s:St) (d k len aN n sz bN bytes:Nat) (z:PV) (m:Int) (K:St->Prop):aU->Prop
 | .arr sz'' l=>(get s.bx d=none∧aN=l.length∧bN=sz∧sz''=sz∧len≤n∧n≤l.length∧0<m∧n<len+m.toNat∧(len+m.toNat)*bytes≤140737488355328∧len+m.toNat≤9223372036854775807)∧
    K {env:=put s.env d (.rs d [] 0 (len+m.toNat) (len+m.toNat) sz .tip),bx:=put s.bx d (.arr sz (l.take len++List.replicate m.toNat z))}
 |_=>False
theorem JR (d sz bytes k len aN bN n:Nat) (z:PV) (m:Int) (K:St->Prop):pY s (some d) sz bytes z (.rs k [] 0 len aN bN (.full n)) m K=bF (get s.bx k) (apZ s d k len aN n sz bN bytes z m K):=by
 simp only[pY];cases get s.bx k with
 |none=>rfl
 |some b=>cases b<;>rfl
theorem M5 (d:Option Nat) (sz bytes:Nat) (z:PV) (x y:AX) (K:St->Prop):ex s d (.appendZ sz bytes z x y) K=ei true (vx s x) λp=>ei true (vx s y) (uK λm=>pY s d sz bytes z p m K):=by
 simp only[ex,iF,qk]
theorem
    M6 (d sz bytes k off len aN bN:Nat) (p:List Step) (ys:List PV) (K:St->Prop):fQ s (some d) sz bytes (.rs k p off len aN bN .clip) ys K=Bb s (λsz'' l=>(get s.bx d=none∧sz''=sz∧ys≠[]∧(l.length+ys.length)*bytes≤140737488355328∧l.length+ys.length≤9223372036854775807)∧
    K {env:=put s.env d (.rs d [] 0 (l.length+ys.length) (l.length+ys.length) sz .tip),bx:=put s.bx d (.arr sz (l++ys))}) (.rs k p off len aN bN .clip):=by
 rw[←vG];cases p<;>cases off<;>rfl
end Go.Ab
namespace Go.Ab
variable [cK]
variable {P:Program} {s:St} {g:Bool} [eE]
def JS (s:St) (n:Nat) (v:PV) (K:St->Prop):PV->Prop
 | .pt k pth aN=>bF (get s.bx k) λblk=>bF (uv blk pth (wkb blk v)) λbq=>(aN=blk.aN∧v.width=n∧v.aT=true)∧K {s with bx:=put s.bx k bq}
 |_=>False
theorem TQ (d:Option Nat) (n:Nat) (x y:AX) (K:St->Prop):ex s d (.store n x y) K=ei true (vx s x) λp=>ei true (vx s y) λv=>JS s n v K p:=by
 simp only[ex,iF];congr 1;funext p;congr 1;funext v;cases p<;>simp only[JS];rename_i k pth aN;cases get s.bx k with
 |none=>rfl
 |some b=>simp only[EM];cases uv b pth (wkb b v)<;>rfl
def JT (s:St) (d:Option Nat) (ng:Bool) (K:St->Prop):PV->Prop
 | .sl _ l _=>∀b:Bool,(b=true->l=[])->K (s.put d (.bl (b !=ng)))
 | .rs k _ _ len aN _ _=>bF (get s.bx k) λblk=>aN=blk.aN∧∀b:Bool,(b=true->len=0)->K (s.put d (.bl (b !=ng)))
 |_=>False
theorem TR (d:Option Nat) (ng:Bool) (x:AX) (K:St->Prop):ex s d (.isNil ng x) K=ei true (vx s x) (JT s d ng K):=by
 simp only[ex,iF];congr 1;funext p;cases p<;>simp only[JT];rename_i k _ _ _ _ _ _;cases get s.bx k<;>rfl
theorem HV (k sz bytes:Nat) (z:PV) (len cap:AX) (K:St->Prop):ex s (some k) (.makeSlice sz bytes z len cap) K=ei true (vx s len) (uK λl=>ei true (vx s cap) (uK λc=>
  (get s.bx k=none∧0≤l∧l≤c∧c*bytes≤281474976710656∧c≤9223372036854775807)∧
    K {env:=put s.env k (.rs k [] 0 l.toNat l.toNat sz .tip),bx:=put s.bx k (.arr sz (List.replicate l.toNat z))})):=by
 simp only[ex,iF,qk]
def BC (want mg:Bool) (M:Bool->Prop) (D U:Prop):PV->Prop
 | .bl b=>if mg=true then M (b==want)else(b=want->D)∧(b≠want->U)
 | .gd g (.bl b)=>if mg=true then M (g&&b==want)else(g=true->b=want->D)∧((g=true->b≠want)->U)
 |_=>False
@[congr] theorem arR {want mg:Bool} {M:Bool->Prop} {D U:Prop} {p p':PV} (h:p=p'):BC want mg M D U p=BC want mg M D U p':=by subst h;rfl
theorem TS (d:Option Nat) (sl:Nat) (want mg:Bool) (k:AK) (K:St->Prop):fR P s ⟨d,some (sl,want),mg,k⟩ K=
  BC want mg (λg=>ev g s k λp=>K (s.put d (.gd g p))) (jT P s ⟨d,some (sl,want),mg,k⟩ K) (K (s.put d .un)) ((get s.env sl).getD .un):=by
 simp only[fR];generalize (get s.env sl).getD .un=p;cases p<;>try rfl
def cdK (A B:Prop):PV->Prop
 | .bl b=>(b=true->A)∧(b=false->B)
 | .gd g (.bl b)=>g=true∧(b=true->A)∧(b=false->B)
 |_=>False
@[congr] theorem arS {A B:Prop} {p p':PV} (h:p=p'):cdK A B p=cdK A B p':=by subst h;rfl
theorem aaE (c:AX) (x y:cq) (Q:Exit->St->Prop):aw P (.cond c x y) Q s=cdK (aw P x Q s) (aw P y Q s) (vx s c):=by
 simp only[aw];generalize vx s c=p;cases p<;>try rfl
def ais (P:Program) (s:St) (d:Option Nat) (K:St->Prop) (args:List PV):PV->Prop
 | .fn (.func fid) first cap=>∃ks os,xI P s d fid (first++args++cap) ks os K
 | .fn (.yield l) [] []=>Jm s d l args K
 |_=>False
theorem TT (K:List PV->Prop):xq g s [] K=K []:=id rfl
theorem TU (x:AX) (xs:List AX) (K:List PV->Prop):xq g s (x::xs) K=ei g (vx s x) λp=>xq g s xs λps=>K (p::ps):=by simp only[xq,iF]
theorem TV (K:List (Nat×PV)->Prop):B8 g s [] K=K []:=id rfl
theorem TW (i:Nat) (x:AX) (xs:List (Nat×AX)) (K:List (Nat×PV)->Prop):B8 g s ((i,x)::xs) K=ei g (vx s x) λp=>B8 g s xs λps=>K ((i,p)::ps):=by simp only[B8,iF]
theorem TX (d:Option Nat) (f:AX) (args:List AX) (K:St->Prop):mS P s d f args K=ei true (vx s f) λpf=>xq true s args λps=>ais P s d K ps pf:=by
 simp only[mS,iF];congr 1
end Go.Ab
namespace Go.Ab
variable [cK]
@[simp↓] theorem arT {g:Bool} {K:PV->Prop}:ei g .un K=K .un:=id rfl
@[simp↓] theorem arU {g:Bool} {K:PV->Prop} (cx:Bool):ei g (.bl cx) K=K (.bl cx):=id rfl
@[simp↓] theorem aoA {g:Bool} {K:PV->Prop} (ck:IntKind) (cn:Int):ei g (.int ck cn) K=K (.int ck cn):=id rfl
@[simp↓] theorem aoB {g:Bool} {K:PV->Prop} (cl:List UInt8):ei g (.str cl) K=K (.str cl):=id rfl
@[simp↓] theorem arV {g:Bool} {K:PV->Prop} (cw:Nat) (cl:List PV):ei g (.st cw cl) K=K (.st cw cl):=id rfl
@[simp↓] theorem arW {g:Bool} {K:PV->Prop} (cz cn:Nat) (cl:List PV):ei g (.ar cz cn cl) K=K (.ar cz cn cl):=id rfl
@[simp↓] theorem aoC {g:Bool} {K:PV->Prop} (cl:List PV):ei g (.tup cl) K=K (.tup cl):=id rfl
@[simp↓] theorem arX {g:Bool} {K:PV->Prop} (cz:Nat) (cl:List PV) (cc:Bool):ei g (.sl cz cl cc) K=K (.sl cz cl cc):=id rfl
@[simp↓] theorem arY {g:Bool} {K:PV->Prop} (ck:Nat) (cp:List Step) (co cl ct cz:Nat) (cc:ft):ei g (.rs ck cp co cl ct cz cc) K=K (.rs ck cp co cl ct cz cc):=id rfl
@[simp↓] theorem arZ {g:Bool} {K:PV->Prop}:ei g .np K=K .np:=id rfl
@[simp↓] theorem ar0 {g:Bool} {K:PV->Prop} (ck:Nat) (cp:List Step) (ct:Nat):ei g (.pt ck cp ct) K=K (.pt ck cp ct):=id rfl
@[simp↓] theorem ar2 {g:Bool} {K:PV->Prop} (cz:Nat) (cl:List PV) (cp:List Step):ei g (.fp cz cl cp) K=K (.fp cz cl cp):=id rfl
@[simp↓] theorem ar3 {g:Bool} {K:PV->Prop} (cf:FuncId) (ca cb:List PV):ei g (.fn (.func cf) ca cb) K=K (.fn (.func cf) ca cb):=id rfl
@[simp↓] theorem ar4 {g:Bool} {K:PV->Prop}:ei g .nf K=K .nf:=id rfl
@[simp↓] theorem ar5 {g:Bool} {K:PV->Prop} (cb:Bool) (cv:PV):ei g (.gd cb cv) K=((g=true->cb=true)∧K cv):=id rfl
@[simp↓] theorem ait {s:St} {agg:Bool} {w:Nat} {K:PV->Prop} (ck:Nat) (cp:List Step) (ct:Nat):Ln s agg w K (.pt ck cp ct)=(bF (get s.bx ck) λblk=>bF (oK blk cp) λu=>(ct=blk.aN∧u.width=w∧u.isAgg=agg)∧K u):=id rfl
@[simp↓] theorem aiu {s:St} {agg:Bool} {w:Nat} {K:PV->Prop} (cz:Nat) (cl:List PV) (cp:List Step):Ln s agg w K (.fp cz cl cp)=(bF (oK (.arr cz cl) cp) λu=>(u.width=w∧u.isAgg=agg)∧K u):=id rfl
@[simp↓] theorem aoD {s:St} {K:PV->Prop} (ck:Nat) (cp:List Step) (ct:Nat):TG s K (.pt ck cp ct)=(bF (get s.bx ck) λblk=>ct=blk.aN∧K (.pt ck cp ct)):=id rfl
@[simp↓] theorem aoE {s:St} {K:PV->Prop} (cz:Nat) (cl:List PV) (cp:List Step):TG s K (.fp cz cl cp)=(K (.fp cz cl cp)):=id rfl
@[simp↓] theorem aeN {ps:List (Nat×PV)} {K:PV->Prop} (cw:Nat) (cl:List PV):F2 ps K (.st cw cl)=(bF (cA cl ps) λl'=>K (.st cw l')):=id rfl
@[simp↓] theorem aeO {ps:List (Nat×PV)} {K:PV->Prop} (cz cn:Nat) (cl:List PV):F2 ps K (.ar cz cn cl)=(bF (cA cl ps) λl'=>K (.ar cz cn l')):=id rfl
@[simp↓] theorem aiv {K:Int->Prop} (ck:IntKind) (cn:Int):uK K (.int ck cn)=(K cn):=id rfl
@[simp↓] theorem aoF {s:St} {K:Nat->List PV->Prop} (cz:Nat) (cl:List PV) (cc:Bool):Bb s K (.sl cz cl cc)=(K cz cl):=id rfl
@[simp↓] theorem aaF {s:St} {i off:Nat} {K:PV->Prop} (ck:Nat) (cp:List Step) (ct:Nat):BA s i off K (.pt ck cp ct)=(bF (get s.bx ck) λblk=>ct=blk.aN∧K (.pt ck (cp++[.f i off]) ct)):=id rfl
@[simp↓] theorem aaG {s:St} {i off:Nat} {K:PV->Prop} (cz:Nat) (cl:List PV) (cp:List Step):BA s i off K (.fp cz cl cp)=(K (.fp cz cl (cp++[.f i off]))):=id rfl
@[simp↓] theorem aoG {s:St} {n sz:Nat} {K:PV->Prop} (cz:Nat) (cl:List PV) (cc:Bool):TI s n sz K (.sl cz cl cc)=((cz=sz∧0<n∧n≤cl.length)∧K (.fp sz cl [.w 0 n sz])):=id rfl
@[simp↓] theorem aoH {s:St} {n sz:Nat} {K:PV->Prop} (ck:Nat) (cp:List Step) (co cl ct cz:Nat) (cc:ft):TI s n sz K (.rs ck cp co cl ct cz cc)=(bF (get s.bx ck) λblk=>(ct=blk.aN∧cz=sz∧0<n∧n≤cl)∧K (.pt ck (cp++[.w co n sz]) ct)):=id rfl
@[simp↓] theorem aiw {s:St} {sz:Nat} {j:Int} {K:PV->Prop} (cz:Nat) (cl:List PV) (cc:Bool):tP s sz j K (.sl cz cl cc)=((cz=sz∧0≤j∧j<cl.length)∧K (.fp sz cl [.i j.toNat sz])):=id rfl
@[simp↓] theorem aix {s:St} {sz:Nat} {j:Int} {K:PV->Prop} (ck:Nat) (cp:List Step) (co cl ct cz:Nat) (cc:ft):tP s sz j K (.rs ck cp co cl ct cz cc)=(bF (get s.bx ck) λblk=>(ct=blk.aN∧cz=sz∧0≤j∧j<cl)∧K (.pt ck (cp++[.i (co+j.toNat) sz]) ct)):=id rfl
@[simp↓] theorem aiy {s:St} {sz:Nat} {j:Int} {K:PV->Prop} (ck:Nat) (cp:List Step) (ct:Nat):Lo s sz j K (.pt ck cp ct)=(bF (get s.bx ck) λblk=>ct=blk.aN∧K (.pt ck (cp++[.i j.toNat sz]) ct)):=id rfl
@[simp↓] theorem aiz {s:St} {sz:Nat} {j:Int} {K:PV->Prop} (cz:Nat) (cl:List PV) (cp:List Step):Lo s sz j K (.fp cz cl cp)=(K (.fp cz cl (cp++[.i j.toNat sz]))):=id rfl
@[simp↓] theorem aoI {agg:Bool} {n w:Nat} {j:Int} {K:PV->Prop} (cz cn:Nat) (cl:List PV):aaA agg n w j K (.ar cz cn cl)=(bF cl[j.toNat]? λc=>(0≤j∧j<n∧cn=n∧cz=w∧c.isAgg=agg)∧K c):=id rfl
@[simp↓] theorem aiA {j:Int} {K:PV->Prop} (cl:List UInt8):aaB j K (.str cl)=(bF cl[j.toNat]? λc=>0≤j∧K (.int .u8 c.toNat)):=id rfl
@[simp↓] theorem aiB {i:Nat} {K:PV->Prop} (cl:List PV):Pv i K (.tup cl)=(bF cl[i]? K):=id rfl
@[simp↓] theorem aoJ {s:St} {K:PV->Prop} (cz:Nat) (cl:List PV) (cc:Bool):yl s K (.sl cz cl cc)=(K (.int .i64 cl.length)):=id rfl
@[simp↓] theorem aoK {s:St} {K:PV->Prop} (ck:Nat) (cp:List Step) (co cl ct cz:Nat) (cc:ft):yl s K (.rs ck cp co cl ct cz cc)=(bF (get s.bx ck) λblk=>ct=blk.aN∧K (.int .i64 cl)):=id rfl
@[simp↓] theorem aeP {s:St} {g:Bool} {lo hi mx:Option AX} {K:PV->Prop} (cl:List UInt8):Xt s g lo hi mx K (.str cl)=(mx.isNone=true∧kJ g s lo hi cl.length cl.length λl h=>K (.str ((cl.take h).drop l))):=id rfl
@[simp↓] theorem aoL {s:St} {g:Bool} {n sz:Nat} {lo hi mx:Option AX} {K:PV->Prop} (cz:Nat) (cl:List PV) (cp:List Step):TL s g n sz lo hi mx K (.fp cz cl cp)=bF (oK (.arr cz cl) cp) (aaC s g n sz lo hi mx K):=id rfl
@[simp↓] theorem aoM {s:St} {g:Bool} {n sz:Nat} {lo hi mx:Option AX} {K:PV->Prop} (z' n':Nat) (l':List PV):aaC s g n sz lo hi mx K (.ar z' n' l')=((z'=sz∧n'=n∧mx.isNone=true)∧kJ g s lo hi n n λa b=>K (.sl sz ((l'.take b).drop a) (decide (b=n)))):=id rfl
@[simp↓] theorem aoN {s:St} {g:Bool} {n sz:Nat} {lo hi mx:Option AX} {K:PV->Prop} (ck:Nat) (cp:List Step) (ct:Nat):TL s g n sz lo hi mx K (.pt ck cp ct)=(bF (get s.bx ck) λblk=>ct=blk.aN∧mx.isNone=true∧kJ g s lo hi n n λa b=>K (.rs ck cp a (b-a) ct sz (if b=n then .clip else .any))):=id rfl
@[simp↓] theorem aeQ {s:St} {n:Nat} {v:PV} {K:St->Prop} (ck:Nat) (cp:List Step) (ct:Nat):JS s n v K (.pt ck cp ct)=(bF (get s.bx ck) λblk=>bF (uv blk cp (wkb blk v)) λbq=>(ct=blk.aN∧v.width=n∧v.aT=true)∧K {s with bx:=put s.bx ck bq}):=id rfl
@[simp↓] theorem aeR {s:St} {d:Option Nat} {ng:Bool} {K:St->Prop} (cz:Nat) (cl:List PV) (cc:Bool):JT s d ng K (.sl cz cl cc)=(∀b:Bool,(b=true->cl=[])->K (s.put d (.bl (b !=ng)))):=id rfl
@[simp↓500] theorem ar6 {A B:Prop} (cx:Bool):cdK A B (.bl cx)=((cx=true->A)∧(cx=false->B)):=id rfl
@[simp↓] theorem aiC {s:St} {a b:AX} {K:PV->Prop} (cx:Bool):Xs s a b K (.bl cx)=(yk cx K (vx s a) (vx s b)):=id rfl
end Go.Ab
namespace Go.Ab
variable [cK]
variable {P:Program} {s:St} {g:Bool}
theorem ar7 (x:AX) (K:PV->Prop):ev g s (.mv x) K=ei g (vx s x) K:=by simp only[ev,iF]
theorem TY (k:IntKind) (x:AX) (K:PV->Prop):ev g s (.convI k x) K=ei g (vx s x) (uK λn=>K (.int k (k.wrap n))):=by simp only[ev,iF,qk]
theorem aaH (n:Nat) (K:PV->Prop):ev g s (.lenC n) K=K (.int .i64 n):=id rfl
end Go.Ab
namespace Go.Ab
variable [cK]
variable {P:Program} {s:St} [eE]
@[simp↓] theorem ar8 (d:Option Nat) (gd:Option (Nat×Bool)) (mg:Bool) (x:AX) (K:St->Prop):jT P s ⟨d,gd,mg,.mv x⟩ K=ev true s (.mv x) λp=>K (s.put d p):=id rfl
@[simp↓] theorem aiD (d:Option Nat) (gd:Option (Nat×Bool)) (mg:Bool) (c a b:AX) (K:St->Prop):jT P s ⟨d,gd,mg,.pick c a b⟩ K=ev true s (.pick c a b) λp=>K (s.put d p):=id rfl
@[simp↓] theorem aeS (d:Option Nat) (gd:Option (Nat×Bool)) (mg:Bool) (z:PV) (ps:List (Nat×AX)) (K:St->Prop):jT P s ⟨d,gd,mg,.build z ps⟩ K=ev true s (.build z ps) λp=>K (s.put d p):=id rfl
@[simp↓] theorem aiE (d:Option Nat) (gd:Option (Nat×Bool)) (mg:Bool) (a:Bool) (w:Nat) (x:AX) (K:St->Prop):jT P s ⟨d,gd,mg,.load a w x⟩ K=ev true s (.load a w x) λp=>K (s.put d p):=id rfl
@[simp↓] theorem TZ (d:Option Nat) (gd:Option (Nat×Bool)) (mg:Bool) (x:AX) (K:St->Prop):jT P s ⟨d,gd,mg,.nilCheck x⟩ K=ev true s (.nilCheck x) λp=>K (s.put d p):=id rfl
@[simp↓] theorem aoO (d:Option Nat) (gd:Option (Nat×Bool)) (mg:Bool) (o:BinOp) (e:ET) (x y:AX) (K:St->Prop):jT P s ⟨d,gd,mg,.bin o e x y⟩ K=ev true s (.bin o e x y) λp=>K (s.put d p):=id rfl
@[simp↓] theorem ar9 (d:Option Nat) (gd:Option (Nat×Bool)) (mg:Bool) (o:UnOp) (x:AX) (K:St->Prop):jT P s ⟨d,gd,mg,.un o x⟩ K=ev true s (.un o x) λp=>K (s.put d p):=id rfl
@[simp↓] theorem aeT (d:Option Nat) (gd:Option (Nat×Bool)) (mg:Bool) (k:IntKind) (x:AX) (K:St->Prop):jT P s ⟨d,gd,mg,.convI k x⟩ K=ev true s (.convI k x) λp=>K (s.put d p):=id rfl
@[simp↓] theorem aeU (d:Option Nat) (gd:Option (Nat×Bool)) (mg:Bool) (x:AX) (K:St->Prop):jT P s ⟨d,gd,mg,.convS x⟩ K=ev true s (.convS x) λp=>K (s.put d p):=id rfl
@[simp↓] theorem aaI (d:Option Nat) (gd:Option (Nat×Bool)) (mg:Bool) (f:Fn) (a b:List AX) (K:St->Prop):jT P s ⟨d,gd,mg,.mkFunc f a b⟩ K=ev true s (.mkFunc f a b) λp=>K (s.put d p):=id rfl
@[simp↓] theorem aeV (d:Option Nat) (gd:Option (Nat×Bool)) (mg:Bool) (k:SK) (x:AX) (l h m:Option AX) (K:St->Prop):jT P s ⟨d,gd,mg,.slice k x l h m⟩ K=ev true s (.slice k x l h m) λp=>K (s.put d p):=id rfl
@[simp↓] theorem aaJ (d:Option Nat) (gd:Option (Nat×Bool)) (mg:Bool) (i o:Nat) (x:AX) (K:St->Prop):jT P s ⟨d,gd,mg,.fieldA i o x⟩ K=ev true s (.fieldA i o x) λp=>K (s.put d p):=id rfl
@[simp↓] theorem aoP (d:Option Nat) (gd:Option (Nat×Bool)) (mg:Bool) (n z:Nat) (x:AX) (K:St->Prop):jT P s ⟨d,gd,mg,.s2a n z x⟩ K=ev true s (.s2a n z x) λp=>K (s.put d p):=id rfl
@[simp↓] theorem aeW (d:Option Nat) (gd:Option (Nat×Bool)) (mg:Bool) (a b:Sh) (K:St->Prop):jT P s ⟨d,gd,mg,.mkMap a b⟩ K=ex s d (.mkMap a b) K:=id rfl
@[simp↓] theorem aaK (d:Option Nat) (gd:Option (Nat×Bool)) (mg:Bool) (a b:Sh) (z:PV) (ok:Bool) (m x:AX) (K:St->Prop):jT P s ⟨d,gd,mg,.mapGet a b z ok m x⟩ K=ex s d (.mapGet a b z ok m x) K:=id rfl
@[simp↓] theorem aaL (d:Option Nat) (gd:Option (Nat×Bool)) (mg:Bool) (a b:Sh) (m x y:AX) (K:St->Prop):jT P s ⟨d,gd,mg,.mapSet a b m x y⟩ K=ex s d (.mapSet a b m x y) K:=id rfl
@[simp↓] theorem aaM (d:Option Nat) (gd:Option (Nat×Bool)) (mg:Bool) (k:SK) (x i:AX) (K:St->Prop):jT P s ⟨d,gd,mg,.indexA k x i⟩ K=ev true s (.indexA k x i) λp=>K (s.put d p):=id rfl
@[simp↓] theorem aeX (d:Option Nat) (gd:Option (Nat×Bool)) (mg:Bool) (a:Bool) (n w:Nat) (x i:AX) (K:St->Prop):jT P s ⟨d,gd,mg,.index a n w x i⟩ K=ev true s (.index a n w x i) λp=>K (s.put d p):=id rfl
@[simp↓] theorem aaN (d:Option Nat) (gd:Option (Nat×Bool)) (mg:Bool) (x i:AX) (K:St->Prop):jT P s ⟨d,gd,mg,.indexS x i⟩ K=ev true s (.indexS x i) λp=>K (s.put d p):=id rfl
@[simp↓] theorem Xw (d:Option Nat) (gd:Option (Nat×Bool)) (mg:Bool) (i:Nat) (x:AX) (K:St->Prop):jT P s ⟨d,gd,mg,.extract i x⟩ K=ev true s (.extract i x) λp=>K (s.put d p):=id rfl
@[simp↓] theorem aoQ (d:Option Nat) (gd:Option (Nat×Bool)) (mg:Bool) (x:AX) (K:St->Prop):jT P s ⟨d,gd,mg,.len x⟩ K=ev true s (.len x) λp=>K (s.put d p):=id rfl
@[simp↓] theorem aoR (d:Option Nat) (gd:Option (Nat×Bool)) (mg:Bool) (x:AX) (K:St->Prop):jT P s ⟨d,gd,mg,.cap x⟩ K=ev true s (.cap x) λp=>K (s.put d p):=id rfl
@[simp↓] theorem Xx (d:Option Nat) (gd:Option (Nat×Bool)) (mg:Bool) (sz b:Nat) (z:PV) (x y:AX) (K:St->Prop):jT P s ⟨d,gd,mg,.appendZ sz b z x y⟩ K=ex s d (.appendZ sz b z x y) K:=id rfl
@[simp↓] theorem asa (d:Option Nat) (gd:Option (Nat×Bool)) (mg:Bool) (m:Bool) (xs:List AX) (K:St->Prop):jT P s ⟨d,gd,mg,.mm m xs⟩ K=ev true s (.mm m xs) λp=>K (s.put d p):=id rfl
@[simp↓] theorem aeY (d:Option Nat) (gd:Option (Nat×Bool)) (mg:Bool) (z:PV) (K:St->Prop):jT P s ⟨d,gd,mg,.alloc z⟩ K=ex s d (.alloc z) K:=id rfl
@[simp↓] theorem aoS (d:Option Nat) (gd:Option (Nat×Bool)) (mg:Bool) (x:AX) (K:St->Prop):jT P s ⟨d,gd,mg,.box x⟩ K=ex s d (.box x) K:=id rfl
@[simp↓] theorem PE (d:Option Nat) (gd:Option (Nat×Bool)) (mg:Bool) (o:Bool) (sz:Nat) (z:PV) (n:Nat) (ps:List (Nat×AX)) (K:St->Prop):jT P s ⟨d,gd,mg,.buildSlice o sz z n ps⟩ K=ex s d (.buildSlice o sz z n ps) K:=id rfl
@[simp↓] theorem Sl (d:Option Nat) (gd:Option (Nat×Bool)) (mg:Bool) (sz b:Nat) (z:PV) (l c:AX) (K:St->Prop):jT P s ⟨d,gd,mg,.makeSlice sz b z l c⟩ K=ex s d (.makeSlice sz b z l c) K:=id rfl
@[simp↓] theorem aeZ (d:Option Nat) (gd:Option (Nat×Bool)) (mg:Bool) (w:Nat) (a x:AX) (K:St->Prop):jT P s ⟨d,gd,mg,.store w a x⟩ K=ex s d (.store w a x) K:=id rfl
@[simp↓] theorem aaO (d:Option Nat) (gd:Option (Nat×Bool)) (mg:Bool) (sz b:Nat) (st:Bool) (x y:AX) (K:St->Prop):jT P s ⟨d,gd,mg,.append sz b st x y⟩ K=ex s d (.append sz b st x y) K:=id rfl
@[simp↓] theorem aiF (d:Option Nat) (gd:Option (Nat×Bool)) (mg:Bool) (sz:Nat) (x y:AX) (K:St->Prop):jT P s ⟨d,gd,mg,.copy sz x y⟩ K=ex s d (.copy sz x y) K:=id rfl
@[simp↓] theorem aiG (d:Option Nat) (gd:Option (Nat×Bool)) (mg:Bool) (sz:Nat) (z:PV) (x:AX) (K:St->Prop):jT P s ⟨d,gd,mg,.fill sz z x⟩ K=ex s d (.fill sz z x) K:=id rfl
@[simp↓] theorem ae0 (d:Option Nat) (gd:Option (Nat×Bool)) (mg:Bool) (x:AX) (K:St->Prop):jT P s ⟨d,gd,mg,.convL x⟩ K=ex s d (.convL x) K:=id rfl
@[simp↓] theorem ae1 (d:Option Nat) (gd:Option (Nat×Bool)) (mg:Bool) (ng:Bool) (x:AX) (K:St->Prop):jT P s ⟨d,gd,mg,.isNil ng x⟩ K=ex s d (.isNil ng x) K:=id rfl
@[simp↓] theorem aiH (d:Option Nat) (gd:Option (Nat×Bool)) (mg:Bool) (f:AX) (l:List AX) (K:St->Prop):jT P s ⟨d,gd,mg,.call f l⟩ K=mS P s d f l K:=id rfl
@[simp↓] theorem ae2 (d:Option Nat) (gd:Option (Nat×Bool)) (mg:Bool) (f:AX) (l:List AX) (K:St->Prop):jT P s ⟨d,gd,mg,.callq f l⟩ K=qb P s d f l K:=id rfl
end Go.Ab
namespace Go.Ab
variable [cK]
variable {P:Program} {s:St}
theorem JU {d:Option Nat} {f:FuncId} {args:List PV} {R:PV->Prop} {K:St->Prop} (hA:ae P f args [] (λr fp=>R r∧fp=[])) (hp:au args) (hr:∀r,R r->Pure r) (h:∀r,R r->K (s.put d r)):
  ∃ks os,xI P s d f args ks os K:=by
 refine⟨[],[],[],(λr fp=>R r∧fp=[]),rfl,by simp,by simp,hp.refs _,rfl,?_,?_⟩
 ·rw[hp.aE];exact hA
 ·rintro r fp ⟨hR,rfl⟩;refine⟨⟨rfl,(hr r hR).refs _,rfl⟩,?_⟩;rw[(hr r hR).aE];exact h r hR
theorem M7 {d:Option Nat} {f:FuncId} {args:List PV} {sz:Nat} {R:List PV->Prop} {K:St->Prop} (o:Nat) (hA:ae P f args [] (λr fp=>∃l,R l∧r= .rs KB [] 0 l.length l.length sz .tip∧fp=[.arr sz l])) (hp:au args) (ho:get s.bx o=none)
  (hl:∀l,R l->au l) (h:∀l,R l->K ({s with bx:=put s.bx o (.arr sz l)}.put d (.rs o [] 0 l.length l.length sz .tip))):∃ks os,xI P s d f args ks os K:=by
 refine⟨[],[o],[],(λr fp=>∃l,R l∧r= .rs KB [] 0 l.length l.length sz .tip∧fp=[.arr sz l]),rfl,by simp,by simpa using ho,hp.refs _,rfl,?_,?_⟩
 ·rw[hp.aE];exact hA
 ·rintro r fp ⟨l,hR,rfl,rfl⟩;have oJ:=hl l hR;have e:cL [o] KB=o:=by simp[cL]
  refine⟨⟨rfl,by simp[af,cY],by simp[ab,oJ.refs]⟩,?_⟩;simpa[aI,az,oJ.aE,aE,e]using h l hR
end Go.Ab
namespace Go.Ab
variable [cK]
variable {P:Program} {s:St} {g:Bool} [eE]
attribute [simp↓] aat TF aau JN aay aax aav aaw aaz qk arQ vG TH Ps ail TJ HS HT TK Pu M1 ain
 HU JO JP JQ Px Py Xu Pz PA TO air CP CQ TP PC M4 JR M5 M6
 TQ TR HV TT TU TV TW ar7 TY aaH
inductive Tg {α:Sort _} (a:α):Type
 |mk
def ai (P:Program) (s:St) (d:Option Nat) (f:FuncId) (args:List PV) (K:St->Prop) (_:Tg K):Prop:=∃ks os,xI P s d f args ks os K
def aM (P:Program) (s:St) (d:Option Nat) (f:FuncId) (args:List PV) (K:St->Prop) (_:Tg K):Prop:=
 ∃v,(ah (λ_=>false) args=true∧af (λ_=>false) v=true)∧ae P f args [] (λr fp=>r=v∧fp=[])∧K (s.put d v)
def yS (s:St) (d:Option Nat) (l:Nat) (args:List PV) (K:St->Prop) (_:Tg K):Prop:=Jm s d l args K
def PF (P:Program) (s:St) (d:Option Nat) (K:St->Prop) (t:Tg K) (args:List PV):PV->Prop
 | .fn (.func fid) first cap=>ai P s d fid (first++args++cap) K t
 | .fn (.yield l) [] []=>yS s d l args K t
 |_=>False
def PG (P:Program) (s:St) (d:Option Nat) (K:St->Prop) (t:Tg K) (args:List PV):PV->Prop
 | .fn (.func fid) first cap=>aM P s d fid (first++args++cap) K t
 |_=>False
@[simp↓] theorem ae3 (d:Option Nat) (K:St->Prop) (t:Tg K) (l a b:List PV) (f:FuncId):PF P s d K t l (.fn (.func f) a b)=ai P s d f (a++l++b) K t:=_root_.id rfl
@[simp↓] theorem ae4 (d:Option Nat) (K:St->Prop) (t:Tg K) (l a b:List PV) (f:FuncId):PG P s d K t l (.fn (.func f) a b)=aM P s d f (a++l++b) K t:=_root_.id rfl
@[simp↓] theorem aoT (d:Option Nat) (f:AX) (args:List AX) (K:St->Prop):mS P s d f args K=ei true (vx s f) λpf=>xq true s args λps=>PF P s d K .mk ps pf:=by
 rw[TX];congr 1
@[simp↓] theorem aoU (d:Option Nat) (f:AX) (args:List AX) (K:St->Prop):qb P s d f args K=ei true (vx s f) λpf=>xq true s args λps=>PG P s d K .mk ps pf:=by
 simp only[qb,iF];congr 1
@[simp↓] theorem ax1 (n:Nat):vx s (.t n)=(get s.env n).getD .un:=_root_.id rfl
@[simp↓] theorem ax2 (p:PV):vx s (.c p)=p:=_root_.id rfl
@[simp↓] theorem get_nil {α:Type} (n:Nat):get ([]:List (Nat×α)) n=none:=_root_.id rfl
@[simp↓] theorem aiI {α:Type} (k n:Nat) (v:α) (r:List (Nat×α)):get ((k,v)::r) n=if k=n then some v else get r n:=_root_.id rfl
@[simp↓] theorem aoV {α:Type} (n:Nat) (x:α):put [] n x=[(n,x)]:=_root_.id rfl
@[simp↓] theorem aiJ {α:Type} (k n:Nat) (v x:α) (r:List (Nat×α)):put ((k,v)::r) n x=if k=n then(n,x)::r else if n<k then(n,x)::(k,v)::r else(k,v)::put r n x:=_root_.id rfl
@[simp↓] theorem aaP (d:Nat) (p:PV):s.put (some d) p= {s with env:=put s.env d p}:=_root_.id rfl
@[simp↓] theorem aaQ (p:PV):s.put none p=s:=_root_.id rfl
@[simp↓] theorem aoW (K:St->Prop):K5 P s [] K=K s:=_root_.id rfl
@[simp↓] theorem aiK (o:AO) (l:List AO) (K:St->Prop):K5 P s (o::l) K=fR P s o λs'=>K5 P s' l K:=_root_.id rfl
def eW (P:Program) (x:cq) (Q:Exit->St->Prop) (_:Tg (x,Q)) (s:St):Prop:=Lp (λQ s=>aw P x Q s) Q s
def N8 (P:Program) (x y:cq) (Q:Exit->St->Prop) (_:Tg (x,y,Q)) (s:St):Prop:=Md (λQ s=>aw P x Q s) (λQ s=>aw P y Q s) Q s
def aA (n:Nat) (res:List AK) (R:PV->List aU->Prop) (_:Tg R) (s:St):Prop:=TE n res R s
theorem al (c:cq) (Q:Exit->St->Prop):aw P (lk c) Q s=aw P c Q s:=by rw[aar]
@[simp↓] theorem aoX (Q:Exit->St->Prop):aw P .skip Q s=Q .normal s:=_root_.id rfl
@[simp↓] theorem ae5 (l:List AO) (Q:Exit->St->Prop):aw P (.region l) Q s=K5 P s l (Q .normal):=_root_.id rfl
@[simp↓] theorem asb (x y:cq) (Q:Exit->St->Prop):aw P (.seq x y) Q s=aw P x (AD Q λs'=>aw P y Q s') s:=_root_.id rfl
@[simp↓] theorem aoY (n:Nat) (v:PV) (e:List (Nat×PV)) (b:List (Nat×aU)) (c:AX) (x y:cq) (Q:Exit->St->Prop):aw P (.cond c x y) Q ⟨(n,v)::e,b⟩=cdK (aw P x Q ⟨(n,v)::e,b⟩) (aw P y Q ⟨(n,v)::e,b⟩) (vx ⟨(n,v)::e,b⟩ c):=aaE c x y Q
@[simp↓] theorem awk (n:Nat) (v:PV) (e:List (Nat×PV)) (b:List (Nat×aU)) (d:Option Nat) (mg:Bool) (k:AK) (K:St->Prop):fR P ⟨(n,v)::e,b⟩ ⟨d,none,mg,k⟩ K=jT P ⟨(n,v)::e,b⟩ ⟨d,none,mg,k⟩ K:=_root_.id rfl
@[simp↓] theorem asc (b:List (Nat×aU)) (d:Option Nat) (mg:Bool) (k:AK) (K:St->Prop):fR P ⟨[],b⟩ ⟨d,none,mg,k⟩ K=jT P ⟨[],b⟩ ⟨d,none,mg,k⟩ K:=_root_.id rfl
@[simp↓] theorem awl (n:Nat) (v:PV) (e:List (Nat×PV)) (b:List (Nat×aU)) (d:Option Nat) (sl:Nat) (want mg:Bool) (k:AK) (K:St->Prop):fR P ⟨(n,v)::e,b⟩ ⟨d,some (sl,want),mg,k⟩ K=
  BC want mg (λg=>ev g ⟨(n,v)::e,b⟩ k λp=>K (St.put ⟨(n,v)::e,b⟩ d (.gd g p))) (jT P ⟨(n,v)::e,b⟩ ⟨d,some (sl,want),mg,k⟩ K) (K (St.put ⟨(n,v)::e,b⟩ d .un)) ((get ((n,v)::e) sl).getD .un):=TS d sl want mg k K
@[simp↓] theorem aiL (id:Nat) (x:cq) (Q:Exit->St->Prop):aw P (.block id x) Q s=aw P x (Xr id Q) s:=_root_.id rfl
@[simp↓] theorem aoZ (x:cq) (Q:Exit->St->Prop):aw P (.loop x) Q s=eW P x Q .mk s:=_root_.id rfl
@[simp↓] theorem ao0 (x y:cq) (Q:Exit->St->Prop):aw P (.seqm x y) Q s=N8 P x y Q .mk s:=_root_.id rfl
@[simp↓] theorem ao1 (id:Nat) (Q:Exit->St->Prop):aw P (.exit id) Q s=Q (.exit id) s:=_root_.id rfl
@[simp↓] theorem asd (Q:Exit->St->Prop):aw P .ret Q s=Q .ret s:=_root_.id rfl
@[simp↓] theorem aaR (Q:Exit->St->Prop) (K:St->Prop):AD Q K .normal s=K s:=_root_.id rfl
@[simp↓] theorem ao2 (Q:Exit->St->Prop) (K:St->Prop):AD Q K .ret s=Q .ret s:=_root_.id rfl
@[simp↓] theorem aiM (Q:Exit->St->Prop) (K:St->Prop) (i:Nat):AD Q K (.exit i) s=Q (.exit i) s:=_root_.id rfl
@[simp↓] theorem aaS (Q:Exit->St->Prop) (i:Nat):Xr i Q .normal s=Q .normal s:=_root_.id rfl
@[simp↓] theorem ao3 (Q:Exit->St->Prop) (i:Nat):Xr i Q .ret s=Q .ret s:=_root_.id rfl
@[simp↓] theorem aiN (Q:Exit->St->Prop) (i j:Nat):Xr i Q (.exit j) s=if j=i then Q .normal s else Q (.exit j) s:=_root_.id rfl
@[simp↓] theorem aiO (n:Nat) (res:List AK) (R:PV->List aU->Prop):ends n res R .ret s=aA n res R .mk s:=_root_.id rfl
@[simp↓] theorem Xy (n:Nat) (res:List AK) (R:PV->List aU->Prop):ends n res R .normal s=aA n res R .mk s:=_root_.id rfl
@[simp↓] theorem aiP (K:St->Prop):iR [] s K=K s:=_root_.id rfl
@[simp↓] theorem cM (c:Cut) (r:List Cut) (K:St->Prop):iR (c::r) s K=gM c s λs'=>iR r s' K:=_root_.id rfl
@[simp↓] theorem ae6 (sl:List Nat) (K:St->Prop):gM (.keep sl) s K=K {s with env:=oq sl s.env}:=_root_.id rfl
def aaT (s:St) (n k len aN sz:Nat) (K:St->Prop):aU->Prop
 | .arr bN l=>(bN=sz∧aN=l.length)∧∀c j:Nat,(c=l.length+j∨(c=0∧j=0∧len=0))->
    K {env:=put s.env n (.rs k [] 0 len (l.length+j) sz (.full c)),bx:=put s.bx k (.arr sz (l++List.replicate j (G0 sz)))}
 |_=>False
def aaU (s:St) (n:Nat) (K:St->Prop):PV->Prop
 | .rs k [] 0 len aN sz .tip=>bF (get s.bx k) (aaT s n k len aN sz K)
 |_=>False
@[simp↓] theorem ao4 (n k len aN sz:Nat) (K:St->Prop):aaU s n K (.rs k [] 0 len aN sz .tip)=bF (get s.bx k) (aaT s n k len aN sz K):=_root_.id rfl
@[simp↓] theorem aiQ (n k len aN sz bN:Nat) (l:List PV) (K:St->Prop):aaT s n k len aN sz K (.arr bN l)=((bN=sz∧aN=l.length)∧∀c j:Nat,(c=l.length+j∨(c=0∧j=0∧len=0))->
    K {env:=put s.env n (.rs k [] 0 len (l.length+j) sz (.full c)),bx:=put s.bx k (.arr sz (l++List.replicate j (G0 sz)))}):=_root_.id rfl
@[simp↓] theorem ao5 (n:Nat) (K:St->Prop):gM (.mt n) s K=bF (get s.env n) (aaU s n K):=by
 simp only[gM,mt1];cases get s.env n with
 |none=>rfl
 |
  some p=>
  cases p<;>try rfl
  rename_i k pth off len aN sz c
  cases pth<;>try rfl
  cases off<;>try rfl
  cases c<;>try rfl
  simp only[bF,aaU]
  cases get s.bx k with
  |none=>rfl
  |some b=>cases b<;>rfl
def aiR (s:St) (k:Nat) (K:St->Prop):aU->Prop
 | .box v=>K {s with bx:=put s.bx k (.box (wk v))}
 |_=>False
@[simp↓] theorem aiS (k:Nat) (K:St->Prop) (v:PV):aiR s k K (.box v)=K {s with bx:=put s.bx k (.box (wk v))}:=_root_.id rfl
def aiT (s:St) (k:Nat) (m:List PV) (K:St->Prop):aU->Prop
 | .arr sz l=>yQ l m∧K {s with bx:=put s.bx k (.arr sz m)}
 |_=>False
@[simp↓] theorem aiU (k sz:Nat) (l m:List PV) (K:St->Prop):aiT s k m K (.arr sz l)=(yQ l m∧K {s with bx:=put s.bx k (.arr sz m)}):=_root_.id rfl
@[simp↓] theorem ao6 (k:Nat) (m:List PV) (K:St->Prop):gM (.es k m) s K=bF (get s.bx k) (aiT s k m K):=by
 simp only[gM,es1];cases get s.bx k with
 |none=>rfl
 |some b=>cases b<;>rfl
def aiV (s:St) (n k:Nat) (K:St->Prop):aU->Prop
 | .box v=>(get s.env n=some (.pt k [] 0)∧0<v.width)∧K {env:=put s.env n (.pt k [.i 0 v.width] 1),bx:=put s.bx k (.arr v.width [v])}
 |_=>False
@[simp↓] theorem aiW (n k:Nat) (v:PV) (K:St->Prop):aiV s n k K (.box v)=((get s.env n=some (.pt k [] 0)∧0<v.width)∧K {env:=put s.env n (.pt k [.i 0 v.width] 1),bx:=put s.bx k (.arr v.width [v])}):=_root_.id rfl
@[simp↓] theorem ao7 (n k:Nat) (K:St->Prop):gM (.ba n k) s K=bF (get s.bx k) (aiV s n k K):=by
 simp only[gM,ba1];cases get s.bx k with
 |none=>rfl
 |some b=>cases b<;>rfl
@[simp↓] theorem ao8 (k:Nat) (K:St->Prop):gM (.wb k) s K=bF (get s.bx k) (aiR s k K):=by
 simp only[gM,wb1];cases get s.bx k with
 |none=>rfl
 |some b=>cases b<;>rfl
def vbP (s:St) (b k sz:Nat) (w:Option PV) (K:St->Prop):PV->Prop
 | .sl _ [] true=>bF w λv'=>(get s.bx k=none∧0<sz)∧K {s with bx:=put (put s.bx k (.arr sz [])) b (.box v')}
 |_=>False
@[simp↓] theorem ase (b k sz z:Nat) (w:Option PV) (K:St->Prop):vbP s b k sz w K (.sl z [] true)=bF w λv'=>(get s.bx k=none∧0<sz)∧K {s with bx:=put (put s.bx k (.arr sz [])) b (.box v')}:=_root_.id rfl
def vbK (s:St) (b:Nat) (p:List Step) (k sz:Nat) (K:St->Prop):aU->Prop
 | .box v=>bF (aO v p) (vbP s b k sz (bO v p (.rs k [] 0 0 0 sz .tip)) K)
 |_=>False
@[simp↓] theorem ao9 (b:Nat) (p:List Step) (k sz:Nat) (v:PV) (K:St->Prop):vbK s b p k sz K (.box v)=bF (aO v p) (vbP s b k sz (bO v p (.rs k [] 0 0 0 sz .tip)) K):=_root_.id rfl
@[simp↓] theorem apa (b:Nat) (p:List Step) (k sz:Nat) (K:St->Prop):gM (.vb b p k sz) s K=bF (get s.bx b) (vbK s b p k sz K):=by
 simp only[gM,vb1];cases get s.bx b with
 |none=>rfl
 |
  some x=>
  cases x with
  |arr _ _=>rfl
  |map b ks vs l=>rfl
  |
   box v=>
   simp only[bF,vbK]
   cases h1:aO v p with
   |none=>cases bO v p (.rs k [] 0 0 0 sz .tip)<;>rfl
   |
    some u=>
    cases h2:bO v p (.rs k [] 0 0 0 sz .tip)with
    |
     none=>
     simp only[vbP]
     split<;>simp_all
    |
     some v'=>
     simp only[vbP]
     split<;>simp_all
@[simp↓] theorem apb (n:Nat) (K:St->Prop):gM (.wk n) s K=bF (get s.env n) λp=>K {s with env:=put s.env n (wk p)}:=by
 simp only[gM,wk1];cases get s.env n<;>rfl
def fzK (s:St) (k:Nat) (K:St->Prop):aU->Prop
 | .arr sz l=>(ah (λj=>decide (j≠k)) l=true∧k<KB)∧K {env:=lP (iQ k sz l) s.env,bx:=lP (Ba k sz l) (del s.bx k)}
 |_=>False
@[simp↓] theorem apc (k sz:Nat) (l:List PV) (K:St->Prop):fzK s k K (.arr sz l)=((ah (λj=>decide (j≠k)) l=true∧k<KB)∧K {env:=lP (iQ k sz l) s.env,bx:=lP (Ba k sz l) (del s.bx k)}):=_root_.id rfl
@[simp↓] theorem apd (k:Nat) (K:St->Prop):gM (.fz k) s K=bF (get s.bx k) (fzK s k K):=by
 simp only[gM,fz1];cases get s.bx k with
 |none=>rfl
 |some b=>cases b<;>rfl
def mvK (s:St) (k k':Nat) (K:St->Prop) (b:aU):Prop:=(get s.bx k'=none∧k<KB∧k'<KB∧k≠k')∧K {env:=lP (aE (ze k k')) s.env,bx:=put (lP (az (ze k k')) (del s.bx k)) k' (az (ze k k') b)}
@[simp↓] theorem ape (k k':Nat) (K:St->Prop):gM (.mv k k') s K=bF (get s.bx k) (mvK s k k' K):=by
 simp only[gM,mv1];cases get s.bx k<;>rfl
@[simp↓] theorem awo (k k':Nat) (K:St->Prop) (b:aU):mvK s k k' K b=((get s.bx k'=none∧k<KB∧k'<KB∧k≠k')∧K {env:=lP (aE (ze k k')) s.env,bx:=put (lP (az (ze k k')) (del s.bx k)) k' (az (ze k k') b)}):=_root_.id rfl
@[simp↓] theorem apf (k:Nat) (K:St->Prop):gM (.dr k) s K=((bn (λj=>decide (j≠k)) s.env=true∧bU (λj=>decide (j≠k)) (del s.bx k)=true∧k<KB)∧K {s with bx:=del s.bx k}):=_root_.id rfl
def vtK (s:St) (n k sz:Nat) (K:St->Prop):PV->Prop
 | .sl _ [] true=>(get s.bx k=none∧0<sz)∧K {env:=put s.env n (.rs k [] 0 0 0 sz .tip),bx:=put s.bx k (.arr sz [])}
 |_=>False
@[simp↓] theorem asg (n k sz z:Nat) (K:St->Prop):vtK s n k sz K (.sl z [] true)=((get s.bx k=none∧0<sz)∧K {env:=put s.env n (.rs k [] 0 0 0 sz .tip),bx:=put s.bx k (.arr sz [])}):=_root_.id rfl
@[simp↓] theorem apg (n k sz:Nat) (K:St->Prop):gM (.vt n k sz) s K=bF (get s.env n) (vtK s n k sz K):=by
 simp only[gM,vt1];cases get s.env n with
 |none=>rfl
 |
  some p=>
  cases p with
  |sl z l c=>cases l<;>cases c<;>rfl
  |_=>rfl
@[simp] theorem awq {n:Nat} (h:n<9000):n<KB:=h
@[simp↓] theorem aph (K:List PV->Prop):I5 s [] K=K []:=_root_.id rfl
@[simp↓] theorem aiY (k:AK) (r:List AK) (K:List PV->Prop):I5 s (k::r) K=ev true s k λp=>I5 s r λps=>K (p::ps):=_root_.id rfl
@[simp↓] theorem Xz:dM 0=[]:=_root_.id rfl
@[simp↓] theorem aaV (bx:List (Nat×aU)):getAll bx []=some []:=_root_.id rfl
@[simp↓] theorem ae7 (p:PV):dh [p]=p:=_root_.id rfl
@[simp↓] theorem M8 (p q:PV) (l:List PV):dh (p::q::l)= .tup (p::q::l):=_root_.id rfl
theorem aA.plain {res:List AK} {R:PV->List aU->Prop} {t:Tg R} (c:List Cut) (h:iR c s λs'=>I5 s' res λps=>(ps.all PV.flat=true∧au ps)∧R (dh ps) []):aA 0 res R t s:=by
 refine⟨c,[],?_⟩
 have hm:∀(c:List Cut) (s:St) (K K':St->Prop),(∀s,K s->K' s)->iR c s K->iR c s K':=by
  intro c;induction c with
  |nil=>intro s K K' h hk;exact h s hk
  |
   cons x c ih=>
   intro s K K' h hk
   cases x with
   |fz k=>simp only[cM,gM,fz1]at hk⊢;split at hk<;>simp_all;exact ih _ _ _ (λs hs=>h s hs) hk.2
   |dr k=>simp only[cM,gM,dr1]at hk⊢;exact⟨hk.1,ih _ _ _ h hk.2⟩
   |keep sl=>simp only[cM,gM]at hk⊢;exact ih _ _ _ h hk
   |vt n k z=>simp only[cM,gM,vt1]at hk⊢;split at hk<;>simp_all;exact ih _ _ _ (λs hs=>h s hs) hk.2
   |wk n=>simp only[cM,gM,wk1]at hk⊢;split at hk<;>simp_all;exact ih _ _ _ (λs hs=>h s hs) hk
   |
    ba n k=>
    simp only[cM,gM,ba1]at hk⊢
    split at hk
    ·exact⟨hk.1,ih _ _ _ h hk.2⟩
    ·exact hk.elim
   |
    es k m=>
    simp only[cM,gM,es1]at hk⊢
    split at hk
    ·exact⟨hk.1,ih _ _ _ h hk.2⟩
    ·exact hk.elim
   |wb n=>simp only[cM,gM,wb1]at hk⊢;split at hk<;>simp_all;exact ih _ _ _ (λs hs=>h s hs) hk
   |vb n p k z=>simp only[cM,gM,vb1]at hk⊢;split at hk<;>simp_all;split at hk<;>simp_all;exact ih _ _ _ (λs hs=>h s hs) hk.2
   |
    mv k k'=>
    simp only[cM,gM,mv1]at hk⊢
    split at hk
    ·exact⟨hk.1,ih _ _ _ h hk.2⟩
    ·exact hk.elim
   |
    mt n=>
    simp only[cM,gM,mt1]at hk⊢
    split at hk
    ·split at hk
     ·exact⟨hk.1,λc j e=>ih _ _ _ h (hk.2 c j e)⟩
     ·exact hk.elim
    ·exact hk.elim
 have hev:∀(k:AK) (s:St) (K K':PV->Prop),(∀p,K p->K' p)->ev true s k K->ev true s k K':=by
  intro k s K K' h hk;obtain⟨p,h1,h2⟩:=tM true s k K hk;exact h2 K' (h p h1)
 have ad8:∀(l:List AK) (s:St) (K K':List PV->Prop),(∀p,K p->K' p)->I5 s l K->I5 s l K':=by
  intro l;induction l with
  |nil=>intro s K K' h hk;exact h _ hk
  |cons x l ih=>intro s K K' h hk;exact hev _ _ _ _ (λp hp=>ih _ _ _ (λq hq=>h _ hq) hp) hk
 refine hm _ _ _ _ (λs' Bk=>ad8 _ _ _ _ (λps En=> ?_) Bk) h;obtain⟨⟨h1,h2⟩,h3⟩:=En
 have hp:Pure (dh ps):=by
  match ps,h2 with
  |[],h2=>exact Pure.of rfl
  |[p],h2=>exact h2.forget p (by simp)
  |p::q::l,h2=>exact Pure.of (by simp only[M8,af];exact h2.refs _)
 refine⟨[],⟨rfl,by simp,rfl⟩,⟨h1,hp.refs _,rfl⟩,?_⟩;rw[hp.aE];exact h3
end Go.Ab
namespace Go.Ab
variable [cK]
variable {P:Program} {s:St} [eE]
theorem HW:∀ {l:List AO} {s:St} {K K':St->Prop},(∀p,K p->K' p)->K5 P s l K->K5 P s l K'
 |[],s,K,K',h,hk=>h _ hk
 |o::l,s,K,K',h,hk=>bV (λs' Bk=>HW h Bk) hk
theorem CR {W:List Nat} {f:Bool} {o:AO} {K K':St->Prop} (h:∀p,K p->K' p) (hk:jg P W f s o K):jg P W f s o K':=by
 unfold jg at hk⊢;split at hk
 ·split at hk
  ·rename_i h1 h2;rw[if_pos h1,if_pos h2];exact bV (λt ht=>h _ ht) hk
  ·rename_i h1 h2;rw[if_pos h1,if_neg h2];exact bV h hk
 ·rename_i h1;rw[if_neg h1];exact bV (λt ht=>⟨ht.1,h _ ht.2⟩) hk
theorem vH {aos:List AO} {fl:Nat->Bool} {W:List Nat}:∀ {l:List Nat} {s:St} {K K':St->Prop},(∀p,K p->K' p)->iE P aos fl W s l K->iE P aos fl W s l K'
 |[],s,K,K',h,hk=>h _ hk
 |
  i::l,s,K,K',h,hk=>by
  simp only[iE]at hk⊢
  split at hk
  ·exact⟨hk.1,CR (λt ht=>vH h ht) hk.2⟩
  ·exact hk.elim
theorem F3:∀ {c:cq} {s:St} {Q Q':Exit->St->Prop},(∀e s,Q e s->Q' e s)->aw P c Q s->aw P c Q' s:=by
 have ad9:∀ {Q Q':Exit->St->Prop} {K K':St->Prop},(∀e s,Q e s->Q' e s)->(∀s,K s->K' s)->∀e s,AD Q K e s->AD Q' K' e s:=by
  intro Q Q' K K' h hk e s he;cases e<;>first|exact hk _ he|exact h _ _ he
 intro c;induction c with
 |skip=>intro s Q Q' h hk;exact h _ _ hk
 |region l=>intro s Q Q' h hk;exact HW (h .normal) hk
 |regionD l o u=>intro s Q Q' h hk;obtain⟨W,hk⟩:=hk;exact⟨W,vH (h .normal) hk⟩
 |regionE l a p q b u=>intro s Q Q' h hk;obtain⟨W,hk⟩:=hk;exact⟨W,yi (λt ht=>⟨vH (h .normal) ht.1,vH (h .normal) ht.2⟩) hk⟩
 |seq x y ihx ihy=>intro s Q Q' h hk;exact ihx (ad9 h λs hs=>ihy h hs) hk
 |
  cond c x y ihx ihy=>
  intro s Q Q' h hk
  simp only[aw]at hk⊢
  split at hk
  ·exact⟨λe=>ihx h (hk.1 e),λe=>ihy h (hk.2 e)⟩
  ·exact⟨hk.1,λe=>ihx h (hk.2.1 e),λe=>ihy h (hk.2.2 e)⟩
  ·exact hk.elim
 |
  block id x ih=>
  intro s Q Q' h hk
  simp only[aw]at hk⊢
  refine ih (λe s he=> ?_) hk
  cases e<;>simp only[Xr]at he⊢<;>first|exact h _ _ he|(split at he<;>rename_i hi<;>simp only[hi,if_true,if_false]<;>exact h _ _ he)
 |
  loop x ih=>
  intro s Q Q' h hk
  obtain⟨I,c,h1,h2⟩:=hk
  exact⟨I,c,h1,λn s hs=>ih (ad9 h λs hs=>hs) (h2 n s hs)⟩
 |exit id=>intro s Q Q' h hk;exact h _ _ hk
 |ret=>intro s Q Q' h hk;exact h _ _ hk
 |
  seqm x y ihx ihy=>
  intro s Q Q' h hk
  obtain⟨M,h1,h2⟩:=hk
  exact⟨M,ihx (ad9 h λs hs=>hs) h1,λs hs=>ihy h (h2 s hs)⟩
end Go.Ab
namespace Go.Ab
variable [cK]
variable {P:Program} {s:St} [eE]
theorem ff:∀(c:List Cut) {s:St} {K K':St->Prop},(∀s,K s->K' s)->iR c s K->iR c s K'
 |[],s,K,K',h,hk=>h s hk
 |
  x::c,s,K,K',h,hk=>by
  cases x with
  |
   fz k=>
   simp only[cM,gM,fz1]at hk⊢
   split at hk
   ·exact⟨hk.1,ff c h hk.2⟩
   ·exact hk.elim
  |dr k=>simp only[cM,gM,dr1]at hk⊢;exact⟨hk.1,ff c h hk.2⟩
  |keep sl=>simp only[cM,gM]at hk⊢;exact ff c h hk
  |
   vt n k z=>
   simp only[cM,gM,vt1]at hk⊢
   split at hk
   ·exact⟨hk.1,ff c h hk.2⟩
   ·exact hk.elim
  |
   wk n=>
   simp only[cM,gM,wk1]at hk⊢
   split at hk
   ·exact ff c h hk
   ·exact hk.elim
  |
   ba n k=>
   simp only[cM,gM,ba1]at hk⊢
   split at hk
   ·exact⟨hk.1,ff c h hk.2⟩
   ·exact hk.elim
  |
   es k m=>
   simp only[cM,gM,es1]at hk⊢
   split at hk
   ·exact⟨hk.1,ff c h hk.2⟩
   ·exact hk.elim
  |
   wb n=>
   simp only[cM,gM,wb1]at hk⊢
   split at hk
   ·exact ff c h hk
   ·exact hk.elim
  |
   vb n p k z=>
   simp only[cM,gM,vb1]at hk⊢
   split at hk
   ·split at hk
    ·exact⟨hk.1,ff c h hk.2⟩
    ·exact hk.elim
   ·exact hk.elim
  |
   mv k k'=>
   simp only[cM,gM,mv1]at hk⊢
   split at hk
   ·exact⟨hk.1,ff c h hk.2⟩
   ·exact hk.elim
  |
   mt n=>
   simp only[cM,gM,mt1]at hk⊢
   split at hk
   ·split at hk
    ·exact⟨hk.1,λi j e=>ff c h (hk.2 i j e)⟩
    ·exact hk.elim
   ·exact hk.elim
theorem ou:∀(c d:List Cut) {s:St} {K:St->Prop},iR (c++d) s K=iR c s λs'=>iR d s' K
 |[],d,s,K=>rfl
 |
  x::c,d,s,K=>by
  simp only[JeZ,cM]
  congr 1;funext s'
  exact ou c d
def HX {α:Type}:List (Nat×α)->List (Nat×α)->List (Nat×α)
 |l,[]=>l
 |l,x::r=>HX (put l x.1 x.2) r
@[simp↓] theorem aiZ {α:Type} (l:List (Nat×α)):HX l []=l:=id rfl
@[simp↓] theorem ae8 {α:Type} (l r:List (Nat×α)) (x:Nat×α):HX l (x::r)=HX (put l x.1 x.2) r:=id rfl
@[simp↓] theorem ae9 {α:Type} (sl:List Nat):oq sl ([]:List (Nat×α))=[]:=id rfl
@[simp↓] theorem aaW {α:Type} (sl:List Nat) (j:Nat) (v:α) (r:List (Nat×α)):oq sl ((j,v)::r)=if sl.contains j=true then(j,v)::oq sl r else oq sl r:=id rfl
@[simp↓] theorem api {α:Type} (k:Nat):del ([]:List (Nat×α)) k=[]:=id rfl
@[simp↓] theorem ai0 {α:Type} (j k:Nat) (v:α) (r:List (Nat×α)):del ((j,v)::r) k=if j=k then del r k else(j,v)::del r k:=id rfl
@[simp↓] theorem ai1 {α:Type} (f:α->α):lP f []=[]:=id rfl
@[simp↓] theorem afa {α:Type} (f:α->α) (j:Nat) (v:α) (r:List (Nat×α)):lP f ((j,v)::r)=(j,f v)::lP f r:=id rfl
def gm (s:St) (ks:List Nat) (E:List (Nat×PV)) (B:List (Nat×aU)):St:= {env:=HX (oq ks s.env) E,bx:=HX s.bx B}
@[simp↓] theorem ash (e:List (Nat×PV)) (b:List (Nat×aU)) (ks:List Nat) (E:List (Nat×PV)) (B:List (Nat×aU)):gm ⟨e,b⟩ ks E B=⟨HX (oq ks e) E,HX b B⟩:=id rfl
theorem eW.fM {x:cq} {Q:Exit->St->Prop} {t:Tg (x,Q)} (n:Nat) (I:Nat->Prop) (ks:List Nat) (E:Nat->List (Nat×PV)) (B:Nat->List (Nat×aU)) (c0:List Cut)
  (h:iR c0 s λs0=>gm s0 ks (E 0) (B 0)=gm s0 ks [] []∧I 0∧
   (∀i,i<n->I i->∀K:St->Prop,(∀s2,gm s2 ks [] []=gm s0 ks (E (i+1)) (B (i+1))->I (i+1)->K s2)->aw P x (AD Q λs'=>∃c:List Cut,iR c s' K) (gm s0 ks (E i) (B i)))∧
   (I n->∀K:St->Prop,aw P x (AD Q K) (gm s0 ks (E n) (B n)))):eW P x Q t s:=by
 refine⟨λm st=>∃s0 i,i≤n∧m=n-i∧I i∧st=gm s0 ks (E i) (B i)∧
  (∀i,i<n->I i->∀K:St->Prop,(∀s2,gm s2 ks [] []=gm s0 ks (E (i+1)) (B (i+1))->I (i+1)->K s2)->aw P x (AD Q λs'=>∃c:List Cut,iR c s' K) (gm s0 ks (E i) (B i)))∧
   (I n->∀K:St->Prop,aw P x (AD Q K) (gm s0 ks (E n) (B n))),c0++[.keep ks],?_,?_⟩
 ·rw[ou];refine ff c0 (λs0 hs=> ?_) h;obtain⟨h1,h2,h3,h4⟩:=hs;exact⟨n,s0,0,by omega,by omega,h2,by rw[h1];rfl,h3,h4⟩
 ·rintro m st ⟨s0,i,hi,rfl,hI,rfl,h3,h4⟩;by_cases dk:i<n
  ·have aea:∀(K:St->Prop) s',(∃c:List Cut,iR c s' λs2=>iR [.keep ks] s2 K)->∃c:List Cut,iR c s' K:=λK s' ⟨c,hc⟩=>⟨c++[.keep ks],by rw[ou];exact hc⟩
   have:=h3 i dk hI (λs2=>iR [.keep ks] s2 λs'=>∃m,m<n-i∧∃s0 i,i≤n∧m=n-i∧I i∧s'=gm s0 ks (E i) (B i)∧
    (∀i,i<n->I i->∀K:St->Prop,(∀s2,gm s2 ks [] []=gm s0 ks (E (i+1)) (B (i+1))->I (i+1)->K s2)->aw P x (AD Q λs'=>∃c:List Cut,iR c s' K) (gm s0 ks (E i) (B i)))∧
    (I n->∀K:St->Prop,aw P x (AD Q K) (gm s0 ks (E n) (B n))))
    (λs2 e hI'=>⟨n-(i+1),by omega,s0,i+1,by omega,rfl,hI',by rw[←e];rfl,h3,h4⟩)
   refine F3 (λe s' he=> ?_) this;cases e with
   |normal=>exact aea _ _ he
   |_=>exact he
  ·have A0:i=n:=by omega
   subst A0;exact h4 hI _
end Go.Ab
namespace Go.Ab
variable [cK]
variable {P:Program} {s:St} [eE]
theorem ql {p:PV}:Pure p↔af (λ_=>false) p=true:=⟨λh=>h.refs _,Pure.of⟩
theorem nS {l:List PV}:au l↔ah (λ_=>false) l=true:=⟨λh=>h.refs _,au.of⟩
@[simp] theorem ai2 (k:IntKind) (n:Int):Pure (.int k n):=Pure.of rfl
@[simp] theorem apj (b:Bool):Pure (.bl b):=Pure.of rfl
@[simp] theorem ai3 (b:List UInt8):Pure (.str b):=Pure.of rfl
@[simp] theorem apk:Pure .un:=Pure.of rfl
@[simp] theorem apl:Pure .np:=Pure.of rfl
@[simp] theorem apm (b:UInt8):Pure (u8 b):=Pure.of rfl
@[simp] theorem apn (z:Nat) (l:List PV) (c:Bool):Pure (.sl z l c)↔au l:=by simp only[ql,nS,af]
@[simp] theorem apo (z:Nat) (l:List PV):Pure (.st z l)↔au l:=by simp only[ql,nS,af]
@[simp] theorem apq (z n:Nat) (l:List PV):Pure (.ar z n l)↔au l:=by simp only[ql,nS,af]
@[simp] theorem ai4 (l:List PV):Pure (.tup l)↔au l:=by simp only[ql,nS,af]
@[simp] theorem apr (z:Nat) (l:List PV) (p:List Step):Pure (.fp z l p)↔au l:=by simp only[ql,nS,af]
@[simp] theorem aps (f:Fn) (a b:List PV):Pure (.fn f a b)↔au a∧au b:=by simp only[ql,nS,af,aJ]
@[simp] theorem vI:au []:=au.of rfl
@[simp] theorem JV (p:PV) (l:List PV):au (p::l)↔Pure p∧au l:=by simp only[ql,nS,ah,aJ]
@[simp] theorem T0 (l m:List PV):au (l++m)↔au l∧au m:=by induction l<;>simp[*,and_assoc]
@[simp] theorem aaX {l:List PV} (h:au l) (n:Nat):au (l.take n):=h.take n
@[simp] theorem aaY {l:List PV} (h:au l) (n:Nat):au (l.drop n):=h.drop n
@[simp] theorem aF {α:Type} {e:α->PV} (h:∀x,Pure (e x)) (l:List α):au (l.map e):=au.map h l
@[simp] theorem tQ {p:PV} (h:Pure p) (n:Nat):au (List.replicate n p):=au.mk' λq hq=>by rw[(JrQ.1 hq).2];exact h
@[simp] theorem afb {l:List PV} {p:PV} (h:au l) (hp:Pure p) (n:Nat):au (l.set n p):=au.mk' λq hq=>by rcases JhJ hq with h'|h';exact h.forget q h';rw[h'];exact hp
@[simp] theorem ai5 {p:PV} (h:Pure p) (k z:Nat) (l:List PV):iQ k z l p=p:=h.iQ k z l
@[simp] theorem afc {p:List PV} (h:au p) (k z:Nat) (l:List PV):jf k z l p=p:=h.iQ k z l
@[simp] theorem asi (k z k' off len aN z':Nat) (l0:List PV) (p:List Step) (c:ft):iQ k z l0 (.rs k' p off len aN z' c)=if k'=k then(if aN=l0.length∧p=[]∧z'=z∧off+len≤l0.length then .sl z ((l0.drop off).take len) (decide (c= .clip))else .un)else .rs k' p off len aN z' c:=by simp[iQ]
@[simp] theorem asj (k z k' aN:Nat) (l0:List PV) (p:List Step):iQ k z l0 (.pt k' p aN)=if k'=k then(if aN=l0.length then .fp z l0 p else .un)else .pt k' p aN:=by simp[iQ]
@[simp] theorem afd (k z:Nat) (l0:List PV) (p:PV) (l:List PV):jf k z l0 (p::l)=iQ k z l0 p::jf k z l0 l:=_root_.id rfl
@[simp] theorem XA (k z:Nat) (l0 l m:List PV):jf k z l0 (l++m)=jf k z l0 l++jf k z l0 m:=by induction l<;>simp[*]
@[simp] theorem asl (k z w:Nat) (l0 l:List PV):iQ k z l0 (.st w l)= .st w (jf k z l0 l):=by simp[iQ]
@[simp] theorem PH (f:Nat->Bool) (l m:List PV):ah f (l++m)=(ah f l&&ah f m):=by induction l<;>simp[*,ah,Bool.and_assoc]
@[simp] theorem ai6 (k z z':Nat) (l0 l:List PV):Ba k z l0 (.arr z' l)= .arr z' (jf k z l0 l):=id rfl
@[simp] theorem ai7 (k z:Nat) (l0:List PV) (v:PV):Ba k z l0 (.box v)= .box (iQ k z l0 v):=id rfl
@[simp] theorem T2 {l:List PV} (h:au l) (f:Nat->Bool):ah f l=true:=h.refs f
@[simp] theorem XB {p:PV} (h:Pure p) (f:Nat->Bool):af f p=true:=h.refs f
@[simp] theorem afe (f:Nat->Bool) (k:Nat) (p:List Step) (a b c d:Nat) (e:ft):af f (.rs k p a b c d e)=f k:=by simp[af]
@[simp] theorem aff (f:Nat->Bool) (k:Nat) (p:List Step) (a:Nat):af f (.pt k p a)=f k:=by simp[af]
@[simp] theorem T3 (f:Nat->Bool) (p:PV) (l:List PV):ah f (p::l)=(af f p&&ah f l):=id rfl
@[simp] theorem XC (f:Nat->Bool):bn f []=true:=id rfl
@[simp] theorem T4 (f:Nat->Bool) (n:Nat) (p:PV) (r:List (Nat×PV)):bn f ((n,p)::r)=(af f p&&bn f r):=id rfl
@[simp] theorem aaZ (f:Nat->Bool):bU f []=true:=id rfl
@[simp] theorem XD (f:Nat->Bool) (n:Nat) (p:aU) (r:List (Nat×aU)):bU f ((n,p)::r)=(ab f p&&bU f r):=id rfl
@[simp] theorem XE (f:Nat->Bool) (z:Nat) (l:List PV):ab f (.arr z l)=ah f l:=id rfl
@[simp] theorem XF (f:Nat->Bool) (v:PV):ab f (.box v)=af f v:=id rfl
@[simp] theorem awr (z:Nat) (l:List PV) (c:Bool):wk (.sl z l c)= .sl z (fP l) false:=by simp[wk]
@[simp] theorem aws (z:Nat) (l:List PV):wk (.st z l)= .st z (fP l):=by simp[wk]
@[simp] theorem awt (z n:Nat) (l:List PV):wk (.ar z n l)= .ar z n (fP l):=by simp[wk]
@[simp] theorem asm (k:IntKind) (n:Int):wk (.int k n)= .int k n:=by simp[wk]
@[simp] theorem awu (b:Bool):wk (.bl b)= .bl b:=by simp[wk]
@[simp] theorem asn (b:List UInt8):wk (.str b)= .str b:=by simp[wk]
@[simp] theorem awv:wk .np= .np:=by simp[wk]
@[simp] theorem aww (k:Nat) (p:List Step) (a:Nat):wk (.pt k p a)= .pt k p a:=by simp[wk]
@[simp] theorem awx (k:Nat) (p:List Step) (a b c d:Nat) (e:ft):wk (.rs k p a b c d e)= .rs k p a b c d e:=by simp[wk]
@[simp] theorem awy (b:UInt8):wk (u8 b)=u8 b:=by simp[u8]
@[simp] theorem apt:fP []=[]:=id rfl
@[simp] theorem ai8 (p:PV) (l:List PV):fP (p::l)=wk p::fP l:=id rfl
@[simp] theorem aa0 (l m:List PV):fP (l++m)=fP l++fP m:=by induction l<;>simp[*]
@[simp] theorem ai9 (l:List PV) (n:Nat):fP (l.take n)=(fP l).take n:=by simp only[Cf,JfQ]
@[simp] theorem aja (l:List PV) (n:Nat):fP (l.drop n)=(fP l).drop n:=by simp only[Cf,JjW]
@[simp] theorem mY {α:Type} {e:α->PV} (h:∀x,wk (e x)=e x) (l:List α):fP (l.map e)=l.map e:=by rw[Cf,List.map_map];congr 1;funext x;exact h x
@[simp] theorem D6 {p:PV} (h:wk p=p) (n:Nat):fP (List.replicate n p)=List.replicate n p:=by rw[Cf,JnV,h]
def aL (P:Program) (f:FuncId) (args:List PV) (v:PV):Prop:=ae P f args [] (λr fp=>r=v∧fp=[])
def uL (P:Program) (f:FuncId) (args:List PV) (sz:Nat) (l:List PV):Prop:=ae P f args [] (λr fp=>r= .rs KB [] 0 l.length l.length sz .tip∧fp=[.arr sz l])
theorem eY.fP {Γ:Cx}:∀ {l:List PV} {vs:List Value},eY Γ l vs->eY Γ (Ab.fP l) vs
 |[],[],_=>trivial
 |[],_::_,h=>by simp[eY]at h
 |_::_,[],h=>by simp[eY]at h
 |p::l,v::vs,h=>by simp only[eY,Ab.fP]at h⊢;exact⟨h.1.wk,eY.fP h.2⟩
theorem ae.XG {f:FuncId} {args:List PV} {fp:List aU} {R:PV->List aU->Prop} (h:ae P f (fP args) fp R):ae P f args fp R:=
 λΓ w vs h1 h2 h3 h4=>h Γ w vs h1 h2 h3 h4.fP
theorem uL.iQ {f:FuncId} {args:List PV} {sz:Nat} {l:List PV} (h:uL P f args sz l) (hl:au l):aL P f args (.sl sz l false):=by
 refine λΓ w vs h1 h2 h3 h4=>(h Γ w vs h1 h2 h3 h4).mono ?_;rintro e w' ⟨v,r,xp,Γ',e1,⟨rfl,rfl⟩,e3,e4,e5,e6,e7,e8⟩;have hg:get Γ'.bx KB=some (.arr sz l):=by rw[e5,fw];simp
 have hf:=Jv e4 hg (hl.refs _);refine⟨v,.sl sz l false,[],{Γ' with bx:=lP (Ba KB sz l) (del Γ'.bx KB)},e1,⟨rfl,rfl⟩,e3,Bw e4 _ (λj blk cS hb=>(e4.blk j blk hb).iQ hf),?_,?_,?_,e8⟩
 ·rw[e5];simp[av]
 ·have:=e6.iQ hf;simpa using this
 ·refine⟨e7.heap,λb hb hm=> ?_,e7.b9,e7.size,λk blk hk=> ?_⟩
  ·obtain⟨k,blk,g1,g2⟩:=hm;rw[e5]at g1;simp[av]at g1
  ·rw[h3]at hk;simp[av]at hk
theorem ai.ret {d:Option Nat} {f:FuncId} {args bC:List PV} {v:PV} {K:St->Prop} {t:Tg K} (hA:aL P f bC v) (ha:fP args=bC) (hp:au args) (hv:Pure v) (h:K (s.put d v)):ai P s d f args K t:=by
 subst ha;exact JU (R:=λr=>r=v) (ae.XG hA) hp (by rintro r rfl;exact hv) (by rintro r rfl;exact h)
theorem ai.own {d:Option Nat} {f:FuncId} {args bC:List PV} {sz:Nat} {l:List PV} {K:St->Prop} {t:Tg K} (o:Nat) (hA:uL P f bC sz l) (ha:fP args=bC) (hp:au args) (hl:au l) (ho:get s.bx o=none)
  (h:K ({s with bx:=put s.bx o (.arr sz l)}.put d (.rs o [] 0 l.length l.length sz .tip))):ai P s d f args K t:=by
 subst ha;refine M7 (R:=λl'=>l'=l) o (ae.mono (ae.XG hA) ?_) hp ho (by rintro r rfl;exact hl) (by rintro r rfl;exact h);rintro r fp ⟨rfl,rfl⟩;exact⟨l,rfl,rfl,rfl⟩
theorem aM.ret {d:Option Nat} {f:FuncId} {args bC:List PV} {v:PV} {K:St->Prop} {t:Tg K} (hA:aL P f bC v) (ha:fP args=bC) (hp:au args) (hv:Pure v) (h:K (s.put d v)):aM P s d f args K t:=by
 subst ha;exact⟨v,⟨hp.refs _,hv.refs _⟩,ae.XG hA,h⟩
theorem ai.rA {d:Option Nat} {f:FuncId} {args bC:List PV} {v:PV} {K:St->Prop} {t:Tg K} (hA:aL P f bC v) (h:K (s.put d v)) (ha:fP args=bC:=by simp) (hp:au args:=by simp) (hv:Pure v:=by simp):ai P s d f args K t:=ai.ret hA ha hp hv h
theorem aM.rA {d:Option Nat} {f:FuncId} {args bC:List PV} {v:PV} {K:St->Prop} {t:Tg K} (hA:aL P f bC v) (h:K (s.put d v)) (ha:fP args=bC:=by simp) (hp:au args:=by simp) (hv:Pure v:=by simp):aM P s d f args K t:=aM.ret hA ha hp hv h
end Go.Ab
namespace Go.Ab
variable [cK]
variable {P:Program} {s:St} {K:PV->Prop} [eE]
@[simp↓] theorem ajb (k:IntKind) (a b:Int):jU .add K (.int k a) (.int k b)=K (.int k (k.wrap (a+b))):=by simp[jU,qI]
@[simp↓] theorem ajc (k:IntKind) (a b:Int):jU .sub K (.int k a) (.int k b)=K (.int k (k.wrap (a-b))):=by simp[jU,qI]
@[simp↓] theorem ajd (k:IntKind) (a b:Int):jU .mul K (.int k a) (.int k b)=K (.int k (k.wrap (a*b))):=by simp[jU,qI]
@[simp↓] theorem aje (k:IntKind) (a b:Int):jU .quo K (.int k a) (.int k b)=(b≠0∧K (.int k (k.wrap (a.tdiv b)))):=by simp[jU,qI]
@[simp↓] theorem ajf (k:IntKind) (a b:Int):jU .rem K (.int k a) (.int k b)=(b≠0∧K (.int k (a.tmod b))):=by simp[jU,qI]
@[simp↓] theorem ajg (k:IntKind) (a b:Int):jU .and K (.int k a) (.int k b)=K (.int k (bits .and k a b)):=by simp[jU,qI]
@[simp↓] theorem apu (k:IntKind) (a b:Int):jU .or K (.int k a) (.int k b)=K (.int k (bits .or k a b)):=by simp[jU,qI]
@[simp↓] theorem ajh (k:IntKind) (a b:Int):jU .xor K (.int k a) (.int k b)=K (.int k (bits .xor k a b)):=by simp[jU,qI]
@[simp↓] theorem XH (k:IntKind) (a b:Int):jU .andNot K (.int k a) (.int k b)=K (.int k (bits .andNot k a b)):=by simp[jU,qI]
@[simp↓] theorem aji (k:IntKind) (a b:Int):jU .eql K (.int k a) (.int k b)=K (.bl (decide (a=b))):=by simp[jU,qI];rfl
@[simp↓] theorem ajj (k:IntKind) (a b:Int):jU .neq K (.int k a) (.int k b)=K (.bl (decide (a≠b))):=by
 simp only[jU,qI,or_true,true_and];congr 2;by_cases h:a=b<;>simp[h]
@[simp↓] theorem ajk (k:IntKind) (a b:Int):jU .lss K (.int k a) (.int k b)=K (.bl (decide (a<b))):=by simp[jU,qI]
@[simp↓] theorem ajl (k:IntKind) (a b:Int):jU .leq K (.int k a) (.int k b)=K (.bl (decide (a≤b))):=by simp[jU,qI]
@[simp↓] theorem ajm (k:IntKind) (a b:Int):jU .gtr K (.int k a) (.int k b)=K (.bl (decide (b<a))):=by simp[jU,qI]
@[simp↓] theorem ajn (k:IntKind) (a b:Int):jU .geq K (.int k a) (.int k b)=K (.bl (decide (b≤a))):=by simp[jU,qI]
@[simp↓] theorem ajo (k k':IntKind) (a b:Int):jU .shl K (.int k a) (.int k' b)=(0≤b∧K (.int k (k.wrap (a*2^min b.toNat k.bits)))):=by simp[jU,qI]
@[simp↓] theorem ajp (k k':IntKind) (a b:Int):jU .shr K (.int k a) (.int k' b)=(0≤b∧K (.int k (a.fdiv (2^min b.toNat k.bits)))):=by simp[jU,qI]
@[simp↓] theorem ajq (op:BinOp) (a b:List UInt8):jU op K (.str a) (.str b)=B7 op a b K:=id rfl
@[simp↓] theorem ajr (a b:List UInt8):B7 .add a b K=(a.length+b.length≤9223372036854775807∧K (.str (a++b))):=id rfl
@[simp↓] theorem ajs (a b:List UInt8):B7 .eql a b K=K (.bl (decide (a=b))):=by
 simp only[B7];congr 2;by_cases h:a=b<;>simp[h]
@[simp↓] theorem ajt (a b:List UInt8):B7 .lss a b K=K (.bl (Op.bytesLess a b)):=id rfl
@[simp↓] theorem aju (b:Bool):pX .eql b K=K (.bl b):=id rfl
@[simp↓] theorem ajv (b:Bool):pX .neq b K=K (.bl (!b)):=id rfl
@[simp↓] theorem apv (op:BinOp) (a b:Bool):aij op K (.bl a) (.bl b)=pX op (a==b) K:=id rfl
@[simp↓] theorem apw (op:BinOp) (f:Fn) (a b:List PV):aik op K (.fn f a b) .nf=pX op false K:=id rfl
@[simp↓] theorem apx (op:BinOp):Pr s op K .np .np=pX op true K:=id rfl
@[simp↓] theorem apy (op:BinOp) (k aN:Nat) (p:List Step):Pr s op K (.pt k p aN) .np=bF (get s.bx k) λblk=>aN=blk.aN∧pX op false K:=id rfl
@[simp↓] theorem apz (op:BinOp) (z:Nat) (l:List PV) (p:List Step):Pr s op K (.fp z l p) .np=pX op false K:=id rfl
@[simp↓] theorem apA (b:Bool):unK .not K (.bl b)=K (.bl (!b)):=id rfl
@[simp↓] theorem apB (k:IntKind) (n:Int):unK .xor K (.int k n)=K (.int k (bits .xor k (if k.signed then-1 else k.max) n)):=id rfl
@[simp↓] theorem apC (sz:Nat) (K:List PV->Prop) (q:PV):TN s sz K q=Bb s (λbN ys=>(ys=[]∨bN=sz)∧K ys) q:=id rfl
@[simp↓] theorem aa1 (d k len aN n sz bN bytes sz'':Nat) (ys l:List PV) (K:St->Prop):PD s d k len aN n sz bN bytes ys K (.arr sz'' l)=((aN=l.length∧bN=sz∧sz''=sz∧len≤n∧n≤l.length∧ys≠[]∧get s.bx d=none∧(len+ys.length)*bytes≤140737488355328∧len+ys.length≤9223372036854775807)∧
    (len+ys.length≤n->K {env:=put s.env d (.rs k [] 0 (len+ys.length) aN sz (.full n)),bx:=put s.bx k (.arr sz (l.take len++ys++l.drop (len+ys.length)))})∧
    (n<len+ys.length->K {env:=put s.env d (.rs d [] 0 (len+ys.length) (len+ys.length) sz .tip),bx:=put s.bx d (.arr sz (l.take len++ys))})):=_root_.id rfl
@[simp↓] theorem apD (d k len aN n sz bN bytes sz'':Nat) (z:PV) (m:Int) (l:List PV) (K:St->Prop):apZ s d k len aN n sz bN bytes z m K (.arr sz'' l)=((get s.bx d=none∧aN=l.length∧bN=sz∧sz''=sz∧len≤n∧n≤l.length∧0<m∧n<len+m.toNat∧(len+m.toNat)*bytes≤140737488355328∧len+m.toNat≤9223372036854775807)∧
    K {env:=put s.env d (.rs d [] 0 (len+m.toNat) (len+m.toNat) sz .tip),bx:=put s.bx d (.arr sz (l.take len++List.replicate m.toNat z))}):=_root_.id rfl
@[simp↓] theorem afg (d k len aN sz bN bytes sz'':Nat) (ys l:List PV) (K:St->Prop):Xv s d k len aN sz bN bytes ys K (.arr sz'' l)=((aN=l.length∧len=l.length∧bN=sz∧sz''=sz∧(l.length+ys.length)*bytes≤140737488355328∧l.length+ys.length≤9223372036854775807)∧
   K {env:=put s.env d (.rs k [] 0 (l.length+ys.length) (l.length+ys.length) sz .tip),bx:=put s.bx k (.arr sz (l++ys))}):=rfl
def T5 (off len aN sz:Nat) (p:List Step) (K:Nat->List PV->Prop):aU->Prop
 | .arr bN l=>(aN=l.length∧p=[]∧sz=bN∧off+len≤l.length)∧K sz ((l.drop off).take len)
 | .box v=>bF (aO v p) λ
   | .ar bN n l=>(aN=0∧sz=bN∧off+len≤n)∧K sz ((l.drop off).take len)
   |_=>False
 | .map .. =>False
@[simp↓] theorem T6 (K:Nat->List PV->Prop) (k off len aN sz:Nat) (p:List Step) (c:ft):Bb s K (.rs k p off len aN sz c)=bF (get s.bx k) (T5 off len aN sz p K):=by
 simp only[Bb];congr 1
@[simp↓] theorem ajw (off len aN sz bN:Nat) (l:List PV) (p:List Step) (K:Nat->List PV->Prop):T5 off len aN sz p K (.arr bN l)=((aN=l.length∧p=[]∧sz=bN∧off+len≤l.length)∧K sz ((l.drop off).take len)):=id rfl
def ajx (off len aN sz:Nat) (K:Nat->List PV->Prop):PV->Prop
 | .ar bN n l=>(aN=0∧sz=bN∧off+len≤n)∧K sz ((l.drop off).take len)
 |_=>False
@[simp↓] theorem ajy (off len aN sz:Nat) (v:PV) (p:List Step) (K:Nat->List PV->Prop):T5 off len aN sz p K (.box v)=bF (aO v p) (ajx off len aN sz K):=by
 simp only[T5];congr 1
@[simp↓] theorem apE (off len aN sz bN n:Nat) (l:List PV) (K:Nat->List PV->Prop):ajx off len aN sz K (.ar bN n l)=((aN=0∧sz=bN∧off+len≤n)∧K sz ((l.drop off).take len)):=id rfl
@[simp↓] theorem apF (g:Bool) (sz z:Nat) (lo hi:Option AX) (l:List PV) (c:Bool):TM s g sz lo hi K (.sl z l c)=kJ g s lo hi l.length l.length (λa b=>(z=sz)∧K (.sl sz ((l.take b).drop a) (c&&decide (b=l.length)))):=id rfl
@[simp↓] theorem apG (g:Bool) (sz z k off len aN:Nat) (p:List Step) (c:ft) (lo hi:Option AX):TM s g sz lo hi K (.rs k p off len aN z c)=bF (get s.bx k) λblk=>(aN=blk.aN∧z=sz)∧kJ g s lo hi len (DX c off len aN) λa b=>K (.rs k p (off+a) (b-a) aN sz (Fs c a (decide (b=len)))):=_root_.id rfl
@[simp↓] theorem apH (g:Bool) (sz z:Nat) (lo hi:Option AX) (m:AX) (l:List PV) (c:Bool):Pw s g sz lo hi m K (.sl z l c)=ei g (vx s m) (uK λm=>(0≤m∧m≤l.length)∧kJ g s lo hi l.length m.toNat λa b=>(z=sz)∧K (.sl sz ((l.take b).drop a) (decide (b=m.toNat)))):=id rfl
def aa2 (e:Bool):ft:=bif e then .clip else .any
@[simp] theorem aso:aa2 true= .clip:=id rfl
@[simp] theorem asp (c:ft):Fs c 0 true=c:=by cases c<;>rfl
@[simp↓] theorem apI (g:Bool) (sz z k off len aN:Nat) (p:List Step) (c:ft) (lo hi:Option AX) (m:AX):Pw s g sz lo hi m K (.rs k p off len aN z c)=bF (get s.bx k) λblk=>(aN=blk.aN∧z=sz)∧ei g (vx s m) (uK λm=>(0≤m∧m≤len)∧kJ g s lo hi len m.toNat λa b=>K (.rs k p (off+a) (b-a) aN sz (aa2 (decide (b=m.toNat))))):=by
 simp only[Pw];congr 1;funext blk;congr 2;congr 1;funext m;congr 2;funext a b;by_cases h:b=m.toNat<;>simp[h,aa2]
@[simp↓] theorem asq (g:Bool) (K:Nat->Nat->Prop) (h:Nat):M3 g s none K h=K 0 h:=id rfl
@[simp↓] theorem asr (g:Bool) (x:AX) (K:Nat->Nat->Prop) (h:Nat):M3 g s (some x) K h=ei g (vx s x) (uK λl=>(0≤l∧l≤h)∧K l.toNat h):=id rfl
def mmC (mx:Bool) (K:PV->Prop):List PV->Prop
 | .int k a::r=>nH mx a r λn=>K (.int k n)
 |_=>False
@[simp↓] theorem apJ (mx:Bool) (k:IntKind) (a:Int) (r:List PV):mmC mx K (.int k a::r)=nH mx a r λn=>K (.int k n):=id rfl
@[simp↓] theorem ax3 (g mx:Bool) (xs:List AX):ev g s (.mm mx xs) K=xq g s xs (mmC mx K):=by
 simp only[ev];congr 1
@[simp↓] theorem afh (mx:Bool) (a:Int) (K:Int->Prop):nH mx a [] K=K a:=id rfl
@[simp↓] theorem afi (a b:Int) (k:IntKind) (r:List PV) (K:Int->Prop):nH true a (.int k b::r) K=nH true (max a b) r K:=by simp[nH]
@[simp↓] theorem afj (a b:Int) (k:IntKind) (r:List PV) (K:Int->Prop):nH false a (.int k b::r) K=nH false (min a b) r K:=by simp[nH]
def aa3 (s:St) (K:PV->Prop):PV->Prop
 | .rs k _ _ _ aN _ (.full n)=>bF (get s.bx k) λblk=>aN=blk.aN∧K (.int .i64 n)
 |_=>False
@[simp↓] theorem afk (k:Nat) (p:List Step) (off len aN sz n:Nat):aa3 s K (.rs k p off len aN sz (.full n))=bF (get s.bx k) λblk=>aN=blk.aN∧K (.int .i64 n):=_root_.id rfl
@[simp↓] theorem awA (g:Bool) (x:AX):ev g s (.cap x) K=ei g (vx s x) (aa3 s K):=by
 simp only[ev,iF];congr 1;funext p;cases p<;>try rfl
 rename_i k p off len aN sz c;cases c<;>try rfl
 simp only[aa3];cases get s.bx k<;>rfl
@[simp↓] theorem ajz (g:Bool) (f:Fn) (a b:List AX):ev g s (.mkFunc f a b) K=xq g s a λps=>xq g s b λqs=>(ps.all (λp=> !p.isAgg&&p.aT)=true∧qs.all (λp=> !p.isAgg&&p.aT)=true)∧K (.fn f ps qs):=by simp only[ev]
@[simp] theorem ge0 {α:Type} (x:α) (l:List α):(x::l)[0]? =some x:=_root_.id rfl
@[simp↓] theorem ass (want:Bool) (M:Bool->Prop) (D U:Prop) (b:Bool):BC want true M D U (.bl b)=M (b==want):=id rfl
@[simp↓] theorem ast (M:Bool->Prop) (D U:Prop):BC true false M D U (.bl true)=D:=by simp[BC]
@[simp↓] theorem asu (M:Bool->Prop) (D U:Prop):BC true false M D U (.bl false)=U:=by simp[BC]
@[simp↓] theorem asv (M:Bool->Prop) (D U:Prop):BC false false M D U (.bl true)=U:=by simp[BC]
@[simp↓] theorem asw (M:Bool->Prop) (D U:Prop):BC false false M D U (.bl false)=D:=by simp[BC]
@[simp↓] theorem awB (A B:Prop):cdK A B (.bl true)=A:=by simp
@[simp↓] theorem awC (A B:Prop):cdK A B (.bl false)=B:=by simp
@[simp↓] theorem asx (want:Bool) (M:Bool->Prop) (D U:Prop) (g b:Bool):BC want true M D U (.gd g (.bl b))=M (g&&b==want):=id rfl
@[simp↓] theorem apK (M:Bool->Prop) (D U:Prop):BC true false M D U (.gd true (.bl true))=D:=by simp[BC]
@[simp↓] theorem apL (M:Bool->Prop) (D U:Prop):BC true false M D U (.gd true (.bl false))=U:=by simp[BC]
@[simp↓] theorem apM (M:Bool->Prop) (D U:Prop):BC false false M D U (.gd true (.bl true))=U:=by simp[BC]
@[simp↓] theorem apN (M:Bool->Prop) (D U:Prop):BC false false M D U (.gd true (.bl false))=D:=by simp[BC]
@[simp↓] theorem asy (w:Bool) (M:Bool->Prop) (D U:Prop) (b:Bool):BC w false M D U (.gd false (.bl b))=U:=by simp[BC]
@[simp↓] theorem ajA (x a b:Bool):yk x K (.bl a) (.bl b)=K (.bl (bif x then a else b)):=id rfl
@[simp↓] theorem ajB (x a g b:Bool):yk x K (.bl a) (.gd g (.bl b))=((x=false->g=true)∧K (.bl (bif x then a else b))):=id rfl
@[simp↓] theorem ajC (x a g b:Bool):yk x K (.gd g (.bl a)) (.bl b)=((x=true->g=true)∧K (.bl (bif x then a else b))):=id rfl
@[simp↓] theorem ajD (x a:Bool):yk x K (.bl a) .un=(x=true∧K (.bl a)):=id rfl
@[simp↓] theorem ajE (x a:Bool):yk x K .un (.bl a)=(x=false∧K (.bl a)):=id rfl
@[simp] theorem wrap_i64 {n:Int} (h: -9223372036854775808≤n∧n≤9223372036854775807):IntKind.i64.wrap n=n:=by
 simp only[IntKind.wrap,IntKind.bits,IntKind.signed];simp;omega
@[simp] theorem wrap_u8 {n:Int} (h:0≤n∧n≤255):IntKind.u8.wrap n=n:=by
 simp only[IntKind.wrap,IntKind.bits,IntKind.signed];simp;omega
@[simp] theorem wrap_u32 {n:Int} (h:0≤n∧n≤4294967295):IntKind.u32.wrap n=n:=by
 simp only[IntKind.wrap,IntKind.bits,IntKind.signed];simp;omega
@[simp] theorem wrap_u64 {n:Int} (h:0≤n∧n≤18446744073709551615):IntKind.u64.wrap n=n:=by
 simp only[IntKind.wrap,IntKind.bits,IntKind.signed];simp;omega
theorem AF (b:List UInt8):gG (b.map u8)=some b:=by
 induction b with
 |nil=>rfl
 |
  cons x b ih=>
  have h:(x.toNat:Int)<256:=by have:=x.toNat_lt;omega
  simp[u8,gG,ih];omega
@[simp] theorem T7 (b:List UInt8):gG (b.map u8)=some b:=AF b
@[simp↓] theorem afl (sz j s:Nat) (l:List PV) (r:List Step):oK (.arr sz l) (.i j s::r)=if s=sz then l[j]?.bind λc=>aO c r else none:=by
 first|(simp only[oK];cases l[j]? <;>rfl)|(simp only[aO];cases l[j]? <;>rfl)
@[simp↓] theorem afm (sz o n s:Nat) (l:List PV) (r:List Step):oK (.arr sz l) (.w o n s::r)=if s=sz∧o+n≤l.length then aO (.ar sz n ((l.drop o).take n)) r else none:=_root_.id rfl
@[simp↓] theorem asz (sz k o n s:Nat) (l:List PV) (r:List Step):aO (.ar sz k l) (.w o n s::r)=if s=sz∧o+n≤l.length then aO (.ar sz n ((l.drop o).take n)) r else none:=by
 simp only[aO]
@[simp↓] theorem afn (v:PV) (p:List Step):oK (.box v) p=aO v p:=by cases p<;>rfl
@[simp↓] theorem ajF (v:PV):aO v []=some v:=by cases v<;>rfl
@[simp↓] theorem asA (w i o:Nat) (l:List PV) (r:List Step):aO (.st w l) (.f i o::r)=if aB (l.take i)=o then l[i]?.bind λc=>aO c r else none:=by
 simp only[aO];cases l[i]? <;>rfl
@[simp↓] theorem asB (sz n j s:Nat) (l:List PV) (r:List Step):aO (.ar sz n l) (.i j s::r)=if s=sz then l[j]?.bind λc=>aO c r else none:=by
 first|(simp only[oK];cases l[j]? <;>rfl)|(simp only[aO];cases l[j]? <;>rfl)
@[simp↓] theorem ajG (v x:PV):bO v [] x=if x.width=v.width then some x else none:=by cases v<;>rfl
@[simp↓] theorem asC (w i o:Nat) (l:List PV) (r:List Step) (x:PV):bO (.st w l) (.f i o::r) x=if aB (l.take i)=o then l[i]?.bind λc=>(bO c r x).bind λc'=>some (.st w (l.set i c'))else none:=by
 simp only[bO];cases l[i]?with
 |none=>rfl
 |some c=>simp only[JlZ];cases bO c r x<;>rfl
@[simp↓] theorem asD (sz n j s:Nat) (l:List PV) (r:List Step) (x:PV):bO (.ar sz n l) (.i j s::r) x=if s=sz then l[j]?.bind λc=>(bO c r x).bind λc'=>some (.ar sz n (l.set j c'))else none:=by
 simp only[bO];cases l[j]?with
 |none=>rfl
 |some c=>simp only[JlZ];cases bO c r x<;>rfl
@[simp↓] theorem afo (v x:PV) (p:List Step):uv (.box v) p x=(bO v p x).bind λv'=>some (.box v'):=by
 simp only[uv];cases bO v p x<;>rfl
@[simp↓] theorem afp (sz j s:Nat) (l:List PV) (r:List Step) (x:PV):uv (.arr sz l) (.i j s::r) x=if s=sz then l[j]?.bind λc=>(bO c r x).bind λc'=>some (.arr sz (l.set j c'))else none:=by
 simp only[uv];cases l[j]?with
 |none=>rfl
 |some c=>simp only[JlZ];cases bO c r x<;>rfl
@[simp] theorem apO (z:Nat) (l:List PV) (v:PV):wkb (.arr z l) v=wk v:=id rfl
@[simp] theorem apP (u v:PV):wkb (.box u) v=v:=id rfl
@[simp] theorem XI (z:Nat) (l:List PV):(aU.arr z l).aN=l.length:=id rfl
@[simp] theorem XJ (v:PV):(aU.box v).aN=0:=id rfl
@[simp↓] theorem T8 (l:List PV):cA l []=some l:=id rfl
@[simp↓] theorem Sm (l:List PV) (i:Nat) (p:PV) (r:List (Nat×PV)):cA l ((i,p)::r)=l[i]?.bind λq=>if p.width=q.width∧p.aT=true then cA (l.set i p) r else none:=by
 simp only[cA];cases l[i]? <;>rfl
@[simp] theorem ax4 (w:Nat) (l:List PV):(PV.st w l).width=w:=id rfl
@[simp] theorem ax5 (sz n:Nat) (l:List PV):(PV.ar sz n l).width=n*sz:=id rfl
@[simp] theorem awD (k:IntKind) (n:Int):(PV.int k n).width=1:=id rfl
@[simp] theorem ax6 (b:Bool):(PV.bl b).width=1:=id rfl
@[simp] theorem awE (b:List UInt8):(PV.str b).width=1:=id rfl
@[simp] theorem ax7 (z:Nat) (l:List PV) (c:Bool):(PV.sl z l c).width=1:=id rfl
@[simp] theorem ax8 (k:Nat) (p:List Step) (a b c d:Nat) (e:ft):(PV.rs k p a b c d e).width=1:=id rfl
@[simp] theorem ax9 (b:UInt8):(u8 b).width=1:=id rfl
@[simp] theorem aa4:aB []=0:=id rfl
@[simp] theorem XK (p:PV) (l:List PV):aB (p::l)=p.width+aB l:=id rfl
@[simp] theorem asE (w:Nat) (l:List PV):(PV.st w l).isAgg=true:=id rfl
@[simp] theorem asF (sz n:Nat) (l:List PV):(PV.ar sz n l).isAgg=true:=id rfl
@[simp] theorem apQ (k:IntKind) (n:Int):(PV.int k n).isAgg=false:=id rfl
@[simp] theorem asG (b:Bool):(PV.bl b).isAgg=false:=id rfl
@[simp] theorem asH (z:Nat) (l:List PV) (c:Bool):(PV.sl z l c).isAgg=false:=id rfl
@[simp] theorem asI (k:Nat) (p:List Step) (a b c d:Nat) (e:ft):(PV.rs k p a b c d e).isAgg=false:=id rfl
@[simp] theorem asJ (k:Nat) (p:List Step) (a:Nat):(PV.pt k p a).isAgg=false:=id rfl
@[simp] theorem asK (b:UInt8):(u8 b).isAgg=false:=id rfl
@[simp] theorem asL (w:Nat) (l:List PV):(PV.st w l).aT=true:=id rfl
@[simp] theorem asM (sz n:Nat) (l:List PV):(PV.ar sz n l).aT=true:=id rfl
@[simp] theorem apR (k:IntKind) (n:Int):(PV.int k n).aT=true:=id rfl
@[simp] theorem asN (b:Bool):(PV.bl b).aT=true:=id rfl
@[simp] theorem apS (b:List UInt8):(PV.str b).aT=true:=id rfl
@[simp] theorem asO (z:Nat) (l:List PV) (c:Bool):(PV.sl z l c).aT=true:=id rfl
@[simp] theorem asP (k:Nat) (p:List Step) (a b c d:Nat) (e:ft):(PV.rs k p a b c d e).aT=true:=id rfl
@[simp] theorem asQ (k:Nat) (p:List Step) (a:Nat):(PV.pt k p a).aT=true:=id rfl
@[simp] theorem apT (w:Nat) (l:List PV):(PV.st w l).flat=true:=id rfl
@[simp] theorem apU (sz n:Nat) (l:List PV):(PV.ar sz n l).flat=true:=id rfl
@[simp] theorem ajH (k:IntKind) (n:Int):(PV.int k n).flat=true:=id rfl
@[simp] theorem apV (b:Bool):(PV.bl b).flat=true:=id rfl
@[simp] theorem ajI (b:List UInt8):(PV.str b).flat=true:=id rfl
@[simp] theorem apW (z:Nat) (l:List PV) (c:Bool):(PV.sl z l c).flat=true:=id rfl
@[simp] theorem apX (k:Nat) (p:List Step) (a b c d:Nat) (e:ft):(PV.rs k p a b c d e).flat=true:=id rfl
@[simp] theorem apY (k:Nat) (p:List Step) (a:Nat):(PV.pt k p a).flat=true:=id rfl
end Go.Ab
namespace Go.Ab
variable [cK]
variable {P:Program} {s:St} [eE]
theorem aA.with {n:Nat} {res:List AK} {R:PV->List aU->Prop} {t:Tg R} (c:List Cut) (ks:List Nat)
  (h:iR c s λs'=>I5 s' res λps=>bF (getAll s'.bx ks) λbL=>(ks.Nodup∧ks.take n=dM n)∧(ps.all PV.flat=true∧af (bT ks) (dh ps)=true∧bL.all (ab (bT ks))=true)∧R (aE (bz ks) (dh ps)) (bL.map (az (bz ks)))):aA n res R t s:=by
 refine⟨c,ks,ff c (λs' Bk=> ?_) h⟩
 have ad8:∀(l:List AK) (s:St) (K K':List PV->Prop),(∀p,K p->K' p)->I5 s l K->I5 s l K':=by
  intro l;induction l with
  |nil=>intro s K K' h hk;exact h _ hk
  |cons x l ih=>intro s K K' h hk;exact By (λp hp=>ih _ _ _ (λq hq=>h _ hq) hp) hk
 refine ad8 _ _ _ _ (λps En=> ?_) Bk;cases hg:getAll s'.bx ks with
 |none=>rw[hg]at En;exact En.elim
 |some bL=>rw[hg]at En;exact⟨bL,⟨rfl,En.1.1,En.1.2⟩,En.2.1,En.2.2⟩
@[simp] theorem XL (bx:List (Nat×aU)) (k:Nat) (r:List Nat):getAll bx (k::r)=(get bx k).bind λb=>(getAll bx r).bind λl=>some (b::l):=by
 simp only[getAll];cases get bx k<;>cases getAll bx r<;>rfl
@[simp] theorem ajJ {p:PV} (h:Pure p) (ρ:Nat->Nat):aE ρ p=p:=h.aE ρ
@[simp] theorem afq {p:List PV} (h:au p) (ρ:Nat->Nat):aS ρ p=p:=h.aE ρ
@[simp] theorem asR (ρ:Nat->Nat) (k:Nat) (p:List Step) (a b c d:Nat) (e:ft):aE ρ (.rs k p a b c d e)= .rs (ρ k) p a b c d e:=by simp[aE]
@[simp] theorem asS (ρ:Nat->Nat) (k:Nat) (p:List Step) (a:Nat):aE ρ (.pt k p a)= .pt (ρ k) p a:=by simp[aE]
@[simp] theorem ap0 (ρ:Nat->Nat) (l:List PV):aE ρ (.tup l)= .tup (aS ρ l):=by simp[aE]
@[simp] theorem asT (ρ:Nat->Nat) (w:Nat) (l:List PV):aE ρ (.st w l)= .st w (aS ρ l):=by simp[aE]
@[simp] theorem afr (ρ:Nat->Nat) (p:PV) (l:List PV):aS ρ (p::l)=aE ρ p::aS ρ l:=id rfl
@[simp] theorem ajK (ρ:Nat->Nat) (z:Nat) (l:List PV):az ρ (.arr z l)= .arr z (aS ρ l):=id rfl
@[simp] theorem ajL (ρ:Nat->Nat) (v:PV):az ρ (.box v)= .box (aE ρ v):=id rfl
@[simp] theorem afs (k:Nat) (ks:List Nat) (j:Nat):bz (k::ks) j=((idx (k::ks) j).map (KB+·)).getD j:=by
 simp only[bz];cases idx (k::ks) j<;>rfl
@[simp] theorem ajM (x:Nat) (r:List Nat) (k:Nat):idx (x::r) k=if x=k then some 0 else(idx r k).map (·+1):=by
 simp only[idx];cases idx r k<;>rfl
@[simp] theorem ap1 (ks:List Nat) (k:Nat):bT ks k=(idx ks k).isSome:=id rfl
@[simp] theorem aa5 (f:Nat->Bool) (l:List PV):af f (.tup l)=ah f l:=by simp[af]
@[simp] theorem aft (f:Nat->Bool) (w:Nat) (l:List PV):af f (.st w l)=ah f l:=by simp[af]
@[simp] theorem T9 {α β:Type} (f:α->β) (l:List α):(l.map f).take l.length=l.map f:=tJ (by simp)
@[simp] theorem Sn {α β:Type} (f:α->β) (l:List α) (x:β):(l.map f++[x]).take (l.length+1)=l.map f++[x]:=tJ (by simp)
@[simp] theorem ap2 {p:PV} (h:Pure p) (n:Nat):au (zr n p):=by rw[cm];exact tQ h n
@[simp] theorem ajN {p:PV} (h:wk p=p) (n:Nat):fP (zr n p)=zr n p:=by rw[cm];exact D6 h n
@[simp] theorem asU (n:Nat) (k:IntKind) (m:Int):fP (zr n (.int k m))=zr n (.int k m):=ajN (by simp) n
@[simp] theorem asV (n:Nat) (p:PV):(zr n p).length=n:=by rw[cm];exact JcW
theorem M9 (b:List UInt8):au (b.map u8):=by simp
@[simp] theorem aa6 (b:List UInt8):au (b.map u8)↔True:=iff_true_intro (M9 b)
end Go.Ab
namespace Go.Ab
variable [cK]
variable {P:Program} {s:St} [eE]
def lv (P:Program) (l:List AO) (o u:List Nat) (K:St->Prop) (_:Tg K) (s:St):Prop:=∃W,iE P l u.contains W s o K
@[simp↓] theorem aa7 (l:List AO) (o u:List Nat) (Q:Exit->St->Prop):aw P (.regionD l o u) Q s=lv P l o u (Q .normal) .mk s:=_root_.id rfl
def kf (s:St):List (AO×Bool)->Bool
 |[]=>true
 |(x,_)::r=>(match x.dS with|some k=>(get s.bx k).isNone|none=>true)&&kf s r
def PI (P:Program) (W:List Nat) (s:St):List (AO×Bool)->(St->Prop)->Prop
 |[],K=>K s
 |(x,f)::r,K=>kf s ((x,f)::r)=true∧jg P W f s x λt=>PI P W t r K
def qm (l:List AO) (u:List Nat):List Nat->Option (List (AO×Bool))
 |[]=>some []
 |i::r=>match l[i]?,qm l u r with|some x,some m=>some ((x,u.contains i)::m)|_,_=>none
theorem ym {l:List AO} {u:List Nat}:∀ {o:List Nat} {m:List (AO×Bool)},qm l u o=some m->kf s m=dT l s o
 |[],m,hm=>by simp[qm]at hm;subst hm;rfl
 |
  i::r,m,hm=>by
  simp only[qm]at hm
  split at hm
  ·rename_i x m' hx vS
   simp only[sJ]at hm;subst hm
   rw[bP]
   simp only[kf,ym vS]
   congr 1
   simp only[dT,JoV,List.all_nil,Bool.and_true,hx]
   cases x.dS<;>rfl
  ·simp at hm
theorem BD {l:List AO} {u:List Nat} {W:List Nat}:∀ {o:List Nat} {m:List (AO×Bool)} {s:St} {K:St->Prop},qm l u o=some m->PI P W s m K->iE P l u.contains W s o K
 |[],m,s,K,hm,h=>by simp[qm]at hm;subst hm;exact h
 |
  i::r,m,s,K,hm,h=>by
  simp only[qm]at hm
  split at hm
  ·rename_i x m' hx vS
   simp only[sJ]at hm;subst hm
   have hf:kf s ((x,u.contains i)::m')=dT l s (i::r):=ym (u:=u) (by simp only[qm,hx,vS])
   simp only[iE,hx,PI]at h⊢
   exact⟨hf▸h.1,CR (λt ht=>BD vS ht) h.2⟩
  ·simp at hm
theorem lv.of {l:List AO} {o u:List Nat} {K:St->Prop} {t:Tg K} (W:List Nat) (m:List (AO×Bool)) (hm:qm l u o=some m) (h:PI P W s m K):lv P l o u K t s:=⟨W,BD hm h⟩
def F4:Option aU->Bool
 |some (.box _)=>true
 |_=>false
@[simp] theorem ajO (v:PV):F4 (some (.box v))=true:=_root_.id rfl
@[simp] theorem ajP (sz:Nat) (l:List PV):F4 (some (.arr sz l))=false:=_root_.id rfl
def Ua (W:List Nat) (c:List (Nat×aU)):List (Nat×aU)->Prop
 |[]=>True
 |(k,b)::r=>(if JD W=true then get c k=some b∨W.contains k=true∧F4 (some b)=true∧F4 (get c k)=true else W.contains k=true∨get c k=some b)∧Ua W c r
theorem PJ {W:List Nat} {t:St}:∀ {l:List (Nat×aU)} {e:List (Nat×PV)},Ua W t.bx l->Fr W ⟨e,l⟩ t
 |[],e,_=>λk b _ h=>by simp[get]at h
 |
  (n,v)::r,e,h=>λk b hw hb=>by
  simp only[get]at hb
  split at hb
  ·rename_i hk;subst hk
   simp only[sJ]at hb;subst hb
   have h1:=h.1
   split at h1
   ·rename_i hm
    rcases h1 with h1|⟨h1,h2,h3⟩
    ·exact⟨_,h1,rfl⟩
    ·cases v with
     |
      box x=>
      cases hg:get t.bx n with
      |none=>rw[hg]at h3;simp[F4]at h3
      |
       some c=>
       rw[hg]at h3
       cases c with
       |box y=>exact⟨_,rfl,by simp only[yc,h1,hm,and_self,if_true]⟩
       |_=>simp[F4]at h3
     |_=>simp[F4]at h2
   ·rename_i hm
    rcases h1 with h1|h1
    ·rw[h1]at hw;simp at hw;exact absurd hw hm
    ·exact⟨_,h1,rfl⟩
  ·exact PJ (e:=e) h.2 k b hw hb
def vX (P:Program) (W:List Nat) (s:St):List (AO×Bool)->(St->Prop)->Prop
 |[],K=>K s
 |(x,f)::r,K=>if x.quiet=true then(if f=true then fR P (s.less W) x (λt=>vX P W {t with bx:=s.bx} r K)else fR P s x (λt=>vX P W t r K))
   else kf s ((x,f)::r)=true∧fR P s x (λt=>(f=true->Ua W t.bx s.bx)∧vX P W t r K)
theorem uM {s s':St} (h:s'.bx=s.bx):∀m:List (AO×Bool),kf s' m=kf s m
 |[]=>rfl
 |(x,f)::r=>by simp only[kf,uM h r,h]
theorem zo {W:List Nat}:∀ {m:List (AO×Bool)} {s:St} {K:St->Prop},vX P W s m K->kf s m=true
 |[],s,K,h=>rfl
 |
  (x,f)::r,s,K,h=>by
  simp only[vX]at h
  split at h
  ·rename_i hq
   simp only[kf,eF hq,JjV]
   split at h
   ·obtain⟨v,h1,_⟩:=vB hq h
    have:=zo h1
    exact(uM (s:=s) (s':= {env:=((s.less W).put x.dst v).env,bx:=s.bx}) rfl r).symm.trans this
   ·obtain⟨v,h1,_⟩:=vB hq h
    have:=zo h1
    rwa [uM (ir _ _)]at this
  ·exact h.1
theorem pM {W:List Nat}:∀ {m:List (AO×Bool)} {s:St} {K:St->Prop},vX P W s m K->PI P W s m K
 |[],s,K,h=>h
 |
  (x,f)::r,s,K,h=>by
  refine⟨zo h,?_⟩
  simp only[vX,jg]at h⊢
  split at h
  ·rename_i hq
   rw[if_pos hq]
   split at h
   ·rename_i hf;rw[if_pos hf];exact bV (λt ht=>pM ht) h
   ·rename_i hf;rw[if_neg hf];exact bV (λt ht=>pM ht) h
  ·rename_i hq
   rw[if_neg hq]
   exact bV (λt ht=>⟨λe=>PJ (e:=s.env) (ht.1 e),pM ht.2⟩) h.2
@[simp] theorem ajQ (W:List Nat) (k:Nat) (v:PV):yc W k (.box v)=if JD W=true∧W.contains k=true then HF else .box v:=_root_.id rfl
@[simp] theorem ajR (W:List Nat) (k sz:Nat) (l:List PV):yc W k (.arr sz l)= .arr sz l:=_root_.id rfl
@[simp] theorem awF:JD []=false:=_root_.id rfl
@[simp] theorem awG (a:Nat):JD [a]=false:=_root_.id rfl
@[simp] theorem awH (a b:Nat) (r:List Nat):JD (a::b::r)=(a==b):=_root_.id rfl
@[simp] theorem ap3:HF.aN=0:=_root_.id rfl
theorem Ub {W:List Nat} (h:JD W=false) (k:Nat) (b:aU):yc W k b=b:=by cases b<;>simp[yc,h]
def AG (W:List Nat) (b:List (Nat×aU)):List (Nat×aU):=(b.filter λp=>JD W|| !W.contains p.1).map λp=>(p.1,yc W p.1 p.2)
@[simp] theorem afu (W:List Nat):AG W []=[]:=_root_.id rfl
@[simp] theorem aa8 (W:List Nat) (k:Nat) (v:aU) (r:List (Nat×aU)):AG W ((k,v)::r)=if JD W=true then(k,yc W k v)::AG W r else if W.contains k=true then AG W r else(k,v)::AG W r:=by
 unfold AG;rw[JpV];cases hm:JD W
 ·cases W.contains k<;>simp[Ub hm]
 ·simp
@[simp] theorem ajS (d:Option Nat) (gd:Option (Nat×Bool)) (mg:Bool) (a:AX):AO.quiet ⟨d,gd,mg,.mv a⟩=true:=_root_.id rfl
@[simp] theorem ap4 (d:Option Nat) (gd:Option (Nat×Bool)) (mg:Bool) (a:AX):AO.dS ⟨d,gd,mg,.mv a⟩=none:=by simp[AO.dS]
@[simp] theorem XM (d:Option Nat) (gd:Option (Nat×Bool)) (mg:Bool) (z:PV) (ps:List (Nat×AX)):AO.quiet ⟨d,gd,mg,.build z ps⟩=true:=_root_.id rfl
@[simp] theorem aa9 (d:Option Nat) (gd:Option (Nat×Bool)) (mg:Bool) (z:PV) (ps:List (Nat×AX)):AO.dS ⟨d,gd,mg,.build z ps⟩=none:=by simp[AO.dS]
@[simp] theorem aba (d:Option Nat) (gd:Option (Nat×Bool)) (mg:Bool) (g:Bool) (m:Nat) (a:AX):AO.quiet ⟨d,gd,mg,.load g m a⟩=true:=_root_.id rfl
@[simp] theorem afv (d:Option Nat) (gd:Option (Nat×Bool)) (mg:Bool) (g:Bool) (m:Nat) (a:AX):AO.dS ⟨d,gd,mg,.load g m a⟩=none:=by simp[AO.dS]
@[simp] theorem PK (d:Option Nat) (gd:Option (Nat×Bool)) (mg:Bool) (a:AX):AO.quiet ⟨d,gd,mg,.nilCheck a⟩=true:=_root_.id rfl
@[simp] theorem So (d:Option Nat) (gd:Option (Nat×Bool)) (mg:Bool) (a:AX):AO.dS ⟨d,gd,mg,.nilCheck a⟩=none:=by simp[AO.dS]
@[simp] theorem afw (d:Option Nat) (gd:Option (Nat×Bool)) (mg:Bool) (o:BinOp) (e:ET) (a b:AX):AO.quiet ⟨d,gd,mg,.bin o e a b⟩=true:=_root_.id rfl
@[simp] theorem ajT (d:Option Nat) (gd:Option (Nat×Bool)) (mg:Bool) (o:BinOp) (e:ET) (a b:AX):AO.dS ⟨d,gd,mg,.bin o e a b⟩=none:=by simp[AO.dS]
@[simp] theorem XN (d:Option Nat) (gd:Option (Nat×Bool)) (mg:Bool) (k:IntKind) (a:AX):AO.quiet ⟨d,gd,mg,.convI k a⟩=true:=_root_.id rfl
@[simp] theorem abb (d:Option Nat) (gd:Option (Nat×Bool)) (mg:Bool) (k:IntKind) (a:AX):AO.dS ⟨d,gd,mg,.convI k a⟩=none:=by simp[AO.dS]
@[simp] theorem XO (d:Option Nat) (gd:Option (Nat×Bool)) (mg:Bool) (k:SK) (a:AX) (l h m:Option AX):AO.quiet ⟨d,gd,mg,.slice k a l h m⟩=true:=_root_.id rfl
@[simp] theorem Uc (d:Option Nat) (gd:Option (Nat×Bool)) (mg:Bool) (i o:Nat) (a:AX):AO.quiet ⟨d,gd,mg,.fieldA i o a⟩=true:=_root_.id rfl
@[simp] theorem XP (d:Option Nat) (gd:Option (Nat×Bool)) (mg:Bool) (i o:Nat) (a:AX):AO.dS ⟨d,gd,mg,.fieldA i o a⟩=none:=by simp[AO.dS]
@[simp] theorem Ud (d:Option Nat) (gd:Option (Nat×Bool)) (mg:Bool) (k:SK) (a b:AX):AO.quiet ⟨d,gd,mg,.indexA k a b⟩=true:=_root_.id rfl
@[simp] theorem XQ (d:Option Nat) (gd:Option (Nat×Bool)) (mg:Bool) (k:SK) (a b:AX):AO.dS ⟨d,gd,mg,.indexA k a b⟩=none:=by simp[AO.dS]
@[simp] theorem Sp (d:Option Nat) (gd:Option (Nat×Bool)) (mg:Bool) (i:Nat) (a:AX):AO.quiet ⟨d,gd,mg,.extract i a⟩=true:=_root_.id rfl
@[simp] theorem Ue (d:Option Nat) (gd:Option (Nat×Bool)) (mg:Bool) (i:Nat) (a:AX):AO.dS ⟨d,gd,mg,.extract i a⟩=none:=by simp[AO.dS]
@[simp] theorem afx (d:Option Nat) (gd:Option (Nat×Bool)) (mg:Bool) (a:AX):AO.quiet ⟨d,gd,mg,.len a⟩=true:=_root_.id rfl
@[simp] theorem ajU (d:Option Nat) (gd:Option (Nat×Bool)) (mg:Bool) (g:Bool) (as:List AX):AO.quiet ⟨d,gd,mg,.mm g as⟩=true:=_root_.id rfl
@[simp] theorem ap5 (d:Option Nat) (gd:Option (Nat×Bool)) (mg:Bool) (g:Bool) (as:List AX):AO.dS ⟨d,gd,mg,.mm g as⟩=none:=by simp[AO.dS]
@[simp] theorem abc (d:Option Nat) (gd:Option (Nat×Bool)) (mg:Bool) (a:AX) (as:List AX):AO.quiet ⟨d,gd,mg,.call a as⟩=false:=_root_.id rfl
@[simp] theorem afy (d:Option Nat) (gd:Option (Nat×Bool)) (mg:Bool) (a:AX) (as:List AX):AO.dS ⟨d,gd,mg,.call a as⟩=none:=by simp[AO.dS]
@[simp] theorem XR (d:Option Nat) (gd:Option (Nat×Bool)) (mg:Bool) (a:AX) (as:List AX):AO.quiet ⟨d,gd,mg,.callq a as⟩=true:=_root_.id rfl
@[simp] theorem abd (d:Option Nat) (gd:Option (Nat×Bool)) (mg:Bool) (a:AX) (as:List AX):AO.dS ⟨d,gd,mg,.callq a as⟩=none:=by simp[AO.dS]
@[simp] theorem XS (d:Option Nat) (gd:Option (Nat×Bool)) (mg:Bool) (z:PV):AO.quiet ⟨d,gd,mg,.alloc z⟩=false:=_root_.id rfl
@[simp] theorem XT (d:Option Nat) (gd:Option (Nat×Bool)) (mg:Bool) (m:Nat) (a b:AX):AO.quiet ⟨d,gd,mg,.store m a b⟩=false:=_root_.id rfl
@[simp] theorem abe (d:Option Nat) (gd:Option (Nat×Bool)) (mg:Bool) (m:Nat) (a b:AX):AO.dS ⟨d,gd,mg,.store m a b⟩=none:=by simp[AO.dS]
@[simp] theorem Uf (d:Option Nat) (gd:Option (Nat×Bool)) (mg:Bool) (m m2:Nat) (g:Bool) (a b:AX):AO.quiet ⟨d,gd,mg,.append m m2 g a b⟩=false:=_root_.id rfl
@[simp] theorem XU (d:Option Nat) (gd:Option (Nat×Bool)) (mg:Bool) (m m2:Nat) (g:Bool) (a b:AX):AO.dS ⟨d,gd,mg,.append m m2 g a b⟩=none:=by simp[AO.dS]
@[simp] theorem abf (d:Option Nat) (gd:Option (Nat×Bool)) (mg:Bool) (m:Nat) (a b:AX):AO.quiet ⟨d,gd,mg,.copy m a b⟩=false:=_root_.id rfl
@[simp] theorem afz (d:Option Nat) (gd:Option (Nat×Bool)) (mg:Bool) (m:Nat) (a b:AX):AO.dS ⟨d,gd,mg,.copy m a b⟩=none:=by simp[AO.dS]
@[simp] theorem N9 (d:Option Nat) (gd:Option (Nat×Bool)) (mg:Bool) (m m2:Nat) (z:PV) (a b:AX):AO.quiet ⟨d,gd,mg,.makeSlice m m2 z a b⟩=false:=_root_.id rfl
@[simp] theorem Oa (k:Nat) (mg:Bool) (sz b:Nat) (z:PV) (kl kc:IntKind) (l c:Int):AO.dS ⟨some k,none,mg,.makeSlice sz b z (.c (.int kl l)) (.c (.int kc c))⟩=if 0≤l∧l≤c∧c*b≤281474976710656∧c≤9223372036854775807 then some k else none:=_root_.id rfl
@[simp] theorem afA (d:Option Nat) (gd:Option (Nat×Bool)) (mg:Bool) (m:Nat) (z:PV) (n:Nat) (ps:List (Nat×AX)):AO.quiet ⟨d,gd,mg,.buildSlice false m z n ps⟩=true:=_root_.id rfl
@[simp] theorem ajV (d:Option Nat) (gd:Option (Nat×Bool)) (mg:Bool) (m:Nat) (z:PV) (n:Nat) (ps:List (Nat×AX)):AO.dS ⟨d,gd,mg,.buildSlice false m z n ps⟩=none:=by simp[AO.dS]
@[simp] theorem afB (d:Option Nat) (gd:Option (Nat×Bool)) (mg:Bool) (m:Nat) (z:PV) (n:Nat) (ps:List (Nat×AX)):AO.quiet ⟨d,gd,mg,.buildSlice true m z n ps⟩=false:=_root_.id rfl
@[simp] theorem ajW (d:Option Nat) (gd:Option (Nat×Bool)) (mg:Bool) (m:Nat) (z:PV) (n:Nat) (ps:List (Nat×AX)):AO.dS ⟨d,gd,mg,.buildSlice true m z n ps⟩=none:=by simp[AO.dS]
@[simp] theorem afC (d:Option Nat) (gd:Option (Nat×Bool)) (mg:Bool) (n z:Nat) (a:AX):AO.quiet ⟨d,gd,mg,.s2a n z a⟩=true:=_root_.id rfl
@[simp] theorem ajX (d:Option Nat) (gd:Option (Nat×Bool)) (mg:Bool) (n z:Nat) (a:AX):AO.dS ⟨d,gd,mg,.s2a n z a⟩=none:=by simp[AO.dS]
@[simp] theorem Ug (d:Option Nat) (gd:Option (Nat×Bool)) (mg:Bool) (a b:Sh) (z:PV) (ok:Bool) (m x:AX):AO.quiet ⟨d,gd,mg,.mapGet a b z ok m x⟩=false:=_root_.id rfl
@[simp] theorem XV (d:Option Nat) (gd:Option (Nat×Bool)) (mg:Bool) (a b:Sh) (z:PV) (ok:Bool) (m x:AX):AO.dS ⟨d,gd,mg,.mapGet a b z ok m x⟩=none:=by simp[AO.dS]
theorem lv.run {l:List AO} {o u:List Nat} {K:St->Prop} {t:Tg K} (W:List Nat) {m:List (AO×Bool)} (hm:qm l u o=some m) (h:vX P W s m K):lv P l o u K t s:=lv.of W m hm (pM h)
@[simp↓] theorem ajY (W:List Nat) (K:St->Prop):vX P W s [] K=K s:=_root_.id rfl
@[simp↓] theorem asW (W:List Nat) (n:Nat) (v:PV) (e:List (Nat×PV)) (b:List (Nat×aU)) (x:AO) (f:Bool) (r:List (AO×Bool)) (K:St->Prop):vX P W ⟨(n,v)::e,b⟩ ((x,f)::r) K=
  if x.quiet=true then(if f=true then fR P ⟨(n,v)::e,AG W b⟩ x (λt=>vX P W {t with bx:=b} r K)else fR P ⟨(n,v)::e,b⟩ x (λt=>vX P W t r K))
  else(kf ⟨(n,v)::e,b⟩ ((x,f)::r)=true∧fR P ⟨(n,v)::e,b⟩ x (λt=>(f=true->Ua W t.bx b)∧vX P W t r K)):=by
 simp only[vX];rfl
@[simp] theorem ap6 (x:AO) (f:Bool) (r:List (AO×Bool)):kf s ((x,f)::r)=((match x.dS with|some k=>(get s.bx k).isNone|none=>true)&&kf s r):=_root_.id rfl
def XW (P:Program) (l:List AO) (a:List Nat) (p q:Nat) (b u:List Nat) (K:St->Prop) (_:Tg K) (s:St):Prop:=∃W,lQ P l u.contains W (p::q::b) s a λt=>iE P l u.contains W t (p::q::b) K∧iE P l u.contains W t (q::p::b) K
@[simp↓] theorem abg (l:List AO) (a:List Nat) (p q:Nat) (b u:List Nat) (Q:Exit->St->Prop):aw P (.regionE l a p q b u) Q s=XW P l a p q b u (Q .normal) .mk s:=_root_.id rfl
def ov (P:Program) (W:List Nat) (mE:List (AO×Bool)) (s:St):List (AO×Bool)->(St->Prop)->Prop
 |[],K=>kf s mE=true∧K s
 |(x,f)::r,K=>if x.quiet=true then(if f=true then fR P (s.less W) x (λt=>ov P W mE {t with bx:=s.bx} r K)else fR P s x (λt=>ov P W mE t r K))
   else kf s ((x,f)::(r++mE))=true∧fR P s x (λt=>(f=true->Ua W t.bx s.bx)∧ov P W mE t r K)
theorem HY {l:List AO} {u:List Nat}:∀ {a b:List Nat} {m n:List (AO×Bool)},qm l u a=some m->qm l u b=some n->qm l u (a++b)=some (m++n)
 |[],b,m,n,h,h2=>by simp[qm]at h;subst h;exact h2
 |
  i::r,b,m,n,h,h2=>by
  simp only[qm]at h
  split at h
  ·rename_i x m' hx vS
   simp only[sJ]at h;subst h
   simp only[JeZ,qm,hx,HY vS h2]
  ·simp at h
theorem wY {W:List Nat} {mE:List (AO×Bool)}:∀ {m:List (AO×Bool)} {s:St} {K:St->Prop},ov P W mE s m K->kf s (m++mE)=true
 |[],s,K,h=>h.1
 |
  (x,f)::r,s,K,h=>by
  simp only[ov]at h
  split at h
  ·rename_i hq
   simp only[JeZ,kf,eF hq,JjV]
   split at h
   ·obtain⟨v,h1,_⟩:=vB hq h
    have:=wY h1
    exact(uM (s:=s) (s':= {env:=((s.less W).put x.dst v).env,bx:=s.bx}) rfl _).symm.trans this
   ·obtain⟨v,h1,_⟩:=vB hq h
    have:=wY h1
    rwa [uM (ir _ _)]at this
  ·exact h.1
theorem BE {l:List AO} {u:List Nat} {W E:List Nat} {mE:List (AO×Bool)} (hE:qm l u E=some mE):∀ {o:List Nat} {m:List (AO×Bool)} {s:St} {K:St->Prop},qm l u o=some m->ov P W mE s m K->lQ P l u.contains W E s o K
 |[],m,s,K,hm,h=>by simp[qm]at hm;subst hm;exact⟨by rw[←ym hE];exact h.1,h.2⟩
 |
  i::r,m,s,K,hm,h=>by
  have RS:=hm
  simp only[qm]at hm
  split at hm
  ·rename_i x m' hx vS
   simp only[sJ]at hm;subst hm
   have hf:=ym (s:=s) (HY RS hE)
   have pF:=wY h
   rw[hf]at pF
   simp only[lQ,hx]
   refine⟨by simpa using pF,?_⟩
   simp only[ov,jg]at h⊢
   split at h
   ·rename_i hq
    rw[if_pos hq]
    split at h
    ·rename_i hf;rw[if_pos hf];exact bV (λt ht=>BE hE vS ht) h
    ·rename_i hf;rw[if_neg hf];exact bV (λt ht=>BE hE vS ht) h
   ·rename_i hq
    rw[if_neg hq]
    exact bV (λt ht=>⟨λe=>PJ (e:=s.env) (ht.1 e),BE hE vS ht.2⟩) h.2
  ·simp at hm
theorem vJ {W:List Nat} {mE:List (AO×Bool)}:∀ {m:List (AO×Bool)} {s:St} {K K':St->Prop},(∀t,K t->K' t)->ov P W mE s m K->ov P W mE s m K'
 |[],s,K,K',h,hk=>⟨hk.1,h _ hk.2⟩
 |
  (x,f)::r,s,K,K',h,hk=>by
  simp only[ov]at hk⊢
  split at hk
  ·rename_i hq;rw[if_pos hq]
   split at hk
   ·rename_i hf;rw[if_pos hf];exact bV (λt ht=>vJ h ht) hk
   ·rename_i hf;rw[if_neg hf];exact bV (λt ht=>vJ h ht) hk
  ·rename_i hq;rw[if_neg hq]
   exact⟨hk.1,bV (λt ht=>⟨ht.1,vJ h ht.2⟩) hk.2⟩
theorem XW.run {l:List AO} {a:List Nat} {p q:Nat} {b u:List Nat} {K:St->Prop} {t:Tg K} (W:List Nat) {m m1 m2:List (AO×Bool)} (hm:qm l u a=some m) (h1:qm l u (p::q::b)=some m1) (h2:qm l u (q::p::b)=some m2)
  (h:ov P W m1 s m λt=>vX P W t m1 K∧vX P W t m2 K):XW P l a p q b u K t s:=⟨W,BE h1 hm (vJ (λt ht=>⟨BD h1 (pM ht.1),BD h2 (pM ht.2)⟩) h)⟩
@[simp↓] theorem afD (W:List Nat) (mE:List (AO×Bool)) (K:St->Prop):ov P W mE s [] K=(kf s mE=true∧K s):=_root_.id rfl
@[simp↓] theorem ap7 (W:List Nat) (mE:List (AO×Bool)) (n:Nat) (v:PV) (e:List (Nat×PV)) (b:List (Nat×aU)) (x:AO) (f:Bool) (r:List (AO×Bool)) (K:St->Prop):ov P W mE ⟨(n,v)::e,b⟩ ((x,f)::r) K=
  if x.quiet=true then(if f=true then fR P ⟨(n,v)::e,AG W b⟩ x (λt=>ov P W mE {t with bx:=b} r K)else fR P ⟨(n,v)::e,b⟩ x (λt=>ov P W mE t r K))
  else(kf ⟨(n,v)::e,b⟩ ((x,f)::(r++mE))=true∧fR P ⟨(n,v)::e,b⟩ x (λt=>(f=true->Ua W t.bx b)∧ov P W mE t r K)):=by
 simp only[ov];rfl
@[simp↓] theorem afE:kf s []=true:=_root_.id rfl
@[simp↓] theorem ajZ (k:Nat) (mg f:Bool) (z:PV) (r:List (AO×Bool)):kf s ((⟨some k,none,mg,.alloc z⟩,f)::r)=((get s.bx k).isNone&&kf s r):=_root_.id rfl
@[simp] theorem ap8 (W:List Nat) (c:List (Nat×aU)):Ua W c []=True:=_root_.id rfl
@[simp] theorem aj0 (W:List Nat) (c:List (Nat×aU)) (k:Nat) (b:aU) (r:List (Nat×aU)):Ua W c ((k,b)::r)=((if JD W=true then get c k=some b∨W.contains k=true∧F4 (some b)=true∧F4 (get c k)=true else W.contains k=true∨get c k=some b)∧Ua W c r):=_root_.id rfl
end Go.Ab
namespace Go.Ab
variable [cK]
structure asX (sh:Sh) (p:PV):Prop where
 refs:af (λ_=>false) p=true
 wk:wk p=p
 width:p.width=tL sh
 agg:p.isAgg=sh.agg
 beq:PV.beq p p=true
 cell:p.aT=true
 flat:p.flat=true
mutual
theorem eM:∀(p:PV) (sh:Sh),fits sh p=true->asX sh p
 | .bl b,.b,_=>⟨rfl,by simp,rfl,rfl,by simp[PV.beq],rfl,rfl⟩
 | .int k n,.i k',h=>⟨rfl,by simp,rfl,rfl,by simp[PV.beq],rfl,rfl⟩
 | .str s,.s,_=>⟨rfl,by simp,rfl,rfl,by simp[PV.beq],rfl,rfl⟩
 |
  .st w m,.st l,h=>by
  simp only[fits,aJ,decide_eq_true_eq]at h
  obtain⟨h1,h2,h3,h4⟩:=CS m l h.2
  exact⟨by simpa[af]using h1,by simp[h2],by simp[tL,h.1],rfl,by simp[PV.beq,h4],rfl,rfl⟩
 |
  .ar sz k m,.ar n e,h=>by
  simp only[fits,aJ,decide_eq_true_eq]at h
  obtain⟨h1,h2,h4⟩:=CT m e h.2
  exact⟨by simpa[af]using h1,by simp[h2],by simp[tL,h.1.1,h.1.2.1],rfl,by simp[PV.beq,h4],rfl,rfl⟩
 | .un,sh,h=>by cases sh<;>simp[fits]at h
 | .tup _,sh,h=>by cases sh<;>simp[fits]at h
 | .sl _ _ _,sh,h=>by cases sh<;>simp[fits]at h
 | .rs _ _ _ _ _ _ _,sh,h=>by cases sh<;>simp[fits]at h
 | .np,sh,h=>by cases sh<;>simp[fits]at h
 | .pt _ _ _,sh,h=>by cases sh<;>simp[fits]at h
 | .fp _ _ _,sh,h=>by cases sh<;>simp[fits]at h
 | .fn _ _ _,sh,h=>by cases sh<;>simp[fits]at h
 | .nf,sh,h=>by cases sh<;>simp[fits]at h
 | .gd _ _,sh,h=>by cases sh<;>simp[fits]at h
 | .ifc _ _,sh,h=>by cases sh<;>simp[fits]at h
 | .ni,sh,h=>by cases sh<;>simp[fits]at h
 | .mp _ _,sh,h=>by cases sh<;>simp[fits]at h
 | .bl _,.i _,h=>by simp[fits]at h
 | .bl _,.s,h=>by simp[fits]at h
 | .bl _,.st _,h=>by simp[fits]at h
 | .bl _,.ar _ _,h=>by simp[fits]at h
 | .int _ _,.b,h=>by simp[fits]at h
 | .int _ _,.s,h=>by simp[fits]at h
 | .int _ _,.st _,h=>by simp[fits]at h
 | .int _ _,.ar _ _,h=>by simp[fits]at h
 | .str _,.b,h=>by simp[fits]at h
 | .str _,.i _,h=>by simp[fits]at h
 | .str _,.st _,h=>by simp[fits]at h
 | .str _,.ar _ _,h=>by simp[fits]at h
 | .st _ _,.b,h=>by simp[fits]at h
 | .st _ _,.i _,h=>by simp[fits]at h
 | .st _ _,.s,h=>by simp[fits]at h
 | .st _ _,.ar _ _,h=>by simp[fits]at h
 | .ar _ _ _,.b,h=>by simp[fits]at h
 | .ar _ _ _,.i _,h=>by simp[fits]at h
 | .ar _ _ _,.s,h=>by simp[fits]at h
 | .ar _ _ _,.st _,h=>by simp[fits]at h
theorem CS:∀(m:List PV) (l:List Sh),dR l m=true->ah (λ_=>false) m=true∧fP m=m∧aB m=vT l∧PV.lC m m=true
 |[],[],_=>⟨rfl,rfl,rfl,by simp[PV.lC]⟩
 |
  p::m,x::l,h=>by
  simp only[dR,aJ]at h
  have f:=eM p x h.1
  obtain⟨h1,h2,h3,h4⟩:=CS m l h.2
  exact⟨by simp[ah,f.refs,h1],by simp[f.wk,h2],by simp[vT,f.width,h3],by simp[PV.lC,f.beq,h4]⟩
 |[],_::_,h=>by simp[dR]at h
 |_::_,[],h=>by simp[dR]at h
theorem CT:∀(m:List PV) (e:Sh),jr e m=true->ah (λ_=>false) m=true∧fP m=m∧PV.lC m m=true
 |[],_,_=>⟨rfl,rfl,by simp[PV.lC]⟩
 |
  p::m,e,h=>by
  simp only[jr,aJ]at h
  have f:=eM p e h.1
  obtain⟨h1,h2,h4⟩:=CT m e h.2
  exact⟨by simp[ah,f.refs,h1],by simp[f.wk,h2],by simp[PV.lC,f.beq,h4]⟩
end
structure FV (sh:Sh) where
 p:PV
 ok:fits sh p=true
variable {sh:Sh} (v:FV sh)
@[simp] theorem FV.fits:Ab.fits sh v.p=true:=v.ok
@[simp] theorem FV.pure:Pure v.p:=Pure.of (eM v.p sh v.ok).refs
@[simp] theorem FV.wk:Ab.wk v.p=v.p:=(eM v.p sh v.ok).wk
@[simp] theorem FV.width:v.p.width=tL sh:=(eM v.p sh v.ok).width
@[simp] theorem FV.agg:v.p.isAgg=sh.agg:=(eM v.p sh v.ok).agg
@[simp] theorem FV.beq:PV.beq v.p v.p=true:=(eM v.p sh v.ok).beq
@[simp] theorem FV.cell:v.p.aT=true:=(eM v.p sh v.ok).cell
@[simp] theorem FV.flat:v.p.flat=true:=(eM v.p sh v.ok).flat
@[simp↓] theorem FV.ei (g:Bool) (K:PV->Prop):Ab.ei g v.p K=K v.p:=by
 have:=(eM v.p sh v.ok).flat;cases h:v.p<;>rw[h]at this<;>simp[PV.flat]at this<;>rfl
end Go.Ab
namespace Go.Ab
variable [cK]
variable {P:Program} {s:St} [eE]
theorem eW.PL {α:Type} {x:cq} {Q:Exit->St->Prop} {t:Tg (x,Q)} (n:Nat) (x0:α) (I:Nat->α->Prop) (ks:List Nat) (E:Nat->α->List (Nat×PV)) (B:Nat->α->List (Nat×aU)) (c0:List Cut)
  (h:iR c0 s λs0=>gm s0 ks (E 0 x0) (B 0 x0)=gm s0 ks [] []∧I 0 x0∧
   (∀i y,i<n->I i y->∀K:St->Prop,(∀z s2,gm s2 ks [] []=gm s0 ks (E (i+1) z) (B (i+1) z)->I (i+1) z->K s2)->aw P x (AD Q λs'=>∃c:List Cut,iR c s' K) (gm s0 ks (E i y) (B i y)))∧
   (∀y,I n y->∀K:St->Prop,aw P x (AD Q K) (gm s0 ks (E n y) (B n y)))):eW P x Q t s:=by
 let
   R:St->Prop:=λs0=>(∀i y,i<n->I i y->∀K:St->Prop,(∀z s2,gm s2 ks [] []=gm s0 ks (E (i+1) z) (B (i+1) z)->I (i+1) z->K s2)->aw P x (AD Q λs'=>∃c:List Cut,iR c s' K) (gm s0 ks (E i y) (B i y)))∧
   (∀y,I n y->∀K:St->Prop,aw P x (AD Q K) (gm s0 ks (E n y) (B n y)))
 let J:Nat->St->Prop:=λm st=>∃s0 i y,i≤n∧m=n-i∧I i y∧st=gm s0 ks (E i y) (B i y)∧R s0;refine⟨J,c0++[.keep ks],?_,?_⟩
 ·rw[ou];refine ff c0 (λs0 hs=> ?_) h;obtain⟨h1,h2,h3⟩:=hs;exact⟨n,s0,0,x0,by omega,by omega,h2,by rw[h1];rfl,h3⟩
 ·rintro m st ⟨s0,i,y,hi,rfl,hI,rfl,h3⟩;by_cases dk:i<n
  ·have aea:∀(K:St->Prop) s',(∃c:List Cut,iR c s' λs2=>iR [.keep ks] s2 K)->∃c:List Cut,iR c s' K:=λK s' ⟨c,hc⟩=>⟨c++[.keep ks],by rw[ou];exact hc⟩
   have:=h3.1 i y dk hI (λs2=>iR [.keep ks] s2 λs'=>∃m,m<n-i∧J m s')
    (λz s2 e hI'=>⟨n-(i+1),by omega,s0,i+1,z,by omega,rfl,hI',by rw[←e];rfl,h3⟩)
   refine F3 (λe s' he=> ?_) this;cases e with
   |normal=>exact aea _ _ he
   |_=>exact he
  ·have A0:i=n:=by omega
   subst A0;exact h3.2 y hI _
end Go.Ab
namespace Go.Ab
variable [cK]
variable {P:Program} {s:St}
theorem ai.gen {d:Option Nat} {f:FuncId} {args bC:List PV} {cg N4:List aU} {r1:PV} {K:St->Prop} {t:Tg K} (ks os:List Nat) (bL:List aU) (hA:ae P f bC cg λr fp=>r=r1∧fp=N4)
  (hg:getAll s.bx ks=some bL) (hn:(ks++os).Nodup) (Jc:∀o∈os,get s.bx o=none) (ha:ah (bT ks) args=true) (hb:bL.all (ab (bT ks))=true)
  (IZ:fP (aS (bz ks) args)=bC) (sN:bL.map (az (bz ks))=cg) (hl:N4.length=(ks++os).length∧af (cY N4.length) r1=true∧N4.all (ab (cY N4.length))=true)
  (h:K ({s with bx:=aI s.bx (ks++os) (N4.map (az (cL (ks++os))))}.put d (aE (cL (ks++os)) r1))):ai P s d f args K t:=by
 subst IZ sN;refine⟨ks,os,bL,_,hg,hn,Jc,ha,hb,ae.XG hA,?_⟩;rintro r fp ⟨rfl,rfl⟩;exact⟨hl,h⟩
@[simp] theorem aj1:dM 1=[KB]:=rfl
@[simp] theorem aj2:dM 2=[KB,KB+1]:=rfl
@[simp] theorem aj3:dM 3=[KB,KB+1,KB+2]:=rfl
@[simp] theorem aj4:dM 5=[KB,KB+1,KB+2,KB+3,KB+4]:=rfl
@[simp] theorem awI {n:Nat} (h:n<9000):(KB=n)=False:=by simp only[KB,eq_iff_iff,iff_false];omega
@[simp] theorem asY {n:Nat} (h:n<9000):(n=KB)=False:=by simp only[KB,eq_iff_iff,iff_false];omega
@[simp] theorem afF {n i:Nat} (h:n<9000):(KB+i=n)=False:=by simp only[KB,eq_iff_iff,iff_false];omega
@[simp] theorem abh {n i:Nat} (h:n<9000):(n=KB+i)=False:=by simp only[KB,eq_iff_iff,iff_false];omega
@[simp] theorem afG {n:Nat} (h:n<9000):(KB<n)=False:=by simp only[KB,eq_iff_iff,iff_false];omega
@[simp] theorem Sq {n i:Nat} (h:n<9000):(KB+i<n)=False:=by simp only[KB,eq_iff_iff,iff_false];omega
@[simp] theorem ap9 {i:Nat}:(KB+i<KB)=False:=by simp
theorem ai.gA {d:Option Nat} {f:FuncId} {args bC:List PV} {cg N4:List aU} {r1:PV} {K:St->Prop} {t:Tg K} (ks os:List Nat) (bL:List aU) (hA:ae P f bC cg λr fp=>r=r1∧fp=N4) (hb:bL.all (ab (bT ks))=true) (sN:bL.map (az (bz ks))=cg) (hl:N4.length=(ks++os).length∧af (cY N4.length) r1=true∧N4.all (ab (cY N4.length))=true) (h:K ({s with bx:=aI s.bx (ks++os) (N4.map (az (cL (ks++os))))}.put d (aE (cL (ks++os)) r1))) (hg:getAll s.bx ks=some bL:=by simp[getAll]) (hn:(ks++os).Nodup:=by simp) (Jc:∀o∈os,get s.bx o=none:=by simp) (ha:ah (bT ks) args=true:=by simp[ah,af,bT,idx]) (IZ:fP (aS (bz ks) args)=bC:=by simp[aS,aE,bz,idx]):ai P s d f args K t:=ai.gen ks os bL hA hg hn Jc ha hb IZ sN hl h
end Go.Ab
namespace Go.Ab
variable [cK]
variable {P:Program} {s:St} [eE]
def cpA (s:St) (d:Option Nat) (sz:Nat) (ys:List PV) (K:St->Prop) (k:Nat) (v:PV) (pth:List Step) (off len aN bN:Nat):PV->Prop
 | .ar sz'' n l=>bF (bO v pth (.ar sz'' n (l.take off++ys.take (min ys.length len)++l.drop (off+min ys.length len)))) λv'=>(aN=0∧bN=sz∧sz''=sz∧off+len≤n)∧K ({s with bx:=put s.bx k (.box v')}.put d (.int .i64 (min ys.length len:Nat)))
 |_=>False
def cpB (s:St) (d:Option Nat) (sz:Nat) (ys:List PV) (K:St->Prop) (k:Nat) (pth:List Step) (off len aN bN:Nat):aU->Prop
 | .arr sz'' l=>(aN=l.length∧pth=[]∧bN=sz∧sz''=sz∧off+len≤l.length)∧K ({s with bx:=put s.bx k (.arr sz (l.take off++ys.take (min ys.length len)++l.drop (off+min ys.length len)))}.put d (.int .i64 (min ys.length len:Nat)))
 | .box v=>bF (aO v pth) (cpA s d sz ys K k v pth off len aN bN)
 | .map .. =>False
def Sr (s:St) (d:Option Nat) (sz:Nat) (ys:List PV) (K:St->Prop):PV->Prop
 | .rs k pth off len aN bN _=>bF (get s.bx k) (cpB s d sz ys K k pth off len aN bN)
 |_=>False
def XX (s:St) (d:Option Nat) (sz:Nat) (p:PV) (K:St->Prop):PV->Prop
 | .str bs=>sz=1∧Sr s d sz (bs.map u8) K p
 |q=>Bb s (λbN ys=>(ys=[]∨bN=sz)∧Sr s d sz ys K p) q
theorem EN (d:Option Nat) (sz:Nat) (p:PV) (ys:List PV) (K:St->Prop):j8 s d sz p ys K=Sr s d sz ys K p:=by
 cases p<;>try rfl
 rename_i k pth off len aN bN c;simp only[j8,Sr];generalize get s.bx k=o;cases o with
 |none=>rfl
 |
  some b=>
  cases b with
  |arr z l=>rfl
  |
   box v=>
   simp only[bF,cpB]
   generalize aO v pth=o
   cases o with
   |none=>rfl
   |
    some q=>
    cases q<;>simp only[cpA,bF]
    rename_i z n l
    generalize bO v pth (.ar z n (List.take off l++List.take (min ys.length len) ys++List.drop (off+min ys.length len) l))=o
    cases o<;>rfl
  |map b ks vs l=>rfl
@[simp↓] theorem asZ (d:Option Nat) (sz:Nat) (x y:AX) (K:St->Prop):ex s d (.copy sz x y) K=ei true (vx s x) λp=>ei true (vx s y) λq=>XX s d sz p K q:=by
 simp only[ex,iF];congr 1;funext p;congr 1;funext q;cases q<;>simp only[XX,Xu,Pz,TN,aiq,EN]
@[simp↓] theorem zp (d:Option Nat) (sz:Nat) (p:PV) (K:St->Prop) (z:Nat) (l:List PV) (c:Bool):XX s d sz p K (.sl z l c)=((l=[]∨z=sz)∧Sr s d sz l K p):=_root_.id rfl
@[simp↓] theorem JW (d:Option Nat) (sz:Nat) (ys:List PV) (K:St->Prop) (k:Nat) (pth:List Step) (off len aN bN:Nat) (c:ft):Sr s d sz ys K (.rs k pth off len aN bN c)=bF (get s.bx k) (cpB s d sz ys K k pth off len aN bN):=_root_.id rfl
@[simp↓] theorem aqb (d:Option Nat) (sz:Nat) (ys:List PV) (K:St->Prop) (k:Nat) (pth:List Step) (off len aN bN z:Nat) (l:List PV):cpB s d sz ys K k pth off len aN bN (.arr z l)=((aN=l.length∧pth=[]∧bN=sz∧z=sz∧off+len≤l.length)∧K ({s with bx:=put s.bx k (.arr sz (l.take off++ys.take (min ys.length len)++l.drop (off+min ys.length len)))}.put d (.int .i64 (min ys.length len:Nat)))):=_root_.id rfl
@[simp↓] theorem aqc (d:Option Nat) (sz:Nat) (ys:List PV) (K:St->Prop) (k:Nat) (pth:List Step) (off len aN bN:Nat) (v:PV):cpB s d sz ys K k pth off len aN bN (.box v)=bF (aO v pth) (cpA s d sz ys K k v pth off len aN bN):=_root_.id rfl
@[simp↓] theorem as0 (d:Option Nat) (sz:Nat) (ys:List PV) (K:St->Prop) (k:Nat) (v:PV) (pth:List Step) (off len aN bN z n:Nat) (l:List PV):cpA s d sz ys K k v pth off len aN bN (.ar z n l)=bF (bO v pth (.ar z n (l.take off++ys.take (min ys.length len)++l.drop (off+min ys.length len)))) λv'=>(aN=0∧bN=sz∧z=sz∧off+len≤n)∧K ({s with bx:=put s.bx k (.box v')}.put d (.int .i64 (min ys.length len:Nat))):=_root_.id rfl
def flP (s:St) (sz:Nat) (z:PV) (K:St->Prop):PV->Prop
 | .rs k pth off len aN bN c=>Sr s none sz (List.replicate len z) K (.rs k pth off len aN bN c)
 |_=>False
@[simp↓] theorem as2 (sz:Nat) (z:PV) (K:St->Prop) (k:Nat) (pth:List Step) (off len aN bN:Nat) (c:ft):flP s sz z K (.rs k pth off len aN bN c)=Sr s none sz (List.replicate len z) K (.rs k pth off len aN bN c):=_root_.id rfl
@[simp↓] theorem as3 (d:Option Nat) (sz:Nat) (z:PV) (x:AX) (K:St->Prop):ex s d (.fill sz z x) K=ei true (vx s x) λp=>d=none∧flP s sz z K p:=by
 simp only[ex,iF];congr 1;funext p;simp only[OH];congr 1;cases p<;>simp only[flP,EN]
def clB (s:St) (d:Option Nat) (k:Nat) (pth:List Step) (off len aN sz:Nat) (c:ft) (K:St->Prop):aU->Prop
 | .arr bN l=>(pth=[]∧off=0∧sz=1∧bN=1∧c= .tip∧len=l.length∧aN=l.length∧l≠[]∧l.all PV.isNum=true)∧K (St.put {s with bx:=put s.bx k (.arr 1 (l++[.int .u8 0]))} d (.sl 1 l false))
 |_=>False
def clP (s:St) (d:Option Nat) (K:St->Prop):PV->Prop
 | .rs k pth off len aN sz c=>bF (get s.bx k) (clB s d k pth off len aN sz c K)
 |_=>False
@[simp↓] theorem aqd (d:Option Nat) (x:AX) (K:St->Prop):ex s d (.convL x) K=ei true (vx s x) (clP s d K):=by
 simp only[ex,iF];congr 1;funext p;cases p<;>try rfl
 rename_i k pth off len aN sz c;simp only[clP];cases get s.bx k with
 |none=>rfl
 |some x=>cases x<;>rfl
@[simp↓] theorem as6 (d:Option Nat) (K:St->Prop) (k:Nat) (pth:List Step) (off len aN sz:Nat) (c:ft):clP s d K (.rs k pth off len aN sz c)=bF (get s.bx k) (clB s d k pth off len aN sz c K):=_root_.id rfl
@[simp↓] theorem aqe (d:Option Nat) (k:Nat) (pth:List Step) (off len aN sz:Nat) (c:ft) (K:St->Prop) (bN:Nat) (l:List PV):clB s d k pth off len aN sz c K (.arr bN l)=((pth=[]∧off=0∧sz=1∧bN=1∧c= .tip∧len=l.length∧aN=l.length∧l≠[]∧l.all PV.isNum=true)∧K (St.put {s with bx:=put s.bx k (.arr 1 (l++[.int .u8 0]))} d (.sl 1 l false))):=_root_.id rfl
@[simp] theorem afH (k:IntKind) (n:Int):PV.isNum (.int k n)=true:=_root_.id rfl
@[simp↓] theorem aqf (k:Nat) (ks vs:Sh) (K:St->Prop):ex s (some k) (.mkMap ks vs) K=(get s.bx k=none∧∀b:Nat,K {env:=put s.env k (.mp k b),bx:=put s.bx k (.map b ks vs [])}):=_root_.id rfl
def mgB (s:St) (d:Option Nat) (ks vs:Sh) (z:PV) (ok:Bool) (p:PV) (b:Nat) (K:St->Prop):aU->Prop
 | .map b' BR DV l=>(b'=b∧BR=ks∧DV=vs∧fits ks p=true)∧K (s.put d (if ok=true then .tup [(Ao p l).getD z,.bl (Ao p l).isSome]else(Ao p l).getD z))
 |_=>False
def mgP (s:St) (d:Option Nat) (ks vs:Sh) (z:PV) (ok:Bool) (p:PV) (K:St->Prop):PV->Prop
 | .mp k b=>bF (get s.bx k) (mgB s d ks vs z ok p b K)
 |_=>False
@[simp↓] theorem aj6 (d:Option Nat) (ks vs:Sh) (z:PV) (ok:Bool) (m x:AX) (K:St->Prop):ex s d (.mapGet ks vs z ok m x) K=ei true (vx s m) λpm=>ei true (vx s x) λp=>mgP s d ks vs z ok p K pm:=by
 simp only[ex,iF];congr 1;funext pm;congr 1;funext p;cases pm<;>try rfl
 rename_i k b;simp only[mgP];cases get s.bx k with
 |none=>rfl
 |some x=>cases x<;>rfl
@[simp↓] theorem as9 (d:Option Nat) (ks vs:Sh) (z:PV) (ok:Bool) (p:PV) (K:St->Prop) (k b:Nat):mgP s d ks vs z ok p K (.mp k b)=bF (get s.bx k) (mgB s d ks vs z ok p b K):=_root_.id rfl
@[simp↓] theorem aqg (d:Option Nat) (ks vs:Sh) (z:PV) (ok:Bool) (p:PV) (b:Nat) (K:St->Prop) (b':Nat) (BR DV:Sh) (l:List (PV×PV)):mgB s d ks vs z ok p b K (.map b' BR DV l)=((b'=b∧BR=ks∧DV=vs∧fits ks p=true)∧K (s.put d (if ok=true then .tup [(Ao p l).getD z,.bl (Ao p l).isSome]else(Ao p l).getD z))):=_root_.id rfl
def msB (s:St) (d:Option Nat) (ks vs:Sh) (p v:PV) (k b:Nat) (K:St->Prop):aU->Prop
 | .map b' BR DV l=>(d=none∧b'=b∧BR=ks∧DV=vs∧fits ks p=true∧oL v=true)∧K {s with bx:=put s.bx k (.map b' BR DV (vU p v l))}
 |_=>False
def msP (s:St) (d:Option Nat) (ks vs:Sh) (p v:PV) (K:St->Prop):PV->Prop
 | .mp k b=>bF (get s.bx k) (msB s d ks vs p v k b K)
 |_=>False
@[simp↓] theorem aj7 (d:Option Nat) (ks vs:Sh) (m x y:AX) (K:St->Prop):ex s d (.mapSet ks vs m x y) K=ei true (vx s m) λpm=>ei true (vx s x) λp=>ei true (vx s y) λv=>msP s d ks vs p v K pm:=by
 simp only[ex,iF];congr 1;funext pm;congr 1;funext p;congr 1;funext v;cases pm<;>try rfl
 rename_i k b;simp only[msP];cases get s.bx k with
 |none=>rfl
 |some x=>cases x<;>rfl
@[simp↓] theorem atc (d:Option Nat) (ks vs:Sh) (p v:PV) (K:St->Prop) (k b:Nat):msP s d ks vs p v K (.mp k b)=bF (get s.bx k) (msB s d ks vs p v k b K):=_root_.id rfl
@[simp↓] theorem aqi (d:Option Nat) (ks vs:Sh) (p v:PV) (k b:Nat) (K:St->Prop) (b':Nat) (BR DV:Sh) (l:List (PV×PV)):msB s d ks vs p v k b K (.map b' BR DV l)=((d=none∧b'=b∧BR=ks∧DV=vs∧fits ks p=true∧oL v=true)∧K {s with bx:=put s.bx k (.map b' BR DV (vU p v l))}):=_root_.id rfl
end Go.Ab
namespace Go.Ab
variable [cK]
variable {P:Program} {Γ Δ:Cx}
mutual
def lR:PV->Bool
 | .sl _ l _=>l.isEmpty
 | .fp .. | .fn .. | .ifc .. | .gd .. | .tup _=>false
 | .st _ l=>eG l
 | .ar _ _ l=>eG l
 |_=>true
def eG:List PV->Bool
 |[]=>true
 |p::r=>lR p&&eG r
end
def gf:PV->Bool
 | .tup l=>eG l
 |p=>lR p
theorem CU {p:PV} (h:lR p=true):gf p=true:=by
 cases p<;>first|exact h|simp[lR]at h
def tU:aU->Bool
 | .box v=>lR v
 | .arr _ l=>eG l
 | .map .. =>true
structure Kin (ρ:Nat->Nat) (Γ Δ:Cx):Prop where
 heap:Δ.heap=Γ.heap
 ref:∀k blk,get Γ.bx k=some blk->∃bq,get Δ.bx (ρ k)=some bq∧bq.aN=blk.aN∧Δ.ι (ρ k)=Γ.ι k
theorem CV (ρ:Nat->Nat):∀l:List PV,aS ρ l=l.map (Ab.aE ρ)
 |[]=>rfl
 |p::l=>by simp[aS,CV ρ l]
theorem aD.Uh {ρ:Nat->Nat} (hs:Kin ρ Γ Δ) {l:List PV} {cs:List Value} (h:aD Γ l cs):eG l=true->aD Δ (aS ρ l) cs:=by
 induction h with
 |nil=>intro _;exact .nil
 |un h hr ih=>intro hf;simp only[eG,aJ]at hf;exact .un h (ih hf.2)
 |bl x hr ih=>intro hf;simp only[eG,aJ]at hf;exact .bl x (ih hf.2)
 |int k n hr ih=>intro hf;simp only[eG,aJ]at hf;exact .int k n (ih hf.2)
 |str l s h hr ih=>intro hf;simp only[eG,aJ]at hf;exact .str l s h (ih hf.2)
 |st w l hl hw hr ihl ih=>intro hf;simp only[eG,lR,aJ]at hf;exact .st w _ (ihl hf.1) hw (ih hf.2)
 |
  ar sz n l hl hn hw hr ihl ih=>
  intro hf;simp only[eG,lR,aJ]at hf
  refine .ar sz n _ (ihl hf.1) (by rw[me];exact hn) ?_ (ih hf.2)
  intro x hx
  rw[CV]at hx
  obtain⟨y,hy,rfl⟩:=JgX.1 hx
  rw[pI];exact hw y hy
 |
  sl sz l clip a aX hl hw hc hk hb hr ihl ih=>
  intro hf;simp only[eG,lR,aJ,List.isEmpty_iff]at hf
  obtain⟨rfl,S7⟩:=hf
  cases hl
  exact .sl sz [] clip a aX .nil (by simp) hc hk (λh=>absurd rfl h) (ih S7)
 |
  rs k p off len aN sz c v blk hg h1 hv hr ih=>
  intro hf;simp only[eG,lR,aJ]at hf
  obtain⟨bq,g1,g2,g3⟩:=hs.ref k blk hg.1
  refine .rs (ρ k) p off len aN sz c v bq ⟨g1,by rw[g2];exact hg.2⟩ h1 (λht=> ?_) (ih hf.2)
  obtain⟨a,aX,e1,e2⟩:=hv (by rw[ht,g2])
  exact⟨a,aX,e1,e2.aE g3 hs.heap⟩
 |np hr ih=>intro hf;simp only[eG,aJ]at hf;exact .np (ih hf.2)
 |
  pt k p aN v blk hg h1 hv hr ih=>
  intro hf;simp only[eG,lR,aJ]at hf
  obtain⟨bq,g1,g2,g3⟩:=hs.ref k blk hg.1
  refine .pt (ρ k) p aN v bq ⟨g1,by rw[g2];exact hg.2⟩ h1 (λht=> ?_) (ih hf.2)
  obtain⟨b,e1,e2⟩:=hv (by rw[ht,g2])
  exact⟨b,by rw[g3,e1],e2⟩
 |fp=>intro hf;simp[eG,lR]at hf
 |fn=>intro hf;simp[eG,lR]at hf
 |nf hr ih=>intro hf;simp only[eG,aJ]at hf;exact .nf (ih hf.2)
 |ifc=>intro hf;simp[eG,lR]at hf
 |ni hr ih=>intro hf;simp only[eG,aJ]at hf;exact .ni (ih hf.2)
 |mp k b hr ih=>intro hf;simp only[eG,aJ]at hf;exact .mp k b (ih hf.2)
theorem aD.JX {ρ:Nat->Nat} (hs:Kin ρ Γ Δ) {p:PV} {cs:List Value} (h:aD Γ [p] cs) (hf:lR p=true):aD Δ [Ab.aE ρ p] cs:=by
 have:=h.Uh hs (by simp[eG,hf]);simpa only[aS]using this
theorem aK.Uh {ρ:Nat->Nat} (hs:Kin ρ Γ Δ) {p:PV} {v:Value} (h:aK Γ p v) (hf:lR p=true):aK Δ (Ab.aE ρ p) v:=by
 cases p
 case un=>trivial
 case st w l=>obtain⟨cs,h1,h2⟩:=h;exact⟨cs,h1,h2.JX hs hf⟩
 case ar sz n l=>obtain⟨cs,h1,h2⟩:=h;exact⟨cs,h1,h2.JX hs hf⟩
 case gd=>simp[lR]at hf
 case tup=>simp[lR]at hf
 all_goals exact aD.JX hs h hf
theorem gI.Uh {ρ:Nat->Nat} (hs:Kin ρ Γ Δ) {p:PV} {v:Value} (h:gI Γ p v) (hf:lR p=true):gI Δ (Ab.aE ρ p) v:=by
 cases p
 case un=>trivial
 case st w l=>obtain⟨cs,h1,h2⟩:=h;exact⟨cs,h1,h2.JX hs hf⟩
 case ar sz n l=>obtain⟨cs,h1,h2⟩:=h;exact⟨cs,h1,h2.JX hs hf⟩
 all_goals exact aD.JX hs h hf
theorem kI.Uh {ρ:Nat->Nat} (hs:Kin ρ Γ Δ):∀ {l:List PV} {vs:List Value},kI Γ l vs->eG l=true->kI Δ (aS ρ l) vs
 |[],[],_,_=>trivial
 |[],_::_,h,_=>h.elim
 |_::_,[],h,_=>h.elim
 |
  p::l,v::vs,h,hf=>by
  simp only[eG,aJ]at hf
  exact⟨h.1.Uh hs hf.1,kI.Uh hs h.2 hf.2⟩
theorem aK.atd {ρ:Nat->Nat} (hs:Kin ρ Γ Δ) {p:PV} {v:Value} (h:aK Γ p v) (hf:gf p=true):aK Δ (Ab.aE ρ p) v:=by
 cases p
 case tup l=>
  obtain⟨vs,h1,h2⟩:=h;exact⟨vs,h1,h2.Uh hs hf⟩
 all_goals exact h.Uh hs hf
def V0 (bx:List (Nat×aU)) (p p':PV):Prop:=
 (p'=p∧af (λ_=>false) p=true)∨
 (∃k pth off len aN sz c l,p= .rs k pth off len aN sz c∧content ⟨[],bx⟩ p (λbN l0=>bN=sz∧l0=l)∧ah (λ_=>false) l=true∧0<sz∧p'= .sl sz l false)
def Ob (bx:List (Nat×aU)):List PV->List PV->Prop
 |[],[]=>True
 |p::r,p'::r'=>V0 bx p p'∧Ob bx r r'
 |_,_=>False
def V1 (bx:List (Nat×aU)) (p p':PV):Prop:=
 V0 bx p p'∨
 (∃sz l l' c,p= .sl sz l c∧Ob bx l l'∧p'= .sl sz l' c)∨
 (∃k pth off len aN sz c l l',p= .rs k pth off len aN sz c∧content ⟨[],bx⟩ p (λbN l0=>bN=sz∧l0=l)∧Ob bx l l'∧0<sz∧p'= .sl sz l' false)
def XY (bx:List (Nat×aU)):List PV->List PV->Prop
 |[],[]=>True
 |p::r,p'::r'=>V1 bx p p'∧XY bx r r'
 |_,_=>False
def Cx.bare (Γ:Cx):Cx:= {heap:=Γ.heap,ι:=λ_=>none,bx:=[],b9:=λ_=>False}
theorem pO {b:Nat}:¬Γ.bare.own b:=by
 rintro(⟨k,blk,h,_⟩|h)
 ·simp[Cx.bare,get]at h
 ·exact h
theorem Na (hm:Mem Γ):Mem Γ.bare:=by
 refine⟨λk blk h=> ?_,λi j b h=> ?_,λb h=>h.elim,λb h h2=>h2,λb cs h=>⟨λhb=>pO (.inl hb),(hm.xA b cs h).2⟩⟩
 ·simp[Cx.bare,get]at h
 ·simp[Cx.bare,get]at h
theorem zq:y7 (λ_=>false) id Γ Γ.bare:=⟨rfl,λb _ _=>pO,λk blk h=>by simp at h⟩
theorem Ui {h:Array Obj} {b o:Nat} {v:Value} (e:cell h b o=some v):b<h.size:=by
 unfold cell at e;split at e
 ·rename_i c _ _ hb;exact(Array.getElem?_eq_some_iff.1 hb).1
 ·simp at e
theorem aj8 (Γ:Cx) (hm:Mem Γ):fX 0 [] ⟨[],Γ.bx⟩ Γ {tmps:= #[],defers:=[]}:=⟨rfl,rfl,rfl,λk p h=>by simp[get]at h,hm⟩
theorem rsV {k:Nat} {pth:List Step} {off len aN sz:Nat} {c:ft} {l:List PV} {cs:List Value} (hm:Mem Γ) (hr:aD Γ [.rs k pth off len aN sz c] cs)
  (hc:content ⟨[],Γ.bx⟩ (.rs k pth off len aN sz c) (λbN l0=>bN=sz∧l0=l)):∃v ad aX us,cs=[v]∧v= .slice ad l.length aX∧aD Γ l us∧(∀x∈l,x.width=sz)∧l.length≤aX∧
   (l≠[]->∃b o,ad=some ⟨b,o,none⟩∧∀i c,us[i]? =some c->cell Γ.heap b (o+i)=some c):=by
 obtain⟨v,rfl⟩:∃v,cs=[v]:=by
  cases hr with
  |rs _ _ _ _ _ _ _ v _ _ _ _ hr=>cases hr;exact⟨v,rfl⟩
 obtain⟨bN,l0,us,ad,aX,⟨rfl,rfl⟩,h2,h3,h4,h5,h6⟩:=qS (v:=v) (aj8 Γ hm) hc (by simpa only[aK]using hr);exact⟨v,ad,aX,us,rfl,h2,h3,h6,h5,h4⟩
theorem V0.width {bx:List (Nat×aU)} {p p':PV} (h:V0 bx p p'):p'.width=p.width:=by
 rcases h with⟨rfl,_⟩|⟨k,pth,off,len,aN,sz,c,l,rfl,_,_,_,rfl⟩<;>rfl
theorem CW {l:List PV} {us:List Value} {sz:Nat} {ad:Option Addr} (fA:0<sz) (h3:aD Γ l us) (h4:∀x∈l,x.width=sz) (cS:l≠[])
  (h6:∃b o,ad=some ⟨b,o,none⟩∧∀i c,us[i]? =some c->cell Γ.heap b (o+i)=some c):
  ∃b o,ad=some ⟨b,o,none⟩∧b<Γ.bare.heap.size∧¬Γ.bare.own b∧∀i c,us[i]? =some c->cell Γ.bare.heap b (o+i)=some c:=by
 obtain⟨b,o,e1,e2⟩:=h6
 have hlen:0<us.length:=by
  rw[h3.length,bf h4];have:0<l.length:=JkQ.2 cS;exact Nat.mul_pos this fA
 exact⟨b,o,e1,Ui (e2 0 _ (gJ hlen)),pO,e2⟩
theorem V0.rep {p p':PV} {cs:List Value} (hm:Mem Γ) (h:V0 Γ.bx p p') (hr:aD Γ [p] cs):aD Γ.bare [p'] cs:=by
 rcases h with⟨rfl,h⟩|⟨k,pth,off,len,aN,sz,c,l,rfl,hc,hl,fA,rfl⟩
 ·have:=hr.bz zq h;rwa [Bv h]at this
 ·obtain⟨v,ad,aX,us,rfl,rfl,h3,h4,h5,h6⟩:=rsV hm hr hc;have h3':=h3.aE zq hl;rw[CE hl]at h3';exact .sl sz l false ad aX h3' h4 h5 (by simp) (λcS=>CW fA h3 h4 cS (h6 cS)) .nil
theorem Ob.rep (hm:Mem Γ):∀ {l l':List PV} {cs:List Value},Ob Γ.bx l l'->aD Γ l cs->aD Γ.bare l' cs
 |[],[],cs,_,hr=>by cases hr;exact .nil
 |[],_::_,cs,h,_=>h.elim
 |_::_,[],cs,h,_=>h.elim
 |
  p::r,p'::r',cs,h,hr=>by
  obtain⟨c1,c2,rfl,h1,h2⟩:=aD.split (ps:=[p]) (qs:=r) hr
  exact(h.1.rep hm h1).cons (Ob.rep hm h.2 h2)
theorem Ob.aB {bx:List (Nat×aU)} {sz:Nat}:∀ {l l':List PV},Ob bx l l'->(∀x∈l,x.width=sz)->l'.length=l.length∧∀x∈l',x.width=sz
 |[],[],_,_=>⟨rfl,by simp⟩
 |[],_::_,h,_=>h.elim
 |_::_,[],h,_=>h.elim
 |
  p::r,p'::r',h,hw=>by
  obtain⟨h1,h2⟩:=Ob.aB h.2 (λx hx=>hw x (by simp[hx]))
  refine⟨by simp[h1],λx hx=> ?_⟩
  rcases cJ.1 hx with rfl|hx
  ·rw[h.1.width];exact hw p (by simp)
  ·exact h2 x hx
theorem V1.rep {p p':PV} {cs:List Value} (hm:Mem Γ) (h:V1 Γ.bx p p') (hr:aD Γ [p] cs):aD Γ.bare [p'] cs:=by
 rcases h with h|⟨sz,l,l',c,rfl,hl,rfl⟩|⟨k,pth,off,len,aN,sz,c,l,l',rfl,hc,hl,fA,rfl⟩
 ·exact h.rep hm hr
 ·cases hr with
  |
   sl sz l clip a aX h1 hw h2 h3 hb hr=>
   cases hr
   obtain⟨e1,e2⟩:=hl.aB hw
   rw[←e1]
   refine .sl sz l' c a aX (Ob.rep hm hl h1) e2 (by rw[e1];exact h2) (λh=>by rw[e1];exact h3 h) (λcS=> ?_) .nil
   obtain⟨b,o,f1,f2,_,f3⟩:=hb (λh=>cS (by rw[h]at e1;exact JmX.1 e1))
   exact⟨b,o,f1,f2,pO,f3⟩
 ·obtain⟨v,ad,aX,us,rfl,rfl,h3,h4,h5,h6⟩:=rsV hm hr hc;obtain⟨e1,e2⟩:=hl.aB h4;rw[←e1];refine .sl sz l' false ad aX (Ob.rep hm hl h3) e2 (by rw[e1];exact h5) (by simp) (λcS=> ?_) .nil;have Xg:l≠[]:=λh=>cS (by rw[h]at e1;exact JmX.1 e1);exact CW fA h3 h4 Xg (h6 Xg)
theorem V1.Uj {p p':PV} {v:Value} (hm:Mem Γ) (h:V1 Γ.bx p p') (hr:aK Γ p v):aK Γ.bare p' v:=by
 have h':=h;rcases h with h|⟨sz,l,l',c,rfl,hl,rfl⟩|⟨k,pth,off,len,aN,sz,c,l,l',rfl,hc,hl,fA,rfl⟩
 ·rcases h with⟨rfl,h⟩|⟨k,pth,off,len,aN,sz,c,l,rfl,hc,hl,fA,rfl⟩
  ·have:=hr.aE zq h;rwa [Bv h]at this
  ·have:=V1.rep hm h' (by simpa only[aK]using hr);simpa only[aK]using this
 ·have:=V1.rep hm h' (by simpa only[aK]using hr);simpa only[aK]using this
 ·have:=V1.rep hm h' (by simpa only[aK]using hr);simpa only[aK]using this
theorem XY.Uj (hm:Mem Γ):∀ {l l':List PV} {vs:List Value},XY Γ.bx l l'->eY Γ l vs->eY Γ.bare l' vs
 |[],[],[],_,_=>trivial
 |[],[],_::_,_,h=>h.elim
 |[],_::_,_,h,_=>h.elim
 |_::_,[],_,h,_=>h.elim
 |_::_,_::_,[],_,h=>h.elim
 |p::r,p'::r',v::vs,h,hr=>⟨h.1.Uj hm hr.1,XY.Uj hm h.2 hr.2⟩
theorem ae.view {f:FuncId} {args bC:List PV} {fp:List aU} {R:PV->List aU->Prop} (hA:ae P f bC [] R) (hv:XY (av 0 fp) args bC)
  (hR:∀r new,R r new->gf r=true∧new.all tU=true):
  ae P f args fp (λr xp=>∃r0 new,R r0 new∧r=aE (·+fp.length) r0∧xp=fp++new.map (az (·+fp.length))):=by
 intro Γ w vs h1 h2 h3 h4;rw[←h3]at hv;refine(hA Γ.bare w vs h1 (Na h2) (by simp[Cx.bare,av]) (hv.Uj h2 h4)).mono ?_;rintro e w' ⟨v,r,new,Γ',e1,e2,e3,e4,e5,e6,e7,e8⟩;obtain⟨g1,g2⟩:=hR r new e2;have vp:∀b,b<Γ.heap.size->Γ'.heap[b]? =Γ.heap[b]? :=λb hb=>e7.heap b hb (λh=>pO (.inl h))
 have GQ:∀k blk b,get Γ'.bx k=some blk->Γ'.ι k=some b->Γ.heap.size≤b:=by
  intro k blk b hk hb;rcases Nat.lt_or_ge b Γ.heap.size with h|h
  ·exact absurd (.inl (e7.gn b h ⟨k,blk,hk,hb⟩)) pO
  ·exact h
 let Δ:Cx:= {heap:=Γ'.heap,ι:=λk=>if k<KB+fp.length then Γ.ι k else Γ'.ι (k-fp.length),bx:=av 0 (fp++new.map (az (·+fp.length))),b9:=Γ.b9}
 have I0:∀k,k<KB+fp.length->get Δ.bx k=get Γ.bx k:=by
  intro k hk;simp only[Δ,h3,fw];split
  ·rw[List.getElem?_append_left (by omega)]
  ·rfl
 have I1:∀k,KB≤k->get Δ.bx (k+fp.length)=(get Γ'.bx k).map (az (·+fp.length)):=by
  intro k hk;simp only[Δ,e5,fw];rw[if_pos (show KB+0≤k+fp.length by omega),if_pos (show KB+0≤k by omega),List.getElem?_append_right (by omega),List.getElem?_map,show k+fp.length-KB-0-fp.length=k-KB-0 by omega]
 have hle:Le Γ Δ:=by
  refine⟨λb hb _=>vp b hb,λb hb h=> ?_,rfl,e7.size,λk blk hk=> ?_⟩
  ·obtain⟨k,blk,f1,f2⟩:=h;by_cases qF:k<KB+fp.length
   ·rw[I0 k qF]at f1;have f2':Γ.ι k=some b:=by simpa[Δ,qF]using f2
    exact⟨k,blk,f1,f2'⟩
   ·exfalso;have f2':Γ'.ι (k-fp.length)=some b:=by simpa[Δ,qF]using f2
    have:get Δ.bx (k-fp.length+fp.length)=_:=I1 (k-fp.length) (by omega);rw[show k-fp.length+fp.length=k by omega,f1]at this;obtain⟨b0,f3,_⟩:=mJ.1 this.symm;have:=GQ _ _ _ f3 f2';omega
  ·have qF:k<KB+fp.length:=by
    rw[h3,fw]at hk;split at hk
    ·have:=(iJ.1 hk).1;simp at this;omega
    ·simp at hk
   refine⟨blk,by rw[I0 k qF];exact hk,JaQ _,λ_=>⟨by simp[Δ,qF],λb hb cs e hh=>⟨cs,?_,rfl⟩⟩⟩;show Γ'.heap[b]? =_;rw[vp b (h2.lt ⟨k,blk,hk,hb⟩)];exact hh
 have aeb:Kin (·+fp.length) Γ' Δ:=by
  refine⟨rfl,λk blk hk=> ?_⟩
  have hkb:KB≤k:=by
   rw[e5,fw]at hk;split at hk
   ·assumption
   ·simp at hk
  refine⟨az (·+fp.length) blk,by rw[I1 k hkb,hk];rfl,js _ _,?_⟩;show(if k+fp.length<KB+fp.length then _ else _)=_;rw[if_neg (by omega),Nat.add_sub_cancel]
 have iA:Mem Δ:=by
  refine⟨λk blk hk=> ?_,λi j b hi hj q1 q2=> ?_,λb hb=>JiX (h2.b9 b hb) e7.size,λb hb hp=> ?_,h2.kZ hle⟩
  ·by_cases qF:k<KB+fp.length
   ·rw[I0 k qF]at hk;have:=(h2.blk k blk hk).mono hle (λb hb=>vp b (h2.lt ⟨k,blk,hk,hb⟩));have e:Δ.ι k=Γ.ι k:=by simp[Δ,qF]
    rw[e];exact this
   ·have yT:=I1 (k-fp.length) (by omega);rw[show k-fp.length+fp.length=k by omega,hk]at yT;obtain⟨b0,f3,rfl⟩:=mJ.1 yT.symm;have e:Δ.ι k=Γ'.ι (k-fp.length):=by simp[Δ,qF]
    rw[e]
    have tK:tU b0=true:=by
     rw[e5,fw]at f3;split at f3
     ·exact JeX.1 g2 b0 (JeQ f3)
     ·simp at f3
    have:=e4.blk _ _ f3;cases b0 with
    |
     box v=>
     obtain⟨b,c,e,q1,q2,q3⟩:=this
     exact⟨b,c,e,q1,q2,q3.JX aeb tK⟩
    |
     arr sz l=>
     obtain⟨q1,q2,q3⟩:=this
     refine⟨λx hx=> ?_,q2,?_⟩
     ·rw[CV]at hx
      obtain⟨y,hy,rfl⟩:=JgX.1 hx
      rw[pI];exact q1 y hy
     ·cases hι:Γ'.ι (k-fp.length)with
      |none=>trivial
      |
       some b=>
       rw[hι]at q3
       obtain⟨c,e,cs,rest,r1,r2,r3,r4⟩:=q3
       exact⟨c,e,cs,rest,r1,r2,r3.Uh aeb tK,r4⟩
    |map b ks vs l=>exact this
  ·have key:∀k b,(get Δ.bx k).isSome=true->Δ.ι k=some b->(k<KB+fp.length∧(get Γ.bx k).isSome=true∧Γ.ι k=some b∧b<Γ.heap.size)∨(KB+fp.length≤k∧(get Γ'.bx (k-fp.length)).isSome=true∧Γ'.ι (k-fp.length)=some b∧Γ.heap.size≤b):=by
    intro k b hk hb;by_cases qF:k<KB+fp.length
    ·left;rw[I0 k qF]at hk;have sN:Γ.ι k=some b:=by simpa[Δ,qF]using hb
     obtain⟨blk,lu⟩:=JaW.1 hk;exact⟨qF,hk,sN,h2.lt ⟨k,blk,lu,sN⟩⟩
    ·right;have yT:=I1 (k-fp.length) (by omega);rw[show k-fp.length+fp.length=k by omega]at yT;rw[yT]at hk;have hk3:(get Γ'.bx (k-fp.length)).isSome=true:=by simpa using hk
     have sN:Γ'.ι (k-fp.length)=some b:=by simpa[Δ,qF]using hb
     obtain⟨blk,lu⟩:=JaW.1 hk3;exact⟨by omega,hk3,sN,GQ _ _ _ lu sN⟩
   rcases key i b hi q1 with⟨a1,a2,a3,a4⟩|⟨a1,a2,a3,a4⟩<;>rcases key j b hj q2 with⟨c1,c2,c3,c4⟩|⟨c1,c2,c3,c4⟩
   ·exact h2.inj i j b a2 c2 a3 c3
   ·omega
   ·omega
   ·have:=e4.inj _ _ b a2 c2 a3 c3;omega
  ·obtain⟨k,blk,f1,f2⟩:=hb;by_cases qF:k<KB+fp.length
   ·rw[I0 k qF]at f1;have f2':Γ.ι k=some b:=by simpa[Δ,qF]using f2
    exact h2.apart b ⟨k,blk,f1,f2'⟩ hp
   ·have f2':Γ'.ι (k-fp.length)=some b:=by simpa[Δ,qF]using f2
    have yT:=I1 (k-fp.length) (by omega);rw[show k-fp.length+fp.length=k by omega,f1]at yT;obtain⟨b0,f3,_⟩:=mJ.1 yT.symm;have:=GQ _ _ _ f3 f2';have:=h2.b9 b hp;omega
 exact⟨v,_,_,Δ,e1,⟨r,new,e2,rfl,rfl⟩,e3,iA,rfl,e6.atd aeb g1,hle,e8⟩
theorem ai.aj9 {P:Program} [eE] {s:St} {d:Option Nat} {f:FuncId} {args bC:List PV} {cg:List aU} {R:PV->List aU->Prop} {K:St->Prop} {t:Tg K} (ks os:List Nat) (bL:List aU) (hA:ae P f bC cg R)
  (hg:getAll s.bx ks=some bL) (hn:(ks++os).Nodup) (Jc:∀o∈os,get s.bx o=none) (ha:ah (bT ks) args=true) (hb:bL.all (ab (bT ks))=true)
  (IZ:fP (aS (bz ks) args)=bC) (sN:bL.map (az (bz ks))=cg)
  (h:∀r fp,R r fp->(fp.length=(ks++os).length∧af (cY fp.length) r=true∧fp.all (ab (cY fp.length))=true)∧K ({s with bx:=aI s.bx (ks++os) (fp.map (az (cL (ks++os))))}.put d (aE (cL (ks++os)) r))):ai P s d f args K t:=by
 subst IZ sN;exact⟨ks,os,bL,R,hg,hn,Jc,ha,hb,ae.XG hA,h⟩
theorem ai.view {P:Program} [eE] {s:St} {d:Option Nat} {f:FuncId} {args bC args0:List PV} {cg:List aU} {R:PV->List aU->Prop} {K:St->Prop} {t:Tg K} (ks os:List Nat) (bL:List aU) (hA:ae P f args0 [] R)
  (hg:getAll s.bx ks=some bL) (hn:(ks++os).Nodup) (Jc:∀o∈os,get s.bx o=none) (ha:ah (bT ks) args=true) (hb:bL.all (ab (bT ks))=true)
  (IZ:fP (aS (bz ks) args)=bC) (sN:bL.map (az (bz ks))=cg) (hV:XY (av 0 cg) bC args0) (hR:∀r new,R r new->(gf r=true∧new.all tU=true)∧new.length=os.length)
  (h:∀r new,R r new->(af (cY (cg.length+new.length)) (aE (·+cg.length) r)=true∧(cg++new.map (az (·+cg.length))).all (ab (cY (cg.length+new.length)))=true)∧
   K ({s with bx:=aI s.bx (ks++os) ((cg++new.map (az (·+cg.length))).map (az (cL (ks++os))))}.put d (aE (cL (ks++os)) (aE (·+cg.length) r)))):ai P s d f args K t:=by
 refine ai.aj9 ks os bL (ae.view hA hV λr new hr=>(hR r new hr).1) hg hn Jc ha hb IZ sN ?_;rintro r fp ⟨r0,new,hr,rfl,rfl⟩;have hl:cg.length=ks.length:=by rw[←sN,JaX];exact(dD hg).1
 obtain⟨⟨h1,h2⟩,h3⟩:=h r0 new hr;have e:(cg++new.map (az (·+cg.length))).length=cg.length+new.length:=by simp
 rw[e];exact⟨⟨by rw[JaJ,hl,(hR r0 new hr).2],h1,h2⟩,h3⟩
theorem ai.gR {P:Program} [eE] {s:St} {d:Option Nat} {f:FuncId} {args bC:List PV} {cg:List aU} {R:PV->List aU->Prop} {K:St->Prop} {t:Tg K} (ks os:List Nat) (bL:List aU) (hA:ae P f bC cg R) (hb:bL.all (ab (bT ks))=true) (sN:bL.map (az (bz ks))=cg) (h:∀r fp,R r fp->(fp.length=(ks++os).length∧af (cY fp.length) r=true∧fp.all (ab (cY fp.length))=true)∧K ({s with bx:=aI s.bx (ks++os) (fp.map (az (cL (ks++os))))}.put d (aE (cL (ks++os)) r))) (hg:getAll s.bx ks=some bL:=by simp[getAll]) (hn:(ks++os).Nodup:=by simp) (Jc:∀o∈os,get s.bx o=none:=by simp) (ha:ah (bT ks) args=true:=by simp[ah,af,bT,idx]) (IZ:fP (aS (bz ks) args)=bC:=by simp[aS,aE,bz,idx]):ai P s d f args K t:=ai.aj9 ks os bL hA hg hn Jc ha hb IZ sN h
theorem ai.vA {P:Program} [eE] {s:St} {d:Option Nat} {f:FuncId} {args bC args0:List PV} {cg:List aU} {R:PV->List aU->Prop} {K:St->Prop} {t:Tg K} (ks os:List Nat) (bL:List aU) (hA:ae P f args0 [] R) (hb:bL.all (ab (bT ks))=true) (sN:bL.map (az (bz ks))=cg) (hV:XY (av 0 cg) bC args0) (hR:∀r new,R r new->(gf r=true∧new.all tU=true)∧new.length=os.length) (h:∀r new,R r new->(af (cY (cg.length+new.length)) (aE (·+cg.length) r)=true∧(cg++new.map (az (·+cg.length))).all (ab (cY (cg.length+new.length)))=true)∧K ({s with bx:=aI s.bx (ks++os) ((cg++new.map (az (·+cg.length))).map (az (cL (ks++os))))}.put d (aE (cL (ks++os)) (aE (·+cg.length) r)))) (hg:getAll s.bx ks=some bL:=by simp[getAll]) (hn:(ks++os).Nodup:=by simp) (Jc:∀o∈os,get s.bx o=none:=by simp) (ha:ah (bT ks) args=true:=by simp[ah,af,bT,idx]) (IZ:fP (aS (bz ks) args)=bC:=by simp[aS,aE,bz,idx]):ai P s d f args K t:=ai.view ks os bL hA hg hn Jc ha hb IZ sN hV hR h
end Go.Ab

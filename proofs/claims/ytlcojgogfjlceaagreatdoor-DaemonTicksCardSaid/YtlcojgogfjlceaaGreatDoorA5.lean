/- Rules by which the abstract reading is worked out. No condition. -/
import Derived.Test.YtlcojgogfjlceaaGreatDoorA4
set_option linter.all false
namespace Go.Ab
variable [cL]
variable {P:Program}
structure Pure (p:PV):Prop where
 refs:∀f,af f p=true
 aE:∀ρ,aE ρ p=p
 iQ:∀k sz l0,iQ k sz l0 p=p
structure an (l:List PV):Prop where
 refs:∀f,ah f l=true
 aE:∀ρ,aR ρ l=l
 iQ:∀k sz l0,jh k sz l0 l=l
theorem Pure.of {p:PV} (h:af (λ_=>false) p=true):Pure p where
 refs f:=jH (by simp) p h
 aE ρ:=sH h
 iQ k sz l0:=F1 p (jH (by simp) p h)
theorem an.of {l:List PV} (h:ah (λ_=>false) l=true):an l where
 refs f:=dt (by simp) l h
 aE ρ:=re h
 iQ k sz l0:=pF l (dt (by simp) l h)
theorem an.mk' {l:List PV} (h:∀p∈l,Pure p):an l:=by
 refine an.of ?_;induction l with
 |nil=>rfl
 |cons p l ih=>simp only[ah,aJ];exact⟨(h p (by simp)).refs _,ih λq hq=>h q (by simp[hq])⟩
theorem an.map {α:Type} {e:α->PV} (h:∀x,Pure (e x)) (l:List α):an (l.map e):=
 an.mk' λp hp=>by obtain⟨x,_,rfl⟩:=JhW.1 hp;exact h x
theorem an.forget {l:List PV} (h:an l):∀p∈l,Pure p:=by
 intro p hp;have h0:=h.refs (λ_=>false);refine Pure.of ?_;clear h;induction l with
 |nil=>simp at hp
 |
  cons q l ih=>
  simp only[ah,aJ]at h0
  rcases cJ.1 hp with rfl|hp
  ·exact h0.1
  ·exact ih hp h0.2
theorem an.append {l m:List PV} (h:an l) (h':an m):an (l++m):=
 an.mk' λp hp=>by rcases JaZ.1 hp with hp|hp;exact h.forget p hp;exact h'.forget p hp
theorem an.take {l:List PV} (h:an l) (n:Nat):an (l.take n):=an.mk' λp hp=>h.forget p (JbX hp)
theorem an.drop {l:List PV} (h:an l) (n:Nat):an (l.drop n):=an.mk' λp hp=>h.forget p (JdJ hp)
theorem an.sl {l:List PV} (h:an l) (sz:Nat) (c:Bool):Pure (.sl sz l c):=Pure.of (by simp only[af];exact h.refs _)
theorem an.st {l:List PV} (h:an l) (w:Nat):Pure (.st w l):=Pure.of (by simp only[af];exact h.refs _)
theorem an.ar {l:List PV} (h:an l) (sz n:Nat):Pure (.ar sz n l):=Pure.of (by simp only[af];exact h.refs _)
def u6 (sz bytes:Nat) (z:PV):cM:=⟨8,[.mv (.t 2)],
 .seq (.region [⟨(some 2),none,true,.mv (.c (.sl sz [] true))⟩])
 (.seq
    (.seq (.region [⟨(some 3),none,true,.mv (.t 0)⟩,
    ⟨(some 4),none,false,.isNil false (.t 3)⟩])
  (.cond (.t 4)
   (.seq (.region [⟨(some 2),none,true,.mv (.c (.sl sz [] true))⟩])
   (.ret))
   (.skip)))
 (.seq (.region [⟨(some 5),none,false,.buildSlice false sz z 0 []⟩,
   ⟨(some 6),none,true,.mv (.t 0)⟩,
   ⟨(some 7),none,false,.append sz bytes false (.t 5) (.t 6)⟩,
   ⟨(some 2),none,true,.mv (.t 7)⟩])
 (.ret)))⟩
theorem EW {f:FuncId} {sz bytes:Nat} {z:PV} (ht:nk P [] [] f=some (u6 sz bytes z).er) (fH:0<sz) {l:List PV} (hr:an l) (c:Bool) (h1:l.length*bytes≤140737488355328) (h2:l.length≤9223372036854775807):
  ae P f [.sl sz l c] [] (λr fp=>r= .rs KB [] 0 l.length l.length sz .tip∧fp=[.arr sz l]):=by
 refine ae.intro ht (by simp[u6]) ?_;simp[u6,aw,K6,fX,jX,pE,ev,ex,vg,vx,get,aj,AN,av,St.put,put,Cf,cr,src,content,fW];refine⟨⟨⟨h1,h2⟩,?_⟩,?_⟩
 ·refine⟨[],[7],?_⟩;simp[iR,get,I6,ev,vg,vx,getAll,dS,dj,PV.flat,hr.refs,hr.aE,af,ab,az,aE,bz,idx,bR]
 ·rintro rfl;refine⟨[.vt 2 7 sz],[7],?_⟩;simp[iR,gU,vt1,fH,get,put,I6,ev,vg,vx,getAll,dS,dj,PV.flat,af,ah,ab,az,aE,aR,bz,idx,bR]
end Go.Ab
namespace Go.Ab
variable [cL]
variable {P:Program} [eJ]
@[congr] theorem aiK {mx:Bool} {a a':Int} {l l':List PV} {K:Int->Prop} (h1:a=a') (h2:l=l'):nM mx a l K=nM mx a' l' K:=by subst h1 h2;rfl
@[congr] theorem aso {s s':St} {o:AO} {K:St->Prop} (h:s=s'):fX P s o K=fX P s' o K:=by subst h;rfl
@[congr] theorem awT {s s':St} {c:b7} {Q:Exit->St->Prop} (h:s=s'):aw P c Q s=aw P c Q s':=by subst h;rfl
@[congr] theorem ao0 {s s':St} {c:List Cut} {K:St->Prop} (h:s=s'):iR c s K=iR c s' K:=by subst h;rfl
end Go.Ab
namespace Go.Ab
variable [cL]
variable {P:Program} {s:St} {g:Bool}
def bF {α:Type}:Option α->(α->Prop)->Prop
 |some a,K=>K a
 |none,_=>False
@[congr] theorem ao1 {α:Type} {o o':Option α} {K:α->Prop} (h:o=o'):bF o K=bF o' K:=by subst h;rfl
@[simp↓] theorem EX {α:Type} (a:α) (K:α->Prop):bF (some a) K=K a:=id rfl
@[simp↓] theorem ae7 {α:Type} (K:α->Prop):bF none K=False:=id rfl
def ed (g:Bool):PV->(PV->Prop)->Prop
 | .gd b p,K=>(g=true->b=true)∧K p
 |p,K=>K p
@[congr] theorem asp {g g':Bool} {p p':PV} {K:PV->Prop} (h:g=g') (h1:p=p'):ed g p K=ed g' p' K:=by subst h h1;rfl
theorem iG (x:AX) (K:PV->Prop):vg g s x K=ed g (vx s x) K:=by unfold vg;cases vx s x<;>rfl
def yz (x:Bool) (K:PV->Prop):PV->PV->Prop
 | .bl ya,.bl yb=>K (.bl (bif x then ya else yb))
 | .bl ya,.gd gb (.bl yb)=>(x=false->gb=true)∧K (.bl (bif x then ya else yb))
 | .gd ga (.bl ya),.bl yb=>(x=true->ga=true)∧K (.bl (bif x then ya else yb))
 | .gd ga (.bl ya),.gd gb (.bl yb)=>((x=true->ga=true)∧(x=false->gb=true))∧K (.bl (bif x then ya else yb))
 | .bl ya,.un=>x=true∧K (.bl ya)
 | .un,.bl yb=>x=false∧K (.bl yb)
 |_,_=>False
@[congr] theorem aiL {x x':Bool} {K:PV->Prop} {p p' q q':PV} (h:x=x') (h1:p=p') (h2:q=q'):yz x K p q=yz x' K p' q':=by subst h h1 h2;rfl
def XP (s:St) (a b:AX) (K:PV->Prop):PV->Prop
 | .bl x=>yz x K (vx s a) (vx s b)
 |_=>False
theorem aaU (c a b:AX) (K:PV->Prop):ev g s (.pick c a b) K=ed g (vx s c) (XP s a b K):=by
 simp only[ev,iG];congr 1
def F8 (ps:List (Nat×PV)) (K:PV->Prop):PV->Prop
 | .st w l=>bF (cr l ps) λl'=>K (.st w l')
 | .ar sz n l=>bF (cr l ps) λl'=>K (.ar sz n l')
 |_=>False
theorem TU (z:PV) (parts:List (Nat×AX)) (K:PV->Prop):ev g s (.build z parts) K=Cf g s parts λps=>F8 ps K z:=by
 simp only[ev];congr 1;funext ps;cases z<;>simp only[F8]<;>first|rfl|(unfold bF;(repeat' split)<;>simp_all;done)
def Lo (s:St) (agg:Bool) (w:Nat) (K:PV->Prop):PV->Prop
 | .pt k p aO=>bF (get s.bx k) λblk=>bF (oU blk p) λu=>(aO=blk.aO∧u.width=w∧u.isAgg=agg)∧K u
 | .fp sz l p=>bF (oU (.arr sz l) p) λu=>(u.width=w∧u.isAgg=agg)∧K u
 |_=>False
theorem aaV (agg:Bool) (w:Nat) (x:AX) (K:PV->Prop):ev g s (.load agg w x) K=ed g (vx s x) (Lo s agg w K):=by
 simp only[ev,iG];congr 1;funext p;cases p<;>simp only[Lo]<;>first|rfl|(unfold bF;(repeat' split)<;>simp_all;done)
def TV (s:St) (K:PV->Prop):PV->Prop
 | .pt k p aO=>bF (get s.bx k) λblk=>aO=blk.aO∧K (.pt k p aO)
 | .fp sz l p=>K (.fp sz l p)
 | .fn (.func f) a b=>K (.fn (.func f) a b)
 |_=>False
theorem JL (x:AX) (K:PV->Prop):ev g s (.nilCheck x) K=ed g (vx s x) (TV s K):=by
 simp only[ev,iG];congr 1;funext p;cases p<;>(try(rename_i f a b;cases f))<;>simp only[TV]<;>first|rfl|(unfold bF;(repeat' split)<;>simp_all;done)
def PM (s:St) (op:BinOp) (K:PV->Prop):PV->PV->Prop
 | .np,.np=>qe op true K
 | .pt k _ aO,.np=>bF (get s.bx k) λblk=>aO=blk.aO∧qe op false K
 | .fp _ _ _,.np=>qe op false K
 |_,_=>False
def jY (op:BinOp) (K:PV->Prop):PV->PV->Prop
 | .int k a,.int k' b=>(op= .shl∨op= .shr∨k=k')∧qU op k a b K
 | .str a,.str b=>zc op a b K
 |_,_=>False
def aiM (op:BinOp) (K:PV->Prop):PV->PV->Prop
 | .bl a,.bl b=>qe op (a==b) K
 |_,_=>False
def aiN (op:BinOp) (K:PV->Prop):PV->PV->Prop
 | .nf,.nf=>qe op true K
 | .fn _ _ _,.nf=>qe op false K
 |_,_=>False
theorem aaW (op:BinOp) (x y:AX) (K:PV->Prop):ev g s (.bin op .no x y) K=ed g (vx s x) λp=>ed g (vx s y) λq=>jY op K p q:=by
 simp only[ev,iG];congr 1
theorem aaX (op:BinOp) (x y:AX) (K:PV->Prop):ev g s (.bin op .bl x y) K=ed g (vx s x) λp=>ed g (vx s y) λq=>aiM op K p q:=by
 simp only[ev,iG];congr 1
theorem aaY (op:BinOp) (x y:AX) (K:PV->Prop):ev g s (.bin op .fnc x y) K=ed g (vx s x) λp=>ed g (vx s y) λq=>aiN op K p q:=by
 simp only[ev,iG];congr 1
theorem aaZ (op:BinOp) (x y:AX) (K:PV->Prop):ev g s (.bin op .ptr x y) K=ed g (vx s x) λp=>ed g (vx s y) λq=>PM s op K p q:=by
 simp only[ev,iG];congr 1;funext p;congr 1;funext q;cases p<;>cases q<;>simp only[sx,PM]<;>first|rfl|(unfold bF;(repeat' split)<;>simp_all;done)
theorem aa0 (op:BinOp) (sh:Sh) (x y:AX) (K:PV->Prop):ev g s (.bin op (.sh sh) x y) K=ed g (vx s x) λp=>ed g (vx s y) λq=>(fits sh p=true∧fits sh q=true)∧qe op (PV.beq p q) K:=by
 simp only[ev,iG];congr 1
def u7 (K:Int->Prop):PV->Prop
 | .int _ n=>K n
 |_=>False
theorem qx (p:PV) (K:Int->Prop):pC p K=u7 K p:=by cases p<;>rfl
def unK (op:UnOp) (K:PV->Prop):PV->Prop
 | .bl b=>(match op with| .not=>K (.bl (!b))|_=>False)
 | .int k n=>(match op with| .neg=>K (.int k (k.wrap (0-n)))| .xor=>K (.int k (bits .xor k (if k.signed then-1 else k.max) n))|_=>False)
 |_=>False
theorem asr (op:UnOp) (x:AX) (K:PV->Prop):ev g s (.un op x) K=ed g (vx s x) (unK op K):=by
 simp only[ev,iG];congr 1;funext p;cases p<;>cases op<;>rfl
def zL (s:St) (K:Nat->List PV->Prop):PV->Prop
 | .sl sz l _=>K sz l
 |
  .rs k p off len aO sz _=>bF (get s.bx k) λ
  | .arr bP l=>(aO=l.length∧p=[]∧sz=bP∧off+len≤l.length)∧K sz ((l.drop off).take len)
  |
   .box v=>bF (aM v p) λ
   | .ar bP n l=>(aO=0∧sz=bP∧off+len≤n)∧K sz ((l.drop off).take len)
   |_=>False
  | .map .. =>False
 |_=>False
theorem vV (p:PV) (K:Nat->List PV->Prop):content s p K=zL s K p:=by
 cases p<;>simp only[content,zL];rename_i k p off len aO sz c;cases get s.bx k with
 |none=>rfl
 |
  some b=>
  cases b with
  |arr bP l=>rfl
  |
   box v=>
   simp only[EX]
   cases aM v p with
   |none=>rfl
   |some u=>cases u<;>rfl
  |map b ks vs l=>rfl
theorem TW (x:AX) (K:PV->Prop):ev g s (.convS x) K=ed g (vx s x) (zL s λsz l=>sz=1∧bF (gN l) λbs=>K (.str bs)):=by
 simp only[ev,iG];congr 1;funext p;rw[vV];congr 1;funext sz l;cases gN l<;>rfl
def BJ (s:St) (i off:Nat) (K:PV->Prop):PV->Prop
 | .pt k p aO=>bF (get s.bx k) λblk=>aO=blk.aO∧K (.pt k (p++[.f i off]) aO)
 | .fp sz l p=>K (.fp sz l (p++[.f i off]))
 |_=>False
theorem PN (i off:Nat) (x:AX) (K:PV->Prop):ev g s (.fieldA i off x) K=ed g (vx s x) (BJ s i off K):=by
 simp only[ev,iG];congr 1;funext p;cases p<;>simp only[BJ]<;>first|rfl|(unfold bF;(repeat' split)<;>simp_all;done)
def TX (s:St) (n sz:Nat) (K:PV->Prop):PV->Prop
 | .sl bP l _=>(bP=sz∧0<n∧n≤l.length)∧K (.fp sz l [.w 0 n sz])
 | .rs k p off len aO bP _=>bF (get s.bx k) λblk=>(aO=blk.aO∧bP=sz∧0<n∧n≤len)∧K (.pt k (p++[.w off n sz]) aO)
 |_=>False
theorem aiO (n sz:Nat) (x:AX) (K:PV->Prop):ev g s (.s2a n sz x) K=ed g (vx s x) (TX s n sz K):=by
 simp only[ev,iG];congr 1;funext p;cases p<;>simp only[TX]<;>first|rfl|(unfold bF;(repeat' split)<;>simp_all;done)
def PO (i off:Nat) (agg:Bool) (w:Nat) (K:PV->Prop):PV->Prop
 | .st _ l=>bF l[i]? λc=>(aB (l.take i)=off∧c.width=w∧c.isAgg=agg)∧K c
 |_=>False
theorem TY (i off:Nat) (agg:Bool) (w:Nat) (x:AX) (K:PV->Prop):ev g s (.field i off agg w x) K=ed g (vx s x) (PO i off agg w K):=by
 simp only[ev,iG];congr 1;funext p;cases p<;>simp only[PO]<;>first|rfl|(unfold bF;(repeat' split)<;>simp_all;done)
def qy (s:St) (sz:Nat) (j:Int) (K:PV->Prop):PV->Prop
 | .sl bP l _=>(bP=sz∧0≤j∧j<l.length)∧K (.fp sz l [.i j.toNat sz])
 | .rs k p off len aO bP _=>bF (get s.bx k) λblk=>(aO=blk.aO∧bP=sz∧0≤j∧j<len)∧K (.pt k (p++[.i (off+j.toNat) sz]) aO)
 |_=>False
theorem HX (sz:Nat) (x i:AX) (K:PV->Prop):ev g s (.indexA (.sl sz) x i) K=ed g (vx s x) λp=>ed g (vx s i) (u7 λj=>qy s sz j K p):=by
 simp only[ev,iG,qx];congr 1;funext p;congr 1;funext q;congr 1;funext j;cases p<;>simp only[qy]<;>first|rfl|(unfold bF;(repeat' split)<;>simp_all;done)
def Lq (s:St) (sz:Nat) (j:Int) (K:PV->Prop):PV->Prop
 | .pt k p aO=>bF (get s.bx k) λblk=>aO=blk.aO∧K (.pt k (p++[.i j.toNat sz]) aO)
 | .fp bP l p=>K (.fp bP l (p++[.i j.toNat sz]))
 |_=>False
theorem HY (n sz:Nat) (x i:AX) (K:PV->Prop):ev g s (.indexA (.ar n sz) x i) K=ed g (vx s x) λp=>ed g (vx s i) (u7 λj=>(0≤j∧j<n)∧Lq s sz j K p):=by
 simp only[ev,iG,qx];congr 1;funext p;congr 1;funext q;congr 1;funext j;cases p<;>simp only[Lq]<;>first|rfl|(unfold bF;(repeat' split)<;>simp_all;done)
@[congr] theorem aiP {s s':St} {sz:Nat} {j j':Int} {K:PV->Prop} {p p':PV} (h:s=s') (h1:j=j') (h2:p=p'):qy s sz j K p=qy s' sz j' K p':=by subst h h1 h2;rfl
def aa1 (agg:Bool) (n w:Nat) (j:Int) (K:PV->Prop):PV->Prop
 | .ar sz n' l=>bF l[j.toNat]? λc=>(0≤j∧j<n∧n'=n∧sz=w∧c.isAgg=agg)∧K c
 |_=>False
theorem TZ (agg:Bool) (n w:Nat) (x i:AX) (K:PV->Prop):ev g s (.index agg n w x i) K=ed g (vx s x) λp=>ed g (vx s i) (u7 λj=>aa1 agg n w j K p):=by
 simp only[ev,iG,qx];congr 1;funext p;congr 1;funext q;congr 1;funext j;cases p<;>simp only[aa1]<;>first|rfl|(unfold bF;(repeat' split)<;>simp_all;done)
def aa2 (j:Int) (K:PV->Prop):PV->Prop
 | .str bs=>bF bs[j.toNat]? λc=>0≤j∧K (.int .u8 c.toNat)
 |_=>False
theorem PQ (x i:AX) (K:PV->Prop):ev g s (.indexS x i) K=ed g (vx s x) λp=>ed g (vx s i) (u7 λj=>aa2 j K p):=by
 simp only[ev,iG,qx];congr 1;funext p;congr 1;funext q;congr 1;funext j;cases p<;>simp only[aa2]<;>first|rfl|(unfold bF;(repeat' split)<;>simp_all;done)
def PR (i:Nat) (K:PV->Prop):PV->Prop
 | .tup l=>bF l[i]? K
 |_=>False
@[congr] theorem ao2 {i:Nat} {K:PV->Prop} {p p':PV} (h:p=p'):PR i K p=PR i K p':=by subst h;rfl
theorem M8 (i:Nat) (x:AX) (K:PV->Prop):ev g s (.extract i x) K=PR i K (vx s x):=by
 simp only[ev];cases vx s x<;>simp only[PR]<;>first|rfl|(unfold bF;(repeat' split)<;>simp_all;done)
def yA (s:St) (K:PV->Prop):PV->Prop
 | .sl _ l _=>K (.int .i64 l.length)
 | .rs k _ _ len aO _ _=>bF (get s.bx k) λblk=>aO=blk.aO∧K (.int .i64 len)
 |_=>False
theorem aiQ (x:AX) (K:PV->Prop):ev g s (.len x) K=ed g (vx s x) (yA s K):=by
 simp only[ev,iG];congr 1;funext p;cases p<;>simp only[yA]<;>first|rfl|(unfold bF;(repeat' split)<;>simp_all;done)
end Go.Ab
namespace Go.Ab
variable [cL]
variable {P:Program} {s:St} {g:Bool}
def XQ (s:St) (g:Bool) (lo hi mx:Option AX) (K:PV->Prop):PV->Prop
 | .str bs=>mx.isNone=true∧kP g s lo hi bs.length bs.length λl h=>K (.str ((bs.take h).drop l))
 |_=>False
theorem HZ (x:AX) (lo hi mx:Option AX) (K:PV->Prop):ev g s (.slice .str x lo hi mx) K=ed g (vx s x) (XQ s g lo hi mx K):=by
 simp only[ev,iG];congr 1
def aa3 (s:St) (g:Bool) (n sz:Nat) (lo hi mx:Option AX) (K:PV->Prop):PV->Prop
 | .ar z' n' l'=>(z'=sz∧n'=n∧mx.isNone=true)∧kP g s lo hi n n λa b=>K (.sl sz ((l'.take b).drop a) (decide (b=n)))
 |_=>False
def T0 (s:St) (g:Bool) (n sz:Nat) (lo hi mx:Option AX) (K:PV->Prop):PV->Prop
 | .pt k p aO=>bF (get s.bx k) λblk=>aO=blk.aO∧mx.isNone=true∧kP g s lo hi n n λa b=>K (.rs k p a (b-a) aO sz (if b=n then .clip else .any))
 | .fp z l q=>bF (oU (.arr z l) q) (aa3 s g n sz lo hi mx K)
 |_=>False
theorem JM (n sz:Nat) (x:AX) (lo hi mx:Option AX) (K:PV->Prop):ev g s (.slice (.ar n sz) x lo hi mx) K=ed g (vx s x) (T0 s g n sz lo hi mx K):=by
 simp only[ev,iG];congr 1;funext p;cases p<;>simp only[T0]<;>first|rfl|(unfold bF;(repeat' split)<;>simp_all;done)|(rename_i z l q;cases oU (.arr z l) q with|none=>rfl|some u=>cases u<;>rfl)
def T4 (s:St) (g:Bool) (sz:Nat) (lo hi:Option AX) (K:PV->Prop):PV->Prop
 | .sl bP l clip=>kP g s lo hi l.length l.length λa b=>(bP=sz)∧K (.sl sz ((l.take b).drop a) (clip&&decide (b=l.length)))
 | .rs k p off len aO bP c=>bF (get s.bx k) λblk=>(aO=blk.aO∧bP=sz)∧kP g s lo hi len (D5 c off len aO) λa b=>K (.rs k p (off+a) (b-a) aO sz (Fz c a (decide (b=len))))
 |_=>False
theorem JN (sz:Nat) (x:AX) (lo hi:Option AX) (K:PV->Prop):ev g s (.slice (.sl sz) x lo hi none) K=ed g (vx s x) (T4 s g sz lo hi K):=by
 simp only[ev,iG];congr 1;funext p;cases p<;>simp only[T4]<;>first|rfl|(unfold bF;(repeat' split)<;>simp_all;done)
@[simp] theorem aiR (off len aO:Nat):D5 .tip off len aO=len:=_root_.id rfl
@[simp] theorem ae8 (n off len aO:Nat):D5 (.full n) off len aO=if off+n≤aO∧len≤n then n else len:=_root_.id rfl
@[simp] theorem aiS (a:Nat) (e:Bool):Fz .tip a e= .tip:=_root_.id rfl
@[simp] theorem ae9 (n a:Nat) (e:Bool):Fz (.full n) a e= .full (n-a):=_root_.id rfl
def PT (s:St) (g:Bool) (sz:Nat) (lo hi:Option AX) (m:AX) (K:PV->Prop):PV->Prop
 | .sl bP l _=>ed g (vx s m) (u7 λm=>(0≤m∧m≤l.length)∧kP g s lo hi l.length m.toNat λa b=>(bP=sz)∧K (.sl sz ((l.take b).drop a) (decide (b=m.toNat))))
 | .rs k p off len aO bP _=>bF (get s.bx k) λblk=>(aO=blk.aO∧bP=sz)∧ed g (vx s m) (u7 λm=>(0≤m∧m≤len)∧kP g s lo hi len m.toNat λa b=>K (.rs k p (off+a) (b-a) aO sz (if b=m.toNat then .clip else .any)))
 |_=>False
theorem JO (sz:Nat) (x:AX) (lo hi:Option AX) (m:AX) (K:PV->Prop):ev g s (.slice (.sl sz) x lo hi (some m)) K=ed g (vx s x) (PT s g sz lo hi m K):=by
 simp only[ev,iG];congr 1;funext p;cases p<;>simp only[PT,qx]<;>first|rfl|(unfold bF;(repeat' split)<;>simp_all;done)
def M9 (g:Bool) (s:St) (lo:Option AX) (K:Nat->Nat->Prop) (h:Nat):Prop:=
 match lo with|none=>K 0 h|some x=>ed g (vx s x) (u7 λl=>(0≤l∧l≤h)∧K l.toNat h)
theorem PU (lo:Option AX) (len cap:Nat) (K:Nat->Nat->Prop):kP g s lo none len cap K=M9 g s lo K len:=by
 cases lo<;>simp only[kP,M9,iG,qx]
theorem PW (lo:Option AX) (x:AX) (len cap:Nat) (K:Nat->Nat->Prop):kP g s lo (some x) len cap K=ed g (vx s x) (u7 λh=>(0≤h∧h≤cap)∧M9 g s lo K h.toNat):=by
 cases lo<;>simp only[kP,M9,iG,qx]
end Go.Ab
namespace Go.Ab
variable [cL]
variable {P:Program} {s:St} {g:Bool}
def T5 (s:St) (sz:Nat) (K:List PV->Prop) (q:PV):Prop:=zL s (λbP ys=>(ys=[]∨bP=sz)∧K ys) q
theorem XR (sz:Nat) (q:PV) (K:List PV->Prop):src s false sz q K=T5 s sz K q:=by simp only[src,fJ,if_false,T5,vV]
def aiT (sz:Nat) (K:List PV->Prop):PV->Prop
 | .str bs=>sz=1∧K (bs.map u8)
 |_=>False
theorem PX (sz:Nat) (q:PV) (K:List PV->Prop):src s true sz q K=aiT sz K q:=by simp only[src,if_true];cases q<;>rfl
theorem PY (d:Option Nat) (sz bytes:Nat) (str:Bool) (x y:AX) (K:St->Prop):ex s d (.append sz bytes str x y) K=ed true (vx s x) λp=>ed true (vx s y) λq=>src s str sz q λys=>fW s d sz bytes p ys K:=by
 simp only[ex,iG]
theorem T6 (k:Nat) (z:PV) (K:St->Prop):ex s (some k) (.alloc z) K=(get s.bx k=none∧K {env:=put s.env k (.pt k [] 0),bx:=put s.bx k (.box z)}):=id rfl
theorem aiU (k:Nat) (x:AX) (K:St->Prop):ex s (some k) (.box x) K=ed true (vx s x) λp=>(get s.bx k=none∧p.aT=true)∧K {env:=put s.env k (.pt k [] 0),bx:=put s.bx k (.box p)}:=by
 simp only[ex,iG]
theorem CX (d:Option Nat) (sz n:Nat) (z:PV) (parts:List (Nat×AX)) (K:St->Prop):ex s d (.buildSlice false sz z n parts) K=Cf true s parts λps=>bF (cr (List.replicate n z) (ps.map λx=>(x.1,wk x.2))) λl=>K (s.put d (.sl sz l true)):=by
 simp only[ex,fJ,if_false];congr 1;funext ps;cases cr (List.replicate n z) (ps.map λx=>(x.1,wk x.2))<;>rfl
theorem CY (k:Nat) (sz n:Nat) (z:PV) (parts:List (Nat×AX)) (K:St->Prop):ex s (some k) (.buildSlice true sz z n parts) K=Cf true s parts λps=>bF (cr (List.replicate n z) (ps.map λx=>(x.1,wk x.2))) λl=>get s.bx k=none∧K {env:=put s.env k (.rs k [] 0 n n sz .tip),bx:=put s.bx k (.arr sz l)}:=by
 simp only[ex,if_true];congr 1;funext ps;cases cr (List.replicate n z) (ps.map λx=>(x.1,wk x.2))<;>rfl
def XS (s:St) (d k len aO sz bP bytes:Nat) (ys:List PV) (K:St->Prop):aV->Prop
 | .arr sz'' l=>(aO=l.length∧len=l.length∧bP=sz∧sz''=sz∧(l.length+ys.length)*bytes≤140737488355328∧l.length+ys.length≤9223372036854775807)∧
   K {env:=put s.env d (.rs k [] 0 (l.length+ys.length) (l.length+ys.length) sz .tip),bx:=put s.bx k (.arr sz (l++ys))}
 |_=>False
theorem
    T7 (d sz bytes sz0:Nat) (l ys:List PV) (K:St->Prop):fW s (some d) sz bytes (.sl sz0 l true) ys K=((get s.bx d=none∧(l=[]∨(sz0=sz∧ys≠[]))∧(l.length+ys.length)*bytes≤140737488355328∧l.length+ys.length≤9223372036854775807)∧
    K {env:=put s.env d (.rs d [] 0 (l.length+ys.length) (l.length+ys.length) sz .tip),bx:=put s.bx d (.arr sz (l++ys))}):=rfl
theorem PZ (d sz bytes k len aO bP:Nat) (ys:List PV) (K:St->Prop):fW s (some d) sz bytes (.rs k [] 0 len aO bP .tip) ys K=bF (get s.bx k) (XS s d k len aO sz bP bytes ys K):=by
 simp only[fW];cases get s.bx k with
 |none=>rfl
 |some b=>cases b<;>rfl
def P4 (s:St) (d k len aO n sz bP bytes:Nat) (ys:List PV) (K:St->Prop):aV->Prop
 | .arr sz'' l=>(aO=l.length∧bP=sz∧sz''=sz∧len≤n∧n≤l.length∧ys≠[]∧get s.bx d=none∧(len+ys.length)*bytes≤140737488355328∧len+ys.length≤9223372036854775807)∧
    (len+ys.length≤n->K {env:=put s.env d (.rs k [] 0 (len+ys.length) aO sz (.full n)),bx:=put s.bx k (.arr sz (l.take len++ys++l.drop (len+ys.length)))})∧
    (n<len+ys.length->K {env:=put s.env d (.rs d [] 0 (len+ys.length) (len+ys.length) sz .tip),bx:=put s.bx d (.arr sz (l.take len++ys))})
 |_=>False
theorem Na (d sz bytes k len aO bP n:Nat) (ys:List PV) (K:St->Prop):fW s (some d) sz bytes (.rs k [] 0 len aO bP (.full n)) ys K=bF (get s.bx k) (P4 s d k len aO n sz bP bytes ys K):=by
 simp only[fW];cases get s.bx k with
 |none=>rfl
 |some b=>cases b<;>rfl
def apZ (s:St) (d k len aO n sz bP bytes:Nat) (z:PV) (m:Int) (K:St->Prop):aV->Prop
 | .arr sz'' l=>(get s.bx d=none∧aO=l.length∧bP=sz∧sz''=sz∧len≤n∧n≤l.length∧0<m∧n<len+m.toNat∧(len+m.toNat)*bytes≤140737488355328∧len+m.toNat≤9223372036854775807)∧
    K {env:=put s.env d (.rs d [] 0 (len+m.toNat) (len+m.toNat) sz .tip),bx:=put s.bx d (.arr sz (l.take len++List.replicate m.toNat z))}
 |_=>False
theorem JP (d sz bytes k len aO bP n:Nat) (z:PV) (m:Int) (K:St->Prop):qf s (some d) sz bytes z (.rs k [] 0 len aO bP (.full n)) m K=bF (get s.bx k) (apZ s d k len aO n sz bP bytes z m K):=by
 simp only[qf];cases get s.bx k with
 |none=>rfl
 |some b=>cases b<;>rfl
theorem Nb (d:Option Nat) (sz bytes:Nat) (z:PV) (x y:AX) (K:St->Prop):ex s d (.appendZ sz bytes z x y) K=ed true (vx s x) λp=>ed true (vx s y) (u7 λm=>qf s d sz bytes z p m K):=by
 simp only[ex,iG,qx]
theorem
    Nc (d sz bytes k off len aO bP:Nat) (p:List Step) (ys:List PV) (K:St->Prop):fW s (some d) sz bytes (.rs k p off len aO bP .clip) ys K=zL s (λsz'' l=>(get s.bx d=none∧sz''=sz∧ys≠[]∧(l.length+ys.length)*bytes≤140737488355328∧l.length+ys.length≤9223372036854775807)∧
    K {env:=put s.env d (.rs d [] 0 (l.length+ys.length) (l.length+ys.length) sz .tip),bx:=put s.bx d (.arr sz (l++ys))}) (.rs k p off len aO bP .clip):=by
 rw[←vV];cases p<;>cases off<;>rfl
end Go.Ab
namespace Go.Ab
variable [cL]
variable {P:Program} {s:St} {g:Bool} [eJ]
def JQ (s:St) (n:Nat) (v:PV) (K:St->Prop):PV->Prop
 | .pt k pth aO=>bF (get s.bx k) λblk=>bF (uP blk pth (wkb blk v)) λbn=>(aO=blk.aO∧v.width=n∧v.aT=true)∧K {s with bx:=put s.bx k bn}
 |_=>False
theorem T8 (d:Option Nat) (n:Nat) (x y:AX) (K:St->Prop):ex s d (.store n x y) K=ed true (vx s x) λp=>ed true (vx s y) λv=>JQ s n v K p:=by
 simp only[ex,iG];congr 1;funext p;congr 1;funext v;cases p<;>simp only[JQ];rename_i k pth aO;cases get s.bx k with
 |none=>rfl
 |some b=>simp only[EX];cases uP b pth (wkb b v)<;>rfl
def JR (s:St) (d:Option Nat) (ng:Bool) (K:St->Prop):PV->Prop
 | .sl _ l _=>∀b:Bool,(b=true->l=[])->K (s.put d (.bl (b !=ng)))
 | .rs k _ _ len aO _ _=>bF (get s.bx k) λblk=>aO=blk.aO∧∀b:Bool,(b=true->len=0)->K (s.put d (.bl (b !=ng)))
 |_=>False
theorem T9 (d:Option Nat) (ng:Bool) (x:AX) (K:St->Prop):ex s d (.isNil ng x) K=ed true (vx s x) (JR s d ng K):=by
 simp only[ex,iG];congr 1;funext p;cases p<;>simp only[JR];rename_i k _ _ _ _ _ _;cases get s.bx k<;>rfl
theorem H2 (k sz bytes:Nat) (z:PV) (len cap:AX) (K:St->Prop):ex s (some k) (.makeSlice sz bytes z len cap) K=ed true (vx s len) (u7 λl=>ed true (vx s cap) (u7 λc=>
  (get s.bx k=none∧0≤l∧l≤c∧c*bytes≤281474976710656∧c≤9223372036854775807)∧
    K {env:=put s.env k (.rs k [] 0 l.toNat l.toNat sz .tip),bx:=put s.bx k (.arr sz (List.replicate l.toNat z))})):=by
 simp only[ex,iG,qx]
def BK (want mg:Bool) (M:Bool->Prop) (D U:Prop):PV->Prop
 | .bl b=>if mg=true then M (b==want)else(b=want->D)∧(b≠want->U)
 | .gd g (.bl b)=>if mg=true then M (g&&b==want)else(g=true->b=want->D)∧((g=true->b≠want)->U)
 |_=>False
@[congr] theorem ass {want mg:Bool} {M:Bool->Prop} {D U:Prop} {p p':PV} (h:p=p'):BK want mg M D U p=BK want mg M D U p':=by subst h;rfl
theorem Ua (d:Option Nat) (sl:Nat) (want mg:Bool) (k:AK) (K:St->Prop):fX P s ⟨d,some (sl,want),mg,k⟩ K=
  BK want mg (λg=>ev g s k λp=>K (s.put d (.gd g p))) (jX P s ⟨d,some (sl,want),mg,k⟩ K) (K (s.put d .un)) ((get s.env sl).getD .un):=by
 simp only[fX];generalize (get s.env sl).getD .un=p;cases p<;>try rfl
def cdK (A B:Prop):PV->Prop
 | .bl b=>(b=true->A)∧(b=false->B)
 | .gd g (.bl b)=>g=true∧(b=true->A)∧(b=false->B)
 |_=>False
@[congr] theorem ast {A B:Prop} {p p':PV} (h:p=p'):cdK A B p=cdK A B p':=by subst h;rfl
theorem aa5 (c:AX) (x y:b7) (Q:Exit->St->Prop):aw P (.cond c x y) Q s=cdK (aw P x Q s) (aw P y Q s) (vx s c):=by
 simp only[aw];generalize vx s c=p;cases p<;>try rfl
def aiV (P:Program) (s:St) (d:Option Nat) (K:St->Prop) (args:List PV):PV->Prop
 | .fn (.func fid) first cap=>∃ks os,xV P s d fid (first++args++cap) ks os K
 | .fn (.yield l) [] []=>Jk s d l args K
 |_=>False
theorem Ub (K:List PV->Prop):xE g s [] K=K []:=id rfl
theorem Uc (x:AX) (xs:List AX) (K:List PV->Prop):xE g s (x::xs) K=ed g (vx s x) λp=>xE g s xs λps=>K (p::ps):=by simp only[xE,iG]
theorem Ud (K:List (Nat×PV)->Prop):Cf g s [] K=K []:=id rfl
theorem Ue (i:Nat) (x:AX) (xs:List (Nat×AX)) (K:List (Nat×PV)->Prop):Cf g s ((i,x)::xs) K=ed g (vx s x) λp=>Cf g s xs λps=>K ((i,p)::ps):=by simp only[Cf,iG]
theorem Uf (d:Option Nat) (f:AX) (args:List AX) (K:St->Prop):mX P s d f args K=ed true (vx s f) λpf=>xE true s args λps=>aiV P s d K ps pf:=by
 simp only[mX,iG];congr 1
end Go.Ab
namespace Go.Ab
variable [cL]
@[simp↓] theorem asu {g:Bool} {K:PV->Prop}:ed g .un K=K .un:=id rfl
@[simp↓] theorem asv {g:Bool} {K:PV->Prop} (cx:Bool):ed g (.bl cx) K=K (.bl cx):=id rfl
@[simp↓] theorem ao3 {g:Bool} {K:PV->Prop} (ck:IntKind) (cn:Int):ed g (.int ck cn) K=K (.int ck cn):=id rfl
@[simp↓] theorem ao4 {g:Bool} {K:PV->Prop} (cl:List UInt8):ed g (.str cl) K=K (.str cl):=id rfl
@[simp↓] theorem asw {g:Bool} {K:PV->Prop} (cw:Nat) (cl:List PV):ed g (.st cw cl) K=K (.st cw cl):=id rfl
@[simp↓] theorem asx {g:Bool} {K:PV->Prop} (cz cn:Nat) (cl:List PV):ed g (.ar cz cn cl) K=K (.ar cz cn cl):=id rfl
@[simp↓] theorem ao5 {g:Bool} {K:PV->Prop} (cl:List PV):ed g (.tup cl) K=K (.tup cl):=id rfl
@[simp↓] theorem asy {g:Bool} {K:PV->Prop} (cz:Nat) (cl:List PV) (cc:Bool):ed g (.sl cz cl cc) K=K (.sl cz cl cc):=id rfl
@[simp↓] theorem asz {g:Bool} {K:PV->Prop} (ck:Nat) (cp:List Step) (co cl ct cz:Nat) (cc:fB):ed g (.rs ck cp co cl ct cz cc) K=K (.rs ck cp co cl ct cz cc):=id rfl
@[simp↓] theorem asA {g:Bool} {K:PV->Prop}:ed g .np K=K .np:=id rfl
@[simp↓] theorem asB {g:Bool} {K:PV->Prop} (ck:Nat) (cp:List Step) (ct:Nat):ed g (.pt ck cp ct) K=K (.pt ck cp ct):=id rfl
@[simp↓] theorem asC {g:Bool} {K:PV->Prop} (cz:Nat) (cl:List PV) (cp:List Step):ed g (.fp cz cl cp) K=K (.fp cz cl cp):=id rfl
@[simp↓] theorem asD {g:Bool} {K:PV->Prop} (cf:FuncId) (ca cb:List PV):ed g (.fn (.func cf) ca cb) K=K (.fn (.func cf) ca cb):=id rfl
@[simp↓] theorem asE {g:Bool} {K:PV->Prop}:ed g .nf K=K .nf:=id rfl
@[simp↓] theorem asF {g:Bool} {K:PV->Prop} (cb:Bool) (cv:PV):ed g (.gd cb cv) K=((g=true->cb=true)∧K cv):=id rfl
@[simp↓] theorem aiW {s:St} {agg:Bool} {w:Nat} {K:PV->Prop} (ck:Nat) (cp:List Step) (ct:Nat):Lo s agg w K (.pt ck cp ct)=(bF (get s.bx ck) λblk=>bF (oU blk cp) λu=>(ct=blk.aO∧u.width=w∧u.isAgg=agg)∧K u):=id rfl
@[simp↓] theorem aiX {s:St} {agg:Bool} {w:Nat} {K:PV->Prop} (cz:Nat) (cl:List PV) (cp:List Step):Lo s agg w K (.fp cz cl cp)=(bF (oU (.arr cz cl) cp) λu=>(u.width=w∧u.isAgg=agg)∧K u):=id rfl
@[simp↓] theorem ao6 {s:St} {K:PV->Prop} (ck:Nat) (cp:List Step) (ct:Nat):TV s K (.pt ck cp ct)=(bF (get s.bx ck) λblk=>ct=blk.aO∧K (.pt ck cp ct)):=id rfl
@[simp↓] theorem ao7 {s:St} {K:PV->Prop} (cz:Nat) (cl:List PV) (cp:List Step):TV s K (.fp cz cl cp)=(K (.fp cz cl cp)):=id rfl
@[simp↓] theorem afa {ps:List (Nat×PV)} {K:PV->Prop} (cw:Nat) (cl:List PV):F8 ps K (.st cw cl)=(bF (cr cl ps) λl'=>K (.st cw l')):=id rfl
@[simp↓] theorem afb {ps:List (Nat×PV)} {K:PV->Prop} (cz cn:Nat) (cl:List PV):F8 ps K (.ar cz cn cl)=(bF (cr cl ps) λl'=>K (.ar cz cn l')):=id rfl
@[simp↓] theorem aiY {K:Int->Prop} (ck:IntKind) (cn:Int):u7 K (.int ck cn)=(K cn):=id rfl
@[simp↓] theorem ao8 {s:St} {K:Nat->List PV->Prop} (cz:Nat) (cl:List PV) (cc:Bool):zL s K (.sl cz cl cc)=(K cz cl):=id rfl
@[simp↓] theorem aa6 {s:St} {i off:Nat} {K:PV->Prop} (ck:Nat) (cp:List Step) (ct:Nat):BJ s i off K (.pt ck cp ct)=(bF (get s.bx ck) λblk=>ct=blk.aO∧K (.pt ck (cp++[.f i off]) ct)):=id rfl
@[simp↓] theorem aa7 {s:St} {i off:Nat} {K:PV->Prop} (cz:Nat) (cl:List PV) (cp:List Step):BJ s i off K (.fp cz cl cp)=(K (.fp cz cl (cp++[.f i off]))):=id rfl
@[simp↓] theorem ao9 {s:St} {n sz:Nat} {K:PV->Prop} (cz:Nat) (cl:List PV) (cc:Bool):TX s n sz K (.sl cz cl cc)=((cz=sz∧0<n∧n≤cl.length)∧K (.fp sz cl [.w 0 n sz])):=id rfl
@[simp↓] theorem apa {s:St} {n sz:Nat} {K:PV->Prop} (ck:Nat) (cp:List Step) (co cl ct cz:Nat) (cc:fB):TX s n sz K (.rs ck cp co cl ct cz cc)=(bF (get s.bx ck) λblk=>(ct=blk.aO∧cz=sz∧0<n∧n≤cl)∧K (.pt ck (cp++[.w co n sz]) ct)):=id rfl
@[simp↓] theorem aiZ {s:St} {sz:Nat} {j:Int} {K:PV->Prop} (cz:Nat) (cl:List PV) (cc:Bool):qy s sz j K (.sl cz cl cc)=((cz=sz∧0≤j∧j<cl.length)∧K (.fp sz cl [.i j.toNat sz])):=id rfl
@[simp↓] theorem ai0 {s:St} {sz:Nat} {j:Int} {K:PV->Prop} (ck:Nat) (cp:List Step) (co cl ct cz:Nat) (cc:fB):qy s sz j K (.rs ck cp co cl ct cz cc)=(bF (get s.bx ck) λblk=>(ct=blk.aO∧cz=sz∧0≤j∧j<cl)∧K (.pt ck (cp++[.i (co+j.toNat) sz]) ct)):=id rfl
@[simp↓] theorem ai1 {s:St} {sz:Nat} {j:Int} {K:PV->Prop} (ck:Nat) (cp:List Step) (ct:Nat):Lq s sz j K (.pt ck cp ct)=(bF (get s.bx ck) λblk=>ct=blk.aO∧K (.pt ck (cp++[.i j.toNat sz]) ct)):=id rfl
@[simp↓] theorem ai2 {s:St} {sz:Nat} {j:Int} {K:PV->Prop} (cz:Nat) (cl:List PV) (cp:List Step):Lq s sz j K (.fp cz cl cp)=(K (.fp cz cl (cp++[.i j.toNat sz]))):=id rfl
@[simp↓] theorem apb {agg:Bool} {n w:Nat} {j:Int} {K:PV->Prop} (cz cn:Nat) (cl:List PV):aa1 agg n w j K (.ar cz cn cl)=(bF cl[j.toNat]? λc=>(0≤j∧j<n∧cn=n∧cz=w∧c.isAgg=agg)∧K c):=id rfl
@[simp↓] theorem ai3 {j:Int} {K:PV->Prop} (cl:List UInt8):aa2 j K (.str cl)=(bF cl[j.toNat]? λc=>0≤j∧K (.int .u8 c.toNat)):=id rfl
@[simp↓] theorem ai4 {i:Nat} {K:PV->Prop} (cl:List PV):PR i K (.tup cl)=(bF cl[i]? K):=id rfl
@[simp↓] theorem apc {s:St} {K:PV->Prop} (cz:Nat) (cl:List PV) (cc:Bool):yA s K (.sl cz cl cc)=(K (.int .i64 cl.length)):=id rfl
@[simp↓] theorem apd {s:St} {K:PV->Prop} (ck:Nat) (cp:List Step) (co cl ct cz:Nat) (cc:fB):yA s K (.rs ck cp co cl ct cz cc)=(bF (get s.bx ck) λblk=>ct=blk.aO∧K (.int .i64 cl)):=id rfl
@[simp↓] theorem afc {s:St} {g:Bool} {lo hi mx:Option AX} {K:PV->Prop} (cl:List UInt8):XQ s g lo hi mx K (.str cl)=(mx.isNone=true∧kP g s lo hi cl.length cl.length λl h=>K (.str ((cl.take h).drop l))):=id rfl
@[simp↓] theorem ape {s:St} {g:Bool} {n sz:Nat} {lo hi mx:Option AX} {K:PV->Prop} (cz:Nat) (cl:List PV) (cp:List Step):T0 s g n sz lo hi mx K (.fp cz cl cp)=bF (oU (.arr cz cl) cp) (aa3 s g n sz lo hi mx K):=id rfl
@[simp↓] theorem apf {s:St} {g:Bool} {n sz:Nat} {lo hi mx:Option AX} {K:PV->Prop} (z' n':Nat) (l':List PV):aa3 s g n sz lo hi mx K (.ar z' n' l')=((z'=sz∧n'=n∧mx.isNone=true)∧kP g s lo hi n n λa b=>K (.sl sz ((l'.take b).drop a) (decide (b=n)))):=id rfl
@[simp↓] theorem apg {s:St} {g:Bool} {n sz:Nat} {lo hi mx:Option AX} {K:PV->Prop} (ck:Nat) (cp:List Step) (ct:Nat):T0 s g n sz lo hi mx K (.pt ck cp ct)=(bF (get s.bx ck) λblk=>ct=blk.aO∧mx.isNone=true∧kP g s lo hi n n λa b=>K (.rs ck cp a (b-a) ct sz (if b=n then .clip else .any))):=id rfl
@[simp↓] theorem afd {s:St} {n:Nat} {v:PV} {K:St->Prop} (ck:Nat) (cp:List Step) (ct:Nat):JQ s n v K (.pt ck cp ct)=(bF (get s.bx ck) λblk=>bF (uP blk cp (wkb blk v)) λbn=>(ct=blk.aO∧v.width=n∧v.aT=true)∧K {s with bx:=put s.bx ck bn}):=id rfl
@[simp↓] theorem afe {s:St} {d:Option Nat} {ng:Bool} {K:St->Prop} (cz:Nat) (cl:List PV) (cc:Bool):JR s d ng K (.sl cz cl cc)=(∀b:Bool,(b=true->cl=[])->K (s.put d (.bl (b !=ng)))):=id rfl
@[simp↓500] theorem asG {A B:Prop} (cx:Bool):cdK A B (.bl cx)=((cx=true->A)∧(cx=false->B)):=id rfl
@[simp↓] theorem ai5 {s:St} {a b:AX} {K:PV->Prop} (cx:Bool):XP s a b K (.bl cx)=(yz cx K (vx s a) (vx s b)):=id rfl
end Go.Ab
namespace Go.Ab
variable [cL]
variable {P:Program} {s:St} {g:Bool}
theorem asH (x:AX) (K:PV->Prop):ev g s (.mv x) K=ed g (vx s x) K:=by simp only[ev,iG]
theorem Ug (k:IntKind) (x:AX) (K:PV->Prop):ev g s (.convI k x) K=ed g (vx s x) (u7 λn=>K (.int k (k.wrap n))):=by simp only[ev,iG,qx]
theorem aa8 (n:Nat) (K:PV->Prop):ev g s (.lenC n) K=K (.int .i64 n):=id rfl
end Go.Ab
namespace Go.Ab
variable [cL]
variable {P:Program} {s:St} [eJ]
@[simp↓] theorem asI (d:Option Nat) (gd:Option (Nat×Bool)) (mg:Bool) (x:AX) (K:St->Prop):jX P s ⟨d,gd,mg,.mv x⟩ K=ev true s (.mv x) λp=>K (s.put d p):=id rfl
@[simp↓] theorem ai6 (d:Option Nat) (gd:Option (Nat×Bool)) (mg:Bool) (c a b:AX) (K:St->Prop):jX P s ⟨d,gd,mg,.pick c a b⟩ K=ev true s (.pick c a b) λp=>K (s.put d p):=id rfl
@[simp↓] theorem aff (d:Option Nat) (gd:Option (Nat×Bool)) (mg:Bool) (z:PV) (ps:List (Nat×AX)) (K:St->Prop):jX P s ⟨d,gd,mg,.build z ps⟩ K=ev true s (.build z ps) λp=>K (s.put d p):=id rfl
@[simp↓] theorem ai7 (d:Option Nat) (gd:Option (Nat×Bool)) (mg:Bool) (a:Bool) (w:Nat) (x:AX) (K:St->Prop):jX P s ⟨d,gd,mg,.load a w x⟩ K=ev true s (.load a w x) λp=>K (s.put d p):=id rfl
@[simp↓] theorem Uh (d:Option Nat) (gd:Option (Nat×Bool)) (mg:Bool) (x:AX) (K:St->Prop):jX P s ⟨d,gd,mg,.nilCheck x⟩ K=ev true s (.nilCheck x) λp=>K (s.put d p):=id rfl
@[simp↓] theorem aph (d:Option Nat) (gd:Option (Nat×Bool)) (mg:Bool) (o:BinOp) (e:ET) (x y:AX) (K:St->Prop):jX P s ⟨d,gd,mg,.bin o e x y⟩ K=ev true s (.bin o e x y) λp=>K (s.put d p):=id rfl
@[simp↓] theorem asJ (d:Option Nat) (gd:Option (Nat×Bool)) (mg:Bool) (o:UnOp) (x:AX) (K:St->Prop):jX P s ⟨d,gd,mg,.un o x⟩ K=ev true s (.un o x) λp=>K (s.put d p):=id rfl
@[simp↓] theorem afg (d:Option Nat) (gd:Option (Nat×Bool)) (mg:Bool) (k:IntKind) (x:AX) (K:St->Prop):jX P s ⟨d,gd,mg,.convI k x⟩ K=ev true s (.convI k x) λp=>K (s.put d p):=id rfl
@[simp↓] theorem afh (d:Option Nat) (gd:Option (Nat×Bool)) (mg:Bool) (x:AX) (K:St->Prop):jX P s ⟨d,gd,mg,.convS x⟩ K=ev true s (.convS x) λp=>K (s.put d p):=id rfl
@[simp↓] theorem aa9 (d:Option Nat) (gd:Option (Nat×Bool)) (mg:Bool) (f:Fn) (a b:List AX) (K:St->Prop):jX P s ⟨d,gd,mg,.mkFunc f a b⟩ K=ev true s (.mkFunc f a b) λp=>K (s.put d p):=id rfl
@[simp↓] theorem afi (d:Option Nat) (gd:Option (Nat×Bool)) (mg:Bool) (k:SK) (x:AX) (l h m:Option AX) (K:St->Prop):jX P s ⟨d,gd,mg,.slice k x l h m⟩ K=ev true s (.slice k x l h m) λp=>K (s.put d p):=id rfl
@[simp↓] theorem aba (d:Option Nat) (gd:Option (Nat×Bool)) (mg:Bool) (i o:Nat) (x:AX) (K:St->Prop):jX P s ⟨d,gd,mg,.fieldA i o x⟩ K=ev true s (.fieldA i o x) λp=>K (s.put d p):=id rfl
@[simp↓] theorem api (d:Option Nat) (gd:Option (Nat×Bool)) (mg:Bool) (n z:Nat) (x:AX) (K:St->Prop):jX P s ⟨d,gd,mg,.s2a n z x⟩ K=ev true s (.s2a n z x) λp=>K (s.put d p):=id rfl
@[simp↓] theorem afj (d:Option Nat) (gd:Option (Nat×Bool)) (mg:Bool) (a b:Sh) (K:St->Prop):jX P s ⟨d,gd,mg,.mkMap a b⟩ K=ex s d (.mkMap a b) K:=id rfl
@[simp↓] theorem abb (d:Option Nat) (gd:Option (Nat×Bool)) (mg:Bool) (a b:Sh) (z:PV) (ok:Bool) (m x:AX) (K:St->Prop):jX P s ⟨d,gd,mg,.mapGet a b z ok m x⟩ K=ex s d (.mapGet a b z ok m x) K:=id rfl
@[simp↓] theorem abc (d:Option Nat) (gd:Option (Nat×Bool)) (mg:Bool) (a b:Sh) (m x y:AX) (K:St->Prop):jX P s ⟨d,gd,mg,.mapSet a b m x y⟩ K=ex s d (.mapSet a b m x y) K:=id rfl
@[simp↓] theorem abd (d:Option Nat) (gd:Option (Nat×Bool)) (mg:Bool) (k:SK) (x i:AX) (K:St->Prop):jX P s ⟨d,gd,mg,.indexA k x i⟩ K=ev true s (.indexA k x i) λp=>K (s.put d p):=id rfl
@[simp↓] theorem afk (d:Option Nat) (gd:Option (Nat×Bool)) (mg:Bool) (a:Bool) (n w:Nat) (x i:AX) (K:St->Prop):jX P s ⟨d,gd,mg,.index a n w x i⟩ K=ev true s (.index a n w x i) λp=>K (s.put d p):=id rfl
@[simp↓] theorem abe (d:Option Nat) (gd:Option (Nat×Bool)) (mg:Bool) (x i:AX) (K:St->Prop):jX P s ⟨d,gd,mg,.indexS x i⟩ K=ev true s (.indexS x i) λp=>K (s.put d p):=id rfl
@[simp↓] theorem XT (d:Option Nat) (gd:Option (Nat×Bool)) (mg:Bool) (i:Nat) (x:AX) (K:St->Prop):jX P s ⟨d,gd,mg,.extract i x⟩ K=ev true s (.extract i x) λp=>K (s.put d p):=id rfl
@[simp↓] theorem apj (d:Option Nat) (gd:Option (Nat×Bool)) (mg:Bool) (x:AX) (K:St->Prop):jX P s ⟨d,gd,mg,.len x⟩ K=ev true s (.len x) λp=>K (s.put d p):=id rfl
@[simp↓] theorem apk (d:Option Nat) (gd:Option (Nat×Bool)) (mg:Bool) (x:AX) (K:St->Prop):jX P s ⟨d,gd,mg,.cap x⟩ K=ev true s (.cap x) λp=>K (s.put d p):=id rfl
@[simp↓] theorem XU (d:Option Nat) (gd:Option (Nat×Bool)) (mg:Bool) (sz b:Nat) (z:PV) (x y:AX) (K:St->Prop):jX P s ⟨d,gd,mg,.appendZ sz b z x y⟩ K=ex s d (.appendZ sz b z x y) K:=id rfl
@[simp↓] theorem asK (d:Option Nat) (gd:Option (Nat×Bool)) (mg:Bool) (m:Bool) (xs:List AX) (K:St->Prop):jX P s ⟨d,gd,mg,.mm m xs⟩ K=ev true s (.mm m xs) λp=>K (s.put d p):=id rfl
@[simp↓] theorem afl (d:Option Nat) (gd:Option (Nat×Bool)) (mg:Bool) (z:PV) (K:St->Prop):jX P s ⟨d,gd,mg,.alloc z⟩ K=ex s d (.alloc z) K:=id rfl
@[simp↓] theorem apl (d:Option Nat) (gd:Option (Nat×Bool)) (mg:Bool) (x:AX) (K:St->Prop):jX P s ⟨d,gd,mg,.box x⟩ K=ex s d (.box x) K:=id rfl
@[simp↓] theorem P5 (d:Option Nat) (gd:Option (Nat×Bool)) (mg:Bool) (o:Bool) (sz:Nat) (z:PV) (n:Nat) (ps:List (Nat×AX)) (K:St->Prop):jX P s ⟨d,gd,mg,.buildSlice o sz z n ps⟩ K=ex s d (.buildSlice o sz z n ps) K:=id rfl
@[simp↓] theorem SC (d:Option Nat) (gd:Option (Nat×Bool)) (mg:Bool) (sz b:Nat) (z:PV) (l c:AX) (K:St->Prop):jX P s ⟨d,gd,mg,.makeSlice sz b z l c⟩ K=ex s d (.makeSlice sz b z l c) K:=id rfl
@[simp↓] theorem afm (d:Option Nat) (gd:Option (Nat×Bool)) (mg:Bool) (w:Nat) (a x:AX) (K:St->Prop):jX P s ⟨d,gd,mg,.store w a x⟩ K=ex s d (.store w a x) K:=id rfl
@[simp↓] theorem abf (d:Option Nat) (gd:Option (Nat×Bool)) (mg:Bool) (sz b:Nat) (st:Bool) (x y:AX) (K:St->Prop):jX P s ⟨d,gd,mg,.append sz b st x y⟩ K=ex s d (.append sz b st x y) K:=id rfl
@[simp↓] theorem ai8 (d:Option Nat) (gd:Option (Nat×Bool)) (mg:Bool) (sz:Nat) (x y:AX) (K:St->Prop):jX P s ⟨d,gd,mg,.copy sz x y⟩ K=ex s d (.copy sz x y) K:=id rfl
@[simp↓] theorem ai9 (d:Option Nat) (gd:Option (Nat×Bool)) (mg:Bool) (sz:Nat) (z:PV) (x:AX) (K:St->Prop):jX P s ⟨d,gd,mg,.fill sz z x⟩ K=ex s d (.fill sz z x) K:=id rfl
@[simp↓] theorem afn (d:Option Nat) (gd:Option (Nat×Bool)) (mg:Bool) (x:AX) (K:St->Prop):jX P s ⟨d,gd,mg,.convL x⟩ K=ex s d (.convL x) K:=id rfl
@[simp↓] theorem afo (d:Option Nat) (gd:Option (Nat×Bool)) (mg:Bool) (ng:Bool) (x:AX) (K:St->Prop):jX P s ⟨d,gd,mg,.isNil ng x⟩ K=ex s d (.isNil ng x) K:=id rfl
@[simp↓] theorem aja (d:Option Nat) (gd:Option (Nat×Bool)) (mg:Bool) (f:AX) (l:List AX) (K:St->Prop):jX P s ⟨d,gd,mg,.call f l⟩ K=mX P s d f l K:=id rfl
@[simp↓] theorem afp (d:Option Nat) (gd:Option (Nat×Bool)) (mg:Bool) (f:AX) (l:List AX) (K:St->Prop):jX P s ⟨d,gd,mg,.callq f l⟩ K=ql P s d f l K:=id rfl
end Go.Ab
namespace Go.Ab
variable [cL]
variable {P:Program} {s:St}
theorem JS {d:Option Nat} {f:FuncId} {args:List PV} {R:PV->Prop} {K:St->Prop} (hA:ae P f args [] (λr fp=>R r∧fp=[])) (hp:an args) (hr:∀r,R r->Pure r) (h:∀r,R r->K (s.put d r)):
  ∃ks os,xV P s d f args ks os K:=by
 refine⟨[],[],[],(λr fp=>R r∧fp=[]),rfl,by simp,by simp,hp.refs _,rfl,?_,?_⟩
 ·rw[hp.aE];exact hA
 ·rintro r fp ⟨hR,rfl⟩;refine⟨⟨rfl,(hr r hR).refs _,rfl⟩,?_⟩;rw[(hr r hR).aE];exact h r hR
theorem Nd {d:Option Nat} {f:FuncId} {args:List PV} {sz:Nat} {R:List PV->Prop} {K:St->Prop} (o:Nat) (hA:ae P f args [] (λr fp=>∃l,R l∧r= .rs KB [] 0 l.length l.length sz .tip∧fp=[.arr sz l])) (hp:an args) (ho:get s.bx o=none)
  (hl:∀l,R l->an l) (h:∀l,R l->K ({s with bx:=put s.bx o (.arr sz l)}.put d (.rs o [] 0 l.length l.length sz .tip))):∃ks os,xV P s d f args ks os K:=by
 refine⟨[],[o],[],(λr fp=>∃l,R l∧r= .rs KB [] 0 l.length l.length sz .tip∧fp=[.arr sz l]),rfl,by simp,by simpa using ho,hp.refs _,rfl,?_,?_⟩
 ·rw[hp.aE];exact hA
 ·rintro r fp ⟨l,hR,rfl,rfl⟩;have oR:=hl l hR;have e:cU [o] KB=o:=by simp[cU]
  refine⟨⟨rfl,by simp[af,c9],by simp[ab,oR.refs]⟩,?_⟩;simpa[aI,az,oR.aE,aE,e]using h l hR
end Go.Ab
namespace Go.Ab
variable [cL]
variable {P:Program} {s:St} {g:Bool} [eJ]
attribute [simp↓] aaU TU aaV JL aaZ aaY aaW aaX aa0 qx asr vV TW PN aiO TY HX HY TZ PQ M8 aiQ
 HZ JM JN JO PU PW XR PX PY T6 aiU CX CY T7 PZ Na JP Nb Nc
 T8 T9 H2 Ub Uc Ud Ue asH Ug aa8
inductive Tg {α:Sort _} (a:α):Type
 |mk
def ai (P:Program) (s:St) (d:Option Nat) (f:FuncId) (args:List PV) (K:St->Prop) (_:Tg K):Prop:=∃ks os,xV P s d f args ks os K
def aN (P:Program) (s:St) (d:Option Nat) (f:FuncId) (args:List PV) (K:St->Prop) (_:Tg K):Prop:=
 ∃v,(ah (λ_=>false) args=true∧af (λ_=>false) v=true)∧ae P f args [] (λr fp=>r=v∧fp=[])∧K (s.put d v)
def yS (s:St) (d:Option Nat) (l:Nat) (args:List PV) (K:St->Prop) (_:Tg K):Prop:=Jk s d l args K
def P6 (P:Program) (s:St) (d:Option Nat) (K:St->Prop) (t:Tg K) (args:List PV):PV->Prop
 | .fn (.func fid) first cap=>ai P s d fid (first++args++cap) K t
 | .fn (.yield l) [] []=>yS s d l args K t
 |_=>False
def P7 (P:Program) (s:St) (d:Option Nat) (K:St->Prop) (t:Tg K) (args:List PV):PV->Prop
 | .fn (.func fid) first cap=>aN P s d fid (first++args++cap) K t
 |_=>False
@[simp↓] theorem afq (d:Option Nat) (K:St->Prop) (t:Tg K) (l a b:List PV) (f:FuncId):P6 P s d K t l (.fn (.func f) a b)=ai P s d f (a++l++b) K t:=_root_.id rfl
@[simp↓] theorem afr (d:Option Nat) (K:St->Prop) (t:Tg K) (l a b:List PV) (f:FuncId):P7 P s d K t l (.fn (.func f) a b)=aN P s d f (a++l++b) K t:=_root_.id rfl
@[simp↓] theorem apm (d:Option Nat) (f:AX) (args:List AX) (K:St->Prop):mX P s d f args K=ed true (vx s f) λpf=>xE true s args λps=>P6 P s d K .mk ps pf:=by
 rw[Uf];congr 1
@[simp↓] theorem apn (d:Option Nat) (f:AX) (args:List AX) (K:St->Prop):ql P s d f args K=ed true (vx s f) λpf=>xE true s args λps=>P7 P s d K .mk ps pf:=by
 simp only[ql,iG];congr 1
@[simp↓] theorem ayB (n:Nat):vx s (.t n)=(get s.env n).getD .un:=_root_.id rfl
@[simp↓] theorem ayC (p:PV):vx s (.c p)=p:=_root_.id rfl
@[simp↓] theorem get_nil {α:Type} (n:Nat):get ([]:List (Nat×α)) n=none:=_root_.id rfl
@[simp↓] theorem ajb {α:Type} (k n:Nat) (v:α) (r:List (Nat×α)):get ((k,v)::r) n=if k=n then some v else get r n:=_root_.id rfl
@[simp↓] theorem apo {α:Type} (n:Nat) (x:α):put [] n x=[(n,x)]:=_root_.id rfl
@[simp↓] theorem ajc {α:Type} (k n:Nat) (v x:α) (r:List (Nat×α)):put ((k,v)::r) n x=if k=n then(n,x)::r else if n<k then(n,x)::(k,v)::r else(k,v)::put r n x:=_root_.id rfl
@[simp↓] theorem abg (d:Nat) (p:PV):s.put (some d) p= {s with env:=put s.env d p}:=_root_.id rfl
@[simp↓] theorem abh (p:PV):s.put none p=s:=_root_.id rfl
@[simp↓] theorem apq (K:St->Prop):K6 P s [] K=K s:=_root_.id rfl
@[simp↓] theorem ajd (o:AO) (l:List AO) (K:St->Prop):K6 P s (o::l) K=fX P s o λs'=>K6 P s' l K:=_root_.id rfl
def eW (P:Program) (x:b7) (Q:Exit->St->Prop) (_:Tg (x,Q)) (s:St):Prop:=Lp (λQ s=>aw P x Q s) Q s
def SE (P:Program) (x y:b7) (Q:Exit->St->Prop) (_:Tg (x,y,Q)) (s:St):Prop:=Md (λQ s=>aw P x Q s) (λQ s=>aw P y Q s) Q s
def aA (n:Nat) (res:List AK) (R:PV->List aV->Prop) (_:Tg R) (s:St):Prop:=TT n res R s
theorem al (c:b7) (Q:Exit->St->Prop):aw P (lk c) Q s=aw P c Q s:=by rw[aaS]
@[simp↓] theorem apr (Q:Exit->St->Prop):aw P .skip Q s=Q .normal s:=_root_.id rfl
@[simp↓] theorem afs (l:List AO) (Q:Exit->St->Prop):aw P (.region l) Q s=K6 P s l (Q .normal):=_root_.id rfl
@[simp↓] theorem asL (x y:b7) (Q:Exit->St->Prop):aw P (.seq x y) Q s=aw P x (AN Q λs'=>aw P y Q s') s:=_root_.id rfl
@[simp↓] theorem aps (n:Nat) (v:PV) (e:List (Nat×PV)) (b:List (Nat×aV)) (c:AX) (x y:b7) (Q:Exit->St->Prop):aw P (.cond c x y) Q ⟨(n,v)::e,b⟩=cdK (aw P x Q ⟨(n,v)::e,b⟩) (aw P y Q ⟨(n,v)::e,b⟩) (vx ⟨(n,v)::e,b⟩ c):=aa5 c x y Q
@[simp↓] theorem awV (n:Nat) (v:PV) (e:List (Nat×PV)) (b:List (Nat×aV)) (d:Option Nat) (mg:Bool) (k:AK) (K:St->Prop):fX P ⟨(n,v)::e,b⟩ ⟨d,none,mg,k⟩ K=jX P ⟨(n,v)::e,b⟩ ⟨d,none,mg,k⟩ K:=_root_.id rfl
@[simp↓] theorem asM (b:List (Nat×aV)) (d:Option Nat) (mg:Bool) (k:AK) (K:St->Prop):fX P ⟨[],b⟩ ⟨d,none,mg,k⟩ K=jX P ⟨[],b⟩ ⟨d,none,mg,k⟩ K:=_root_.id rfl
@[simp↓] theorem awW (n:Nat) (v:PV) (e:List (Nat×PV)) (b:List (Nat×aV)) (d:Option Nat) (sl:Nat) (want mg:Bool) (k:AK) (K:St->Prop):fX P ⟨(n,v)::e,b⟩ ⟨d,some (sl,want),mg,k⟩ K=
  BK want mg (λg=>ev g ⟨(n,v)::e,b⟩ k λp=>K (St.put ⟨(n,v)::e,b⟩ d (.gd g p))) (jX P ⟨(n,v)::e,b⟩ ⟨d,some (sl,want),mg,k⟩ K) (K (St.put ⟨(n,v)::e,b⟩ d .un)) ((get ((n,v)::e) sl).getD .un):=Ua d sl want mg k K
@[simp↓] theorem aje (id:Nat) (x:b7) (Q:Exit->St->Prop):aw P (.block id x) Q s=aw P x (XO id Q) s:=_root_.id rfl
@[simp↓] theorem apt (x:b7) (Q:Exit->St->Prop):aw P (.loop x) Q s=eW P x Q .mk s:=_root_.id rfl
@[simp↓] theorem apu (x y:b7) (Q:Exit->St->Prop):aw P (.seqm x y) Q s=SE P x y Q .mk s:=_root_.id rfl
@[simp↓] theorem apv (id:Nat) (Q:Exit->St->Prop):aw P (.exit id) Q s=Q (.exit id) s:=_root_.id rfl
@[simp↓] theorem asN (Q:Exit->St->Prop):aw P .ret Q s=Q .ret s:=_root_.id rfl
@[simp↓] theorem abi (Q:Exit->St->Prop) (K:St->Prop):AN Q K .normal s=K s:=_root_.id rfl
@[simp↓] theorem apw (Q:Exit->St->Prop) (K:St->Prop):AN Q K .ret s=Q .ret s:=_root_.id rfl
@[simp↓] theorem ajf (Q:Exit->St->Prop) (K:St->Prop) (i:Nat):AN Q K (.exit i) s=Q (.exit i) s:=_root_.id rfl
@[simp↓] theorem abj (Q:Exit->St->Prop) (i:Nat):XO i Q .normal s=Q .normal s:=_root_.id rfl
@[simp↓] theorem apx (Q:Exit->St->Prop) (i:Nat):XO i Q .ret s=Q .ret s:=_root_.id rfl
@[simp↓] theorem ajg (Q:Exit->St->Prop) (i j:Nat):XO i Q (.exit j) s=if j=i then Q .normal s else Q (.exit j) s:=_root_.id rfl
@[simp↓] theorem ajh (n:Nat) (res:List AK) (R:PV->List aV->Prop):ends n res R .ret s=aA n res R .mk s:=_root_.id rfl
@[simp↓] theorem XV (n:Nat) (res:List AK) (R:PV->List aV->Prop):ends n res R .normal s=aA n res R .mk s:=_root_.id rfl
@[simp↓] theorem aji (K:St->Prop):iR [] s K=K s:=_root_.id rfl
@[simp↓] theorem cN (c:Cut) (r:List Cut) (K:St->Prop):iR (c::r) s K=gU c s λs'=>iR r s' K:=_root_.id rfl
@[simp↓] theorem aft (sl:List Nat) (K:St->Prop):gU (.keep sl) s K=K {s with env:=oy sl s.env}:=_root_.id rfl
def abk (s:St) (n k len aO sz:Nat) (K:St->Prop):aV->Prop
 | .arr bP l=>(bP=sz∧aO=l.length)∧∀c j:Nat,(c=l.length+j∨(c=0∧j=0∧len=0))->
    K {env:=put s.env n (.rs k [] 0 len (l.length+j) sz (.full c)),bx:=put s.bx k (.arr sz (l++List.replicate j (G5 sz)))}
 |_=>False
def abl (s:St) (n:Nat) (K:St->Prop):PV->Prop
 | .rs k [] 0 len aO sz .tip=>bF (get s.bx k) (abk s n k len aO sz K)
 |_=>False
@[simp↓] theorem apy (n k len aO sz:Nat) (K:St->Prop):abl s n K (.rs k [] 0 len aO sz .tip)=bF (get s.bx k) (abk s n k len aO sz K):=_root_.id rfl
@[simp↓] theorem ajj (n k len aO sz bP:Nat) (l:List PV) (K:St->Prop):abk s n k len aO sz K (.arr bP l)=((bP=sz∧aO=l.length)∧∀c j:Nat,(c=l.length+j∨(c=0∧j=0∧len=0))->
    K {env:=put s.env n (.rs k [] 0 len (l.length+j) sz (.full c)),bx:=put s.bx k (.arr sz (l++List.replicate j (G5 sz)))}):=_root_.id rfl
@[simp↓] theorem apz (n:Nat) (K:St->Prop):gU (.mt n) s K=bF (get s.env n) (abl s n K):=by
 simp only[gU,mt1];cases get s.env n with
 |none=>rfl
 |
  some p=>
  cases p<;>try rfl
  rename_i k pth off len aO sz c
  cases pth<;>try rfl
  cases off<;>try rfl
  cases c<;>try rfl
  simp only[bF,abl]
  cases get s.bx k with
  |none=>rfl
  |some b=>cases b<;>rfl
def ajk (s:St) (k:Nat) (K:St->Prop):aV->Prop
 | .box v=>K {s with bx:=put s.bx k (.box (wk v))}
 |_=>False
@[simp↓] theorem ajl (k:Nat) (K:St->Prop) (v:PV):ajk s k K (.box v)=K {s with bx:=put s.bx k (.box (wk v))}:=_root_.id rfl
def ajm (s:St) (k:Nat) (m:List PV) (K:St->Prop):aV->Prop
 | .arr sz l=>y6 l m∧K {s with bx:=put s.bx k (.arr sz m)}
 |_=>False
@[simp↓] theorem ajn (k sz:Nat) (l m:List PV) (K:St->Prop):ajm s k m K (.arr sz l)=(y6 l m∧K {s with bx:=put s.bx k (.arr sz m)}):=_root_.id rfl
@[simp↓] theorem apA (k:Nat) (m:List PV) (K:St->Prop):gU (.es k m) s K=bF (get s.bx k) (ajm s k m K):=by
 simp only[gU,es1];cases get s.bx k with
 |none=>rfl
 |some b=>cases b<;>rfl
def ajo (s:St) (n k:Nat) (K:St->Prop):aV->Prop
 | .box v=>(get s.env n=some (.pt k [] 0)∧0<v.width)∧K {env:=put s.env n (.pt k [.i 0 v.width] 1),bx:=put s.bx k (.arr v.width [v])}
 |_=>False
@[simp↓] theorem ajp (n k:Nat) (v:PV) (K:St->Prop):ajo s n k K (.box v)=((get s.env n=some (.pt k [] 0)∧0<v.width)∧K {env:=put s.env n (.pt k [.i 0 v.width] 1),bx:=put s.bx k (.arr v.width [v])}):=_root_.id rfl
@[simp↓] theorem apB (n k:Nat) (K:St->Prop):gU (.ba n k) s K=bF (get s.bx k) (ajo s n k K):=by
 simp only[gU,ba1];cases get s.bx k with
 |none=>rfl
 |some b=>cases b<;>rfl
@[simp↓] theorem apC (k:Nat) (K:St->Prop):gU (.wb k) s K=bF (get s.bx k) (ajk s k K):=by
 simp only[gU,wb1];cases get s.bx k with
 |none=>rfl
 |some b=>cases b<;>rfl
def vbP (s:St) (b k sz:Nat) (w:Option PV) (K:St->Prop):PV->Prop
 | .sl _ [] true=>bF w λv'=>(get s.bx k=none∧0<sz)∧K {s with bx:=put (put s.bx k (.arr sz [])) b (.box v')}
 |_=>False
@[simp↓] theorem asO (b k sz z:Nat) (w:Option PV) (K:St->Prop):vbP s b k sz w K (.sl z [] true)=bF w λv'=>(get s.bx k=none∧0<sz)∧K {s with bx:=put (put s.bx k (.arr sz [])) b (.box v')}:=_root_.id rfl
def vbK (s:St) (b:Nat) (p:List Step) (k sz:Nat) (K:St->Prop):aV->Prop
 | .box v=>bF (aM v p) (vbP s b k sz (bT v p (.rs k [] 0 0 0 sz .tip)) K)
 |_=>False
@[simp↓] theorem apD (b:Nat) (p:List Step) (k sz:Nat) (v:PV) (K:St->Prop):vbK s b p k sz K (.box v)=bF (aM v p) (vbP s b k sz (bT v p (.rs k [] 0 0 0 sz .tip)) K):=_root_.id rfl
@[simp↓] theorem apE (b:Nat) (p:List Step) (k sz:Nat) (K:St->Prop):gU (.vb b p k sz) s K=bF (get s.bx b) (vbK s b p k sz K):=by
 simp only[gU,vb1];cases get s.bx b with
 |none=>rfl
 |
  some x=>
  cases x with
  |arr _ _=>rfl
  |map b ks vs l=>rfl
  |
   box v=>
   simp only[bF,vbK]
   cases h1:aM v p with
   |none=>cases bT v p (.rs k [] 0 0 0 sz .tip)<;>rfl
   |
    some u=>
    cases h2:bT v p (.rs k [] 0 0 0 sz .tip)with
    |
     none=>
     simp only[vbP]
     split<;>simp_all
    |
     some v'=>
     simp only[vbP]
     split<;>simp_all
@[simp↓] theorem apF (n:Nat) (K:St->Prop):gU (.wk n) s K=bF (get s.env n) λp=>K {s with env:=put s.env n (wk p)}:=by
 simp only[gU,wk1];cases get s.env n<;>rfl
def fzK (s:St) (k:Nat) (K:St->Prop):aV->Prop
 | .arr sz l=>(ah (λj=>decide (j≠k)) l=true∧k<KB)∧K {env:=ma (iQ k sz l) s.env,bx:=ma (Bk k sz l) (del s.bx k)}
 |_=>False
@[simp↓] theorem apG (k sz:Nat) (l:List PV) (K:St->Prop):fzK s k K (.arr sz l)=((ah (λj=>decide (j≠k)) l=true∧k<KB)∧K {env:=ma (iQ k sz l) s.env,bx:=ma (Bk k sz l) (del s.bx k)}):=_root_.id rfl
@[simp↓] theorem apH (k:Nat) (K:St->Prop):gU (.fz k) s K=bF (get s.bx k) (fzK s k K):=by
 simp only[gU,fz1];cases get s.bx k with
 |none=>rfl
 |some b=>cases b<;>rfl
def mvK (s:St) (k k':Nat) (K:St->Prop) (b:aV):Prop:=(get s.bx k'=none∧k<KB∧k'<KB∧k≠k')∧K {env:=ma (aE (CN k k')) s.env,bx:=put (ma (az (CN k k')) (del s.bx k)) k' (az (CN k k') b)}
@[simp↓] theorem apI (k k':Nat) (K:St->Prop):gU (.mv k k') s K=bF (get s.bx k) (mvK s k k' K):=by
 simp only[gU,mv1];cases get s.bx k<;>rfl
@[simp↓] theorem awZ (k k':Nat) (K:St->Prop) (b:aV):mvK s k k' K b=((get s.bx k'=none∧k<KB∧k'<KB∧k≠k')∧K {env:=ma (aE (CN k k')) s.env,bx:=put (ma (az (CN k k')) (del s.bx k)) k' (az (CN k k') b)}):=_root_.id rfl
@[simp↓] theorem apJ (k:Nat) (K:St->Prop):gU (.dr k) s K=((bt (λj=>decide (j≠k)) s.env=true∧b8 (λj=>decide (j≠k)) (del s.bx k)=true∧k<KB)∧K {s with bx:=del s.bx k}):=_root_.id rfl
def vtK (s:St) (n k sz:Nat) (K:St->Prop):PV->Prop
 | .sl _ [] true=>(get s.bx k=none∧0<sz)∧K {env:=put s.env n (.rs k [] 0 0 0 sz .tip),bx:=put s.bx k (.arr sz [])}
 |_=>False
@[simp↓] theorem asQ (n k sz z:Nat) (K:St->Prop):vtK s n k sz K (.sl z [] true)=((get s.bx k=none∧0<sz)∧K {env:=put s.env n (.rs k [] 0 0 0 sz .tip),bx:=put s.bx k (.arr sz [])}):=_root_.id rfl
@[simp↓] theorem apK (n k sz:Nat) (K:St->Prop):gU (.vt n k sz) s K=bF (get s.env n) (vtK s n k sz K):=by
 simp only[gU,vt1];cases get s.env n with
 |none=>rfl
 |
  some p=>
  cases p with
  |sl z l c=>cases l<;>cases c<;>rfl
  |_=>rfl
@[simp] theorem aw1 {n:Nat} (h:n<9000):n<KB:=h
@[simp↓] theorem apL (K:List PV->Prop):I6 s [] K=K []:=_root_.id rfl
@[simp↓] theorem ajr (k:AK) (r:List AK) (K:List PV->Prop):I6 s (k::r) K=ev true s k λp=>I6 s r λps=>K (p::ps):=_root_.id rfl
@[simp↓] theorem XW:dS 0=[]:=_root_.id rfl
@[simp↓] theorem abm (bx:List (Nat×aV)):getAll bx []=some []:=_root_.id rfl
@[simp↓] theorem afu (p:PV):dj [p]=p:=_root_.id rfl
@[simp↓] theorem Nf (p q:PV) (l:List PV):dj (p::q::l)= .tup (p::q::l):=_root_.id rfl
theorem aA.plain {res:List AK} {R:PV->List aV->Prop} {t:Tg R} (c:List Cut) (h:iR c s λs'=>I6 s' res λps=>(ps.all PV.flat=true∧an ps)∧R (dj ps) []):aA 0 res R t s:=by
 refine⟨c,[],?_⟩
 have hm:∀(c:List Cut) (s:St) (K K':St->Prop),(∀s,K s->K' s)->iR c s K->iR c s K':=by
  intro c;induction c with
  |nil=>intro s K K' h hk;exact h s hk
  |
   cons x c ih=>
   intro s K K' h hk
   cases x with
   |fz k=>simp only[cN,gU,fz1]at hk⊢;split at hk<;>simp_all;exact ih _ _ _ (λs hs=>h s hs) hk.2
   |dr k=>simp only[cN,gU,dr1]at hk⊢;exact⟨hk.1,ih _ _ _ h hk.2⟩
   |keep sl=>simp only[cN,gU]at hk⊢;exact ih _ _ _ h hk
   |vt n k z=>simp only[cN,gU,vt1]at hk⊢;split at hk<;>simp_all;exact ih _ _ _ (λs hs=>h s hs) hk.2
   |wk n=>simp only[cN,gU,wk1]at hk⊢;split at hk<;>simp_all;exact ih _ _ _ (λs hs=>h s hs) hk
   |
    ba n k=>
    simp only[cN,gU,ba1]at hk⊢
    split at hk
    ·exact⟨hk.1,ih _ _ _ h hk.2⟩
    ·exact hk.elim
   |
    es k m=>
    simp only[cN,gU,es1]at hk⊢
    split at hk
    ·exact⟨hk.1,ih _ _ _ h hk.2⟩
    ·exact hk.elim
   |wb n=>simp only[cN,gU,wb1]at hk⊢;split at hk<;>simp_all;exact ih _ _ _ (λs hs=>h s hs) hk
   |vb n p k z=>simp only[cN,gU,vb1]at hk⊢;split at hk<;>simp_all;split at hk<;>simp_all;exact ih _ _ _ (λs hs=>h s hs) hk.2
   |
    mv k k'=>
    simp only[cN,gU,mv1]at hk⊢
    split at hk
    ·exact⟨hk.1,ih _ _ _ h hk.2⟩
    ·exact hk.elim
   |
    mt n=>
    simp only[cN,gU,mt1]at hk⊢
    split at hk
    ·split at hk
     ·exact⟨hk.1,λc j e=>ih _ _ _ h (hk.2 c j e)⟩
     ·exact hk.elim
    ·exact hk.elim
 have hev:∀(k:AK) (s:St) (K K':PV->Prop),(∀p,K p->K' p)->ev true s k K->ev true s k K':=by
  intro k s K K' h hk;obtain⟨p,h1,h2⟩:=ug true s k K hk;exact h2 K' (h p h1)
 have aev:∀(l:List AK) (s:St) (K K':List PV->Prop),(∀p,K p->K' p)->I6 s l K->I6 s l K':=by
  intro l;induction l with
  |nil=>intro s K K' h hk;exact h _ hk
  |cons x l ih=>intro s K K' h hk;exact hev _ _ _ _ (λp hp=>ih _ _ _ (λq hq=>h _ hq) hp) hk
 refine hm _ _ _ _ (λs' Bt=>aev _ _ _ _ (λps Ew=> ?_) Bt) h;obtain⟨⟨h1,h2⟩,h3⟩:=Ew
 have hp:Pure (dj ps):=by
  match ps,h2 with
  |[],h2=>exact Pure.of rfl
  |[p],h2=>exact h2.forget p (by simp)
  |p::q::l,h2=>exact Pure.of (by simp only[Nf,af];exact h2.refs _)
 refine⟨[],⟨rfl,by simp,rfl⟩,⟨h1,hp.refs _,rfl⟩,?_⟩;rw[hp.aE];exact h3
end Go.Ab
namespace Go.Ab
variable [cL]
variable {P:Program} {s:St} [eJ]
theorem H3:∀ {l:List AO} {s:St} {K K':St->Prop},(∀p,K p->K' p)->K6 P s l K->K6 P s l K'
 |[],s,K,K',h,hk=>h _ hk
 |o::l,s,K,K',h,hk=>bU (λs' Bt=>H3 h Bt) hk
theorem CZ {W:List Nat} {f:Bool} {o:AO} {K K':St->Prop} (h:∀p,K p->K' p) (hk:jj P W f s o K):jj P W f s o K':=by
 unfold jj at hk⊢;split at hk
 ·split at hk
  ·rename_i h1 h2;rw[if_pos h1,if_pos h2];exact bU (λt ht=>h _ ht) hk
  ·rename_i h1 h2;rw[if_pos h1,if_neg h2];exact bU h hk
 ·rename_i h1;rw[if_neg h1];exact bU (λt ht=>⟨ht.1,h _ ht.2⟩) hk
theorem vX {aos:List AO} {fl:Nat->Bool} {W:List Nat}:∀ {l:List Nat} {s:St} {K K':St->Prop},(∀p,K p->K' p)->iF P aos fl W s l K->iF P aos fl W s l K'
 |[],s,K,K',h,hk=>h _ hk
 |
  i::l,s,K,K',h,hk=>by
  simp only[iF]at hk⊢
  split at hk
  ·exact⟨hk.1,CZ (λt ht=>vX h ht) hk.2⟩
  ·exact hk.elim
theorem F9:∀ {c:b7} {s:St} {Q Q':Exit->St->Prop},(∀e s,Q e s->Q' e s)->aw P c Q s->aw P c Q' s:=by
 have aew:∀ {Q Q':Exit->St->Prop} {K K':St->Prop},(∀e s,Q e s->Q' e s)->(∀s,K s->K' s)->∀e s,AN Q K e s->AN Q' K' e s:=by
  intro Q Q' K K' h hk e s he;cases e<;>first|exact hk _ he|exact h _ _ he
 intro c;induction c with
 |skip=>intro s Q Q' h hk;exact h _ _ hk
 |region l=>intro s Q Q' h hk;exact H3 (h .normal) hk
 |regionD l o u=>intro s Q Q' h hk;obtain⟨W,hk⟩:=hk;exact⟨W,vX (h .normal) hk⟩
 |regionE l a p q b u=>intro s Q Q' h hk;obtain⟨W,hk⟩:=hk;exact⟨W,yw (λt ht=>⟨vX (h .normal) ht.1,vX (h .normal) ht.2⟩) hk⟩
 |seq x y ihx ihy=>intro s Q Q' h hk;exact ihx (aew h λs hs=>ihy h hs) hk
 |
  cond c x y ihx ihy=>
  intro s Q Q' h hk
  simp only[aw]at hk⊢
  split at hk
  ·exact⟨λe=>ihx h (hk.1 e),λe=>ihy h (hk.2 e)⟩
  ·exact⟨hk.1,λe=>ihx h (hk.2.1 e),λe=>ihy h (hk.2.2 e)⟩
  ·exact hk.elim
 |
  block id x ih=>
  intro s Q Q' h hk
  simp only[aw]at hk⊢
  refine ih (λe s he=> ?_) hk
  cases e<;>simp only[XO]at he⊢<;>first|exact h _ _ he|(split at he<;>rename_i hi<;>simp only[hi,if_true,if_false]<;>exact h _ _ he)
 |
  loop x ih=>
  intro s Q Q' h hk
  obtain⟨I,c,h1,h2⟩:=hk
  exact⟨I,c,h1,λn s hs=>ih (aew h λs hs=>hs) (h2 n s hs)⟩
 |exit id=>intro s Q Q' h hk;exact h _ _ hk
 |ret=>intro s Q Q' h hk;exact h _ _ hk
 |
  seqm x y ihx ihy=>
  intro s Q Q' h hk
  obtain⟨M,h1,h2⟩:=hk
  exact⟨M,ihx (aew h λs hs=>hs) h1,λs hs=>ihy h (h2 s hs)⟩
end Go.Ab
namespace Go.Ab
variable [cL]
variable {P:Program} {s:St} [eJ]
theorem fo:∀(c:List Cut) {s:St} {K K':St->Prop},(∀s,K s->K' s)->iR c s K->iR c s K'
 |[],s,K,K',h,hk=>h s hk
 |
  x::c,s,K,K',h,hk=>by
  cases x with
  |
   fz k=>
   simp only[cN,gU,fz1]at hk⊢
   split at hk
   ·exact⟨hk.1,fo c h hk.2⟩
   ·exact hk.elim
  |dr k=>simp only[cN,gU,dr1]at hk⊢;exact⟨hk.1,fo c h hk.2⟩
  |keep sl=>simp only[cN,gU]at hk⊢;exact fo c h hk
  |
   vt n k z=>
   simp only[cN,gU,vt1]at hk⊢
   split at hk
   ·exact⟨hk.1,fo c h hk.2⟩
   ·exact hk.elim
  |
   wk n=>
   simp only[cN,gU,wk1]at hk⊢
   split at hk
   ·exact fo c h hk
   ·exact hk.elim
  |
   ba n k=>
   simp only[cN,gU,ba1]at hk⊢
   split at hk
   ·exact⟨hk.1,fo c h hk.2⟩
   ·exact hk.elim
  |
   es k m=>
   simp only[cN,gU,es1]at hk⊢
   split at hk
   ·exact⟨hk.1,fo c h hk.2⟩
   ·exact hk.elim
  |
   wb n=>
   simp only[cN,gU,wb1]at hk⊢
   split at hk
   ·exact fo c h hk
   ·exact hk.elim
  |
   vb n p k z=>
   simp only[cN,gU,vb1]at hk⊢
   split at hk
   ·split at hk
    ·exact⟨hk.1,fo c h hk.2⟩
    ·exact hk.elim
   ·exact hk.elim
  |
   mv k k'=>
   simp only[cN,gU,mv1]at hk⊢
   split at hk
   ·exact⟨hk.1,fo c h hk.2⟩
   ·exact hk.elim
  |
   mt n=>
   simp only[cN,gU,mt1]at hk⊢
   split at hk
   ·split at hk
    ·exact⟨hk.1,λi j e=>fo c h (hk.2 i j e)⟩
    ·exact hk.elim
   ·exact hk.elim
theorem oA:∀(c d:List Cut) {s:St} {K:St->Prop},iR (c++d) s K=iR c s λs'=>iR d s' K
 |[],d,s,K=>rfl
 |
  x::c,d,s,K=>by
  simp only[JeZ,cN]
  congr 1;funext s'
  exact oA c d
def H4 {α:Type}:List (Nat×α)->List (Nat×α)->List (Nat×α)
 |l,[]=>l
 |l,x::r=>H4 (put l x.1 x.2) r
@[simp↓] theorem ajs {α:Type} (l:List (Nat×α)):H4 l []=l:=id rfl
@[simp↓] theorem afv {α:Type} (l r:List (Nat×α)) (x:Nat×α):H4 l (x::r)=H4 (put l x.1 x.2) r:=id rfl
@[simp↓] theorem afw {α:Type} (sl:List Nat):oy sl ([]:List (Nat×α))=[]:=id rfl
@[simp↓] theorem abn {α:Type} (sl:List Nat) (j:Nat) (v:α) (r:List (Nat×α)):oy sl ((j,v)::r)=if sl.contains j=true then(j,v)::oy sl r else oy sl r:=id rfl
@[simp↓] theorem apM {α:Type} (k:Nat):del ([]:List (Nat×α)) k=[]:=id rfl
@[simp↓] theorem ajt {α:Type} (j k:Nat) (v:α) (r:List (Nat×α)):del ((j,v)::r) k=if j=k then del r k else(j,v)::del r k:=id rfl
@[simp↓] theorem aju {α:Type} (f:α->α):ma f []=[]:=id rfl
@[simp↓] theorem afx {α:Type} (f:α->α) (j:Nat) (v:α) (r:List (Nat×α)):ma f ((j,v)::r)=(j,f v)::ma f r:=id rfl
def gx (s:St) (ks:List Nat) (E:List (Nat×PV)) (B:List (Nat×aV)):St:= {env:=H4 (oy ks s.env) E,bx:=H4 s.bx B}
@[simp↓] theorem asR (e:List (Nat×PV)) (b:List (Nat×aV)) (ks:List Nat) (E:List (Nat×PV)) (B:List (Nat×aV)):gx ⟨e,b⟩ ks E B=⟨H4 (oy ks e) E,H4 b B⟩:=id rfl
theorem eW.fD {x:b7} {Q:Exit->St->Prop} {t:Tg (x,Q)} (n:Nat) (I:Nat->Prop) (ks:List Nat) (E:Nat->List (Nat×PV)) (B:Nat->List (Nat×aV)) (c0:List Cut)
  (h:iR c0 s λs0=>gx s0 ks (E 0) (B 0)=gx s0 ks [] []∧I 0∧
   (∀i,i<n->I i->∀K:St->Prop,(∀s2,gx s2 ks [] []=gx s0 ks (E (i+1)) (B (i+1))->I (i+1)->K s2)->aw P x (AN Q λs'=>∃c:List Cut,iR c s' K) (gx s0 ks (E i) (B i)))∧
   (I n->∀K:St->Prop,aw P x (AN Q K) (gx s0 ks (E n) (B n)))):eW P x Q t s:=by
 refine⟨λm st=>∃s0 i,i≤n∧m=n-i∧I i∧st=gx s0 ks (E i) (B i)∧
  (∀i,i<n->I i->∀K:St->Prop,(∀s2,gx s2 ks [] []=gx s0 ks (E (i+1)) (B (i+1))->I (i+1)->K s2)->aw P x (AN Q λs'=>∃c:List Cut,iR c s' K) (gx s0 ks (E i) (B i)))∧
   (I n->∀K:St->Prop,aw P x (AN Q K) (gx s0 ks (E n) (B n))),c0++[.keep ks],?_,?_⟩
 ·rw[oA];refine fo c0 (λs0 hs=> ?_) h;obtain⟨h1,h2,h3,h4⟩:=hs;exact⟨n,s0,0,by omega,by omega,h2,by rw[h1];rfl,h3,h4⟩
 ·rintro m st ⟨s0,i,hi,rfl,hI,rfl,h3,h4⟩;by_cases dq:i<n
  ·have aex:∀(K:St->Prop) s',(∃c:List Cut,iR c s' λs2=>iR [.keep ks] s2 K)->∃c:List Cut,iR c s' K:=λK s' ⟨c,hc⟩=>⟨c++[.keep ks],by rw[oA];exact hc⟩
   have:=h3 i dq hI (λs2=>iR [.keep ks] s2 λs'=>∃m,m<n-i∧∃s0 i,i≤n∧m=n-i∧I i∧s'=gx s0 ks (E i) (B i)∧
    (∀i,i<n->I i->∀K:St->Prop,(∀s2,gx s2 ks [] []=gx s0 ks (E (i+1)) (B (i+1))->I (i+1)->K s2)->aw P x (AN Q λs'=>∃c:List Cut,iR c s' K) (gx s0 ks (E i) (B i)))∧
    (I n->∀K:St->Prop,aw P x (AN Q K) (gx s0 ks (E n) (B n))))
    (λs2 e hI'=>⟨n-(i+1),by omega,s0,i+1,by omega,rfl,hI',by rw[←e];rfl,h3,h4⟩)
   refine F9 (λe s' he=> ?_) this;cases e with
   |normal=>exact aex _ _ he
   |_=>exact he
  ·have Bh:i=n:=by omega
   subst Bh;exact h4 hI _
end Go.Ab
namespace Go.Ab
variable [cL]
variable {P:Program} {s:St} [eJ]
theorem qz {p:PV}:Pure p↔af (λ_=>false) p=true:=⟨λh=>h.refs _,Pure.of⟩
theorem nX {l:List PV}:an l↔ah (λ_=>false) l=true:=⟨λh=>h.refs _,an.of⟩
@[simp] theorem ajv (k:IntKind) (n:Int):Pure (.int k n):=Pure.of rfl
@[simp] theorem apN (b:Bool):Pure (.bl b):=Pure.of rfl
@[simp] theorem ajw (b:List UInt8):Pure (.str b):=Pure.of rfl
@[simp] theorem apO:Pure .un:=Pure.of rfl
@[simp] theorem apP:Pure .np:=Pure.of rfl
@[simp] theorem apQ (b:UInt8):Pure (u8 b):=Pure.of rfl
@[simp] theorem apR (z:Nat) (l:List PV) (c:Bool):Pure (.sl z l c)↔an l:=by simp only[qz,nX,af]
@[simp] theorem apS (z:Nat) (l:List PV):Pure (.st z l)↔an l:=by simp only[qz,nX,af]
@[simp] theorem apT (z n:Nat) (l:List PV):Pure (.ar z n l)↔an l:=by simp only[qz,nX,af]
@[simp] theorem ajx (l:List PV):Pure (.tup l)↔an l:=by simp only[qz,nX,af]
@[simp] theorem apU (z:Nat) (l:List PV) (p:List Step):Pure (.fp z l p)↔an l:=by simp only[qz,nX,af]
@[simp] theorem apV (f:Fn) (a b:List PV):Pure (.fn f a b)↔an a∧an b:=by simp only[qz,nX,af,aJ]
@[simp] theorem vY:an []:=an.of rfl
@[simp] theorem JT (p:PV) (l:List PV):an (p::l)↔Pure p∧an l:=by simp only[qz,nX,ah,aJ]
@[simp] theorem Ui (l m:List PV):an (l++m)↔an l∧an m:=by induction l<;>simp[*,and_assoc]
@[simp] theorem abo {l:List PV} (h:an l) (n:Nat):an (l.take n):=h.take n
@[simp] theorem abp {l:List PV} (h:an l) (n:Nat):an (l.drop n):=h.drop n
@[simp] theorem aF {α:Type} {e:α->PV} (h:∀x,Pure (e x)) (l:List α):an (l.map e):=an.map h l
@[simp] theorem ui {p:PV} (h:Pure p) (n:Nat):an (List.replicate n p):=an.mk' λq hq=>by rw[(JqV.1 hq).2];exact h
@[simp] theorem afy {l:List PV} {p:PV} (h:an l) (hp:Pure p) (n:Nat):an (l.set n p):=an.mk' λq hq=>by rcases JhX hq with h'|h';exact h.forget q h';rw[h'];exact hp
@[simp] theorem ajy {p:PV} (h:Pure p) (k z:Nat) (l:List PV):iQ k z l p=p:=h.iQ k z l
@[simp] theorem afz {p:List PV} (h:an p) (k z:Nat) (l:List PV):jh k z l p=p:=h.iQ k z l
@[simp] theorem asS (k z k' off len aO z':Nat) (l0:List PV) (p:List Step) (c:fB):iQ k z l0 (.rs k' p off len aO z' c)=if k'=k then(if aO=l0.length∧p=[]∧z'=z∧off+len≤l0.length then .sl z ((l0.drop off).take len) (decide (c= .clip))else .un)else .rs k' p off len aO z' c:=by simp[iQ]
@[simp] theorem asT (k z k' aO:Nat) (l0:List PV) (p:List Step):iQ k z l0 (.pt k' p aO)=if k'=k then(if aO=l0.length then .fp z l0 p else .un)else .pt k' p aO:=by simp[iQ]
@[simp] theorem afA (k z:Nat) (l0:List PV) (p:PV) (l:List PV):jh k z l0 (p::l)=iQ k z l0 p::jh k z l0 l:=_root_.id rfl
@[simp] theorem XX (k z:Nat) (l0 l m:List PV):jh k z l0 (l++m)=jh k z l0 l++jh k z l0 m:=by induction l<;>simp[*]
@[simp] theorem asU (k z w:Nat) (l0 l:List PV):iQ k z l0 (.st w l)= .st w (jh k z l0 l):=by simp[iQ]
@[simp] theorem P8 (f:Nat->Bool) (l m:List PV):ah f (l++m)=(ah f l&&ah f m):=by induction l<;>simp[*,ah,Bool.and_assoc]
@[simp] theorem ajz (k z z':Nat) (l0 l:List PV):Bk k z l0 (.arr z' l)= .arr z' (jh k z l0 l):=id rfl
@[simp] theorem ajA (k z:Nat) (l0:List PV) (v:PV):Bk k z l0 (.box v)= .box (iQ k z l0 v):=id rfl
@[simp] theorem Uj {l:List PV} (h:an l) (f:Nat->Bool):ah f l=true:=h.refs f
@[simp] theorem XY {p:PV} (h:Pure p) (f:Nat->Bool):af f p=true:=h.refs f
@[simp] theorem afB (f:Nat->Bool) (k:Nat) (p:List Step) (a b c d:Nat) (e:fB):af f (.rs k p a b c d e)=f k:=by simp[af]
@[simp] theorem afC (f:Nat->Bool) (k:Nat) (p:List Step) (a:Nat):af f (.pt k p a)=f k:=by simp[af]
@[simp] theorem Uk (f:Nat->Bool) (p:PV) (l:List PV):ah f (p::l)=(af f p&&ah f l):=id rfl
@[simp] theorem XZ (f:Nat->Bool):bt f []=true:=id rfl
@[simp] theorem Ul (f:Nat->Bool) (n:Nat) (p:PV) (r:List (Nat×PV)):bt f ((n,p)::r)=(af f p&&bt f r):=id rfl
@[simp] theorem abq (f:Nat->Bool):b8 f []=true:=id rfl
@[simp] theorem X0 (f:Nat->Bool) (n:Nat) (p:aV) (r:List (Nat×aV)):b8 f ((n,p)::r)=(ab f p&&b8 f r):=id rfl
@[simp] theorem X4 (f:Nat->Bool) (z:Nat) (l:List PV):ab f (.arr z l)=ah f l:=id rfl
@[simp] theorem X5 (f:Nat->Bool) (v:PV):ab f (.box v)=af f v:=id rfl
@[simp] theorem aw2 (z:Nat) (l:List PV) (c:Bool):wk (.sl z l c)= .sl z (fI l) false:=by simp[wk]
@[simp] theorem aw3 (z:Nat) (l:List PV):wk (.st z l)= .st z (fI l):=by simp[wk]
@[simp] theorem aw4 (z n:Nat) (l:List PV):wk (.ar z n l)= .ar z n (fI l):=by simp[wk]
@[simp] theorem asV (k:IntKind) (n:Int):wk (.int k n)= .int k n:=by simp[wk]
@[simp] theorem aw5 (b:Bool):wk (.bl b)= .bl b:=by simp[wk]
@[simp] theorem asW (b:List UInt8):wk (.str b)= .str b:=by simp[wk]
@[simp] theorem aw6:wk .np= .np:=by simp[wk]
@[simp] theorem aw7 (k:Nat) (p:List Step) (a:Nat):wk (.pt k p a)= .pt k p a:=by simp[wk]
@[simp] theorem aw8 (k:Nat) (p:List Step) (a b c d:Nat) (e:fB):wk (.rs k p a b c d e)= .rs k p a b c d e:=by simp[wk]
@[simp] theorem aw9 (b:UInt8):wk (u8 b)=u8 b:=by simp[u8]
@[simp] theorem apW:fI []=[]:=id rfl
@[simp] theorem ajB (p:PV) (l:List PV):fI (p::l)=wk p::fI l:=id rfl
@[simp] theorem abr (l m:List PV):fI (l++m)=fI l++fI m:=by induction l<;>simp[*]
@[simp] theorem ajC (l:List PV) (n:Nat):fI (l.take n)=(fI l).take n:=by simp only[Cm,JfQ]
@[simp] theorem ajD (l:List PV) (n:Nat):fI (l.drop n)=(fI l).drop n:=by simp only[Cm,JjV]
@[simp] theorem nm {α:Type} {e:α->PV} (h:∀x,wk (e x)=e x) (l:List α):fI (l.map e)=l.map e:=by rw[Cm,List.map_map];congr 1;funext x;exact h x
@[simp] theorem Ed {p:PV} (h:wk p=p) (n:Nat):fI (List.replicate n p)=List.replicate n p:=by rw[Cm,JnV,h]
def aK (P:Program) (f:FuncId) (args:List PV) (v:PV):Prop:=ae P f args [] (λr fp=>r=v∧fp=[])
def u9 (P:Program) (f:FuncId) (args:List PV) (sz:Nat) (l:List PV):Prop:=ae P f args [] (λr fp=>r= .rs KB [] 0 l.length l.length sz .tip∧fp=[.arr sz l])
theorem ff.fI {Γ:Cx}:∀ {l:List PV} {vs:List Value},ff Γ l vs->ff Γ (Ab.fI l) vs
 |[],[],_=>trivial
 |[],_::_,h=>by simp[ff]at h
 |_::_,[],h=>by simp[ff]at h
 |p::l,v::vs,h=>by simp only[ff,Ab.fI]at h⊢;exact⟨h.1.wk,ff.fI h.2⟩
theorem ae.X6 {f:FuncId} {args:List PV} {fp:List aV} {R:PV->List aV->Prop} (h:ae P f (fI args) fp R):ae P f args fp R:=
 λΓ w vs h1 h2 h3 h4=>h Γ w vs h1 h2 h3 h4.fI
theorem u9.iQ {f:FuncId} {args:List PV} {sz:Nat} {l:List PV} (h:u9 P f args sz l) (hl:an l):aK P f args (.sl sz l false):=by
 refine λΓ w vs h1 h2 h3 h4=>(h Γ w vs h1 h2 h3 h4).mono ?_;rintro e w' ⟨v,r,xD,Γ',e1,⟨rfl,rfl⟩,e3,e4,e5,e6,e7,e8⟩;have hg:get Γ'.bx KB=some (.arr sz l):=by rw[e5,fE];simp
 have hf:=Jt e4 hg (hl.refs _);refine⟨v,.sl sz l false,[],{Γ' with bx:=ma (Bk KB sz l) (del Γ'.bx KB)},e1,⟨rfl,rfl⟩,e3,BF e4 _ (λj blk cI hb=>(e4.blk j blk hb).iQ hf),?_,?_,?_,e8⟩
 ·rw[e5];simp[av]
 ·have:=e6.iQ hf;simpa using this
 ·refine⟨e7.heap,λb hb hm=> ?_,e7.bX,e7.size,λk blk hk=> ?_⟩
  ·obtain⟨k,blk,g1,g2⟩:=hm;rw[e5]at g1;simp[av]at g1
  ·rw[h3]at hk;simp[av]at hk
theorem ai.ret {d:Option Nat} {f:FuncId} {args bC:List PV} {v:PV} {K:St->Prop} {t:Tg K} (hA:aK P f bC v) (ha:fI args=bC) (hp:an args) (hv:Pure v) (h:K (s.put d v)):ai P s d f args K t:=by
 subst ha;exact JS (R:=λr=>r=v) (ae.X6 hA) hp (by rintro r rfl;exact hv) (by rintro r rfl;exact h)
theorem ai.own {d:Option Nat} {f:FuncId} {args bC:List PV} {sz:Nat} {l:List PV} {K:St->Prop} {t:Tg K} (o:Nat) (hA:u9 P f bC sz l) (ha:fI args=bC) (hp:an args) (hl:an l) (ho:get s.bx o=none)
  (h:K ({s with bx:=put s.bx o (.arr sz l)}.put d (.rs o [] 0 l.length l.length sz .tip))):ai P s d f args K t:=by
 subst ha;refine Nd (R:=λl'=>l'=l) o (ae.mono (ae.X6 hA) ?_) hp ho (by rintro r rfl;exact hl) (by rintro r rfl;exact h);rintro r fp ⟨rfl,rfl⟩;exact⟨l,rfl,rfl,rfl⟩
theorem aN.ret {d:Option Nat} {f:FuncId} {args bC:List PV} {v:PV} {K:St->Prop} {t:Tg K} (hA:aK P f bC v) (ha:fI args=bC) (hp:an args) (hv:Pure v) (h:K (s.put d v)):aN P s d f args K t:=by
 subst ha;exact⟨v,⟨hp.refs _,hv.refs _⟩,ae.X6 hA,h⟩
theorem ai.rA {d:Option Nat} {f:FuncId} {args bC:List PV} {v:PV} {K:St->Prop} {t:Tg K} (hA:aK P f bC v) (h:K (s.put d v)) (ha:fI args=bC:=by simp) (hp:an args:=by simp) (hv:Pure v:=by simp):ai P s d f args K t:=ai.ret hA ha hp hv h
theorem aN.rA {d:Option Nat} {f:FuncId} {args bC:List PV} {v:PV} {K:St->Prop} {t:Tg K} (hA:aK P f bC v) (h:K (s.put d v)) (ha:fI args=bC:=by simp) (hp:an args:=by simp) (hv:Pure v:=by simp):aN P s d f args K t:=aN.ret hA ha hp hv h
end Go.Ab
namespace Go.Ab
variable [cL]
variable {P:Program} {s:St} {K:PV->Prop} [eJ]
@[simp↓] theorem ajE (k:IntKind) (a b:Int):jY .add K (.int k a) (.int k b)=K (.int k (k.wrap (a+b))):=by simp[jY,qU]
@[simp↓] theorem ajF (k:IntKind) (a b:Int):jY .sub K (.int k a) (.int k b)=K (.int k (k.wrap (a-b))):=by simp[jY,qU]
@[simp↓] theorem ajG (k:IntKind) (a b:Int):jY .mul K (.int k a) (.int k b)=K (.int k (k.wrap (a*b))):=by simp[jY,qU]
@[simp↓] theorem ajH (k:IntKind) (a b:Int):jY .quo K (.int k a) (.int k b)=(b≠0∧K (.int k (k.wrap (a.tdiv b)))):=by simp[jY,qU]
@[simp↓] theorem ajI (k:IntKind) (a b:Int):jY .rem K (.int k a) (.int k b)=(b≠0∧K (.int k (a.tmod b))):=by simp[jY,qU]
@[simp↓] theorem ajJ (k:IntKind) (a b:Int):jY .and K (.int k a) (.int k b)=K (.int k (bits .and k a b)):=by simp[jY,qU]
@[simp↓] theorem apX (k:IntKind) (a b:Int):jY .or K (.int k a) (.int k b)=K (.int k (bits .or k a b)):=by simp[jY,qU]
@[simp↓] theorem ajK (k:IntKind) (a b:Int):jY .xor K (.int k a) (.int k b)=K (.int k (bits .xor k a b)):=by simp[jY,qU]
@[simp↓] theorem X7 (k:IntKind) (a b:Int):jY .andNot K (.int k a) (.int k b)=K (.int k (bits .andNot k a b)):=by simp[jY,qU]
@[simp↓] theorem ajL (k:IntKind) (a b:Int):jY .eql K (.int k a) (.int k b)=K (.bl (decide (a=b))):=by simp[jY,qU];rfl
@[simp↓] theorem ajM (k:IntKind) (a b:Int):jY .neq K (.int k a) (.int k b)=K (.bl (decide (a≠b))):=by
 simp only[jY,qU,or_true,true_and];congr 2;by_cases h:a=b<;>simp[h]
@[simp↓] theorem ajN (k:IntKind) (a b:Int):jY .lss K (.int k a) (.int k b)=K (.bl (decide (a<b))):=by simp[jY,qU]
@[simp↓] theorem ajO (k:IntKind) (a b:Int):jY .leq K (.int k a) (.int k b)=K (.bl (decide (a≤b))):=by simp[jY,qU]
@[simp↓] theorem ajP (k:IntKind) (a b:Int):jY .gtr K (.int k a) (.int k b)=K (.bl (decide (b<a))):=by simp[jY,qU]
@[simp↓] theorem ajQ (k:IntKind) (a b:Int):jY .geq K (.int k a) (.int k b)=K (.bl (decide (b≤a))):=by simp[jY,qU]
@[simp↓] theorem ajR (k k':IntKind) (a b:Int):jY .shl K (.int k a) (.int k' b)=(0≤b∧K (.int k (k.wrap (a*2^min b.toNat k.bits)))):=by simp[jY,qU]
@[simp↓] theorem ajS (k k':IntKind) (a b:Int):jY .shr K (.int k a) (.int k' b)=(0≤b∧K (.int k (a.fdiv (2^min b.toNat k.bits)))):=by simp[jY,qU]
@[simp↓] theorem ajT (op:BinOp) (a b:List UInt8):jY op K (.str a) (.str b)=zc op a b K:=id rfl
@[simp↓] theorem ajU (a b:List UInt8):zc .add a b K=(a.length+b.length≤9223372036854775807∧K (.str (a++b))):=id rfl
@[simp↓] theorem ajV (a b:List UInt8):zc .eql a b K=K (.bl (decide (a=b))):=by
 simp only[zc];congr 2;by_cases h:a=b<;>simp[h]
@[simp↓] theorem ajW (a b:List UInt8):zc .neq a b K=K (.bl (decide (a≠b))):=by
 simp only[zc];congr 2;by_cases h:a=b<;>simp[h]
@[simp↓] theorem ajX (a b:List UInt8):zc .lss a b K=K (.bl (Op.bytesLess a b)):=id rfl
@[simp↓] theorem ajY (b:Bool):qe .eql b K=K (.bl b):=id rfl
@[simp↓] theorem ajZ (b:Bool):qe .neq b K=K (.bl (!b)):=id rfl
@[simp↓] theorem apY (op:BinOp) (a b:Bool):aiM op K (.bl a) (.bl b)=qe op (a==b) K:=id rfl
@[simp↓] theorem ap0 (op:BinOp) (f:Fn) (a b:List PV):aiN op K (.fn f a b) .nf=qe op false K:=id rfl
@[simp↓] theorem ap1 (op:BinOp):PM s op K .np .np=qe op true K:=id rfl
@[simp↓] theorem ap2 (op:BinOp) (k aO:Nat) (p:List Step):PM s op K (.pt k p aO) .np=bF (get s.bx k) λblk=>aO=blk.aO∧qe op false K:=id rfl
@[simp↓] theorem ap3 (op:BinOp) (z:Nat) (l:List PV) (p:List Step):PM s op K (.fp z l p) .np=qe op false K:=id rfl
@[simp↓] theorem ap4 (b:Bool):unK .not K (.bl b)=K (.bl (!b)):=id rfl
@[simp↓] theorem ap5 (k:IntKind) (n:Int):unK .xor K (.int k n)=K (.int k (bits .xor k (if k.signed then-1 else k.max) n)):=id rfl
@[simp↓] theorem ap6 (sz:Nat) (K:List PV->Prop) (q:PV):T5 s sz K q=zL s (λbP ys=>(ys=[]∨bP=sz)∧K ys) q:=id rfl
@[simp↓] theorem abt (d k len aO n sz bP bytes sz'':Nat) (ys l:List PV) (K:St->Prop):P4 s d k len aO n sz bP bytes ys K (.arr sz'' l)=((aO=l.length∧bP=sz∧sz''=sz∧len≤n∧n≤l.length∧ys≠[]∧get s.bx d=none∧(len+ys.length)*bytes≤140737488355328∧len+ys.length≤9223372036854775807)∧
    (len+ys.length≤n->K {env:=put s.env d (.rs k [] 0 (len+ys.length) aO sz (.full n)),bx:=put s.bx k (.arr sz (l.take len++ys++l.drop (len+ys.length)))})∧
    (n<len+ys.length->K {env:=put s.env d (.rs d [] 0 (len+ys.length) (len+ys.length) sz .tip),bx:=put s.bx d (.arr sz (l.take len++ys))})):=_root_.id rfl
@[simp↓] theorem ap7 (d k len aO n sz bP bytes sz'':Nat) (z:PV) (m:Int) (l:List PV) (K:St->Prop):apZ s d k len aO n sz bP bytes z m K (.arr sz'' l)=((get s.bx d=none∧aO=l.length∧bP=sz∧sz''=sz∧len≤n∧n≤l.length∧0<m∧n<len+m.toNat∧(len+m.toNat)*bytes≤140737488355328∧len+m.toNat≤9223372036854775807)∧
    K {env:=put s.env d (.rs d [] 0 (len+m.toNat) (len+m.toNat) sz .tip),bx:=put s.bx d (.arr sz (l.take len++List.replicate m.toNat z))}):=_root_.id rfl
@[simp↓] theorem afD (d k len aO sz bP bytes sz'':Nat) (ys l:List PV) (K:St->Prop):XS s d k len aO sz bP bytes ys K (.arr sz'' l)=((aO=l.length∧len=l.length∧bP=sz∧sz''=sz∧(l.length+ys.length)*bytes≤140737488355328∧l.length+ys.length≤9223372036854775807)∧
   K {env:=put s.env d (.rs k [] 0 (l.length+ys.length) (l.length+ys.length) sz .tip),bx:=put s.bx k (.arr sz (l++ys))}):=rfl
def Um (off len aO sz:Nat) (p:List Step) (K:Nat->List PV->Prop):aV->Prop
 | .arr bP l=>(aO=l.length∧p=[]∧sz=bP∧off+len≤l.length)∧K sz ((l.drop off).take len)
 | .box v=>bF (aM v p) λ
   | .ar bP n l=>(aO=0∧sz=bP∧off+len≤n)∧K sz ((l.drop off).take len)
   |_=>False
 | .map .. =>False
@[simp↓] theorem Un (K:Nat->List PV->Prop) (k off len aO sz:Nat) (p:List Step) (c:fB):zL s K (.rs k p off len aO sz c)=bF (get s.bx k) (Um off len aO sz p K):=by
 simp only[zL];congr 1
@[simp↓] theorem aj0 (off len aO sz bP:Nat) (l:List PV) (p:List Step) (K:Nat->List PV->Prop):Um off len aO sz p K (.arr bP l)=((aO=l.length∧p=[]∧sz=bP∧off+len≤l.length)∧K sz ((l.drop off).take len)):=id rfl
def aj1 (off len aO sz:Nat) (K:Nat->List PV->Prop):PV->Prop
 | .ar bP n l=>(aO=0∧sz=bP∧off+len≤n)∧K sz ((l.drop off).take len)
 |_=>False
@[simp↓] theorem aj2 (off len aO sz:Nat) (v:PV) (p:List Step) (K:Nat->List PV->Prop):Um off len aO sz p K (.box v)=bF (aM v p) (aj1 off len aO sz K):=by
 simp only[Um];congr 1
@[simp↓] theorem ap8 (off len aO sz bP n:Nat) (l:List PV) (K:Nat->List PV->Prop):aj1 off len aO sz K (.ar bP n l)=((aO=0∧sz=bP∧off+len≤n)∧K sz ((l.drop off).take len)):=id rfl
@[simp↓] theorem ap9 (g:Bool) (sz z:Nat) (lo hi:Option AX) (l:List PV) (c:Bool):T4 s g sz lo hi K (.sl z l c)=kP g s lo hi l.length l.length (λa b=>(z=sz)∧K (.sl sz ((l.take b).drop a) (c&&decide (b=l.length)))):=id rfl
@[simp↓] theorem aqa (g:Bool) (sz z k off len aO:Nat) (p:List Step) (c:fB) (lo hi:Option AX):T4 s g sz lo hi K (.rs k p off len aO z c)=bF (get s.bx k) λblk=>(aO=blk.aO∧z=sz)∧kP g s lo hi len (D5 c off len aO) λa b=>K (.rs k p (off+a) (b-a) aO sz (Fz c a (decide (b=len)))):=_root_.id rfl
@[simp↓] theorem aqb (g:Bool) (sz z:Nat) (lo hi:Option AX) (m:AX) (l:List PV) (c:Bool):PT s g sz lo hi m K (.sl z l c)=ed g (vx s m) (u7 λm=>(0≤m∧m≤l.length)∧kP g s lo hi l.length m.toNat λa b=>(z=sz)∧K (.sl sz ((l.take b).drop a) (decide (b=m.toNat)))):=id rfl
def abu (e:Bool):fB:=bif e then .clip else .any
@[simp] theorem asX:abu true= .clip:=id rfl
@[simp] theorem asY (c:fB):Fz c 0 true=c:=by cases c<;>rfl
@[simp↓] theorem aqc (g:Bool) (sz z k off len aO:Nat) (p:List Step) (c:fB) (lo hi:Option AX) (m:AX):PT s g sz lo hi m K (.rs k p off len aO z c)=bF (get s.bx k) λblk=>(aO=blk.aO∧z=sz)∧ed g (vx s m) (u7 λm=>(0≤m∧m≤len)∧kP g s lo hi len m.toNat λa b=>K (.rs k p (off+a) (b-a) aO sz (abu (decide (b=m.toNat))))):=by
 simp only[PT];congr 1;funext blk;congr 2;congr 1;funext m;congr 2;funext a b;by_cases h:b=m.toNat<;>simp[h,abu]
@[simp↓] theorem asZ (g:Bool) (K:Nat->Nat->Prop) (h:Nat):M9 g s none K h=K 0 h:=id rfl
@[simp↓] theorem as0 (g:Bool) (x:AX) (K:Nat->Nat->Prop) (h:Nat):M9 g s (some x) K h=ed g (vx s x) (u7 λl=>(0≤l∧l≤h)∧K l.toNat h):=id rfl
def mmC (mx:Bool) (K:PV->Prop):List PV->Prop
 | .int k a::r=>nM mx a r λn=>K (.int k n)
 |_=>False
@[simp↓] theorem aqd (mx:Bool) (k:IntKind) (a:Int) (r:List PV):mmC mx K (.int k a::r)=nM mx a r λn=>K (.int k n):=id rfl
@[simp↓] theorem ayD (g mx:Bool) (xs:List AX):ev g s (.mm mx xs) K=xE g s xs (mmC mx K):=by
 simp only[ev];congr 1
@[simp↓] theorem afE (mx:Bool) (a:Int) (K:Int->Prop):nM mx a [] K=K a:=id rfl
@[simp↓] theorem afF (a b:Int) (k:IntKind) (r:List PV) (K:Int->Prop):nM true a (.int k b::r) K=nM true (max a b) r K:=by simp[nM]
@[simp↓] theorem afG (a b:Int) (k:IntKind) (r:List PV) (K:Int->Prop):nM false a (.int k b::r) K=nM false (min a b) r K:=by simp[nM]
def abv (s:St) (K:PV->Prop):PV->Prop
 | .rs k _ _ _ aO _ (.full n)=>bF (get s.bx k) λblk=>aO=blk.aO∧K (.int .i64 n)
 |_=>False
@[simp↓] theorem afH (k:Nat) (p:List Step) (off len aO sz n:Nat):abv s K (.rs k p off len aO sz (.full n))=bF (get s.bx k) λblk=>aO=blk.aO∧K (.int .i64 n):=_root_.id rfl
@[simp↓] theorem axb (g:Bool) (x:AX):ev g s (.cap x) K=ed g (vx s x) (abv s K):=by
 simp only[ev,iG];congr 1;funext p;cases p<;>try rfl
 rename_i k p off len aO sz c;cases c<;>try rfl
 simp only[abv];cases get s.bx k<;>rfl
@[simp↓] theorem aj3 (g:Bool) (f:Fn) (a b:List AX):ev g s (.mkFunc f a b) K=xE g s a λps=>xE g s b λqs=>(ps.all (λp=> !p.isAgg&&p.aT)=true∧qs.all (λp=> !p.isAgg&&p.aT)=true)∧K (.fn f ps qs):=by simp only[ev]
@[simp] theorem ge0 {α:Type} (x:α) (l:List α):(x::l)[0]? =some x:=_root_.id rfl
@[simp↓] theorem as1 (want:Bool) (M:Bool->Prop) (D U:Prop) (b:Bool):BK want true M D U (.bl b)=M (b==want):=id rfl
@[simp↓] theorem as2 (M:Bool->Prop) (D U:Prop):BK true false M D U (.bl true)=D:=by simp[BK]
@[simp↓] theorem as3 (M:Bool->Prop) (D U:Prop):BK true false M D U (.bl false)=U:=by simp[BK]
@[simp↓] theorem as4 (M:Bool->Prop) (D U:Prop):BK false false M D U (.bl true)=U:=by simp[BK]
@[simp↓] theorem as5 (M:Bool->Prop) (D U:Prop):BK false false M D U (.bl false)=D:=by simp[BK]
@[simp↓] theorem axc (A B:Prop):cdK A B (.bl true)=A:=by simp
@[simp↓] theorem axd (A B:Prop):cdK A B (.bl false)=B:=by simp
@[simp↓] theorem as6 (want:Bool) (M:Bool->Prop) (D U:Prop) (g b:Bool):BK want true M D U (.gd g (.bl b))=M (g&&b==want):=id rfl
@[simp↓] theorem aqe (M:Bool->Prop) (D U:Prop):BK true false M D U (.gd true (.bl true))=D:=by simp[BK]
@[simp↓] theorem aqf (M:Bool->Prop) (D U:Prop):BK true false M D U (.gd true (.bl false))=U:=by simp[BK]
@[simp↓] theorem aqg (M:Bool->Prop) (D U:Prop):BK false false M D U (.gd true (.bl true))=U:=by simp[BK]
@[simp↓] theorem aqh (M:Bool->Prop) (D U:Prop):BK false false M D U (.gd true (.bl false))=D:=by simp[BK]
@[simp↓] theorem as7 (w:Bool) (M:Bool->Prop) (D U:Prop) (b:Bool):BK w false M D U (.gd false (.bl b))=U:=by simp[BK]
@[simp↓] theorem aj4 (x a b:Bool):yz x K (.bl a) (.bl b)=K (.bl (bif x then a else b)):=id rfl
@[simp↓] theorem aj5 (x a g b:Bool):yz x K (.bl a) (.gd g (.bl b))=((x=false->g=true)∧K (.bl (bif x then a else b))):=id rfl
@[simp↓] theorem aj6 (x a g b:Bool):yz x K (.gd g (.bl a)) (.bl b)=((x=true->g=true)∧K (.bl (bif x then a else b))):=id rfl
@[simp↓] theorem aj7 (x a:Bool):yz x K (.bl a) .un=(x=true∧K (.bl a)):=id rfl
@[simp↓] theorem aj8 (x a:Bool):yz x K .un (.bl a)=(x=false∧K (.bl a)):=id rfl
@[simp] theorem wrap_i64 {n:Int} (h: -9223372036854775808≤n∧n≤9223372036854775807):IntKind.i64.wrap n=n:=by
 simp only[IntKind.wrap,IntKind.bits,IntKind.signed];simp;omega
@[simp] theorem wrap_u8 {n:Int} (h:0≤n∧n≤255):IntKind.u8.wrap n=n:=by
 simp only[IntKind.wrap,IntKind.bits,IntKind.signed];simp;omega
@[simp] theorem wrap_u32 {n:Int} (h:0≤n∧n≤4294967295):IntKind.u32.wrap n=n:=by
 simp only[IntKind.wrap,IntKind.bits,IntKind.signed];simp;omega
@[simp] theorem wrap_u64 {n:Int} (h:0≤n∧n≤18446744073709551615):IntKind.u64.wrap n=n:=by
 simp only[IntKind.wrap,IntKind.bits,IntKind.signed];simp;omega
theorem AQ (b:List UInt8):gN (b.map u8)=some b:=by
 induction b with
 |nil=>rfl
 |
  cons x b ih=>
  have h:(x.toNat:Int)<256:=by have:=x.toNat_lt;omega
  simp[u8,gN,ih];omega
@[simp] theorem Uo (b:List UInt8):gN (b.map u8)=some b:=AQ b
@[simp↓] theorem afI (sz j s:Nat) (l:List PV) (r:List Step):oU (.arr sz l) (.i j s::r)=if s=sz then l[j]?.bind λc=>aM c r else none:=by
 first|(simp only[oU];cases l[j]? <;>rfl)|(simp only[aM];cases l[j]? <;>rfl)
@[simp↓] theorem afJ (sz o n s:Nat) (l:List PV) (r:List Step):oU (.arr sz l) (.w o n s::r)=if s=sz∧o+n≤l.length then aM (.ar sz n ((l.drop o).take n)) r else none:=_root_.id rfl
@[simp↓] theorem as8 (sz k o n s:Nat) (l:List PV) (r:List Step):aM (.ar sz k l) (.w o n s::r)=if s=sz∧o+n≤l.length then aM (.ar sz n ((l.drop o).take n)) r else none:=by
 simp only[aM]
@[simp↓] theorem afK (v:PV) (p:List Step):oU (.box v) p=aM v p:=by cases p<;>rfl
@[simp↓] theorem aj9 (v:PV):aM v []=some v:=by cases v<;>rfl
@[simp↓] theorem as9 (w i o:Nat) (l:List PV) (r:List Step):aM (.st w l) (.f i o::r)=if aB (l.take i)=o then l[i]?.bind λc=>aM c r else none:=by
 simp only[aM];cases l[i]? <;>rfl
@[simp↓] theorem ata (sz n j s:Nat) (l:List PV) (r:List Step):aM (.ar sz n l) (.i j s::r)=if s=sz then l[j]?.bind λc=>aM c r else none:=by
 first|(simp only[oU];cases l[j]? <;>rfl)|(simp only[aM];cases l[j]? <;>rfl)
@[simp↓] theorem aka (v x:PV):bT v [] x=if x.width=v.width then some x else none:=by cases v<;>rfl
@[simp↓] theorem atc (w i o:Nat) (l:List PV) (r:List Step) (x:PV):bT (.st w l) (.f i o::r) x=if aB (l.take i)=o then l[i]?.bind λc=>(bT c r x).bind λc'=>some (.st w (l.set i c'))else none:=by
 simp only[bT];cases l[i]?with
 |none=>rfl
 |some c=>simp only[JlX];cases bT c r x<;>rfl
@[simp↓] theorem atd (sz n j s:Nat) (l:List PV) (r:List Step) (x:PV):bT (.ar sz n l) (.i j s::r) x=if s=sz then l[j]?.bind λc=>(bT c r x).bind λc'=>some (.ar sz n (l.set j c'))else none:=by
 simp only[bT];cases l[j]?with
 |none=>rfl
 |some c=>simp only[JlX];cases bT c r x<;>rfl
@[simp↓] theorem afL (v x:PV) (p:List Step):uP (.box v) p x=(bT v p x).bind λv'=>some (.box v'):=by
 simp only[uP];cases bT v p x<;>rfl
@[simp↓] theorem afM (sz j s:Nat) (l:List PV) (r:List Step) (x:PV):uP (.arr sz l) (.i j s::r) x=if s=sz then l[j]?.bind λc=>(bT c r x).bind λc'=>some (.arr sz (l.set j c'))else none:=by
 simp only[uP];cases l[j]?with
 |none=>rfl
 |some c=>simp only[JlX];cases bT c r x<;>rfl
@[simp] theorem aqi (z:Nat) (l:List PV) (v:PV):wkb (.arr z l) v=wk v:=id rfl
@[simp] theorem aqj (u v:PV):wkb (.box u) v=v:=id rfl
@[simp] theorem X8 (z:Nat) (l:List PV):(aV.arr z l).aO=l.length:=id rfl
@[simp] theorem X9 (v:PV):(aV.box v).aO=0:=id rfl
@[simp↓] theorem Up (l:List PV):cr l []=some l:=id rfl
@[simp↓] theorem SF (l:List PV) (i:Nat) (p:PV) (r:List (Nat×PV)):cr l ((i,p)::r)=l[i]?.bind λq=>if p.width=q.width∧p.aT=true then cr (l.set i p) r else none:=by
 simp only[cr];cases l[i]? <;>rfl
@[simp] theorem ayE (w:Nat) (l:List PV):(PV.st w l).width=w:=id rfl
@[simp] theorem ayF (sz n:Nat) (l:List PV):(PV.ar sz n l).width=n*sz:=id rfl
@[simp] theorem axe (k:IntKind) (n:Int):(PV.int k n).width=1:=id rfl
@[simp] theorem ayG (b:Bool):(PV.bl b).width=1:=id rfl
@[simp] theorem axf (b:List UInt8):(PV.str b).width=1:=id rfl
@[simp] theorem ayH (z:Nat) (l:List PV) (c:Bool):(PV.sl z l c).width=1:=id rfl
@[simp] theorem ayI (k:Nat) (p:List Step) (a b c d:Nat) (e:fB):(PV.rs k p a b c d e).width=1:=id rfl
@[simp] theorem ayJ (b:UInt8):(u8 b).width=1:=id rfl
@[simp] theorem abw:aB []=0:=id rfl
@[simp] theorem Ya (p:PV) (l:List PV):aB (p::l)=p.width+aB l:=id rfl
@[simp] theorem ate (w:Nat) (l:List PV):(PV.st w l).isAgg=true:=id rfl
@[simp] theorem atf (sz n:Nat) (l:List PV):(PV.ar sz n l).isAgg=true:=id rfl
@[simp] theorem aqk (k:IntKind) (n:Int):(PV.int k n).isAgg=false:=id rfl
@[simp] theorem atg (b:Bool):(PV.bl b).isAgg=false:=id rfl
@[simp] theorem aql (b:List UInt8):(PV.str b).isAgg=false:=id rfl
@[simp] theorem ath (z:Nat) (l:List PV) (c:Bool):(PV.sl z l c).isAgg=false:=id rfl
@[simp] theorem ati (k:Nat) (p:List Step) (a b c d:Nat) (e:fB):(PV.rs k p a b c d e).isAgg=false:=id rfl
@[simp] theorem atj (k:Nat) (p:List Step) (a:Nat):(PV.pt k p a).isAgg=false:=id rfl
@[simp] theorem atk (b:UInt8):(u8 b).isAgg=false:=id rfl
@[simp] theorem atl (w:Nat) (l:List PV):(PV.st w l).aT=true:=id rfl
@[simp] theorem atm (sz n:Nat) (l:List PV):(PV.ar sz n l).aT=true:=id rfl
@[simp] theorem aqm (k:IntKind) (n:Int):(PV.int k n).aT=true:=id rfl
@[simp] theorem atn (b:Bool):(PV.bl b).aT=true:=id rfl
@[simp] theorem aqn (b:List UInt8):(PV.str b).aT=true:=id rfl
@[simp] theorem ato (z:Nat) (l:List PV) (c:Bool):(PV.sl z l c).aT=true:=id rfl
@[simp] theorem atp (k:Nat) (p:List Step) (a b c d:Nat) (e:fB):(PV.rs k p a b c d e).aT=true:=id rfl
@[simp] theorem atq (k:Nat) (p:List Step) (a:Nat):(PV.pt k p a).aT=true:=id rfl
@[simp] theorem aqo (w:Nat) (l:List PV):(PV.st w l).flat=true:=id rfl
@[simp] theorem aqp (sz n:Nat) (l:List PV):(PV.ar sz n l).flat=true:=id rfl
@[simp] theorem akb (k:IntKind) (n:Int):(PV.int k n).flat=true:=id rfl
@[simp] theorem aqq (b:Bool):(PV.bl b).flat=true:=id rfl
@[simp] theorem akc (b:List UInt8):(PV.str b).flat=true:=id rfl
@[simp] theorem aqr (z:Nat) (l:List PV) (c:Bool):(PV.sl z l c).flat=true:=id rfl
@[simp] theorem aqs (k:Nat) (p:List Step) (a b c d:Nat) (e:fB):(PV.rs k p a b c d e).flat=true:=id rfl
@[simp] theorem aqt (k:Nat) (p:List Step) (a:Nat):(PV.pt k p a).flat=true:=id rfl
end Go.Ab
namespace Go.Ab
variable [cL]
variable {P:Program} {s:St} [eJ]
theorem aA.with {n:Nat} {res:List AK} {R:PV->List aV->Prop} {t:Tg R} (c:List Cut) (ks:List Nat)
  (h:iR c s λs'=>I6 s' res λps=>bF (getAll s'.bx ks) λbM=>(ks.Nodup∧ks.take n=dS n)∧(ps.all PV.flat=true∧af (bR ks) (dj ps)=true∧bM.all (ab (bR ks))=true)∧R (aE (bz ks) (dj ps)) (bM.map (az (bz ks)))):aA n res R t s:=by
 refine⟨c,ks,fo c (λs' Bt=> ?_) h⟩
 have aev:∀(l:List AK) (s:St) (K K':List PV->Prop),(∀p,K p->K' p)->I6 s l K->I6 s l K':=by
  intro l;induction l with
  |nil=>intro s K K' h hk;exact h _ hk
  |cons x l ih=>intro s K K' h hk;exact BH (λp hp=>ih _ _ _ (λq hq=>h _ hq) hp) hk
 refine aev _ _ _ _ (λps Ew=> ?_) Bt;cases hg:getAll s'.bx ks with
 |none=>rw[hg]at Ew;exact Ew.elim
 |some bM=>rw[hg]at Ew;exact⟨bM,⟨rfl,Ew.1.1,Ew.1.2⟩,Ew.2.1,Ew.2.2⟩
@[simp] theorem Yb (bx:List (Nat×aV)) (k:Nat) (r:List Nat):getAll bx (k::r)=(get bx k).bind λb=>(getAll bx r).bind λl=>some (b::l):=by
 simp only[getAll];cases get bx k<;>cases getAll bx r<;>rfl
@[simp] theorem akd {p:PV} (h:Pure p) (ρ:Nat->Nat):aE ρ p=p:=h.aE ρ
@[simp] theorem afN {p:List PV} (h:an p) (ρ:Nat->Nat):aR ρ p=p:=h.aE ρ
@[simp] theorem atr (ρ:Nat->Nat) (k:Nat) (p:List Step) (a b c d:Nat) (e:fB):aE ρ (.rs k p a b c d e)= .rs (ρ k) p a b c d e:=by simp[aE]
@[simp] theorem ats (ρ:Nat->Nat) (k:Nat) (p:List Step) (a:Nat):aE ρ (.pt k p a)= .pt (ρ k) p a:=by simp[aE]
@[simp] theorem aqu (ρ:Nat->Nat) (l:List PV):aE ρ (.tup l)= .tup (aR ρ l):=by simp[aE]
@[simp] theorem atu (ρ:Nat->Nat) (w:Nat) (l:List PV):aE ρ (.st w l)= .st w (aR ρ l):=by simp[aE]
@[simp] theorem afO (ρ:Nat->Nat) (p:PV) (l:List PV):aR ρ (p::l)=aE ρ p::aR ρ l:=id rfl
@[simp] theorem ake (ρ:Nat->Nat) (z:Nat) (l:List PV):az ρ (.arr z l)= .arr z (aR ρ l):=id rfl
@[simp] theorem akf (ρ:Nat->Nat) (v:PV):az ρ (.box v)= .box (aE ρ v):=id rfl
@[simp] theorem afP (k:Nat) (ks:List Nat) (j:Nat):bz (k::ks) j=((idx (k::ks) j).map (KB+·)).getD j:=by
 simp only[bz];cases idx (k::ks) j<;>rfl
@[simp] theorem akg (x:Nat) (r:List Nat) (k:Nat):idx (x::r) k=if x=k then some 0 else(idx r k).map (·+1):=by
 simp only[idx];cases idx r k<;>rfl
@[simp] theorem aqv (ks:List Nat) (k:Nat):bR ks k=(idx ks k).isSome:=id rfl
@[simp] theorem abx (f:Nat->Bool) (l:List PV):af f (.tup l)=ah f l:=by simp[af]
@[simp] theorem afQ (f:Nat->Bool) (w:Nat) (l:List PV):af f (.st w l)=ah f l:=by simp[af]
@[simp] theorem Uq {α β:Type} (f:α->β) (l:List α):(l.map f).take l.length=l.map f:=tJ (by simp)
@[simp] theorem SG {α β:Type} (f:α->β) (l:List α) (x:β):(l.map f++[x]).take (l.length+1)=l.map f++[x]:=tJ (by simp)
@[simp] theorem aqw {p:PV} (h:Pure p) (n:Nat):an (zr n p):=by rw[cg];exact ui h n
@[simp] theorem akh {p:PV} (h:wk p=p) (n:Nat):fI (zr n p)=zr n p:=by rw[cg];exact Ed h n
@[simp] theorem atv (n:Nat) (k:IntKind) (m:Int):fI (zr n (.int k m))=zr n (.int k m):=akh (by simp) n
@[simp] theorem atw (n:Nat) (p:PV):(zr n p).length=n:=by rw[cg];exact JcW
theorem Ng (b:List UInt8):an (b.map u8):=by simp
@[simp] theorem aby (b:List UInt8):an (b.map u8)↔True:=iff_true_intro (Ng b)
end Go.Ab
namespace Go.Ab
variable [cL]
variable {P:Program} {s:St} [eJ]
def lH (P:Program) (l:List AO) (o u:List Nat) (K:St->Prop) (_:Tg K) (s:St):Prop:=∃W,iF P l u.contains W s o K
@[simp↓] theorem abz (l:List AO) (o u:List Nat) (Q:Exit->St->Prop):aw P (.regionD l o u) Q s=lH P l o u (Q .normal) .mk s:=_root_.id rfl
def kj (s:St):List (AO×Bool)->Bool
 |[]=>true
 |(x,_)::r=>(match x.dY with|some k=>(get s.bx k).isNone|none=>true)&&kj s r
def P9 (P:Program) (W:List Nat) (s:St):List (AO×Bool)->(St->Prop)->Prop
 |[],K=>K s
 |(x,f)::r,K=>kj s ((x,f)::r)=true∧jj P W f s x λt=>P9 P W t r K
def qA (l:List AO) (u:List Nat):List Nat->Option (List (AO×Bool))
 |[]=>some []
 |i::r=>match l[i]?,qA l u r with|some x,some m=>some ((x,u.contains i)::m)|_,_=>none
theorem yB {l:List AO} {u:List Nat}:∀ {o:List Nat} {m:List (AO×Bool)},qA l u o=some m->kj s m=dZ l s o
 |[],m,hm=>by simp[qA]at hm;subst hm;rfl
 |
  i::r,m,hm=>by
  simp only[qA]at hm
  split at hm
  ·rename_i x m' hx wv
   simp only[sJ]at hm;subst hm
   rw[bQ]
   simp only[kj,yB wv]
   congr 1
   simp only[dZ,JoZ,List.all_nil,Bool.and_true,hx]
   cases x.dY<;>rfl
  ·simp at hm
theorem BM {l:List AO} {u:List Nat} {W:List Nat}:∀ {o:List Nat} {m:List (AO×Bool)} {s:St} {K:St->Prop},qA l u o=some m->P9 P W s m K->iF P l u.contains W s o K
 |[],m,s,K,hm,h=>by simp[qA]at hm;subst hm;exact h
 |
  i::r,m,s,K,hm,h=>by
  simp only[qA]at hm
  split at hm
  ·rename_i x m' hx wv
   simp only[sJ]at hm;subst hm
   have hf:kj s ((x,u.contains i)::m')=dZ l s (i::r):=yB (u:=u) (by simp only[qA,hx,wv])
   simp only[iF,hx,P9]at h⊢
   exact⟨hf▸h.1,CZ (λt ht=>BM wv ht) h.2⟩
  ·simp at hm
theorem lH.of {l:List AO} {o u:List Nat} {K:St->Prop} {t:Tg K} (W:List Nat) (m:List (AO×Bool)) (hm:qA l u o=some m) (h:P9 P W s m K):lH P l o u K t s:=⟨W,BM hm h⟩
def Ga:Option aV->Bool
 |some (.box _)=>true
 |_=>false
@[simp] theorem aki (v:PV):Ga (some (.box v))=true:=_root_.id rfl
@[simp] theorem akj (sz:Nat) (l:List PV):Ga (some (.arr sz l))=false:=_root_.id rfl
def Ur (W:List Nat) (c:List (Nat×aV)):List (Nat×aV)->Prop
 |[]=>True
 |(k,b)::r=>(if JB W=true then get c k=some b∨W.contains k=true∧Ga (some b)=true∧Ga (get c k)=true else W.contains k=true∨get c k=some b)∧Ur W c r
theorem Qa {W:List Nat} {t:St}:∀ {l:List (Nat×aV)} {e:List (Nat×PV)},Ur W t.bx l->Fr W ⟨e,l⟩ t
 |[],e,_=>λk b _ h=>by simp[get]at h
 |
  (n,v)::r,e,h=>λk b hw hb=>by
  simp only[get]at hb
  split at hb
  ·rename_i hk;subst hk
   simp only[sJ]at hb;subst hb
   have h1:=h.1
   split at h1
   ·rename_i hm
    rcases h1 with h1|⟨h1,h2,h3⟩
    ·exact⟨_,h1,rfl⟩
    ·cases v with
     |
      box x=>
      cases hg:get t.bx n with
      |none=>rw[hg]at h3;simp[Ga]at h3
      |
       some c=>
       rw[hg]at h3
       cases c with
       |box y=>exact⟨_,rfl,by simp only[yp,h1,hm,and_self,if_true]⟩
       |_=>simp[Ga]at h3
     |_=>simp[Ga]at h2
   ·rename_i hm
    rcases h1 with h1|h1
    ·rw[h1]at hw;simp at hw;exact absurd hw hm
    ·exact⟨_,h1,rfl⟩
  ·exact Qa (e:=e) h.2 k b hw hb
def wC (P:Program) (W:List Nat) (s:St):List (AO×Bool)->(St->Prop)->Prop
 |[],K=>K s
 |(x,f)::r,K=>if x.quiet=true then(if f=true then fX P (s.less W) x (λt=>wC P W {t with bx:=s.bx} r K)else fX P s x (λt=>wC P W t r K))
   else kj s ((x,f)::r)=true∧fX P s x (λt=>(f=true->Ur W t.bx s.bx)∧wC P W t r K)
theorem vf {s s':St} (h:s'.bx=s.bx):∀m:List (AO×Bool),kj s' m=kj s m
 |[]=>rfl
 |(x,f)::r=>by simp only[kj,vf h r,h]
theorem zO {W:List Nat}:∀ {m:List (AO×Bool)} {s:St} {K:St->Prop},wC P W s m K->kj s m=true
 |[],s,K,h=>rfl
 |
  (x,f)::r,s,K,h=>by
  simp only[wC]at h
  split at h
  ·rename_i hq
   simp only[kj,eL hq,JjZ]
   split at h
   ·obtain⟨v,h1,_⟩:=vR hq h
    have:=zO h1
    exact(vf (s:=s) (s':= {env:=((s.less W).put x.dst v).env,bx:=s.bx}) rfl r).symm.trans this
   ·obtain⟨v,h1,_⟩:=vR hq h
    have:=zO h1
    rwa [vf (iv _ _)]at this
  ·exact h.1
theorem pZ {W:List Nat}:∀ {m:List (AO×Bool)} {s:St} {K:St->Prop},wC P W s m K->P9 P W s m K
 |[],s,K,h=>h
 |
  (x,f)::r,s,K,h=>by
  refine⟨zO h,?_⟩
  simp only[wC,jj]at h⊢
  split at h
  ·rename_i hq
   rw[if_pos hq]
   split at h
   ·rename_i hf;rw[if_pos hf];exact bU (λt ht=>pZ ht) h
   ·rename_i hf;rw[if_neg hf];exact bU (λt ht=>pZ ht) h
  ·rename_i hq
   rw[if_neg hq]
   exact bU (λt ht=>⟨λe=>Qa (e:=s.env) (ht.1 e),pZ ht.2⟩) h.2
@[simp] theorem akk (W:List Nat) (k:Nat) (v:PV):yp W k (.box v)=if JB W=true∧W.contains k=true then HL else .box v:=_root_.id rfl
@[simp] theorem akl (W:List Nat) (k sz:Nat) (l:List PV):yp W k (.arr sz l)= .arr sz l:=_root_.id rfl
@[simp] theorem axg:JB []=false:=_root_.id rfl
@[simp] theorem axh (a:Nat):JB [a]=false:=_root_.id rfl
@[simp] theorem axi (a b:Nat) (r:List Nat):JB (a::b::r)=(a==b):=_root_.id rfl
@[simp] theorem aqx:HL.aO=0:=_root_.id rfl
theorem Us {W:List Nat} (h:JB W=false) (k:Nat) (b:aV):yp W k b=b:=by cases b<;>simp[yp,h]
def AR (W:List Nat) (b:List (Nat×aV)):List (Nat×aV):=(b.filter λp=>JB W|| !W.contains p.1).map λp=>(p.1,yp W p.1 p.2)
@[simp] theorem afR (W:List Nat):AR W []=[]:=_root_.id rfl
@[simp] theorem abA (W:List Nat) (k:Nat) (v:aV) (r:List (Nat×aV)):AR W ((k,v)::r)=if JB W=true then(k,yp W k v)::AR W r else if W.contains k=true then AR W r else(k,v)::AR W r:=by
 unfold AR;rw[JpX];cases hm:JB W
 ·cases W.contains k<;>simp[Us hm]
 ·simp
@[simp] theorem akm (d:Option Nat) (gd:Option (Nat×Bool)) (mg:Bool) (a:AX):AO.quiet ⟨d,gd,mg,.mv a⟩=true:=_root_.id rfl
@[simp] theorem aqy (d:Option Nat) (gd:Option (Nat×Bool)) (mg:Bool) (a:AX):AO.dY ⟨d,gd,mg,.mv a⟩=none:=by simp[AO.dY]
@[simp] theorem Yc (d:Option Nat) (gd:Option (Nat×Bool)) (mg:Bool) (z:PV) (ps:List (Nat×AX)):AO.quiet ⟨d,gd,mg,.build z ps⟩=true:=_root_.id rfl
@[simp] theorem abB (d:Option Nat) (gd:Option (Nat×Bool)) (mg:Bool) (z:PV) (ps:List (Nat×AX)):AO.dY ⟨d,gd,mg,.build z ps⟩=none:=by simp[AO.dY]
@[simp] theorem abC (d:Option Nat) (gd:Option (Nat×Bool)) (mg:Bool) (g:Bool) (m:Nat) (a:AX):AO.quiet ⟨d,gd,mg,.load g m a⟩=true:=_root_.id rfl
@[simp] theorem afS (d:Option Nat) (gd:Option (Nat×Bool)) (mg:Bool) (g:Bool) (m:Nat) (a:AX):AO.dY ⟨d,gd,mg,.load g m a⟩=none:=by simp[AO.dY]
@[simp] theorem Qb (d:Option Nat) (gd:Option (Nat×Bool)) (mg:Bool) (a:AX):AO.quiet ⟨d,gd,mg,.nilCheck a⟩=true:=_root_.id rfl
@[simp] theorem SH (d:Option Nat) (gd:Option (Nat×Bool)) (mg:Bool) (a:AX):AO.dY ⟨d,gd,mg,.nilCheck a⟩=none:=by simp[AO.dY]
@[simp] theorem afT (d:Option Nat) (gd:Option (Nat×Bool)) (mg:Bool) (o:BinOp) (e:ET) (a b:AX):AO.quiet ⟨d,gd,mg,.bin o e a b⟩=true:=_root_.id rfl
@[simp] theorem akn (d:Option Nat) (gd:Option (Nat×Bool)) (mg:Bool) (o:BinOp) (e:ET) (a b:AX):AO.dY ⟨d,gd,mg,.bin o e a b⟩=none:=by simp[AO.dY]
@[simp] theorem Yd (d:Option Nat) (gd:Option (Nat×Bool)) (mg:Bool) (k:IntKind) (a:AX):AO.quiet ⟨d,gd,mg,.convI k a⟩=true:=_root_.id rfl
@[simp] theorem abD (d:Option Nat) (gd:Option (Nat×Bool)) (mg:Bool) (k:IntKind) (a:AX):AO.dY ⟨d,gd,mg,.convI k a⟩=none:=by simp[AO.dY]
@[simp] theorem Ye (d:Option Nat) (gd:Option (Nat×Bool)) (mg:Bool) (k:SK) (a:AX) (l h m:Option AX):AO.quiet ⟨d,gd,mg,.slice k a l h m⟩=true:=_root_.id rfl
@[simp] theorem Ut (d:Option Nat) (gd:Option (Nat×Bool)) (mg:Bool) (i o:Nat) (a:AX):AO.quiet ⟨d,gd,mg,.fieldA i o a⟩=true:=_root_.id rfl
@[simp] theorem Yf (d:Option Nat) (gd:Option (Nat×Bool)) (mg:Bool) (i o:Nat) (a:AX):AO.dY ⟨d,gd,mg,.fieldA i o a⟩=none:=by simp[AO.dY]
@[simp] theorem Uu (d:Option Nat) (gd:Option (Nat×Bool)) (mg:Bool) (k:SK) (a b:AX):AO.quiet ⟨d,gd,mg,.indexA k a b⟩=true:=_root_.id rfl
@[simp] theorem Yg (d:Option Nat) (gd:Option (Nat×Bool)) (mg:Bool) (k:SK) (a b:AX):AO.dY ⟨d,gd,mg,.indexA k a b⟩=none:=by simp[AO.dY]
@[simp] theorem SI (d:Option Nat) (gd:Option (Nat×Bool)) (mg:Bool) (i:Nat) (a:AX):AO.quiet ⟨d,gd,mg,.extract i a⟩=true:=_root_.id rfl
@[simp] theorem Uv (d:Option Nat) (gd:Option (Nat×Bool)) (mg:Bool) (i:Nat) (a:AX):AO.dY ⟨d,gd,mg,.extract i a⟩=none:=by simp[AO.dY]
@[simp] theorem afU (d:Option Nat) (gd:Option (Nat×Bool)) (mg:Bool) (a:AX):AO.quiet ⟨d,gd,mg,.len a⟩=true:=_root_.id rfl
@[simp] theorem ako (d:Option Nat) (gd:Option (Nat×Bool)) (mg:Bool) (g:Bool) (as:List AX):AO.quiet ⟨d,gd,mg,.mm g as⟩=true:=_root_.id rfl
@[simp] theorem aqz (d:Option Nat) (gd:Option (Nat×Bool)) (mg:Bool) (g:Bool) (as:List AX):AO.dY ⟨d,gd,mg,.mm g as⟩=none:=by simp[AO.dY]
@[simp] theorem abE (d:Option Nat) (gd:Option (Nat×Bool)) (mg:Bool) (a:AX) (as:List AX):AO.quiet ⟨d,gd,mg,.call a as⟩=false:=_root_.id rfl
@[simp] theorem afV (d:Option Nat) (gd:Option (Nat×Bool)) (mg:Bool) (a:AX) (as:List AX):AO.dY ⟨d,gd,mg,.call a as⟩=none:=by simp[AO.dY]
@[simp] theorem Yh (d:Option Nat) (gd:Option (Nat×Bool)) (mg:Bool) (a:AX) (as:List AX):AO.quiet ⟨d,gd,mg,.callq a as⟩=true:=_root_.id rfl
@[simp] theorem abF (d:Option Nat) (gd:Option (Nat×Bool)) (mg:Bool) (a:AX) (as:List AX):AO.dY ⟨d,gd,mg,.callq a as⟩=none:=by simp[AO.dY]
@[simp] theorem Yi (d:Option Nat) (gd:Option (Nat×Bool)) (mg:Bool) (z:PV):AO.quiet ⟨d,gd,mg,.alloc z⟩=false:=_root_.id rfl
@[simp] theorem Yj (d:Option Nat) (gd:Option (Nat×Bool)) (mg:Bool) (m:Nat) (a b:AX):AO.quiet ⟨d,gd,mg,.store m a b⟩=false:=_root_.id rfl
@[simp] theorem abG (d:Option Nat) (gd:Option (Nat×Bool)) (mg:Bool) (m:Nat) (a b:AX):AO.dY ⟨d,gd,mg,.store m a b⟩=none:=by simp[AO.dY]
@[simp] theorem Uw (d:Option Nat) (gd:Option (Nat×Bool)) (mg:Bool) (m m2:Nat) (g:Bool) (a b:AX):AO.quiet ⟨d,gd,mg,.append m m2 g a b⟩=false:=_root_.id rfl
@[simp] theorem Yk (d:Option Nat) (gd:Option (Nat×Bool)) (mg:Bool) (m m2:Nat) (g:Bool) (a b:AX):AO.dY ⟨d,gd,mg,.append m m2 g a b⟩=none:=by simp[AO.dY]
@[simp] theorem abH (d:Option Nat) (gd:Option (Nat×Bool)) (mg:Bool) (m:Nat) (a b:AX):AO.quiet ⟨d,gd,mg,.copy m a b⟩=false:=_root_.id rfl
@[simp] theorem afW (d:Option Nat) (gd:Option (Nat×Bool)) (mg:Bool) (m:Nat) (a b:AX):AO.dY ⟨d,gd,mg,.copy m a b⟩=none:=by simp[AO.dY]
@[simp] theorem Ov (d:Option Nat) (gd:Option (Nat×Bool)) (mg:Bool) (m m2:Nat) (z:PV) (a b:AX):AO.quiet ⟨d,gd,mg,.makeSlice m m2 z a b⟩=false:=_root_.id rfl
@[simp] theorem Ow (k:Nat) (mg:Bool) (sz b:Nat) (z:PV) (kl kc:IntKind) (l c:Int):AO.dY ⟨some k,none,mg,.makeSlice sz b z (.c (.int kl l)) (.c (.int kc c))⟩=if 0≤l∧l≤c∧c*b≤281474976710656∧c≤9223372036854775807 then some k else none:=_root_.id rfl
@[simp] theorem afX (d:Option Nat) (gd:Option (Nat×Bool)) (mg:Bool) (m:Nat) (z:PV) (n:Nat) (ps:List (Nat×AX)):AO.quiet ⟨d,gd,mg,.buildSlice false m z n ps⟩=true:=_root_.id rfl
@[simp] theorem akp (d:Option Nat) (gd:Option (Nat×Bool)) (mg:Bool) (m:Nat) (z:PV) (n:Nat) (ps:List (Nat×AX)):AO.dY ⟨d,gd,mg,.buildSlice false m z n ps⟩=none:=by simp[AO.dY]
@[simp] theorem afY (d:Option Nat) (gd:Option (Nat×Bool)) (mg:Bool) (m:Nat) (z:PV) (n:Nat) (ps:List (Nat×AX)):AO.quiet ⟨d,gd,mg,.buildSlice true m z n ps⟩=false:=_root_.id rfl
@[simp] theorem akq (d:Option Nat) (gd:Option (Nat×Bool)) (mg:Bool) (m:Nat) (z:PV) (n:Nat) (ps:List (Nat×AX)):AO.dY ⟨d,gd,mg,.buildSlice true m z n ps⟩=none:=by simp[AO.dY]
@[simp] theorem afZ (d:Option Nat) (gd:Option (Nat×Bool)) (mg:Bool) (n z:Nat) (a:AX):AO.quiet ⟨d,gd,mg,.s2a n z a⟩=true:=_root_.id rfl
@[simp] theorem akr (d:Option Nat) (gd:Option (Nat×Bool)) (mg:Bool) (n z:Nat) (a:AX):AO.dY ⟨d,gd,mg,.s2a n z a⟩=none:=by simp[AO.dY]
@[simp] theorem Ux (d:Option Nat) (gd:Option (Nat×Bool)) (mg:Bool) (a b:Sh) (z:PV) (ok:Bool) (m x:AX):AO.quiet ⟨d,gd,mg,.mapGet a b z ok m x⟩=false:=_root_.id rfl
@[simp] theorem Yl (d:Option Nat) (gd:Option (Nat×Bool)) (mg:Bool) (a b:Sh) (z:PV) (ok:Bool) (m x:AX):AO.dY ⟨d,gd,mg,.mapGet a b z ok m x⟩=none:=by simp[AO.dY]
theorem lH.run {l:List AO} {o u:List Nat} {K:St->Prop} {t:Tg K} (W:List Nat) {m:List (AO×Bool)} (hm:qA l u o=some m) (h:wC P W s m K):lH P l o u K t s:=lH.of W m hm (pZ h)
@[simp↓] theorem aks (W:List Nat) (K:St->Prop):wC P W s [] K=K s:=_root_.id rfl
@[simp↓] theorem atx (W:List Nat) (n:Nat) (v:PV) (e:List (Nat×PV)) (b:List (Nat×aV)) (x:AO) (f:Bool) (r:List (AO×Bool)) (K:St->Prop):wC P W ⟨(n,v)::e,b⟩ ((x,f)::r) K=
  if x.quiet=true then(if f=true then fX P ⟨(n,v)::e,AR W b⟩ x (λt=>wC P W {t with bx:=b} r K)else fX P ⟨(n,v)::e,b⟩ x (λt=>wC P W t r K))
  else(kj ⟨(n,v)::e,b⟩ ((x,f)::r)=true∧fX P ⟨(n,v)::e,b⟩ x (λt=>(f=true->Ur W t.bx b)∧wC P W t r K)):=by
 simp only[wC];rfl
@[simp] theorem aqA (x:AO) (f:Bool) (r:List (AO×Bool)):kj s ((x,f)::r)=((match x.dY with|some k=>(get s.bx k).isNone|none=>true)&&kj s r):=_root_.id rfl
def Ym (P:Program) (l:List AO) (a:List Nat) (p q:Nat) (b u:List Nat) (K:St->Prop) (_:Tg K) (s:St):Prop:=∃W,mb P l u.contains W (p::q::b) s a λt=>iF P l u.contains W t (p::q::b) K∧iF P l u.contains W t (q::p::b) K
@[simp↓] theorem abI (l:List AO) (a:List Nat) (p q:Nat) (b u:List Nat) (Q:Exit->St->Prop):aw P (.regionE l a p q b u) Q s=Ym P l a p q b u (Q .normal) .mk s:=_root_.id rfl
def oB (P:Program) (W:List Nat) (mE:List (AO×Bool)) (s:St):List (AO×Bool)->(St->Prop)->Prop
 |[],K=>kj s mE=true∧K s
 |(x,f)::r,K=>if x.quiet=true then(if f=true then fX P (s.less W) x (λt=>oB P W mE {t with bx:=s.bx} r K)else fX P s x (λt=>oB P W mE t r K))
   else kj s ((x,f)::(r++mE))=true∧fX P s x (λt=>(f=true->Ur W t.bx s.bx)∧oB P W mE t r K)
theorem H5 {l:List AO} {u:List Nat}:∀ {a b:List Nat} {m n:List (AO×Bool)},qA l u a=some m->qA l u b=some n->qA l u (a++b)=some (m++n)
 |[],b,m,n,h,h2=>by simp[qA]at h;subst h;exact h2
 |
  i::r,b,m,n,h,h2=>by
  simp only[qA]at h
  split at h
  ·rename_i x m' hx wv
   simp only[sJ]at h;subst h
   simp only[JeZ,qA,hx,H5 wv h2]
  ·simp at h
theorem xk {W:List Nat} {mE:List (AO×Bool)}:∀ {m:List (AO×Bool)} {s:St} {K:St->Prop},oB P W mE s m K->kj s (m++mE)=true
 |[],s,K,h=>h.1
 |
  (x,f)::r,s,K,h=>by
  simp only[oB]at h
  split at h
  ·rename_i hq
   simp only[JeZ,kj,eL hq,JjZ]
   split at h
   ·obtain⟨v,h1,_⟩:=vR hq h
    have:=xk h1
    exact(vf (s:=s) (s':= {env:=((s.less W).put x.dst v).env,bx:=s.bx}) rfl _).symm.trans this
   ·obtain⟨v,h1,_⟩:=vR hq h
    have:=xk h1
    rwa [vf (iv _ _)]at this
  ·exact h.1
theorem BN {l:List AO} {u:List Nat} {W E:List Nat} {mE:List (AO×Bool)} (hE:qA l u E=some mE):∀ {o:List Nat} {m:List (AO×Bool)} {s:St} {K:St->Prop},qA l u o=some m->oB P W mE s m K->mb P l u.contains W E s o K
 |[],m,s,K,hm,h=>by simp[qA]at hm;subst hm;exact⟨by rw[←yB hE];exact h.1,h.2⟩
 |
  i::r,m,s,K,hm,h=>by
  have OC:=hm
  simp only[qA]at hm
  split at hm
  ·rename_i x m' hx wv
   simp only[sJ]at hm;subst hm
   have hf:=yB (s:=s) (H5 OC hE)
   have pS:=xk h
   rw[hf]at pS
   simp only[mb,hx]
   refine⟨by simpa using pS,?_⟩
   simp only[oB,jj]at h⊢
   split at h
   ·rename_i hq
    rw[if_pos hq]
    split at h
    ·rename_i hf;rw[if_pos hf];exact bU (λt ht=>BN hE wv ht) h
    ·rename_i hf;rw[if_neg hf];exact bU (λt ht=>BN hE wv ht) h
   ·rename_i hq
    rw[if_neg hq]
    exact bU (λt ht=>⟨λe=>Qa (e:=s.env) (ht.1 e),BN hE wv ht.2⟩) h.2
  ·simp at hm
theorem vZ {W:List Nat} {mE:List (AO×Bool)}:∀ {m:List (AO×Bool)} {s:St} {K K':St->Prop},(∀t,K t->K' t)->oB P W mE s m K->oB P W mE s m K'
 |[],s,K,K',h,hk=>⟨hk.1,h _ hk.2⟩
 |
  (x,f)::r,s,K,K',h,hk=>by
  simp only[oB]at hk⊢
  split at hk
  ·rename_i hq;rw[if_pos hq]
   split at hk
   ·rename_i hf;rw[if_pos hf];exact bU (λt ht=>vZ h ht) hk
   ·rename_i hf;rw[if_neg hf];exact bU (λt ht=>vZ h ht) hk
  ·rename_i hq;rw[if_neg hq]
   exact⟨hk.1,bU (λt ht=>⟨ht.1,vZ h ht.2⟩) hk.2⟩
theorem Ym.run {l:List AO} {a:List Nat} {p q:Nat} {b u:List Nat} {K:St->Prop} {t:Tg K} (W:List Nat) {m m1 m2:List (AO×Bool)} (hm:qA l u a=some m) (h1:qA l u (p::q::b)=some m1) (h2:qA l u (q::p::b)=some m2)
  (h:oB P W m1 s m λt=>wC P W t m1 K∧wC P W t m2 K):Ym P l a p q b u K t s:=⟨W,BN h1 hm (vZ (λt ht=>⟨BM h1 (pZ ht.1),BM h2 (pZ ht.2)⟩) h)⟩
@[simp↓] theorem af0 (W:List Nat) (mE:List (AO×Bool)) (K:St->Prop):oB P W mE s [] K=(kj s mE=true∧K s):=_root_.id rfl
@[simp↓] theorem aqB (W:List Nat) (mE:List (AO×Bool)) (n:Nat) (v:PV) (e:List (Nat×PV)) (b:List (Nat×aV)) (x:AO) (f:Bool) (r:List (AO×Bool)) (K:St->Prop):oB P W mE ⟨(n,v)::e,b⟩ ((x,f)::r) K=
  if x.quiet=true then(if f=true then fX P ⟨(n,v)::e,AR W b⟩ x (λt=>oB P W mE {t with bx:=b} r K)else fX P ⟨(n,v)::e,b⟩ x (λt=>oB P W mE t r K))
  else(kj ⟨(n,v)::e,b⟩ ((x,f)::(r++mE))=true∧fX P ⟨(n,v)::e,b⟩ x (λt=>(f=true->Ur W t.bx b)∧oB P W mE t r K)):=by
 simp only[oB];rfl
@[simp↓] theorem af1:kj s []=true:=_root_.id rfl
@[simp↓] theorem akt (k:Nat) (mg f:Bool) (z:PV) (r:List (AO×Bool)):kj s ((⟨some k,none,mg,.alloc z⟩,f)::r)=((get s.bx k).isNone&&kj s r):=_root_.id rfl
@[simp] theorem aqC (W:List Nat) (c:List (Nat×aV)):Ur W c []=True:=_root_.id rfl
@[simp] theorem aku (W:List Nat) (c:List (Nat×aV)) (k:Nat) (b:aV) (r:List (Nat×aV)):Ur W c ((k,b)::r)=((if JB W=true then get c k=some b∨W.contains k=true∧Ga (some b)=true∧Ga (get c k)=true else W.contains k=true∨get c k=some b)∧Ur W c r):=_root_.id rfl
end Go.Ab
namespace Go.Ab
variable [cL]
structure aty (sh:Sh) (p:PV):Prop where
 refs:af (λ_=>false) p=true
 wk:wk p=p
 width:p.width=rI sh
 agg:p.isAgg=sh.agg
 beq:PV.beq p p=true
 cell:p.aT=true
 flat:p.flat=true
mutual
theorem df:∀(p:PV) (sh:Sh),fits sh p=true->aty sh p
 | .bl b,.b,_=>⟨rfl,by simp,rfl,rfl,by simp[PV.beq],rfl,rfl⟩
 | .int k n,.i k',h=>⟨rfl,by simp,rfl,rfl,by simp[PV.beq],rfl,rfl⟩
 | .str s,.s,_=>⟨rfl,by simp,rfl,rfl,by simp[PV.beq],rfl,rfl⟩
 |
  .st w m,.st l,h=>by
  simp only[fits,aJ,decide_eq_true_eq]at h
  obtain⟨h1,h2,h3,h4⟩:=C0 m l h.2
  exact⟨by simpa[af]using h1,by simp[h2],by simp[rI,h.1],rfl,by simp[PV.beq,h4],rfl,rfl⟩
 |
  .ar sz k m,.ar n e,h=>by
  simp only[fits,aJ,decide_eq_true_eq]at h
  obtain⟨h1,h2,h4⟩:=C1 m e h.2
  exact⟨by simpa[af]using h1,by simp[h2],by simp[rI,h.1.1,h.1.2.1],rfl,by simp[PV.beq,h4],rfl,rfl⟩
 | .un,sh,h=>by cases sh<;>simp[fits]at h
 | .tup _,sh,h=>by cases sh<;>simp[fits]at h
 | .sl _ _ _,sh,h=>by cases sh<;>simp[fits]at h
 | .rs _ _ _ _ _ _ _,sh,h=>by cases sh<;>simp[fits]at h
 | .np,sh,h=>by cases sh<;>simp[fits]at h
 | .pt _ _ _,sh,h=>by cases sh<;>simp[fits]at h
 | .fp _ _ _,sh,h=>by cases sh<;>simp[fits]at h
 | .fn _ _ _,sh,h=>by cases sh<;>simp[fits]at h
 | .nf,sh,h=>by cases sh<;>simp[fits]at h
 | .gd _ _,sh,h=>by cases sh<;>simp[fits]at h
 | .ifc _ _,sh,h=>by cases sh<;>simp[fits]at h
 | .ni,sh,h=>by cases sh<;>simp[fits]at h
 | .mp _ _,sh,h=>by cases sh<;>simp[fits]at h
 | .bl _,.i _,h=>by simp[fits]at h
 | .bl _,.s,h=>by simp[fits]at h
 | .bl _,.st _,h=>by simp[fits]at h
 | .bl _,.ar _ _,h=>by simp[fits]at h
 | .int _ _,.b,h=>by simp[fits]at h
 | .int _ _,.s,h=>by simp[fits]at h
 | .int _ _,.st _,h=>by simp[fits]at h
 | .int _ _,.ar _ _,h=>by simp[fits]at h
 | .str _,.b,h=>by simp[fits]at h
 | .str _,.i _,h=>by simp[fits]at h
 | .str _,.st _,h=>by simp[fits]at h
 | .str _,.ar _ _,h=>by simp[fits]at h
 | .st _ _,.b,h=>by simp[fits]at h
 | .st _ _,.i _,h=>by simp[fits]at h
 | .st _ _,.s,h=>by simp[fits]at h
 | .st _ _,.ar _ _,h=>by simp[fits]at h
 | .ar _ _ _,.b,h=>by simp[fits]at h
 | .ar _ _ _,.i _,h=>by simp[fits]at h
 | .ar _ _ _,.s,h=>by simp[fits]at h
 | .ar _ _ _,.st _,h=>by simp[fits]at h
theorem C0:∀(m:List PV) (l:List Sh),dz l m=true->ah (λ_=>false) m=true∧fI m=m∧aB m=rK l∧PV.lL m m=true
 |[],[],_=>⟨rfl,rfl,rfl,by simp[PV.lL]⟩
 |
  p::m,x::l,h=>by
  simp only[dz,aJ]at h
  have f:=df p x h.1
  obtain⟨h1,h2,h3,h4⟩:=C0 m l h.2
  exact⟨by simp[ah,f.refs,h1],by simp[f.wk,h2],by simp[rK,f.width,h3],by simp[PV.lL,f.beq,h4]⟩
 |[],_::_,h=>by simp[dz]at h
 |_::_,[],h=>by simp[dz]at h
theorem C1:∀(m:List PV) (e:Sh),ju e m=true->ah (λ_=>false) m=true∧fI m=m∧PV.lL m m=true
 |[],_,_=>⟨rfl,rfl,by simp[PV.lL]⟩
 |
  p::m,e,h=>by
  simp only[ju,aJ]at h
  have f:=df p e h.1
  obtain⟨h1,h2,h4⟩:=C1 m e h.2
  exact⟨by simp[ah,f.refs,h1],by simp[f.wk,h2],by simp[PV.lL,f.beq,h4]⟩
end
structure FV (sh:Sh) where
 p:PV
 ok:fits sh p=true
variable {sh:Sh} (v:FV sh)
@[simp] theorem FV.fits:Ab.fits sh v.p=true:=v.ok
@[simp] theorem FV.pure:Pure v.p:=Pure.of (df v.p sh v.ok).refs
@[simp] theorem FV.wk:Ab.wk v.p=v.p:=(df v.p sh v.ok).wk
@[simp] theorem FV.width:v.p.width=rI sh:=(df v.p sh v.ok).width
@[simp] theorem FV.agg:v.p.isAgg=sh.agg:=(df v.p sh v.ok).agg
@[simp] theorem FV.beq:PV.beq v.p v.p=true:=(df v.p sh v.ok).beq
@[simp] theorem FV.cell:v.p.aT=true:=(df v.p sh v.ok).cell
@[simp] theorem FV.flat:v.p.flat=true:=(df v.p sh v.ok).flat
@[simp↓] theorem FV.ed (g:Bool) (K:PV->Prop):Ab.ed g v.p K=K v.p:=by
 have:=(df v.p sh v.ok).flat;cases h:v.p<;>rw[h]at this<;>simp[PV.flat]at this<;>rfl
end Go.Ab
namespace Go.Ab
variable [cL]
variable {P:Program} {s:St} [eJ]
theorem eW.abJ {α:Type} {x:b7} {Q:Exit->St->Prop} {t:Tg (x,Q)} (n:Nat) (x0:α) (I:Nat->α->Prop) (ks:List Nat) (E:Nat->α->List (Nat×PV)) (B:Nat->α->List (Nat×aV)) (c0:List Cut)
  (h:iR c0 s λs0=>gx s0 ks (E 0 x0) (B 0 x0)=gx s0 ks [] []∧I 0 x0∧
   (∀i y,i<n->I i y->∀K:St->Prop,(∀z s2,gx s2 ks [] []=gx s0 ks (E (i+1) z) (B (i+1) z)->I (i+1) z->K s2)->aw P x (AN Q λs'=>∃c:List Cut,iR c s' K) (gx s0 ks (E i y) (B i y)))∧
   (∀y,I n y->∀K:St->Prop,aw P x (AN Q K) (gx s0 ks (E n y) (B n y)))):eW P x Q t s:=by
 let
   R:St->Prop:=λs0=>(∀i y,i<n->I i y->∀K:St->Prop,(∀z s2,gx s2 ks [] []=gx s0 ks (E (i+1) z) (B (i+1) z)->I (i+1) z->K s2)->aw P x (AN Q λs'=>∃c:List Cut,iR c s' K) (gx s0 ks (E i y) (B i y)))∧
   (∀y,I n y->∀K:St->Prop,aw P x (AN Q K) (gx s0 ks (E n y) (B n y)))
 let J:Nat->St->Prop:=λm st=>∃s0 i y,i≤n∧m=n-i∧I i y∧st=gx s0 ks (E i y) (B i y)∧R s0;refine⟨J,c0++[.keep ks],?_,?_⟩
 ·rw[oA];refine fo c0 (λs0 hs=> ?_) h;obtain⟨h1,h2,h3⟩:=hs;exact⟨n,s0,0,x0,by omega,by omega,h2,by rw[h1];rfl,h3⟩
 ·rintro m st ⟨s0,i,y,hi,rfl,hI,rfl,h3⟩;by_cases dq:i<n
  ·have aex:∀(K:St->Prop) s',(∃c:List Cut,iR c s' λs2=>iR [.keep ks] s2 K)->∃c:List Cut,iR c s' K:=λK s' ⟨c,hc⟩=>⟨c++[.keep ks],by rw[oA];exact hc⟩
   have:=h3.1 i y dq hI (λs2=>iR [.keep ks] s2 λs'=>∃m,m<n-i∧J m s')
    (λz s2 e hI'=>⟨n-(i+1),by omega,s0,i+1,z,by omega,rfl,hI',by rw[←e];rfl,h3⟩)
   refine F9 (λe s' he=> ?_) this;cases e with
   |normal=>exact aex _ _ he
   |_=>exact he
  ·have Bh:i=n:=by omega
   subst Bh;exact h3.2 y hI _
end Go.Ab
namespace Go.Ab
variable [cL]
variable {P:Program} {s:St}
theorem ai.gen {d:Option Nat} {f:FuncId} {args bC:List PV} {b6 Om:List aV} {r1:PV} {K:St->Prop} {t:Tg K} (ks os:List Nat) (bM:List aV) (hA:ae P f bC b6 λr fp=>r=r1∧fp=Om)
  (hg:getAll s.bx ks=some bM) (hn:(ks++os).Nodup) (Jc:∀o∈os,get s.bx o=none) (ha:ah (bR ks) args=true) (hb:bM.all (ab (bR ks))=true)
  (I1:fI (aR (bz ks) args)=bC) (tc:bM.map (az (bz ks))=b6) (hl:Om.length=(ks++os).length∧af (c9 Om.length) r1=true∧Om.all (ab (c9 Om.length))=true)
  (h:K ({s with bx:=aI s.bx (ks++os) (Om.map (az (cU (ks++os))))}.put d (aE (cU (ks++os)) r1))):ai P s d f args K t:=by
 subst I1 tc;refine⟨ks,os,bM,_,hg,hn,Jc,ha,hb,ae.X6 hA,?_⟩;rintro r fp ⟨rfl,rfl⟩;exact⟨hl,h⟩
@[simp] theorem akv:dS 1=[KB]:=rfl
@[simp] theorem akw:dS 2=[KB,KB+1]:=rfl
@[simp] theorem akx:dS 3=[KB,KB+1,KB+2]:=rfl
@[simp] theorem aky:dS 5=[KB,KB+1,KB+2,KB+3,KB+4]:=rfl
@[simp] theorem axj {n:Nat} (h:n<9000):(KB=n)=False:=by simp only[KB,eq_iff_iff,iff_false];omega
@[simp] theorem atz {n:Nat} (h:n<9000):(n=KB)=False:=by simp only[KB,eq_iff_iff,iff_false];omega
@[simp] theorem af2 {n i:Nat} (h:n<9000):(KB+i=n)=False:=by simp only[KB,eq_iff_iff,iff_false];omega
@[simp] theorem abK {n i:Nat} (h:n<9000):(n=KB+i)=False:=by simp only[KB,eq_iff_iff,iff_false];omega
@[simp] theorem af3 {n:Nat} (h:n<9000):(KB<n)=False:=by simp only[KB,eq_iff_iff,iff_false];omega
@[simp] theorem SJ {n i:Nat} (h:n<9000):(KB+i<n)=False:=by simp only[KB,eq_iff_iff,iff_false];omega
@[simp] theorem aqD {i:Nat}:(KB+i<KB)=False:=by simp
theorem ai.gA {d:Option Nat} {f:FuncId} {args bC:List PV} {b6 Om:List aV} {r1:PV} {K:St->Prop} {t:Tg K} (ks os:List Nat) (bM:List aV) (hA:ae P f bC b6 λr fp=>r=r1∧fp=Om) (hb:bM.all (ab (bR ks))=true) (tc:bM.map (az (bz ks))=b6) (hl:Om.length=(ks++os).length∧af (c9 Om.length) r1=true∧Om.all (ab (c9 Om.length))=true) (h:K ({s with bx:=aI s.bx (ks++os) (Om.map (az (cU (ks++os))))}.put d (aE (cU (ks++os)) r1))) (hg:getAll s.bx ks=some bM:=by simp[getAll]) (hn:(ks++os).Nodup:=by simp) (Jc:∀o∈os,get s.bx o=none:=by simp) (ha:ah (bR ks) args=true:=by simp[ah,af,bR,idx]) (I1:fI (aR (bz ks) args)=bC:=by simp[aR,aE,bz,idx]):ai P s d f args K t:=ai.gen ks os bM hA hg hn Jc ha hb I1 tc hl h
end Go.Ab
namespace Go.Ab
variable [cL]
variable {P:Program} {s:St} [eJ]
def cpA (s:St) (d:Option Nat) (sz:Nat) (ys:List PV) (K:St->Prop) (k:Nat) (v:PV) (pth:List Step) (off len aO bP:Nat):PV->Prop
 | .ar sz'' n l=>bF (bT v pth (.ar sz'' n (l.take off++ys.take (min ys.length len)++l.drop (off+min ys.length len)))) λv'=>(aO=0∧bP=sz∧sz''=sz∧off+len≤n)∧K ({s with bx:=put s.bx k (.box v')}.put d (.int .i64 (min ys.length len:Nat)))
 |_=>False
def cpB (s:St) (d:Option Nat) (sz:Nat) (ys:List PV) (K:St->Prop) (k:Nat) (pth:List Step) (off len aO bP:Nat):aV->Prop
 | .arr sz'' l=>(aO=l.length∧pth=[]∧bP=sz∧sz''=sz∧off+len≤l.length)∧K ({s with bx:=put s.bx k (.arr sz (l.take off++ys.take (min ys.length len)++l.drop (off+min ys.length len)))}.put d (.int .i64 (min ys.length len:Nat)))
 | .box v=>bF (aM v pth) (cpA s d sz ys K k v pth off len aO bP)
 | .map .. =>False
def SM (s:St) (d:Option Nat) (sz:Nat) (ys:List PV) (K:St->Prop):PV->Prop
 | .rs k pth off len aO bP _=>bF (get s.bx k) (cpB s d sz ys K k pth off len aO bP)
 |_=>False
def Yn (s:St) (d:Option Nat) (sz:Nat) (p:PV) (K:St->Prop):PV->Prop
 | .str bs=>sz=1∧SM s d sz (bs.map u8) K p
 |q=>zL s (λbP ys=>(ys=[]∨bP=sz)∧SM s d sz ys K p) q
theorem EY (d:Option Nat) (sz:Nat) (p:PV) (ys:List PV) (K:St->Prop):ke s d sz p ys K=SM s d sz ys K p:=by
 cases p<;>try rfl
 rename_i k pth off len aO bP c;simp only[ke,SM];generalize get s.bx k=o;cases o with
 |none=>rfl
 |
  some b=>
  cases b with
  |arr z l=>rfl
  |
   box v=>
   simp only[bF,cpB]
   generalize aM v pth=o
   cases o with
   |none=>rfl
   |
    some q=>
    cases q<;>simp only[cpA,bF]
    rename_i z n l
    generalize bT v pth (.ar z n (List.take off l++List.take (min ys.length len) ys++List.drop (off+min ys.length len) l))=o
    cases o<;>rfl
  |map b ks vs l=>rfl
@[simp↓] theorem atA (d:Option Nat) (sz:Nat) (x y:AX) (K:St->Prop):ex s d (.copy sz x y) K=ed true (vx s x) λp=>ed true (vx s y) λq=>Yn s d sz p K q:=by
 simp only[ex,iG];congr 1;funext p;congr 1;funext q;cases q<;>simp only[Yn,XR,PX,T5,aiT,EY]
@[simp↓] theorem zQ (d:Option Nat) (sz:Nat) (p:PV) (K:St->Prop) (z:Nat) (l:List PV) (c:Bool):Yn s d sz p K (.sl z l c)=((l=[]∨z=sz)∧SM s d sz l K p):=_root_.id rfl
@[simp↓] theorem JU (d:Option Nat) (sz:Nat) (ys:List PV) (K:St->Prop) (k:Nat) (pth:List Step) (off len aO bP:Nat) (c:fB):SM s d sz ys K (.rs k pth off len aO bP c)=bF (get s.bx k) (cpB s d sz ys K k pth off len aO bP):=_root_.id rfl
@[simp↓] theorem aqF (d:Option Nat) (sz:Nat) (ys:List PV) (K:St->Prop) (k:Nat) (pth:List Step) (off len aO bP z:Nat) (l:List PV):cpB s d sz ys K k pth off len aO bP (.arr z l)=((aO=l.length∧pth=[]∧bP=sz∧z=sz∧off+len≤l.length)∧K ({s with bx:=put s.bx k (.arr sz (l.take off++ys.take (min ys.length len)++l.drop (off+min ys.length len)))}.put d (.int .i64 (min ys.length len:Nat)))):=_root_.id rfl
@[simp↓] theorem aqG (d:Option Nat) (sz:Nat) (ys:List PV) (K:St->Prop) (k:Nat) (pth:List Step) (off len aO bP:Nat) (v:PV):cpB s d sz ys K k pth off len aO bP (.box v)=bF (aM v pth) (cpA s d sz ys K k v pth off len aO bP):=_root_.id rfl
@[simp↓] theorem atB (d:Option Nat) (sz:Nat) (ys:List PV) (K:St->Prop) (k:Nat) (v:PV) (pth:List Step) (off len aO bP z n:Nat) (l:List PV):cpA s d sz ys K k v pth off len aO bP (.ar z n l)=bF (bT v pth (.ar z n (l.take off++ys.take (min ys.length len)++l.drop (off+min ys.length len)))) λv'=>(aO=0∧bP=sz∧z=sz∧off+len≤n)∧K ({s with bx:=put s.bx k (.box v')}.put d (.int .i64 (min ys.length len:Nat))):=_root_.id rfl
def flP (s:St) (sz:Nat) (z:PV) (K:St->Prop):PV->Prop
 | .rs k pth off len aO bP c=>SM s none sz (List.replicate len z) K (.rs k pth off len aO bP c)
 |_=>False
@[simp↓] theorem atD (sz:Nat) (z:PV) (K:St->Prop) (k:Nat) (pth:List Step) (off len aO bP:Nat) (c:fB):flP s sz z K (.rs k pth off len aO bP c)=SM s none sz (List.replicate len z) K (.rs k pth off len aO bP c):=_root_.id rfl
@[simp↓] theorem atE (d:Option Nat) (sz:Nat) (z:PV) (x:AX) (K:St->Prop):ex s d (.fill sz z x) K=ed true (vx s x) λp=>d=none∧flP s sz z K p:=by
 simp only[ex,iG];congr 1;funext p;simp only[O1];congr 1;cases p<;>simp only[flP,EY]
def clB (s:St) (d:Option Nat) (k:Nat) (pth:List Step) (off len aO sz:Nat) (c:fB) (K:St->Prop):aV->Prop
 | .arr bP l=>(pth=[]∧off=0∧sz=1∧bP=1∧c= .tip∧len=l.length∧aO=l.length∧l≠[]∧l.all PV.isNum=true)∧K (St.put {s with bx:=put s.bx k (.arr 1 (l++[.int .u8 0]))} d (.sl 1 l false))
 |_=>False
def clP (s:St) (d:Option Nat) (K:St->Prop):PV->Prop
 | .rs k pth off len aO sz c=>bF (get s.bx k) (clB s d k pth off len aO sz c K)
 |_=>False
@[simp↓] theorem aqH (d:Option Nat) (x:AX) (K:St->Prop):ex s d (.convL x) K=ed true (vx s x) (clP s d K):=by
 simp only[ex,iG];congr 1;funext p;cases p<;>try rfl
 rename_i k pth off len aO sz c;simp only[clP];cases get s.bx k with
 |none=>rfl
 |some x=>cases x<;>rfl
@[simp↓] theorem atH (d:Option Nat) (K:St->Prop) (k:Nat) (pth:List Step) (off len aO sz:Nat) (c:fB):clP s d K (.rs k pth off len aO sz c)=bF (get s.bx k) (clB s d k pth off len aO sz c K):=_root_.id rfl
@[simp↓] theorem aqI (d:Option Nat) (k:Nat) (pth:List Step) (off len aO sz:Nat) (c:fB) (K:St->Prop) (bP:Nat) (l:List PV):clB s d k pth off len aO sz c K (.arr bP l)=((pth=[]∧off=0∧sz=1∧bP=1∧c= .tip∧len=l.length∧aO=l.length∧l≠[]∧l.all PV.isNum=true)∧K (St.put {s with bx:=put s.bx k (.arr 1 (l++[.int .u8 0]))} d (.sl 1 l false))):=_root_.id rfl
@[simp] theorem af4 (k:IntKind) (n:Int):PV.isNum (.int k n)=true:=_root_.id rfl
@[simp↓] theorem aqJ (k:Nat) (ks vs:Sh) (K:St->Prop):ex s (some k) (.mkMap ks vs) K=(get s.bx k=none∧∀b:Nat,K {env:=put s.env k (.mp k b),bx:=put s.bx k (.map b ks vs [])}):=_root_.id rfl
def mgB (s:St) (d:Option Nat) (ks vs:Sh) (z:PV) (ok:Bool) (p:PV) (b:Nat) (K:St->Prop):aV->Prop
 | .map b' BZ D3 l=>(b'=b∧BZ=ks∧D3=vs∧fits ks p=true)∧K (s.put d (if ok=true then .tup [(Ax p l).getD z,.bl (Ax p l).isSome]else(Ax p l).getD z))
 |_=>False
def mgP (s:St) (d:Option Nat) (ks vs:Sh) (z:PV) (ok:Bool) (p:PV) (K:St->Prop):PV->Prop
 | .mp k b=>bF (get s.bx k) (mgB s d ks vs z ok p b K)
 |_=>False
@[simp↓] theorem akA (d:Option Nat) (ks vs:Sh) (z:PV) (ok:Bool) (m x:AX) (K:St->Prop):ex s d (.mapGet ks vs z ok m x) K=ed true (vx s m) λpm=>ed true (vx s x) λp=>mgP s d ks vs z ok p K pm:=by
 simp only[ex,iG];congr 1;funext pm;congr 1;funext p;cases pm<;>try rfl
 rename_i k b;simp only[mgP];cases get s.bx k with
 |none=>rfl
 |some x=>cases x<;>rfl
@[simp↓] theorem atK (d:Option Nat) (ks vs:Sh) (z:PV) (ok:Bool) (p:PV) (K:St->Prop) (k b:Nat):mgP s d ks vs z ok p K (.mp k b)=bF (get s.bx k) (mgB s d ks vs z ok p b K):=_root_.id rfl
@[simp↓] theorem aqK (d:Option Nat) (ks vs:Sh) (z:PV) (ok:Bool) (p:PV) (b:Nat) (K:St->Prop) (b':Nat) (BZ D3:Sh) (l:List (PV×PV)):mgB s d ks vs z ok p b K (.map b' BZ D3 l)=((b'=b∧BZ=ks∧D3=vs∧fits ks p=true)∧K (s.put d (if ok=true then .tup [(Ax p l).getD z,.bl (Ax p l).isSome]else(Ax p l).getD z))):=_root_.id rfl
def msB (s:St) (d:Option Nat) (ks vs:Sh) (p v:PV) (k b:Nat) (K:St->Prop):aV->Prop
 | .map b' BZ D3 l=>(d=none∧b'=b∧BZ=ks∧D3=vs∧fits ks p=true∧oV v=true)∧K {s with bx:=put s.bx k (.map b' BZ D3 (wA p v l))}
 |_=>False
def msP (s:St) (d:Option Nat) (ks vs:Sh) (p v:PV) (K:St->Prop):PV->Prop
 | .mp k b=>bF (get s.bx k) (msB s d ks vs p v k b K)
 |_=>False
@[simp↓] theorem akB (d:Option Nat) (ks vs:Sh) (m x y:AX) (K:St->Prop):ex s d (.mapSet ks vs m x y) K=ed true (vx s m) λpm=>ed true (vx s x) λp=>ed true (vx s y) λv=>msP s d ks vs p v K pm:=by
 simp only[ex,iG];congr 1;funext pm;congr 1;funext p;congr 1;funext v;cases pm<;>try rfl
 rename_i k b;simp only[msP];cases get s.bx k with
 |none=>rfl
 |some x=>cases x<;>rfl
@[simp↓] theorem atM (d:Option Nat) (ks vs:Sh) (p v:PV) (K:St->Prop) (k b:Nat):msP s d ks vs p v K (.mp k b)=bF (get s.bx k) (msB s d ks vs p v k b K):=_root_.id rfl
@[simp↓] theorem aqM (d:Option Nat) (ks vs:Sh) (p v:PV) (k b:Nat) (K:St->Prop) (b':Nat) (BZ D3:Sh) (l:List (PV×PV)):msB s d ks vs p v k b K (.map b' BZ D3 l)=((d=none∧b'=b∧BZ=ks∧D3=vs∧fits ks p=true∧oV v=true)∧K {s with bx:=put s.bx k (.map b' BZ D3 (wA p v l))}):=_root_.id rfl
end Go.Ab
namespace Go.Ab
variable [cL]
variable {P:Program} {Γ Δ:Cx}
mutual
def lP:PV->Bool
 | .sl _ l _=>l.isEmpty
 | .fp .. | .fn .. | .ifc .. | .gd .. | .tup _=>false
 | .st _ l=>eM l
 | .ar _ _ l=>eM l
 |_=>true
def eM:List PV->Bool
 |[]=>true
 |p::r=>lP p&&eM r
end
def fL:PV->Bool
 | .tup l=>eM l
 |p=>lP p
theorem C2 {p:PV} (h:lP p=true):fL p=true:=by
 cases p<;>first|exact h|simp[lP]at h
def uj:aV->Bool
 | .box v=>lP v
 | .arr _ l=>eM l
 | .map .. =>true
structure Kin (ρ:Nat->Nat) (Γ Δ:Cx):Prop where
 heap:Δ.heap=Γ.heap
 ref:∀k blk,get Γ.bx k=some blk->∃bn,get Δ.bx (ρ k)=some bn∧bn.aO=blk.aO∧Δ.ι (ρ k)=Γ.ι k
theorem C3 (ρ:Nat->Nat):∀l:List PV,aR ρ l=l.map (Ab.aE ρ)
 |[]=>rfl
 |p::l=>by simp[aR,C3 ρ l]
theorem aD.Uy {ρ:Nat->Nat} (hs:Kin ρ Γ Δ) {l:List PV} {cs:List Value} (h:aD Γ l cs):eM l=true->aD Δ (aR ρ l) cs:=by
 induction h with
 |nil=>intro _;exact .nil
 |un h hr ih=>intro hf;simp only[eM,aJ]at hf;exact .un h (ih hf.2)
 |bl x hr ih=>intro hf;simp only[eM,aJ]at hf;exact .bl x (ih hf.2)
 |int k n hr ih=>intro hf;simp only[eM,aJ]at hf;exact .int k n (ih hf.2)
 |str l s h hr ih=>intro hf;simp only[eM,aJ]at hf;exact .str l s h (ih hf.2)
 |st w l hl hw hr ihl ih=>intro hf;simp only[eM,lP,aJ]at hf;exact .st w _ (ihl hf.1) hw (ih hf.2)
 |
  ar sz n l hl hn hw hr ihl ih=>
  intro hf;simp only[eM,lP,aJ]at hf
  refine .ar sz n _ (ihl hf.1) (by rw[mr];exact hn) ?_ (ih hf.2)
  intro x hx
  rw[C3]at hx
  obtain⟨y,hy,rfl⟩:=JhW.1 hx
  rw[pV];exact hw y hy
 |
  sl sz l clip a aX hl hw hc hk hb hr ihl ih=>
  intro hf;simp only[eM,lP,aJ,List.isEmpty_iff]at hf
  obtain⟨rfl,To⟩:=hf
  cases hl
  exact .sl sz [] clip a aX .nil (by simp) hc hk (λh=>absurd rfl h) (ih To)
 |
  rs k p off len aO sz c v blk hg h1 hv hr ih=>
  intro hf;simp only[eM,lP,aJ]at hf
  obtain⟨bn,g1,g2,g3⟩:=hs.ref k blk hg.1
  refine .rs (ρ k) p off len aO sz c v bn ⟨g1,by rw[g2];exact hg.2⟩ h1 (λht=> ?_) (ih hf.2)
  obtain⟨a,aX,e1,e2⟩:=hv (by rw[ht,g2])
  exact⟨a,aX,e1,e2.aE g3 hs.heap⟩
 |np hr ih=>intro hf;simp only[eM,aJ]at hf;exact .np (ih hf.2)
 |
  pt k p aO v blk hg h1 hv hr ih=>
  intro hf;simp only[eM,lP,aJ]at hf
  obtain⟨bn,g1,g2,g3⟩:=hs.ref k blk hg.1
  refine .pt (ρ k) p aO v bn ⟨g1,by rw[g2];exact hg.2⟩ h1 (λht=> ?_) (ih hf.2)
  obtain⟨b,e1,e2⟩:=hv (by rw[ht,g2])
  exact⟨b,by rw[g3,e1],e2⟩
 |fp=>intro hf;simp[eM,lP]at hf
 |fn=>intro hf;simp[eM,lP]at hf
 |nf hr ih=>intro hf;simp only[eM,aJ]at hf;exact .nf (ih hf.2)
 |ifc=>intro hf;simp[eM,lP]at hf
 |ni hr ih=>intro hf;simp only[eM,aJ]at hf;exact .ni (ih hf.2)
 |mp k b hr ih=>intro hf;simp only[eM,aJ]at hf;exact .mp k b (ih hf.2)
theorem aD.JV {ρ:Nat->Nat} (hs:Kin ρ Γ Δ) {p:PV} {cs:List Value} (h:aD Γ [p] cs) (hf:lP p=true):aD Δ [Ab.aE ρ p] cs:=by
 have:=h.Uy hs (by simp[eM,hf]);simpa only[aR]using this
theorem aL.Uy {ρ:Nat->Nat} (hs:Kin ρ Γ Δ) {p:PV} {v:Value} (h:aL Γ p v) (hf:lP p=true):aL Δ (Ab.aE ρ p) v:=by
 cases p
 case un=>trivial
 case st w l=>obtain⟨cs,h1,h2⟩:=h;exact⟨cs,h1,h2.JV hs hf⟩
 case ar sz n l=>obtain⟨cs,h1,h2⟩:=h;exact⟨cs,h1,h2.JV hs hf⟩
 case gd=>simp[lP]at hf
 case tup=>simp[lP]at hf
 all_goals exact aD.JV hs h hf
theorem gP.Uy {ρ:Nat->Nat} (hs:Kin ρ Γ Δ) {p:PV} {v:Value} (h:gP Γ p v) (hf:lP p=true):gP Δ (Ab.aE ρ p) v:=by
 cases p
 case un=>trivial
 case st w l=>obtain⟨cs,h1,h2⟩:=h;exact⟨cs,h1,h2.JV hs hf⟩
 case ar sz n l=>obtain⟨cs,h1,h2⟩:=h;exact⟨cs,h1,h2.JV hs hf⟩
 all_goals exact aD.JV hs h hf
theorem kO.Uy {ρ:Nat->Nat} (hs:Kin ρ Γ Δ):∀ {l:List PV} {vs:List Value},kO Γ l vs->eM l=true->kO Δ (aR ρ l) vs
 |[],[],_,_=>trivial
 |[],_::_,h,_=>h.elim
 |_::_,[],h,_=>h.elim
 |
  p::l,v::vs,h,hf=>by
  simp only[eM,aJ]at hf
  exact⟨h.1.Uy hs hf.1,kO.Uy hs h.2 hf.2⟩
theorem aL.atN {ρ:Nat->Nat} (hs:Kin ρ Γ Δ) {p:PV} {v:Value} (h:aL Γ p v) (hf:fL p=true):aL Δ (Ab.aE ρ p) v:=by
 cases p
 case tup l=>
  obtain⟨vs,h1,h2⟩:=h;exact⟨vs,h1,h2.Uy hs hf⟩
 all_goals exact h.Uy hs hf
def V0 (bx:List (Nat×aV)) (p p':PV):Prop:=
 (p'=p∧af (λ_=>false) p=true)∨
 (∃k pth off len aO sz c l,p= .rs k pth off len aO sz c∧content ⟨[],bx⟩ p (λbP l0=>bP=sz∧l0=l)∧ah (λ_=>false) l=true∧0<sz∧p'= .sl sz l false)
def Ox (bx:List (Nat×aV)):List PV->List PV->Prop
 |[],[]=>True
 |p::r,p'::r'=>V0 bx p p'∧Ox bx r r'
 |_,_=>False
def V1 (bx:List (Nat×aV)) (p p':PV):Prop:=
 V0 bx p p'∨
 (∃sz l l' c,p= .sl sz l c∧Ox bx l l'∧p'= .sl sz l' c)∨
 (∃k pth off len aO sz c l l',p= .rs k pth off len aO sz c∧content ⟨[],bx⟩ p (λbP l0=>bP=sz∧l0=l)∧Ox bx l l'∧0<sz∧p'= .sl sz l' false)
def Yo (bx:List (Nat×aV)):List PV->List PV->Prop
 |[],[]=>True
 |p::r,p'::r'=>V1 bx p p'∧Yo bx r r'
 |_,_=>False
def Cx.bare (Γ:Cx):Cx:= {heap:=Γ.heap,ι:=λ_=>none,bx:=[],bX:=λ_=>False}
theorem p7 {b:Nat}:¬Γ.bare.own b:=by
 rintro(⟨k,blk,h,_⟩|h)
 ·simp[Cx.bare,get]at h
 ·exact h
theorem Nh (hm:Mem Γ):Mem Γ.bare:=by
 refine⟨λk blk h=> ?_,λi j b h=> ?_,λb h=>h.elim,λb h h2=>h2,λb cs h=>⟨λhb=>p7 (.inl hb),(hm.xN b cs h).2⟩⟩
 ·simp[Cx.bare,get]at h
 ·simp[Cx.bare,get]at h
theorem zV:zk (λ_=>false) id Γ Γ.bare:=⟨rfl,λb _ _=>p7,λk blk h=>by simp at h⟩
theorem Uz {h:Array Obj} {b o:Nat} {v:Value} (e:cell h b o=some v):b<h.size:=by
 unfold cell at e;split at e
 ·rename_i c _ _ hb;exact(Array.getElem?_eq_some_iff.1 hb).1
 ·simp at e
theorem akC (Γ:Cx) (hm:Mem Γ):gm 0 [] ⟨[],Γ.bx⟩ Γ {tmps:= #[],defers:=[]}:=⟨rfl,rfl,rfl,λk p h=>by simp[get]at h,hm⟩
theorem rsV {k:Nat} {pth:List Step} {off len aO sz:Nat} {c:fB} {l:List PV} {cs:List Value} (hm:Mem Γ) (hr:aD Γ [.rs k pth off len aO sz c] cs)
  (hc:content ⟨[],Γ.bx⟩ (.rs k pth off len aO sz c) (λbP l0=>bP=sz∧l0=l)):∃v ad aX us,cs=[v]∧v= .slice ad l.length aX∧aD Γ l us∧(∀x∈l,x.width=sz)∧l.length≤aX∧
   (l≠[]->∃b o,ad=some ⟨b,o,none⟩∧∀i c,us[i]? =some c->cell Γ.heap b (o+i)=some c):=by
 obtain⟨v,rfl⟩:∃v,cs=[v]:=by
  cases hr with
  |rs _ _ _ _ _ _ _ v _ _ _ _ hr=>cases hr;exact⟨v,rfl⟩
 obtain⟨bP,l0,us,ad,aX,⟨rfl,rfl⟩,h2,h3,h4,h5,h6⟩:=rb (v:=v) (akC Γ hm) hc (by simpa only[aL]using hr);exact⟨v,ad,aX,us,rfl,h2,h3,h6,h5,h4⟩
theorem V0.width {bx:List (Nat×aV)} {p p':PV} (h:V0 bx p p'):p'.width=p.width:=by
 rcases h with⟨rfl,_⟩|⟨k,pth,off,len,aO,sz,c,l,rfl,_,_,_,rfl⟩<;>rfl
theorem C4 {l:List PV} {us:List Value} {sz:Nat} {ad:Option Addr} (fH:0<sz) (h3:aD Γ l us) (h4:∀x∈l,x.width=sz) (cI:l≠[])
  (h6:∃b o,ad=some ⟨b,o,none⟩∧∀i c,us[i]? =some c->cell Γ.heap b (o+i)=some c):
  ∃b o,ad=some ⟨b,o,none⟩∧b<Γ.bare.heap.size∧¬Γ.bare.own b∧∀i c,us[i]? =some c->cell Γ.bare.heap b (o+i)=some c:=by
 obtain⟨b,o,e1,e2⟩:=h6
 have hlen:0<us.length:=by
  rw[h3.length,bf h4];have:0<l.length:=JkJ.2 cI;exact Nat.mul_pos this fH
 exact⟨b,o,e1,Uz (e2 0 _ (gJ hlen)),p7,e2⟩
theorem V0.rep {p p':PV} {cs:List Value} (hm:Mem Γ) (h:V0 Γ.bx p p') (hr:aD Γ [p] cs):aD Γ.bare [p'] cs:=by
 rcases h with⟨rfl,h⟩|⟨k,pth,off,len,aO,sz,c,l,rfl,hc,hl,fH,rfl⟩
 ·have:=hr.bz zV h;rwa [BE h]at this
 ·obtain⟨v,ad,aX,us,rfl,rfl,h3,h4,h5,h6⟩:=rsV hm hr hc;have h3':=h3.aE zV hl;rw[CL hl]at h3';exact .sl sz l false ad aX h3' h4 h5 (by simp) (λcI=>C4 fH h3 h4 cI (h6 cI)) .nil
theorem Ox.rep (hm:Mem Γ):∀ {l l':List PV} {cs:List Value},Ox Γ.bx l l'->aD Γ l cs->aD Γ.bare l' cs
 |[],[],cs,_,hr=>by cases hr;exact .nil
 |[],_::_,cs,h,_=>h.elim
 |_::_,[],cs,h,_=>h.elim
 |
  p::r,p'::r',cs,h,hr=>by
  obtain⟨c1,c2,rfl,h1,h2⟩:=aD.split (ps:=[p]) (qs:=r) hr
  exact(h.1.rep hm h1).cons (Ox.rep hm h.2 h2)
theorem Ox.aB {bx:List (Nat×aV)} {sz:Nat}:∀ {l l':List PV},Ox bx l l'->(∀x∈l,x.width=sz)->l'.length=l.length∧∀x∈l',x.width=sz
 |[],[],_,_=>⟨rfl,by simp⟩
 |[],_::_,h,_=>h.elim
 |_::_,[],h,_=>h.elim
 |
  p::r,p'::r',h,hw=>by
  obtain⟨h1,h2⟩:=Ox.aB h.2 (λx hx=>hw x (by simp[hx]))
  refine⟨by simp[h1],λx hx=> ?_⟩
  rcases cJ.1 hx with rfl|hx
  ·rw[h.1.width];exact hw p (by simp)
  ·exact h2 x hx
theorem V1.rep {p p':PV} {cs:List Value} (hm:Mem Γ) (h:V1 Γ.bx p p') (hr:aD Γ [p] cs):aD Γ.bare [p'] cs:=by
 rcases h with h|⟨sz,l,l',c,rfl,hl,rfl⟩|⟨k,pth,off,len,aO,sz,c,l,l',rfl,hc,hl,fH,rfl⟩
 ·exact h.rep hm hr
 ·cases hr with
  |
   sl sz l clip a aX h1 hw h2 h3 hb hr=>
   cases hr
   obtain⟨e1,e2⟩:=hl.aB hw
   rw[←e1]
   refine .sl sz l' c a aX (Ox.rep hm hl h1) e2 (by rw[e1];exact h2) (λh=>by rw[e1];exact h3 h) (λcI=> ?_) .nil
   obtain⟨b,o,f1,f2,_,f3⟩:=hb (λh=>cI (by rw[h]at e1;exact JmX.1 e1))
   exact⟨b,o,f1,f2,p7,f3⟩
 ·obtain⟨v,ad,aX,us,rfl,rfl,h3,h4,h5,h6⟩:=rsV hm hr hc;obtain⟨e1,e2⟩:=hl.aB h4;rw[←e1];refine .sl sz l' false ad aX (Ox.rep hm hl h3) e2 (by rw[e1];exact h5) (by simp) (λcI=> ?_) .nil;have XB:l≠[]:=λh=>cI (by rw[h]at e1;exact JmX.1 e1);exact C4 fH h3 h4 XB (h6 XB)
theorem V1.UA {p p':PV} {v:Value} (hm:Mem Γ) (h:V1 Γ.bx p p') (hr:aL Γ p v):aL Γ.bare p' v:=by
 have h':=h;rcases h with h|⟨sz,l,l',c,rfl,hl,rfl⟩|⟨k,pth,off,len,aO,sz,c,l,l',rfl,hc,hl,fH,rfl⟩
 ·rcases h with⟨rfl,h⟩|⟨k,pth,off,len,aO,sz,c,l,rfl,hc,hl,fH,rfl⟩
  ·have:=hr.aE zV h;rwa [BE h]at this
  ·have:=V1.rep hm h' (by simpa only[aL]using hr);simpa only[aL]using this
 ·have:=V1.rep hm h' (by simpa only[aL]using hr);simpa only[aL]using this
 ·have:=V1.rep hm h' (by simpa only[aL]using hr);simpa only[aL]using this
theorem Yo.UA (hm:Mem Γ):∀ {l l':List PV} {vs:List Value},Yo Γ.bx l l'->ff Γ l vs->ff Γ.bare l' vs
 |[],[],[],_,_=>trivial
 |[],[],_::_,_,h=>h.elim
 |[],_::_,_,h,_=>h.elim
 |_::_,[],_,h,_=>h.elim
 |_::_,_::_,[],_,h=>h.elim
 |p::r,p'::r',v::vs,h,hr=>⟨h.1.UA hm hr.1,Yo.UA hm h.2 hr.2⟩
theorem ae.view {f:FuncId} {args bC:List PV} {fp:List aV} {R:PV->List aV->Prop} (hA:ae P f bC [] R) (hv:Yo (av 0 fp) args bC)
  (hR:∀r new,R r new->fL r=true∧new.all uj=true):
  ae P f args fp (λr xD=>∃r0 new,R r0 new∧r=aE (·+fp.length) r0∧xD=fp++new.map (az (·+fp.length))):=by
 intro Γ w vs h1 h2 h3 h4;rw[←h3]at hv;refine(hA Γ.bare w vs h1 (Nh h2) (by simp[Cx.bare,av]) (hv.UA h2 h4)).mono ?_;rintro e w' ⟨v,r,new,Γ',e1,e2,e3,e4,e5,e6,e7,e8⟩;obtain⟨g1,g2⟩:=hR r new e2;have vK:∀b,b<Γ.heap.size->Γ'.heap[b]? =Γ.heap[b]? :=λb hb=>e7.heap b hb (λh=>p7 (.inl h))
 have GV:∀k blk b,get Γ'.bx k=some blk->Γ'.ι k=some b->Γ.heap.size≤b:=by
  intro k blk b hk hb;rcases Nat.lt_or_ge b Γ.heap.size with h|h
  ·exact absurd (.inl (e7.gn b h ⟨k,blk,hk,hb⟩)) p7
  ·exact h
 let Δ:Cx:= {heap:=Γ'.heap,ι:=λk=>if k<KB+fp.length then Γ.ι k else Γ'.ι (k-fp.length),bx:=av 0 (fp++new.map (az (·+fp.length))),bX:=Γ.bX}
 have I2:∀k,k<KB+fp.length->get Δ.bx k=get Γ.bx k:=by
  intro k hk;simp only[Δ,h3,fE];split
  ·rw[List.getElem?_append_left (by omega)]
  ·rfl
 have I3:∀k,KB≤k->get Δ.bx (k+fp.length)=(get Γ'.bx k).map (az (·+fp.length)):=by
  intro k hk;simp only[Δ,e5,fE];rw[if_pos (show KB+0≤k+fp.length by omega),if_pos (show KB+0≤k by omega),List.getElem?_append_right (by omega),List.getElem?_map,show k+fp.length-KB-0-fp.length=k-KB-0 by omega]
 have hle:Le Γ Δ:=by
  refine⟨λb hb _=>vK b hb,λb hb h=> ?_,rfl,e7.size,λk blk hk=> ?_⟩
  ·obtain⟨k,blk,f1,f2⟩:=h;by_cases qR:k<KB+fp.length
   ·rw[I2 k qR]at f1;have f2':Γ.ι k=some b:=by simpa[Δ,qR]using f2
    exact⟨k,blk,f1,f2'⟩
   ·exfalso;have f2':Γ'.ι (k-fp.length)=some b:=by simpa[Δ,qR]using f2
    have:get Δ.bx (k-fp.length+fp.length)=_:=I3 (k-fp.length) (by omega);rw[show k-fp.length+fp.length=k by omega,f1]at this;obtain⟨b0,f3,_⟩:=mJ.1 this.symm;have:=GV _ _ _ f3 f2';omega
  ·have qR:k<KB+fp.length:=by
    rw[h3,fE]at hk;split at hk
    ·have:=(iJ.1 hk).1;simp at this;omega
    ·simp at hk
   refine⟨blk,by rw[I2 k qR];exact hk,JaQ _,λ_=>⟨by simp[Δ,qR],λb hb cs e hh=>⟨cs,?_,rfl⟩⟩⟩;show Γ'.heap[b]? =_;rw[vK b (h2.lt ⟨k,blk,hk,hb⟩)];exact hh
 have aey:Kin (·+fp.length) Γ' Δ:=by
  refine⟨rfl,λk blk hk=> ?_⟩
  have hkb:KB≤k:=by
   rw[e5,fE]at hk;split at hk
   ·assumption
   ·simp at hk
  refine⟨az (·+fp.length) blk,by rw[I3 k hkb,hk];rfl,jx _ _,?_⟩;show(if k+fp.length<KB+fp.length then _ else _)=_;rw[if_neg (by omega),Nat.add_sub_cancel]
 have iD:Mem Δ:=by
  refine⟨λk blk hk=> ?_,λi j b hi hj q1 q2=> ?_,λb hb=>JhV (h2.bX b hb) e7.size,λb hb hp=> ?_,h2.ll hle⟩
  ·by_cases qR:k<KB+fp.length
   ·rw[I2 k qR]at hk;have:=(h2.blk k blk hk).mono hle (λb hb=>vK b (h2.lt ⟨k,blk,hk,hb⟩));have e:Δ.ι k=Γ.ι k:=by simp[Δ,qR]
    rw[e];exact this
   ·have za:=I3 (k-fp.length) (by omega);rw[show k-fp.length+fp.length=k by omega,hk]at za;obtain⟨b0,f3,rfl⟩:=mJ.1 za.symm;have e:Δ.ι k=Γ'.ι (k-fp.length):=by simp[Δ,qR]
    rw[e]
    have uf:uj b0=true:=by
     rw[e5,fE]at f3;split at f3
     ·exact JeX.1 g2 b0 (JeQ f3)
     ·simp at f3
    have:=e4.blk _ _ f3;cases b0 with
    |
     box v=>
     obtain⟨b,c,e,q1,q2,q3⟩:=this
     exact⟨b,c,e,q1,q2,q3.JV aey uf⟩
    |
     arr sz l=>
     obtain⟨q1,q2,q3⟩:=this
     refine⟨λx hx=> ?_,q2,?_⟩
     ·rw[C3]at hx
      obtain⟨y,hy,rfl⟩:=JhW.1 hx
      rw[pV];exact q1 y hy
     ·cases hι:Γ'.ι (k-fp.length)with
      |none=>trivial
      |
       some b=>
       rw[hι]at q3
       obtain⟨c,e,cs,rest,r1,r2,r3,r4⟩:=q3
       exact⟨c,e,cs,rest,r1,r2,r3.Uy aey uf,r4⟩
    |map b ks vs l=>exact this
  ·have key:∀k b,(get Δ.bx k).isSome=true->Δ.ι k=some b->(k<KB+fp.length∧(get Γ.bx k).isSome=true∧Γ.ι k=some b∧b<Γ.heap.size)∨(KB+fp.length≤k∧(get Γ'.bx (k-fp.length)).isSome=true∧Γ'.ι (k-fp.length)=some b∧Γ.heap.size≤b):=by
    intro k b hk hb;by_cases qR:k<KB+fp.length
    ·left;rw[I2 k qR]at hk;have tc:Γ.ι k=some b:=by simpa[Δ,qR]using hb
     obtain⟨blk,lG⟩:=JaW.1 hk;exact⟨qR,hk,tc,h2.lt ⟨k,blk,lG,tc⟩⟩
    ·right;have za:=I3 (k-fp.length) (by omega);rw[show k-fp.length+fp.length=k by omega]at za;rw[za]at hk;have hk3:(get Γ'.bx (k-fp.length)).isSome=true:=by simpa using hk
     have tc:Γ'.ι (k-fp.length)=some b:=by simpa[Δ,qR]using hb
     obtain⟨blk,lG⟩:=JaW.1 hk3;exact⟨by omega,hk3,tc,GV _ _ _ lG tc⟩
   rcases key i b hi q1 with⟨a1,a2,a3,a4⟩|⟨a1,a2,a3,a4⟩<;>rcases key j b hj q2 with⟨c1,c2,c3,c4⟩|⟨c1,c2,c3,c4⟩
   ·exact h2.inj i j b a2 c2 a3 c3
   ·omega
   ·omega
   ·have:=e4.inj _ _ b a2 c2 a3 c3;omega
  ·obtain⟨k,blk,f1,f2⟩:=hb;by_cases qR:k<KB+fp.length
   ·rw[I2 k qR]at f1;have f2':Γ.ι k=some b:=by simpa[Δ,qR]using f2
    exact h2.apart b ⟨k,blk,f1,f2'⟩ hp
   ·have f2':Γ'.ι (k-fp.length)=some b:=by simpa[Δ,qR]using f2
    have za:=I3 (k-fp.length) (by omega);rw[show k-fp.length+fp.length=k by omega,f1]at za;obtain⟨b0,f3,_⟩:=mJ.1 za.symm;have:=GV _ _ _ f3 f2';have:=h2.bX b hp;omega
 exact⟨v,_,_,Δ,e1,⟨r,new,e2,rfl,rfl⟩,e3,iD,rfl,e6.atN aey g1,hle,e8⟩
theorem ai.abM {P:Program} [eJ] {s:St} {d:Option Nat} {f:FuncId} {args bC:List PV} {b6:List aV} {R:PV->List aV->Prop} {K:St->Prop} {t:Tg K} (ks os:List Nat) (bM:List aV) (hA:ae P f bC b6 R)
  (hg:getAll s.bx ks=some bM) (hn:(ks++os).Nodup) (Jc:∀o∈os,get s.bx o=none) (ha:ah (bR ks) args=true) (hb:bM.all (ab (bR ks))=true)
  (I1:fI (aR (bz ks) args)=bC) (tc:bM.map (az (bz ks))=b6)
  (h:∀r fp,R r fp->(fp.length=(ks++os).length∧af (c9 fp.length) r=true∧fp.all (ab (c9 fp.length))=true)∧K ({s with bx:=aI s.bx (ks++os) (fp.map (az (cU (ks++os))))}.put d (aE (cU (ks++os)) r))):ai P s d f args K t:=by
 subst I1 tc;exact⟨ks,os,bM,R,hg,hn,Jc,ha,hb,ae.X6 hA,h⟩
theorem ai.view {P:Program} [eJ] {s:St} {d:Option Nat} {f:FuncId} {args bC args0:List PV} {b6:List aV} {R:PV->List aV->Prop} {K:St->Prop} {t:Tg K} (ks os:List Nat) (bM:List aV) (hA:ae P f args0 [] R)
  (hg:getAll s.bx ks=some bM) (hn:(ks++os).Nodup) (Jc:∀o∈os,get s.bx o=none) (ha:ah (bR ks) args=true) (hb:bM.all (ab (bR ks))=true)
  (I1:fI (aR (bz ks) args)=bC) (tc:bM.map (az (bz ks))=b6) (hV:Yo (av 0 b6) bC args0) (hR:∀r new,R r new->(fL r=true∧new.all uj=true)∧new.length=os.length)
  (h:∀r new,R r new->(af (c9 (b6.length+new.length)) (aE (·+b6.length) r)=true∧(b6++new.map (az (·+b6.length))).all (ab (c9 (b6.length+new.length)))=true)∧
   K ({s with bx:=aI s.bx (ks++os) ((b6++new.map (az (·+b6.length))).map (az (cU (ks++os))))}.put d (aE (cU (ks++os)) (aE (·+b6.length) r)))):ai P s d f args K t:=by
 refine ai.abM ks os bM (ae.view hA hV λr new hr=>(hR r new hr).1) hg hn Jc ha hb I1 tc ?_;rintro r fp ⟨r0,new,hr,rfl,rfl⟩;have hl:b6.length=ks.length:=by rw[←tc,JaX];exact(dH hg).1
 obtain⟨⟨h1,h2⟩,h3⟩:=h r0 new hr;have e:(b6++new.map (az (·+b6.length))).length=b6.length+new.length:=by simp
 rw[e];exact⟨⟨by rw[JaJ,hl,(hR r0 new hr).2],h1,h2⟩,h3⟩
theorem ai.gR {P:Program} [eJ] {s:St} {d:Option Nat} {f:FuncId} {args bC:List PV} {b6:List aV} {R:PV->List aV->Prop} {K:St->Prop} {t:Tg K} (ks os:List Nat) (bM:List aV) (hA:ae P f bC b6 R) (hb:bM.all (ab (bR ks))=true) (tc:bM.map (az (bz ks))=b6) (h:∀r fp,R r fp->(fp.length=(ks++os).length∧af (c9 fp.length) r=true∧fp.all (ab (c9 fp.length))=true)∧K ({s with bx:=aI s.bx (ks++os) (fp.map (az (cU (ks++os))))}.put d (aE (cU (ks++os)) r))) (hg:getAll s.bx ks=some bM:=by simp[getAll]) (hn:(ks++os).Nodup:=by simp) (Jc:∀o∈os,get s.bx o=none:=by simp) (ha:ah (bR ks) args=true:=by simp[ah,af,bR,idx]) (I1:fI (aR (bz ks) args)=bC:=by simp[aR,aE,bz,idx]):ai P s d f args K t:=ai.abM ks os bM hA hg hn Jc ha hb I1 tc h
theorem ai.vA {P:Program} [eJ] {s:St} {d:Option Nat} {f:FuncId} {args bC args0:List PV} {b6:List aV} {R:PV->List aV->Prop} {K:St->Prop} {t:Tg K} (ks os:List Nat) (bM:List aV) (hA:ae P f args0 [] R) (hb:bM.all (ab (bR ks))=true) (tc:bM.map (az (bz ks))=b6) (hV:Yo (av 0 b6) bC args0) (hR:∀r new,R r new->(fL r=true∧new.all uj=true)∧new.length=os.length) (h:∀r new,R r new->(af (c9 (b6.length+new.length)) (aE (·+b6.length) r)=true∧(b6++new.map (az (·+b6.length))).all (ab (c9 (b6.length+new.length)))=true)∧K ({s with bx:=aI s.bx (ks++os) ((b6++new.map (az (·+b6.length))).map (az (cU (ks++os))))}.put d (aE (cU (ks++os)) (aE (·+b6.length) r)))) (hg:getAll s.bx ks=some bM:=by simp[getAll]) (hn:(ks++os).Nodup:=by simp) (Jc:∀o∈os,get s.bx o=none:=by simp) (ha:ah (bR ks) args=true:=by simp[ah,af,bR,idx]) (I1:fI (aR (bz ks) args)=bC:=by simp[aR,aE,bz,idx]):ai P s d f args K t:=ai.view ks os bM hA hg hn Jc ha hb I1 tc hV hR h
end Go.Ab

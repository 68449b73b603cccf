/- Values, places and operations of an abstract reading of a Go program. No condition. -/
import Derived.Orders
import Derived.Below
import Derived.Laws.Sem
import Derived.Laws.Entries
import Derived.Laws.StructEq
import Derived.Laws.Cells
set_option linter.all false
namespace Go.Ab
def sJ:= @Option.some.injEq
def aJ:= @Bool.and_eq_true
def gJ:= @List.getElem?_eq_getElem
def tJ:= @List.take_of_length_le
def fJ:= @Bool.false_eq_true
def cJ:= @List.mem_cons
def iJ:= @List.getElem?_eq_some_iff
def mJ:= @Option.map_eq_some_iff
def rJ:= @Result.andThen_ok
def uJ:= @Array.getElem?_setIfInBounds_self_of_lt
def bJ:= @Sem.run_bind
def lJ:= @List.length_take
def JaJ:= @List.getElem_mem
def JaQ:= @Nat.le_refl
def JaX:= @List.mem_append
def JaZ:= @Option.isSome_iff_exists
def JaV:= @List.length_append
def JaW:= @List.mem_of_mem_take
def JbJ:= @List.all_eq_true
def JbQ:= @Array.getD_eq_getD_getElem?
def JbX:= @Array.length_toList
def JbZ:= @List.length_cons
def JbV:= @List.take_append_drop
def JbW:= @List.mem_of_mem_drop
def JcJ:= @List.take_succ_eq_append_getElem
def JcQ:= @List.map_cons
def JcX:= @List.mem_of_getElem?
def JcZ:= @Sem.run_pure
def JcV:= @List.mem_map
def JcW:= @List.pairwise_append
def JdJ:= @List.eq_nil_of_length_eq_zero
def JdQ:= @List.filter_eq_self
def JdX:= @List.length_drop
def JdZ:= @Nat.min_eq_left
def JdV:= @List.cons_append
def JdW:= @List.append_nil
def JeJ:= @List.map_set
def JeQ:= @List.nodup_append
def JeX:= @List.flatMap_cons
def JeZ:= @Nat.mul_le_mul_right
def JeV:= @List.length_filter_le
def JeW:= @List.length_map
def JfJ:= @List.pairwise_cons
def JfQ:= @List.getD_eq_getElem?_getD
def JfX:= @List.append_assoc
def JfZ:= @List.length_eq_zero_iff
def JfV:= @List.pairwise_iff_getElem
def JfW:= @Bool.not_eq_true'
def JgJ:= @Nat.le_trans
def JgQ:= @List.mem_filter
def JgX:= @List.all_cons
def JgZ:= @Nat.lt_of_lt_of_le
def JgV:= @Nat.add_mul
def JgW:= @List.rel_of_pairwise_cons
def JhJ:= @List.filter_append
def JhQ:= @Bool.or_eq_true
def JhX:= @Nat.zero_add
def JhZ:= @List.eq_of_mem_replicate
def JhV:= @List.set_append_right
def JhW:= @Bool.true_and
def JiJ:= @Int.tmod_eq_emod_of_nonneg
def JiQ:= @List.nodup_cons
def JiX:= @List.mem_iff_getElem
def JiZ:= @List.drop_of_length_le
def JiV:= @List.length_pos_iff
def JiW:= @Bool.or_eq_true_iff
def JjJ:= @List.nil_append
def JjQ:= @List.filter_cons_of_pos
def JjX:= @List.map_take
def JjZ:= @List.mem_or_eq_of_mem_set
def JjV:= @List.take_append_of_le_length
def JjW:= @List.set_cons_zero
def JkJ:= @Option.bind_some
def JkQ:= @Nat.mod_eq_of_lt
def JkX:= @List.length_replicate
def JkZ:= @List.mem_range
def JkV:= @List.mem_cons_self
def JkW:= @Option.map_some
def JlJ:= @BitVec.ofInt_natCast
def JlQ:= @List.drop_append_of_le_length
def JlX:= @List.drop_drop
def JlZ:= @Array.toList_map
def JlV:= @List.mem_flatMap
def JlW:= @Array.getElem_setIfInBounds
def JmJ:= @UInt8.lt_iff_toNat_lt
def JmQ:= @List.map_drop
def JmX:= @List.set_eq_take_append_cons_drop
def JmZ:= @Nat.add_zero
def JmV:= @List.take_length
def JmW:= @List.ext_getElem
def JnJ:= @List.getElem_map
def JnQ:= @Option.bind_eq_some_iff
def JnX:= @Nat.eq_zero_or_pos
def JnZ:= @Option.map_none
def JnV:= @List.mem_replicate
def JnW:= @List.length_set
def JoJ:= @List.length_eq_one_iff
def JoQ:= @List.getElem_cons_drop
def JoX:= @List.take_take
def JoZ:= @Int.ofNat_tmod
def JoV:= @List.range_eq_range'
def JoW:= @List.filter_cons
inductive iO|tip|clip|any|full (n:Nat)
 deriving DecidableEq,Inhabited
inductive Step|f (i off:Nat)|i (j sz:Nat)|w (off n sz:Nat)
 deriving DecidableEq,Inhabited
def bU:List Step->Nat
 |[]=>0
 | .f _ o::r=>o+bU r
 | .i j sz::r=>j*sz+bU r
 | .w o _ sz::r=>o*sz+bU r
theorem lC (a b:List Step):bU (a++b)=bU a+bU b:=by
 induction a with
 |nil=>simp[bU]
 |cons x a ih=>cases x<;>simp[bU,ih]<;>omega
inductive Sh
 |b|i (k:IntKind)|s|st (l:List Sh)|ar (n:Nat) (e:Sh)
inductive PV where
 |un
 |bl (x:Bool)
 |int (k:IntKind) (n:Int)
 |str (l:List UInt8)
 |st (w:Nat) (l:List PV)
 |ar (sz n:Nat) (l:List PV)
 |tup (l:List PV)
 |sl (sz:Nat) (l:List PV) (clip:Bool)
 |rs (k:Nat) (p:List Step) (off len aD sz:Nat) (c:iO)
 |np
 |pt (k:Nat) (p:List Step) (aD:Nat)
 |fp (sz:Nat) (l:List PV) (p:List Step)
 |fn (f:Fn) (first cap:List PV)
 |nf
 |gd (b:Bool) (v:PV)
 |ifc (t:TypeId) (v:PV)
 |ni
 |mp (k b:Nat)
 deriving Inhabited
structure ZrF where
 f:Nat->PV->List PV
 h:f=List.replicate
theorem PI:Nonempty ZrF:=⟨⟨List.replicate,rfl⟩⟩
noncomputable def zr:Nat->PV->List PV:=(Classical.choice PI).f
def dh:zr=List.replicate:=(Classical.choice PI).h
def PV.width:PV->Nat
 | .st w _=>w
 | .ar sz n _=>n*sz
 |_=>1
def PV.isAgg:PV->Bool
 | .st .. | .ar .. =>true
 |_=>false
def PV.isNum:PV->Bool
 | .int .. =>true
 |_=>false
inductive aU where
 |box (v:PV)
 |arr (sz:Nat) (l:List PV)
 |map (b:Nat) (ks vs:Sh) (l:List (PV×PV))
 deriving Inhabited
def aU.aD:aU->Nat
 | .box _=>0
 | .arr _ l=>l.length
 | .map .. =>0
def get {α:Type}:List (Nat×α)->Nat->Option α
 |[],_=>none
 |(k,v)::r,n=>if k=n then some v else get r n
def put {α:Type}:List (Nat×α)->Nat->α->List (Nat×α)
 |[],n,x=>[(n,x)]
 |(k,v)::r,n,x=>if k=n then(n,x)::r else if n<k then(n,x)::(k,v)::r else(k,v)::put r n x
theorem cm {α:Type} (l:List (Nat×α)) (n:Nat) (x:α):get (put l n x) n=some x:=by
 induction l with
 |nil=>simp[put,get]
 |
  cons p r ih=>
  obtain⟨k,v⟩:=p
  simp only[put]
  split
  ·simp[get]
  ·split
   ·simp[get]
   ·simp[get, *]
theorem bG {α:Type} (l:List (Nat×α)) (n m:Nat) (x:α) (h:n≠m):get (put l n x) m=get l m:=by
 induction l with
 |nil=>simp[put,get,h]
 |
  cons p r ih=>
  obtain⟨k,v⟩:=p
  simp only[put]
  split
  ·subst_vars;simp[get,h]
  ·split
   ·simp[get,h]
   ·simp[get,ih]
def dc {α:Type} (l:List (Nat×α)) (n m:Nat) (x:α):get (put l n x) m=if n=m then some x else get l m:=by
 by_cases h:n=m
 ·subst h;simp[cm]
 ·simp[bG _ _ _ _ h,h]
def cell (heap:Array Obj) (b o:Nat):Option Value:=
 match heap[b]?with
 |some (.cells c _ _)=>c[o]?
 |_=>none
def ew:Value->Bool
 | .agg _| .tuple _=>false
 |_=>true
structure Cx where
 heap:Array Obj
 ι:Nat->Option Nat
 bx:List (Nat×aU)
 cI:Nat->Prop
def Cx.fM (Γ:Cx) (b:Nat):Prop:=∃k blk,get Γ.bx k=some blk∧Γ.ι k=some b
def Cx.own (Γ:Cx) (b:Nat):Prop:=Γ.fM b∨Γ.cI b
def oy:iO->Nat->Nat->Prop
 | .clip,len,bg=>bg=len
 | .full n,_,bg=>bg=n
 |_,_,_=>True
def oy.clip {c:iO} {len bg:Nat} (h:oy c len bg) (e:c= .clip):bg=len:=by subst e;exact h
def iD (Γ:Cx) (k:Nat) (p:List Step) (off len sz:Nat) (c:iO) (a:Option Addr) (bg:Nat):Prop:=
 match Γ.ι k with
 |none=>len=0∧bg=0∧oy c len bg
 |some b=>len≤bg∧(bg=0∨a=some ⟨b,bU p+off*sz,none⟩)∧oy c len bg∧
   (c= .tip->p=[]∧∃cs e,Γ.heap[b]? =some (.cells cs e (0,0))∧(off+bg)*sz=cs.size)
inductive aC (Γ:Cx):List PV->List Value->Prop
 |nil:aC Γ [] []
 |un {ps vs v}:ew v=true->aC Γ ps vs->aC Γ (.un::ps) (v::vs)
 |bl {ps vs} (x):aC Γ ps vs->aC Γ (.bl x::ps) (.bool x::vs)
 |int {ps vs} (k n):aC Γ ps vs->aC Γ (.int k n::ps) (.int k n::vs)
 |str {ps vs} (l:List UInt8) (s:ByteArray):s.data.toList=l->aC Γ ps vs->aC Γ (.str l::ps) (.string s::vs)
 |st {ps vs cs} (w l):aC Γ l cs->cs.length=w->aC Γ ps vs->aC Γ (.st w l::ps) (cs++vs)
 |ar {ps vs cs} (sz n l):aC Γ l cs->l.length=n->(∀x∈l,x.width=sz)->aC Γ ps vs->aC Γ (.ar sz n l::ps) (cs++vs)
 |sl {ps vs cs} (sz l clip a bg):aC Γ l cs->(∀x∈l,x.width=sz)->l.length≤bg->(clip=true->bg=l.length)->
   (l≠[]->∃b o,a=some ⟨b,o,none⟩∧b<Γ.heap.size∧¬Γ.own b∧∀i c,cs[i]? =some c->cell Γ.heap b (o+i)=some c)->
   aC Γ ps vs->aC Γ (.sl sz l clip::ps) (.slice a l.length bg::vs)
 |rs {ps vs} (k p off len aD sz c v blk):get Γ.bx k=some blk∧aD≤blk.aD->ew v=true->
   (aD=blk.aD->∃a bg,v= .slice a len bg∧iD Γ k p off len sz c a bg)->
   aC Γ ps vs->aC Γ (.rs k p off len aD sz c::ps) (v::vs)
 |np {ps vs}:aC Γ ps vs->aC Γ (.np::ps) (.pointer none::vs)
 |pt {ps vs} (k p aD v blk):get Γ.bx k=some blk∧aD≤blk.aD->ew v=true->
   (aD=blk.aD->∃b,Γ.ι k=some b∧v= .pointer (some ⟨b,bU p,none⟩))->aC Γ ps vs->aC Γ (.pt k p aD::ps) (v::vs)
 |fp {ps vs cs} (sz l p b o):aC Γ l cs->(∀x∈l,x.width=sz)->b<Γ.heap.size∧¬Γ.own b->(∀i c,cs[i]? =some c->cell Γ.heap b (o+i)=some c)->
   aC Γ ps vs->aC Γ (.fp sz l p::ps) (.pointer (some ⟨b,o+bU p,none⟩)::vs)
 |fn {ps vs fs cs} (f first cap):aC Γ first fs->aC Γ cap cs->(∀x∈first,x.isAgg=false)->(∀x∈cap,x.isAgg=false)->
   aC Γ ps vs->aC Γ (.fn f first cap::ps) (.func f fs.toArray cs.toArray::vs)
 |nf {ps vs}:aC Γ ps vs->aC Γ (.nf::ps) (.nilFunc::vs)
 |ifc {ps vs x} (t v):aC Γ [v] [x]->v.isAgg=false->aC Γ ps vs->aC Γ (.ifc t v::ps) (.iface t x::vs)
 |ni {ps vs}:aC Γ ps vs->aC Γ (.ni::ps) (.nilIface::vs)
 |mp {ps vs} (k b):aC Γ ps vs->aC Γ (.mp k b::ps) (.map (some b)::vs)
def au:List PV->Nat
 |[]=>0
 |p::r=>p.width+au r
theorem qK (a b:List PV):au (a++b)=au a+au b:=by
 induction a with
 |nil=>simp[au]
 |cons x a ih=>simp[au,ih];omega
theorem bD {l:List PV} {sz:Nat} (h:∀x∈l,x.width=sz):au l=l.length*sz:=by
 induction l with
 |nil=>simp[au]
 |
  cons x l ih=>
  simp only[au,JbZ]
  rw[h x (by simp),ih (λy hy=>h y (by simp[hy])),JgV];omega
theorem aC.length {Γ:Cx} {ps:List PV} {vs:List Value} (h:aC Γ ps vs):vs.length=au ps:=by
 induction h with
 |nil=>rfl
 |st w l hl hw hr ihl ih=>simp[au,PV.width,ih,hw]
 |ar sz n l hl hn hs hr ihl ih=>simp[au,PV.width,ih,ihl,bD hs,hn]
 |_=>rename_i ih;simp only[JbZ,au,PV.width,ih];omega
theorem aC.one {Γ:Cx} {ps:List PV} {vs:List Value} (h:aC Γ ps vs):∀v∈vs,ew v=true:=by
 induction h with
 |nil=>simp
 |st w l hl hw hr ihl ih=>intro v hv;rcases JaX.1 hv with h|h;exact ihl v h;exact ih v h
 |ar sz n l hl hn hs hr ihl ih=>intro v hv;rcases JaX.1 hv with h|h;exact ihl v h;exact ih v h
 |
  _=>
  intro v hv
  rcases cJ.1 hv with h|h
  ·subst h;first|rfl|assumption
  ·first|(rename_i ih;exact ih v h)|simp_all
theorem aC.append {Γ:Cx} {ps qs:List PV} {vs us:List Value} (h:aC Γ ps vs) (h':aC Γ qs us):aC Γ (ps++qs) (vs++us):=by
 induction h with
 |nil=>exact h'
 |un h hr ih=>exact .un h ih
 |bl x hr ih=>exact .bl x ih
 |int k n hr ih=>exact .int k n ih
 |str l s h hr ih=>exact .str l s h ih
 |st w l hl hw hr ihl ih=>rw[JfX];exact .st w l hl hw ih
 |ar sz n l hl hn hs hr ihl ih=>rw[JfX];exact .ar sz n l hl hn hs ih
 |sl sz l clip a bg hl hw hc hk hb hr ihl ih=>exact .sl sz l clip a bg hl hw hc hk hb ih
 |rs k p off len aD sz c v blk hg h1 hv hr ih=>exact .rs k p off len aD sz c v blk hg h1 hv ih
 |np hr ih=>exact .np ih
 |pt k p aD v blk hg h1 hv hr ih=>exact .pt k p aD v blk hg h1 hv ih
 |fp sz l p b o hl hw hm hc hr ihl ih=>exact .fp sz l p b o hl hw hm hc ih
 |fn f first cap h1 h2 h3 h4 hr i1 i2 ih=>exact .fn f first cap h1 h2 h3 h4 ih
 |nf hr ih=>exact .nf ih
 |ifc t v h1 h2 hr i1 ih=>exact .ifc t v h1 h2 ih
 |ni hr ih=>exact .ni ih
 |mp k b hr ih=>exact .mp k b ih
theorem aC.pv {Γ:Cx} {p:PV} {ps:List PV} {us:List Value} (h:aC Γ (p::ps) us):∃cs vs,us=cs++vs∧aC Γ [p] cs∧aC Γ ps vs:=by
 cases h with
 |un h hr=>exact⟨[_],_,rfl,.un h .nil,hr⟩
 |bl x hr=>exact⟨[_],_,rfl,.bl x .nil,hr⟩
 |int k n hr=>exact⟨[_],_,rfl,.int k n .nil,hr⟩
 |str l s h hr=>exact⟨[_],_,rfl,.str l s h .nil,hr⟩
 | @st _ vs cs w l hl hw hr=>exact⟨cs,vs,rfl,by simpa using aC.st w l hl hw .nil,hr⟩
 | @ar _ vs cs sz n l hl hn hs hr=>exact⟨cs,vs,rfl,by simpa using aC.ar sz n l hl hn hs .nil,hr⟩
 |sl sz l clip a bg hl hw hc hk hb hr=>exact⟨[_],_,rfl,.sl sz l clip a bg hl hw hc hk hb .nil,hr⟩
 |rs k p off len aD sz c v blk hg h1 hv hr=>exact⟨[_],_,rfl,.rs k p off len aD sz c v blk hg h1 hv .nil,hr⟩
 |np hr=>exact⟨[_],_,rfl,.np .nil,hr⟩
 |pt k p aD v blk hg h1 hv hr=>exact⟨[_],_,rfl,.pt k p aD v blk hg h1 hv .nil,hr⟩
 |fp sz l p b o hl hw hm hc hr=>exact⟨[_],_,rfl,.fp sz l p b o hl hw hm hc .nil,hr⟩
 |fn f first cap h1 h2 h3 h4 hr=>exact⟨[_],_,rfl,.fn f first cap h1 h2 h3 h4 .nil,hr⟩
 |nf hr=>exact⟨[_],_,rfl,.nf .nil,hr⟩
 |ifc t v h1 h2 hr=>exact⟨[_],_,rfl,.ifc t v h1 h2 .nil,hr⟩
 |ni hr=>exact⟨[_],_,rfl,.ni .nil,hr⟩
 |mp k b hr=>exact⟨[_],_,rfl,.mp k b .nil,hr⟩
def aC.cons {Γ:Cx} {p:PV} {ps:List PV} {cs vs:List Value} (h:aC Γ [p] cs) (h':aC Γ ps vs):aC Γ (p::ps) (cs++vs):=h.append h'
theorem aC.split {Γ:Cx}:∀ {ps qs:List PV} {us:List Value},aC Γ (ps++qs) us->∃cs vs,us=cs++vs∧aC Γ ps cs∧aC Γ qs vs
 |[],_,us,h=>⟨[],us,rfl,.nil,h⟩
 |
  p::ps,qs,us,h=>by
  obtain⟨c1,v1,rfl,h1,h2⟩:=aC.pv (ps:=ps++qs) h
  obtain⟨c2,v2,rfl,h3,h4⟩:=aC.split h2
  exact⟨c1++c2,v2,by simp,h1.cons h3,h4⟩
def aC.gn {Γ:Cx} {p:PV} {cs:List Value} (h:aC Γ [p] cs):cs.length=p.width:=by
 have:=h.length;simpa[au]using this
def aC.at {Γ:Cx} {l:List PV} {cs:List Value} (h:aC Γ l cs) {i:Nat} {p:PV} (hp:l[i]? =some p):
  aC Γ [p] ((cs.drop (au (l.take i))).take p.width):=by
 obtain⟨hi,rfl⟩:=iJ.1 hp;have e:l=l.take i++l[i]::l.drop (i+1):=by simp
 rw[e]at h;obtain⟨c1,v1,rfl,h1,h2⟩:=h.split;obtain⟨c2,v2,rfl,h3,h4⟩:=h2.pv;have l1:=h1.length;have l2:=h3.gn;rw[JlQ (by omega),←l1];simp[←l2,h3]
def aC.set {Γ:Cx} {l:List PV} {cs us:List Value} (h:aC Γ l cs) {i:Nat} {p q:PV} (hp:l[i]? =some p) (hq:aC Γ [q] us) (hw:q.width=p.width):
  aC Γ (l.set i q) (cs.take (au (l.take i))++us++cs.drop (au (l.take i)+us.length)):=by
 obtain⟨hi,rfl⟩:=iJ.1 hp;have e:l=l.take i++l[i]::l.drop (i+1):=by simp
 have ky:l.set i q=l.take i++q::l.drop (i+1):=by
  rw[JmX];simp[hi]
 rw[ky];rw[e]at h;obtain⟨c1,v1,rfl,h1,h2⟩:=h.split;obtain⟨c2,v2,rfl,h3,h4⟩:=h2.pv;have l1:=h1.length;have l2:=h3.gn;have l3:=hq.gn;rw[←l1];have e1:(c1++(c2++v2)).take c1.length=c1:=by simp
 have e2:(c1++(c2++v2)).drop (c1.length+us.length)=v2:=by
  rw[←JlX];simp;rw[show us.length=c2.length by omega];simp
 rw[e1,e2,JfX];exact h1.append (hq.append h4)
end Go.Ab
namespace Go.Ab
def aO:PV->List Step->Option PV
 |v,[]=>some v
 | .st _ l,.f i o::r=>if au (l.take i)=o then(match l[i]?with|some c=>aO c r|none=>none)else none
 | .ar sz _ l,.i j s::r=>if s=sz then(match l[j]?with|some c=>aO c r|none=>none)else none
 | .ar sz _ l,.w o n s::r=>if s=sz∧o+n≤l.length then aO (.ar sz n ((l.drop o).take n)) r else none
 |_,_=>none
def cu:PV->List Step->PV->Option PV
 |v,[],x=>if x.width=v.width then some x else none
 | .st w l,.f i o::r,x=>if au (l.take i)=o then(match l[i]?with|some c=>(match cu c r x with|some c'=>some (.st w (l.set i c'))|none=>none)|none=>none)else none
 | .ar sz n l,.i j s::r,x=>if s=sz then(match l[j]?with|some c=>(match cu c r x with|some c'=>some (.ar sz n (l.set j c'))|none=>none)|none=>none)else none
 |_,_,_=>none
def lW:aU->List Step->Option PV
 | .box v,p=>aO v p
 | .arr sz l,.i j s::r=>if s=sz then(match l[j]?with|some c=>aO c r|none=>none)else none
 | .arr sz l,.w o n s::r=>if s=sz∧o+n≤l.length then aO (.ar sz n ((l.drop o).take n)) r else none
 | .arr _ _,_=>none
 | .map ..,_=>none
def rz:aU->List Step->PV->Option aU
 | .box v,p,x=>match cu v p x with|some v'=>some (.box v')|none=>none
 | .arr sz l,.i j s::r,x=>if s=sz then(match l[j]?with|some c=>(match cu c r x with|some c'=>some (.arr sz (l.set j c'))|none=>none)|none=>none)else none
 | .arr _ _,_,_=>none
 | .map ..,_,_=>none
def fR {l:List PV} {sz j:Nat} (h:∀x∈l,x.width=sz) (hj:j≤l.length):au (l.take j)=j*sz:=by
 rw[bD (λx hx=>h x (JaW hx))];rw[lJ,JdZ hj]
def BQ {l:List PV} {i:Nat} {p q:PV} (hp:l[i]? =some p) (hw:q.width=p.width):au (l.set i q)=au l:=by
 obtain⟨hi,rfl⟩:=iJ.1 hp;have e:l=l.take i++l[i]::l.drop (i+1):=by simp
 have ky:l.set i q=l.take i++q::l.drop (i+1):=by
  rw[JmX];simp[hi]
 have:=congrArg au e;rw[ky,qK,au,hw];rw[qK,au]at this;omega
def yD {l:List PV} {i:Nat} {p:PV} (hp:l[i]? =some p):au (l.take i)+p.width≤au l:=by
 obtain⟨hi,rfl⟩:=iJ.1 hp;have e:l=l.take i++l[i]::l.drop (i+1):=by simp
 have:=congrArg au e;rw[qK,au]at this;omega
variable {Γ:Cx}
theorem aC.wg {w:Nat} {l:List PV} {us:List Value} (h:aC Γ [.st w l] us):aC Γ l us∧us.length=w:=by
 cases h with
 | @st _ vs cs w l hl hw hr=>cases hr;simp;exact⟨hl,hw⟩
theorem aC.px {sz n:Nat} {l:List PV} {us:List Value} (h:aC Γ [.ar sz n l] us):aC Γ l us∧l.length=n∧∀x∈l,x.width=sz:=by
 cases h with
 | @ar _ vs cs sz n l hl hn hs hr=>cases hr;simp;exact⟨hl,hn,hs⟩
def aC.st1 {w:Nat} {l:List PV} {us:List Value} (h:aC Γ l us) (hw:us.length=w):aC Γ [.st w l] us:=by
 simpa using aC.st w l h hw .nil
def aC.Zo {sz n:Nat} {l:List PV} {us:List Value} (h:aC Γ l us) (hn:l.length=n) (hw:∀x∈l,x.width=sz):aC Γ [.ar sz n l] us:=by
 simpa using aC.ar sz n l h hn hw .nil
def kG (cs:List Value) (o n p m:Nat) (h:p+m≤n):(((cs.drop o).take n).drop p).take m=(cs.drop (o+p)).take m:=by
 rw[List.drop_take,JoX,JdZ (by omega),JlX]
def BR {l:List PV} {cs:List Value} (h:aC Γ l cs) {j:Nat} {c:PV} (hj:l[j]? =some c) {o m:Nat} {u:PV}
  (hu:o+m≤c.width) (hm:m=u.width) (hr:aC Γ [u] ((((cs.drop (au (l.take j))).take c.width).drop o).take m)):
  au (l.take j)+o+m≤cs.length∧aC Γ [u] ((cs.drop (au (l.take j)+o)).take m):=by
 rw[kG _ _ _ _ _ hu]at hr;have h1:=yD hj;have h2:=h.length;exact⟨by omega,hr⟩
def aC.tC {l:List PV} {cs:List Value} {sz o n:Nat} (h:aC Γ l cs) (hw:∀x∈l,x.width=sz) (hn:o+n≤l.length):
  aC Γ ((l.drop o).take n) ((cs.drop (o*sz)).take (n*sz))∧o*sz+n*sz≤cs.length:=by
 have hlen:=h.length;rw[bD hw]at hlen;have e:l=l.take o++((l.drop o).take n++(l.drop o).drop n):=by rw[JbV,JbV]
 rw[e]at h;obtain⟨c1,v1,rfl,h1,h2⟩:=h.split;obtain⟨c2,v2,rfl,h3,h4⟩:=h2.split;have l1:=h1.length;rw[fR hw (by omega)]at l1;have l2:=h3.length;rw[bD (λx hx=>hw x (JbW (JaW hx)))]at l2;rw[lJ,JdX,JdZ (by omega)]at l2;rw[←l1,←l2];refine⟨by simpa using h3,by simp⟩
def aC.avM {l:List PV} {cs:List Value} {sz n0 o n:Nat} (h:aC Γ [.ar sz n0 l] cs) (hn:o+n≤l.length):
  aC Γ [.ar sz n ((l.drop o).take n)] ((cs.drop (o*sz)).take (n*sz))∧o*sz+n*sz≤cs.length:=by
 obtain⟨h1,h2,h3⟩:=h.px;obtain⟨h4,h5⟩:=h1.tC h3 hn;refine⟨h4.Zo (by rw[lJ,JdX,JdZ (by omega)]) (λx hx=>h3 x (JbW (JaW hx))),h5⟩
theorem rB:∀(p:List Step) {t u:PV} {cs:List Value},aC Γ [t] cs->aO t p=some u->
  bU p+u.width≤cs.length∧aC Γ [u] ((cs.drop (bU p)).take u.width):=by
 intro p;induction p with
 |
  nil=>
  intro t u cs h hg
  have:u=t:=by cases t<;>simp[aO]at hg<;>exact hg.symm
  subst this
  have hl:=h.gn
  simp only[bU,List.drop_zero]
  rw[tJ (by omega)]
  exact⟨by omega,h⟩
 |
  cons s p ih=>
  intro t u cs h hg
  cases t<;>cases s<;>simp only[aO,reduceCtorEq]at hg
  ·rename_i w l i o
   split at hg
   ·rename_i hw
    split at hg
    ·rename_i c hc
     obtain⟨h1,h2⟩:=h.wg
     have h3:=h1.at hc
     obtain⟨h4,h5⟩:=ih h3 hg
     have h6:=h3.gn
     have:=BR h1 hc (by omega) rfl h5
     rw[hw]at this
     simpa[bU]using this
    ·exact absurd hg (by simp)
   ·exact absurd hg (by simp)
  ·rename_i sz n l j s
   split at hg
   ·rename_i hs
    subst hs
    split at hg
    ·rename_i c hc
     obtain⟨h1,hn,hw⟩:=h.px
     have h3:=h1.at hc
     obtain⟨h4,h5⟩:=ih h3 hg
     have h6:=h3.gn
     have:=BR h1 hc (by omega) rfl h5
     have hj:=(iJ.1 hc).1
     rw[fR hw (by omega)]at this
     simpa[bU]using this
    ·exact absurd hg (by simp)
   ·exact absurd hg (by simp)
  ·rename_i sz n l o m s
   split at hg
   ·rename_i hs
    obtain⟨rfl,hs⟩:=hs
    obtain⟨h1,h2⟩:=h.avM hs
    obtain⟨h3,h4⟩:=ih h1 hg
    rw[lJ,JdX]at h3
    rw[kG _ _ _ _ _ (by omega)]at h4
    refine⟨by simp only[bU];omega,by simpa only[bU]using h4⟩
   ·exact absurd hg (by simp)
def bC (cs:List Value) (o:Nat) (us:List Value):List Value:=cs.take o++us++cs.drop (o+us.length)
def dW {cs us:List Value} {o:Nat} (h:o+us.length≤cs.length):(bC cs o us).length=cs.length:=by
 simp[bC];omega
def qL {cs us:List Value} {o m p:Nat} (h:o+m≤cs.length) (h':p+us.length≤m):
  bC cs o (bC ((cs.drop o).take m) p us)=bC cs (o+p) us:=by
 have hl:(bC ((cs.drop o).take m) p us).length=m:=by
  rw[dW]<;>simp<;>omega
 simp only[bC]at hl⊢;rw[hl];apply List.ext_getElem?;intro i;simp only[List.getElem?_append,JaV,lJ,JdX,List.getElem?_take,List.getElem?_drop];grind
def BS {l:List PV} {cs us:List Value} (h:aC Γ l cs) {j:Nat} {c c':PV} (hj:l[j]? =some c) {o:Nat}
  (hu:o+us.length≤c.width) (hw:c'.width=c.width) (hr:aC Γ [c'] (bC ((cs.drop (au (l.take j))).take c.width) o us)):
  au (l.take j)+o+us.length≤cs.length∧aC Γ (l.set j c') (bC cs (au (l.take j)+o) us):=by
 have h1:=yD hj;have h2:=h.length;refine⟨by omega,?_⟩;have h3:=h.set hj hr hw;rw[←qL (m:=c.width) (by omega) hu];exact h3
def qM {l:List PV} {j sz:Nat} {c':PV} (h:∀x∈l,x.width=sz) (hc:c'.width=sz):∀x∈l.set j c',x.width=sz:=by
 intro x hx;rcases JjZ hx with h'|h'
 ·exact h x h'
 ·subst h';exact hc
theorem BT {us:List Value} {x:PV} (hx:aC Γ [x] us):∀(p:List Step) {t t':PV} {cs:List Value},aC Γ [t] cs->cu t p x=some t'->
  bU p+us.length≤cs.length∧t'.width=t.width∧aC Γ [t'] (bC cs (bU p) us):=by
 have hxw:=hx.gn;intro p;induction p with
 |
  nil=>
  intro t t' cs h hg
  have hl:=h.gn
  have:x.width=t.width∧t'=x:=by
   cases t<;>simp only[cu]at hg<;>split at hg<;>simp_all
  obtain⟨h1,rfl⟩:=this
  refine⟨by simp[bU];omega,h1,?_⟩
  have e:bC cs 0 us=us:=by simp[bC];omega
  simpa[bU,e]using hx
 |
  cons s p ih=>
  intro t t' cs h hg
  cases t<;>cases s<;>simp only[cu,reduceCtorEq]at hg
  ·rename_i w l i o
   split at hg
   ·rename_i hw
    split at hg
    ·rename_i c hc
     split at hg
     ·rename_i c' GY
      simp only[sJ]at hg
      subst hg
      obtain⟨h1,h2⟩:=h.wg
      have h3:=h1.at hc
      obtain⟨h4,h5,h6⟩:=ih h3 GY
      have h7:=h3.gn
      have:=BS h1 hc (by omega) h5 h6
      rw[hw]at this
      refine⟨by simp[bU];omega,rfl,?_⟩
      simp only[bU]
      exact this.2.st1 (by rw[dW this.1];exact h2)
     ·exact absurd hg (by simp)
    ·exact absurd hg (by simp)
   ·exact absurd hg (by simp)
  ·rename_i sz n l j s
   split at hg
   ·rename_i hs
    subst hs
    split at hg
    ·rename_i c hc
     split at hg
     ·rename_i c' GY
      simp only[sJ]at hg
      subst hg
      obtain⟨h1,hn,hw⟩:=h.px
      have h3:=h1.at hc
      obtain⟨h4,h5,h6⟩:=ih h3 GY
      have h7:=h3.gn
      have:=BS h1 hc (by omega) h5 h6
      have hj:=(iJ.1 hc).1
      rw[fR hw (by omega)]at this
      refine⟨by simp[bU];omega,rfl,?_⟩
      simp only[bU]
      exact this.2.Zo (by simpa using hn) (qM hw (by rw[h5];exact hw c (JcX hc)))
     ·exact absurd hg (by simp)
    ·exact absurd hg (by simp)
   ·exact absurd hg (by simp)
structure Le (Γ Γ':Cx):Prop where
 heap:∀b,b<Γ.heap.size->¬Γ.fM b->Γ'.heap[b]? =Γ.heap[b]?
 fM:∀b,b<Γ.heap.size->Γ'.fM b->Γ.fM b
 cI:Γ'.cI=Γ.cI
 size:Γ.heap.size≤Γ'.heap.size
 ref:∀k blk,get Γ.bx k=some blk->∃bL,get Γ'.bx k=some bL∧blk.aD≤bL.aD∧
  (bL.aD=blk.aD->Γ'.ι k=Γ.ι k∧∀b,Γ.ι k=some b->∀cs e,Γ.heap[b]? =some (.cells cs e (0,0))->∃Fi,Γ'.heap[b]? =some (.cells Fi e (0,0))∧Fi.size=cs.size)
def Le.own {Γ Γ':Cx} (h:Le Γ Γ') (b:Nat) (hb:b<Γ.heap.size) (ho:Γ'.own b):Γ.own b:=by
 rcases ho with ho|ho
 ·exact .inl (h.fM b hb ho)
 ·rw[h.cI]at ho;exact .inr ho
def cell_of_heap {h h':Array Obj} {b o:Nat} (e:h'[b]? =h[b]?):cell h' b o=cell h b o:=by simp[cell,e]
theorem iD.mono {Γ Γ':Cx} {k off len sz:Nat} {p:List Step} {c:iO} {a:Option Addr} {bg:Nat} (h:iD Γ k p off len sz c a bg) (hι:Γ'.ι k=Γ.ι k)
  (hk:∀b,Γ.ι k=some b->∀cs e,Γ.heap[b]? =some (.cells cs e (0,0))->∃Fi,Γ'.heap[b]? =some (.cells Fi e (0,0))∧Fi.size=cs.size):iD Γ' k p off len sz c a bg:=by
 unfold iD at*;rw[hι];cases hb:Γ.ι k with
 |none=>simpa[hb]using h
 |
  some b=>
  rw[hb]at h
  obtain⟨h1,h2,h3,h4⟩:=h
  refine⟨h1,h2,h3,λhc=> ?_⟩
  obtain⟨hp,cs,e,hh,hs⟩:=h4 hc
  obtain⟨Fi,hh',Dv⟩:=hk b hb cs e hh
  exact⟨hp,Fi,e,hh',by omega⟩
structure PJ (Γ Γ':Cx):Prop where
 cell:∀b o c,b<Γ.heap.size->¬Γ.own b->cell Γ.heap b o=some c->cell Γ'.heap b o=some c
 own:∀b,b<Γ.heap.size->Γ'.own b->Γ.own b
 size:Γ.heap.size≤Γ'.heap.size
 ref:∀k blk,get Γ.bx k=some blk->∃bL,get Γ'.bx k=some bL∧blk.aD≤bL.aD∧
  (bL.aD=blk.aD->Γ'.ι k=Γ.ι k∧∀b,Γ.ι k=some b->∀cs e,Γ.heap[b]? =some (.cells cs e (0,0))->∃Fi,Γ'.heap[b]? =some (.cells Fi e (0,0))∧Fi.size=cs.size)
def Le.c {Γ Γ':Cx} (h:Le Γ Γ'):PJ Γ Γ' where
 cell b o c hb hn hc:=by rw[cell_of_heap (h.heap b hb λh=>hn (.inl h))];exact hc
 own:=h.own
 size:=h.size
 ref:=h.ref
theorem aC.py {Γ Γ':Cx} (hle:PJ Γ Γ') {l:List PV} {cs:List Value} (h:aC Γ l cs):aC Γ' l cs:=by
 induction h with
 |nil=>exact .nil
 |un h hr ih=>exact .un h ih
 |bl x hr ih=>exact .bl x ih
 |int k n hr ih=>exact .int k n ih
 |str l s h hr ih=>exact .str l s h ih
 |st w l hl hw hr ihl ih=>exact .st w l ihl hw ih
 |ar sz n l hl hn hs hr ihl ih=>exact .ar sz n l ihl hn hs ih
 |
  sl sz l clip a bg hl hw hc hk hb hr ihl ih=>
  refine .sl sz l clip a bg ihl hw hc hk (λbY=> ?_) ih
  obtain⟨b,o,ha,dx,hm,mL⟩:=hb bY
  refine⟨b,o,ha,JgZ dx hle.size,λvE=>hm (hle.own b dx vE),λi c hc=> ?_⟩
  exact hle.cell b _ c dx hm (mL i c hc)
 |
  rs k p off len aD sz c v blk hg h1 hv hr ih=>
  obtain⟨bL,kQ,Ee,heq⟩:=hle.ref k blk hg.1
  refine .rs k p off len aD sz c v bL ⟨kQ,JgJ hg.2 Ee⟩ h1 (λht=> ?_) ih
  have e1:aD=blk.aD:=by have:=hg.2;omega
  obtain⟨a,bg,yB,mQ⟩:=hv e1
  obtain⟨h3,h4⟩:=heq (by omega)
  exact⟨a,bg,yB,mQ.mono h3 h4⟩
 |np hr ih=>exact .np ih
 |
  pt k p aD v blk hg h1 hv hr ih=>
  obtain⟨bL,kQ,Ee,heq⟩:=hle.ref k blk hg.1
  refine .pt k p aD v bL ⟨kQ,JgJ hg.2 Ee⟩ h1 (λht=> ?_) ih
  have e1:aD=blk.aD:=by have:=hg.2;omega
  obtain⟨b,hb,yB⟩:=hv e1
  obtain⟨h3,h4⟩:=heq (by omega)
  exact⟨b,by rw[h3,hb],yB⟩
 |
  fp sz l p b o hl hw hm hc hr ihl ih=>
  refine .fp sz l p b o ihl hw ⟨JgZ hm.1 hle.size,λvE=>hm.2 (hle.own b hm.1 vE)⟩ (λi c hi=> ?_) ih
  exact hle.cell b _ c hm.1 hm.2 (hc i c hi)
 |fn f first cap h1 h2 h3 h4 hr i1 i2 ih=>exact .fn f first cap i1 i2 h3 h4 ih
 |nf hr ih=>exact .nf ih
 |ifc t v h1 h2 hr i1 ih=>exact .ifc t v i1 h2 ih
 |ni hr ih=>exact .ni ih
 |mp k b hr ih=>exact .mp k b ih
def aC.mono {Γ Γ':Cx} (hle:Le Γ Γ') {l:List PV} {cs:List Value} (h:aC Γ l cs):aC Γ' l cs:=h.py hle.c
def Le.refl (Γ:Cx):Le Γ Γ:=⟨λ_ _ _=>rfl,λ_ _ h=>h,rfl,JaQ _,λ_ blk h=>⟨blk,h,JaQ _,λ_=>⟨rfl,λ_ _ cs _ h=>⟨cs,h,rfl⟩⟩⟩⟩
def Le.trans {A B C:Cx} (h:Le A B) (k:Le B C):Le A C where
 heap b hb hm:=by rw[k.heap b (JgZ hb h.size) (λvE=>hm (h.fM b hb vE)),h.heap b hb hm]
 fM b hb hm:=h.fM b hb (k.fM b (JgZ hb h.size) hm)
 cI:=k.cI.trans h.cI
 size:=JgJ h.size k.size
 ref i blk hi:=by
  obtain⟨b1,g1,l1,e1⟩:=h.ref i blk hi;obtain⟨b2,g2,l2,e2⟩:=k.ref i b1 g1;refine⟨b2,g2,JgJ l1 l2,λht=> ?_⟩;obtain⟨i1,s1⟩:=e1 (by omega);obtain⟨i2,s2⟩:=e2 (by omega);refine⟨by rw[i2,i1],λb hb cs e hc=> ?_⟩;obtain⟨cs1,GZ,Ef⟩:=s1 b hb cs e hc;obtain⟨cs2,Eg,DM⟩:=s2 b (by rw[i1,hb]) cs1 e GZ;exact⟨cs2,Eg,by omega⟩
def PJ.trans {A B C:Cx} (h:PJ A B) (k:PJ B C):PJ A C where
 cell b o c hb hn hc:=k.cell b o c (JgZ hb h.size) (λho=>hn (h.own b hb ho)) (h.cell b o c hb hn hc)
 own b hb ho:=h.own b hb (k.own b (JgZ hb h.size) ho)
 size:=JgJ h.size k.size
 ref i blk hi:=by
  obtain⟨b1,g1,l1,e1⟩:=h.ref i blk hi;obtain⟨b2,g2,l2,e2⟩:=k.ref i b1 g1;refine⟨b2,g2,JgJ l1 l2,λht=> ?_⟩;obtain⟨i1,s1⟩:=e1 (by omega);obtain⟨i2,s2⟩:=e2 (by omega);refine⟨by rw[i2,i1],λb hb cs e hc=> ?_⟩;obtain⟨cs1,GZ,Ef⟩:=s1 b hb cs e hc;obtain⟨cs2,Eg,DM⟩:=s2 b (by rw[i1,hb]) cs1 e GZ;exact⟨cs2,Eg,by omega⟩
end Go.Ab
namespace Go.Ab
structure St where
 env:List (Nat×PV)
 bx:List (Nat×aU)
def iK (Γ:Cx):PV->Value->Prop
 | .un,_=>True
 | .st w l,v=>∃cs:List Value,v= .agg cs.toArray∧aC Γ [.st w l] cs
 | .ar sz n l,v=>∃cs:List Value,v= .agg cs.toArray∧aC Γ [.ar sz n l] cs
 |p,v=>aC Γ [p] [v]
def jU (Γ:Cx):List PV->List Value->Prop
 |[],[]=>True
 |p::ps,v::vs=>iK Γ p v∧jU Γ ps vs
 |_,_=>False
def aN (Γ:Cx):PV->Value->Prop
 | .gd b p,v=>(b=true->aN Γ p v)∧(b=false->v=undef)
 | .tup l,v=>∃vs:List Value,v= .tuple vs.toArray∧jU Γ l vs
 | .un,_=>True
 | .st w l,v=>∃cs:List Value,v= .agg cs.toArray∧aC Γ [.st w l] cs
 | .ar sz n l,v=>∃cs:List Value,v= .agg cs.toArray∧aC Γ [.ar sz n l] cs
 |p,v=>aC Γ [p] [v]
mutual
def PV.beq:PV->PV->Bool
 | .bl x,.bl y=>x==y
 | .int _ x,.int _ y=>x==y
 | .str x,.str y=>x==y
 | .st _ l,.st _ m=>PV.oe l m
 | .ar _ _ l,.ar _ _ m=>PV.oe l m
 |_,_=>false
def PV.oe:List PV->List PV->Bool
 |[],[]=>true
 |x::l,y::m=>PV.beq x y&&PV.oe l m
 |_,_=>false
end
mutual
def qi:Sh->Nat
 | .st l=>rC l
 | .ar n e=>n*qi e
 |_=>1
def rC:List Sh->Nat
 |[]=>0
 |x::l=>qi x+rC l
end
mutual
def fits:Sh->PV->Bool
 | .b,.bl _=>true
 | .i k,.int k' _=>decide (k=k')
 | .s,.str _=>true
 | .st l,.st w m=>decide (w=rC l)&&iL l m
 | .ar n e,.ar sz k m=>decide (sz=qi e∧k=n∧m.length=n)&&kR e m
 |_,_=>false
def iL:List Sh->List PV->Bool
 |[],[]=>true
 |x::l,y::m=>fits x y&&iL l m
 |_,_=>false
def kR:Sh->List PV->Bool
 |_,[]=>true
 |e,y::m=>fits e y&&kR e m
end
mutual
def ab6:PV->List Value
 | .bl x=>[.bool x]
 | .int k n=>[.int k n]
 | .str l=>[.string ⟨l.toArray⟩]
 | .st _ l=>xi l
 | .ar _ _ l=>xi l
 | .fn f _ _=>[.func f #[] #[]]
 | .nf=>[.nilFunc]
 |_=>[]
def xi:List PV->List Value
 |[]=>[]
 |x::l=>ab6 x++xi l
end
def ajn:PV->Value
 | .bl x=> .bool x
 | .int k n=> .int k n
 | .str l=> .string ⟨l.toArray⟩
 | .st _ l=> .agg (xi l).toArray
 | .ar _ _ l=> .agg (xi l).toArray
 | .fn f _ _=> .func f #[] #[]
 | .nf=> .nilFunc
 |_=>undef
mutual
def plP:PV->Bool
 | .bl _=>true
 | .int _ _=>true
 | .str _=>true
 | .fn _ a b=>a.isEmpty&&b.isEmpty
 | .nf=>true
 | .st w l=>decide (w=au l)&&ajo l
 |_=>false
def ajo:List PV->Bool
 |[]=>true
 |x::l=>plP x&&ajo l
end
def ab7 (ks vs:Sh) (l:List (PV×PV)) (o:Option Obj):Prop:=
 ∃es clock,o=some (.map es clock)∧es.toList.map (λe=>(e.key,e.val))=l.map (λx=>(ajn x.1,ajn x.2))∧∀x∈l,fits ks x.1=true∧plP x.2=true
def aU.xe (Γ:Cx) (ob:Option Nat):aU->Prop
 | .box v=>∃b c e,ob=some b∧Γ.heap[b]? =some (.cells c e (0,0))∧aC Γ [v] c.toList
 |
  .arr sz l=>(∀x∈l,x.width=sz)∧0<sz∧match ob with
  |none=>True
  |some b=>∃c e cs rest,Γ.heap[b]? =some (.cells c e (0,0))∧c.toList=cs++rest∧aC Γ l cs∧∀v∈rest,ew v=true
 | .map b ks vs l=>ob=some b∧ab7 ks vs l Γ.heap[b]?
class cM where
 xj:Nat->Option (Array Value)
structure Mem [cM] (Γ:Cx):Prop where
 blk:∀k blk,get Γ.bx k=some blk->blk.xe Γ (Γ.ι k)
 inj:∀k k' b,(get Γ.bx k).isSome=true->(get Γ.bx k').isSome=true->Γ.ι k=some b->Γ.ι k'=some b->k=k'
 cI:∀b,Γ.cI b->b<Γ.heap.size
 apart:∀b,Γ.fM b->¬Γ.cI b
 xj:∀b cs,cM.xj b=some cs->¬Γ.fM b∧∃e x,Γ.heap[b]? =some (.cells cs e x)
structure fW [cM] (nt:Nat) (ds:List Deferred) (s:St) (Γ:Cx) (a:Act):Prop where
 bx:Γ.bx=s.bx
 size:a.tmps.size=nt
 defers:a.defers=ds
 env:∀k p,get s.env k=some p->aN Γ p (a.tmps.getD k undef)
 mem:Mem Γ
def BU (c:iO) (off len aD:Nat):Nat:=match c with
 | .full n=>if off+n≤aD∧len≤n then n else len
 |_=>len
def Fv (c:iO) (a:Nat) (e:Bool):iO:=match c with
 | .tip=> .tip
 | .clip=>if e=true then .clip else .any
 | .any=> .any
 | .full n=> .full (n-a)
inductive AX
 |t (n:Nat)
 |c (p:PV)
def vx (s:St):AX->PV
 | .t n=>(get s.env n).getD .un
 | .c p=>p
def vg (g:Bool) (s:St) (x:AX) (K:PV->Prop):Prop:=
 match vx s x with
 | .gd b p=>(g=true->b=true)∧K p
 |p=>K p
inductive ET
 |no|sh (x:Sh)|bl|ptr|fnc
inductive SK
 |str
 |sl (sz:Nat)
 |ar (n sz:Nat)
inductive AK
 |mv (x:AX)
 |pick (c a b:AX)
 |build (z:PV) (parts:List (Nat×AX))
 |load (agg:Bool) (w:Nat) (x:AX)
 |nilCheck (x:AX)
 |bin (op:BinOp) (eqs:ET) (x y:AX)
 |un (op:UnOp) (x:AX)
 |convI (k:IntKind) (x:AX)
 |convS (x:AX)
 |convB (x:AX)
 |convL (x:AX)
 |mkFunc (f:Fn) (first cap:List AX)
 |slice (k:SK) (x:AX) (lo hi mx:Option AX)
 |fieldA (i off:Nat) (x:AX)
 |field (i off:Nat) (agg:Bool) (w:Nat) (x:AX)
 |indexA (k:SK) (x i:AX)
 |index (agg:Bool) (n w:Nat) (x i:AX)
 |indexS (x i:AX)
 |extract (i:Nat) (x:AX)
 |len (x:AX)
 |lenS (x:AX)
 |cap (x:AX)
 |lenC (n:Nat)
 |mm (mx:Bool) (xs:List AX)
 |alloc (z:PV)
 |box (x:AX)
 |buildSlice (own:Bool) (sz:Nat) (z:PV) (n:Nat) (parts:List (Nat×AX))
 |makeSlice (sz bytes:Nat) (z:PV) (len cap:AX)
 |store (w:Nat) (a x:AX)
 |append (sz bytes:Nat) (str:Bool) (x y:AX)
 |appendZ (sz bytes:Nat) (z:PV) (x y:AX)
 |copy (sz:Nat) (x y:AX)
 |fill (sz:Nat) (z:PV) (x:AX)
 |call (f:AX) (args:List AX)
 |callq (f:AX) (args:List AX)
 |isNil (ng:Bool) (x:AX)
 |s2a (n sz:Nat) (x:AX)
 |mkMap (ks vs:Sh)
 |mapGet (ks vs:Sh) (z:PV) (ok:Bool) (m x:AX)
 |mapSet (ks vs:Sh) (m x y:AX)
def qj (op:BinOp) (k:IntKind) (a b:Int) (K:PV->Prop):Prop:=
 match op with
 | .add=>K (.int k (k.wrap (a+b)))
 | .sub=>K (.int k (k.wrap (a-b)))
 | .mul=>K (.int k (k.wrap (a*b)))
 | .quo=>b≠0∧K (.int k (k.wrap (a.tdiv b)))
 | .rem=>b≠0∧K (.int k (a.tmod b))
 | .and=>K (.int k (bits .and k a b))
 | .or=>K (.int k (bits .or k a b))
 | .xor=>K (.int k (bits .xor k a b))
 | .andNot=>K (.int k (bits .andNot k a b))
 | .eql=>K (.bl (a==b))
 | .neq=>K (.bl (a !=b))
 | .lss=>K (.bl (decide (a<b)))
 | .leq=>K (.bl (decide (a≤b)))
 | .gtr=>K (.bl (decide (a>b)))
 | .geq=>K (.bl (decide (a≥b)))
 | .shl=>0≤b∧K (.int k (k.wrap (a*2^min b.toNat k.bits)))
 | .shr=>0≤b∧K (.int k (a.fdiv (2^min b.toNat k.bits)))
def yE (op:BinOp) (a b:List UInt8) (K:PV->Prop):Prop:=
 match op with
 | .add=>a.length+b.length≤9223372036854775807∧K (.str (a++b))
 | .eql=>K (.bl (a==b))
 | .neq=>K (.bl (!(a==b)))
 | .lss=>K (.bl (Op.bytesLess a b))
 | .leq=>K (.bl (Op.bytesLess a b||a==b))
 | .gtr=>K (.bl (!(Op.bytesLess a b||a==b)))
 | .geq=>K (.bl (!Op.bytesLess a b))
 |_=>False
def su (op:BinOp) (b:Bool) (K:PV->Prop):Prop:=
 match op with
 | .eql=>K (.bl b)
 | .neq=>K (.bl (!b))
 |_=>False
def qN (s:St) (op:BinOp) (eqs:ET) (p q:PV) (K:PV->Prop):Prop:=
 match eqs with
 |
  .no=>(match p,q with
  | .int k a,.int k' b=>(op= .shl∨op= .shr∨k=k')∧qj op k a b K
  | .str a,.str b=>yE op a b K
  |_,_=>False)
 |
  .bl=>(match p,q with
  | .bl a,.bl b=>su op (a==b) K
  |_,_=>False)
 |
  .ptr=>(match p,q with
  | .np,.np=>su op true K
  | .pt k _ aD,.np=>(match get s.bx k with|some blk=>aD=blk.aD∧su op false K|none=>False)
  | .fp _ _ _,.np=>su op false K
  |_,_=>False)
 |
  .fnc=>(match p,q with
  | .nf,.nf=>su op true K
  | .fn _ _ _,.nf=>su op false K
  |_,_=>False)
 | .sh x=>(fits x p=true∧fits x q=true)∧su op (PV.beq p q) K
def gH:List PV->Option (List UInt8)
 |[]=>some []
 | .int .u8 n::r=>if 0≤n∧n<256 then(match gH r with|some l=>some (UInt8.ofNat n.toNat::l)|none=>none)else none
 |_=>none
def content (s:St):PV->(Nat->List PV->Prop)->Prop
 | .sl sz l _,K=>K sz l
 |
  .rs k p off len aD sz _,K=>match get s.bx k with
  |some (.arr bu l)=>(aD=l.length∧p=[]∧sz=bu∧off+len≤l.length)∧K sz ((l.drop off).take len)
  |
   some (.box v)=>match aO v p with
   |some (.ar bu n l)=>(aD=0∧sz=bu∧off+len≤n)∧K sz ((l.drop off).take len)
   |_=>False
  |_=>False
 |_,_=>False
def mS (p:PV) (K:Int->Prop):Prop:=match p with| .int _ n=>K n|_=>False
def jX (g:Bool) (s:St) (lo hi:Option AX) (len cap:Nat) (K:Nat->Nat->Prop):Prop:=
 (match hi with|none=>λ(J:Nat->Prop)=>J len|some x=>λJ=>vg g s x λp=>mS p λh=>(0≤h∧h≤cap)∧J h.toNat) λh=>
 (match lo with|none=>λ(J:Nat->Prop)=>J 0|some x=>λJ=>vg g s x λp=>mS p λl=>(0≤l∧l≤h)∧J l.toNat) λl=>K l h
def wh (g:Bool) (s:St):List AX->(List PV->Prop)->Prop
 |[],K=>K []
 |x::r,K=>vg g s x λp=>wh g s r λps=>K (p::ps)
def PV.aV:PV->Bool
 | .un| .tup _| .gd _ _=>false
 |_=>true
def cD:List PV->List (Nat×PV)->Option (List PV)
 |l,[]=>some l
 |
  l,(i,p)::r=>match l[i]?with
  |some q=>if p.width=q.width∧p.aV=true then cD (l.set i p) r else none
  |none=>none
def Bf (g:Bool) (s:St):List (Nat×AX)->(List (Nat×PV)->Prop)->Prop
 |[],K=>K []
 |(i,x)::r,K=>vg g s x λp=>Bf g s r λps=>K ((i,p)::ps)
def lX (mx:Bool):Int->List PV->(Int->Prop)->Prop
 |a,[],K=>K a
 |a,p::r,K=>mS p λb=>lX mx (if mx then max a b else min a b) r K
def ev (g:Bool) (s:St):AK->(PV->Prop)->Prop
 | .mv x,K=>vg g s x K
 |
  .pick c a b,K=>vg g s c λpc=>match pc with
  |
   .bl x=>(match vx s a,vx s b with
   | .bl ya,.bl yb=>K (.bl (bif x then ya else yb))
   | .bl ya,.gd gb (.bl yb)=>(x=false->gb=true)∧K (.bl (bif x then ya else yb))
   | .gd ga (.bl ya),.bl yb=>(x=true->ga=true)∧K (.bl (bif x then ya else yb))
   | .gd ga (.bl ya),.gd gb (.bl yb)=>((x=true->ga=true)∧(x=false->gb=true))∧K (.bl (bif x then ya else yb))
   | .bl ya,.un=>x=true∧K (.bl ya)
   | .un,.bl yb=>x=false∧K (.bl yb)
   |_,_=>False)
  |_=>False
 |
  .build z parts,K=>Bf g s parts λps=>(match z with
  | .st w l=>match cD l ps with|some l'=>K (.st w l')|none=>False
  | .ar sz n l=>match cD l ps with|some l'=>K (.ar sz n l')|none=>False
  |_=>False)
 |
  .load agg w x,K=>vg g s x λp=>match p with
  |
   .pt k p aD=>(match get s.bx k with
   |some blk=>(match lW blk p with|some u=>(aD=blk.aD∧u.width=w∧u.isAgg=agg)∧K u|none=>False)
   |none=>False)
  | .fp sz l p=>(match lW (.arr sz l) p with|some u=>(u.width=w∧u.isAgg=agg)∧K u|none=>False)
  |_=>False
 |
  .nilCheck x,K=>vg g s x λp=>match p with
  | .pt k p aD=>(match get s.bx k with|some blk=>aD=blk.aD∧K (.pt k p aD)|none=>False)
  | .fp sz l p=>K (.fp sz l p)
  | .fn (.func f) a b=>K (.fn (.func f) a b)
  |_=>False
 | .bin op eqs x y,K=>vg g s x λp=>vg g s y λq=>qN s op eqs p q K
 |
  .un op x,K=>vg g s x λp=>match op,p with
  | .not,.bl b=>K (.bl (!b))
  | .neg,.int k n=>K (.int k (k.wrap (0-n)))
  | .xor,.int k n=>K (.int k (bits .xor k (if k.signed then-1 else k.max) n))
  |_,_=>False
 | .convI k x,K=>vg g s x λp=>mS p λn=>K (.int k (k.wrap n))
 | .convS x,K=>vg g s x λp=>content s p λsz l=>sz=1∧(match gH l with|some bs=>K (.str bs)|none=>False)
 | .mkFunc f first cap,K=>wh g s first λps=>wh g s cap λqs=>(ps.all (λp=> !p.isAgg&&p.aV)=true∧qs.all (λp=> !p.isAgg&&p.aV)=true)∧K (.fn f ps qs)
 |
  .slice .str x lo hi mx,K=>vg g s x λp=>match p with
  | .str bs=>mx.isNone=true∧jX g s lo hi bs.length bs.length λl h=>K (.str ((bs.take h).drop l))
  |_=>False
 |
  .slice (.sl sz) x lo hi mx,K=>vg g s x λp=>match p with
  |
   .sl bu l clip=>(match mx with
   |none=>jX g s lo hi l.length l.length λa b=>(bu=sz)∧K (.sl sz ((l.take b).drop a) (clip&&decide (b=l.length)))
   |some m=>vg g s m λq=>mS q λm=>(0≤m∧m≤l.length)∧jX g s lo hi l.length m.toNat λa b=>(bu=sz)∧K (.sl sz ((l.take b).drop a) (decide (b=m.toNat))))
  |
   .rs k p off len aD bu c=>(match get s.bx k with
   |
    some blk=>(aD=blk.aD∧bu=sz)∧(match mx with
    |none=>jX g s lo hi len (BU c off len aD) λa b=>K (.rs k p (off+a) (b-a) aD sz (Fv c a (decide (b=len))))
    |some m=>vg g s m λq=>mS q λm=>(0≤m∧m≤len)∧jX g s lo hi len m.toNat λa b=>K (.rs k p (off+a) (b-a) aD sz (if b=m.toNat then .clip else .any)))
   |none=>False)
  |_=>False
 |
  .slice (.ar n sz) x lo hi mx,K=>vg g s x λp=>match p with
  |
   .pt k p aD=>(match get s.bx k with
   |some blk=>aD=blk.aD∧mx.isNone=true∧jX g s lo hi n n λa b=>K (.rs k p a (b-a) aD sz (if b=n then .clip else .any))
   |none=>False)
  |
   .fp z l q=>(match lW (.arr z l) q with
   |some (.ar z' n' l')=>(z'=sz∧n'=n∧mx.isNone=true)∧jX g s lo hi n n λa b=>K (.sl sz ((l'.take b).drop a) (decide (b=n)))
   |_=>False)
  |_=>False
 |
  .fieldA i off x,K=>vg g s x λp=>match p with
  | .pt k p aD=>(match get s.bx k with|some blk=>aD=blk.aD∧K (.pt k (p++[.f i off]) aD)|none=>False)
  | .fp sz l p=>K (.fp sz l (p++[.f i off]))
  |_=>False
 |
  .field i off agg w x,K=>vg g s x λp=>match p with
  | .st _ l=>(match l[i]?with|some c=>(au (l.take i)=off∧c.width=w∧c.isAgg=agg)∧K c|none=>False)
  |_=>False
 |
  .indexA (.sl sz) x i,K=>vg g s x λp=>vg g s i λq=>mS q λj=>(match p with
  | .sl bu l _=>(bu=sz∧0≤j∧j<l.length)∧K (.fp sz l [.i j.toNat sz])
  |
   .rs k p off len aD bu _=>(match get s.bx k with
   |some blk=>(aD=blk.aD∧bu=sz∧0≤j∧j<len)∧K (.pt k (p++[.i (off+j.toNat) sz]) aD)
   |none=>False)
  |_=>False)
 |
  .indexA (.ar n sz) x i,K=>vg g s x λp=>vg g s i λq=>mS q λj=>(0≤j∧j<n)∧(match p with
  | .pt k p aD=>(match get s.bx k with|some blk=>aD=blk.aD∧K (.pt k (p++[.i j.toNat sz]) aD)|none=>False)
  | .fp bu l p=>K (.fp bu l (p++[.i j.toNat sz]))
  |_=>False)
 | .indexA .str _ _,_=>False
 |
  .index agg n w x i,K=>vg g s x λp=>vg g s i λq=>mS q λj=>(match p with
  | .ar sz n' l=>(match l[j.toNat]?with|some c=>(0≤j∧j<n∧n'=n∧sz=w∧c.isAgg=agg)∧K c|none=>False)
  |_=>False)
 |
  .indexS x i,K=>vg g s x λp=>vg g s i λq=>mS q λj=>(match p with
  | .str bs=>(match bs[j.toNat]?with|some c=>0≤j∧K (.int .u8 c.toNat)|none=>False)
  |_=>False)
 |
  .extract i x,K=>match vx s x with
  | .tup l=>(match l[i]?with|some p=>K p|none=>False)
  |_=>False
 |
  .s2a n sz x,K=>vg g s x λp=>match p with
  | .sl bu l _=>(bu=sz∧0<n∧n≤l.length)∧K (.fp sz l [.w 0 n sz])
  | .rs k p off len aD bu _=>(match get s.bx k with|some blk=>(aD=blk.aD∧bu=sz∧0<n∧n≤len)∧K (.pt k (p++[.w off n sz]) aD)|none=>False)
  |_=>False
 |
  .len x,K=>vg g s x λp=>match p with
  | .sl _ l _=>K (.int .i64 l.length)
  | .rs k _ _ len aD _ _=>(match get s.bx k with|some blk=>aD=blk.aD∧K (.int .i64 len)|none=>False)
  |_=>False
 |
  .cap x,K=>vg g s x λp=>match p with
  | .rs k _ _ _ aD _ (.full n)=>(match get s.bx k with|some blk=>aD=blk.aD∧K (.int .i64 n)|none=>False)
  |_=>False
 |
  .lenS x,K=>vg g s x λp=>match p with
  | .str bs=>K (.int .i64 bs.length)
  |_=>False
 | .lenC n,K=>K (.int .i64 n)
 |
  .mm mx xs,K=>wh g s xs λps=>match ps with
  | .int k a::r=>lX mx a r λn=>K (.int k n)
  |_=>False
 |_,_=>False
end Go.Ab
namespace Go.Ab
variable [cM]
def trV:Value->Option PV
 | .bool b=>some (.bl b)
 | .int k n=>some (.int k n)
 | .string s=>some (.str s.data.toList)
 | .pointer none=>some .np
 | .slice none 0 0=>some (.sl 0 [] true)
 | .nilFunc=>some .nf
 | .nilIface=>some .ni
 | .map none=>some .un
 |_=>none
def eH:Operand->Option AX
 | .tmp t=>some (.t t)
 | .const v=>match trV v with|some p=>some (.c p)|none=>none
 | .func f=>some (.c (.fn (.func f) [] []))
 | .global _=>none
def sv:List Operand->Option (List AX)
 |[]=>some []
 |x::r=>match eH x,sv r with|some y,some l=>some (y::l)|_,_=>none
def DG:Option Operand->Option (Option AX)
 |none=>some none
 |some x=>match eH x with|some y=>some (some y)|none=>none
def oB:List (Nat×Operand)->Option (List (Nat×AX))
 |[]=>some []
 |(i,x)::r=>match eH x,oB r with|some y,some l=>some ((i,y)::l)|_,_=>none
def eK (P:Program) (t:TypeId):Option Nat:=match P.info? t with|some i=>some i.size|none=>none
def allM {α β:Type} (f:α->Option β):List α->Option (List β)
 |[]=>some []
 |x::r=>match f x,allM f r with|some y,some l=>some (y::l)|_,_=>none
def Fw (P:Program) (Z:Nat->PV->List PV):Nat->TypeId->Option PV
 |0,_=>none
 |
  n+1,t=>match P.underlying t with
  |some .bool=>some (.bl false)
  |some (.int k)=>some (.int k 0)
  |some .string=>some (.str [])
  |some (.pointer _)=>some .np
  |some (.slice e)=>some (.sl (P.cellsOf e) [] true)
  |some (.func ..)=>some .nf
  |some (.interface _)=>some .ni
  |
   some (.struct fs)=>match allM (λf=>Fw P Z n f.type) fs.toList with
   |some l=>some (.st (P.cellsOf t) l)
   |none=>none
  |
   some (.array k e)=>match Fw P Z n e with
   |some z=>some (.ar (P.cellsOf e) k (Z k z))
   |none=>none
  |_=>none
mutual
def AR:PV->List Value->Option (List Value)
 | .bl x,.bool y::r=>if x=y then some r else none
 | .int k n,.int k' m::r=>if k=k'∧n=m then some r else none
 | .str l,.string s::r=>if s.data.toList=l then some r else none
 | .np,.pointer none::r=>some r
 | .sl _ [] _,.slice none 0 0::r=>some r
 | .nf,.nilFunc::r=>some r
 | .ni,.nilIface::r=>some r
 | .st w l,vs=>match Ns l vs with|some r=>if vs.length=w+r.length then some r else none|none=>none
 | .ar sz n l,vs=>match Ns l vs with|some r=>if l.length=n∧l.all (λx=>decide (x.width=sz))=true then some r else none|none=>none
 |_,_=>none
def Ns:List PV->List Value->Option (List Value)
 |[],vs=>some vs
 |p::r,vs=>match AR p vs with|some ws=>Ns r ws|none=>none
end
def kq (P:Program) (t:TypeId):Option PV:=
 match Fw P List.replicate 20 t,P.info? t with
 |
  some z,some i=>match i.zero with
  |
   some v=>match AR z v.cells.toList with
   |
    some []=>if z.width=i.size then(match z.isAgg,v with
    |true,.agg _=>some z
    |true,_=>none
    |false,.agg _=>none
    |false,_=>some z)else none
   |_=>none
  |none=>none
 |_,_=>none
noncomputable def zeroOf (P:Program) (t:TypeId):Option PV:=
 match kq P t with|some _=>Fw P zr 20 t|none=>none
def Nt {P:Program} {t:TypeId} {z:PV} (h:zeroOf P t=some z):kq P t=some z:=by
 unfold zeroOf at h;split at h
 ·rename_i z' h0;rw[dh]at h;have h1:=h0;unfold kq at h1;split at h1
  ·rename_i z2 i hz hi;rw[h]at hz;cases hz;rw[h0];repeat' split at h1
   all_goals first|exact h1.symm|(simp at h1;done)
  ·simp at h1
 ·simp at h
def lD (P:Program) (t:TypeId):Option Bool:=
 match P.underlying t with
 |some (.struct _)|some (.array _ _)=>some true
 |some _=>some false
 |none=>none
def Nu:Nat->List PV->List (Nat×Nat)
 |_,[]=>[]
 |o,p::r=>(o,p.width)::Nu (o+p.width) r
def Sh.agg:Sh->Bool
 | .st _| .ar _ _=>true
 |_=>false
def Fx:Nat->List Sh->List Nat
 |_,[]=>[]
 |o,x::l=>o::Fx (o+qi x) l
def BV (P:Program):Nat->TypeId->Option Sh
 |0,_=>none
 |
  n+1,t=>match P.underlying t with
  |some .bool=>some .b
  |some (.int k)=>some (.i k)
  |some .string=>some .s
  |
   some (.struct fs)=>match allM (λf=>BV P n f.type) fs.toList with
   |some l=>if P.stoodInHeld t=false∧fs.toList.all (λf=>f.name != "_")=true∧fs.toList.map (·.offset)=Fx 0 l∧fs.toList.map (λf=>eK P f.type)=l.map (λx=>some (qi x))∧
     fs.toList.map (λf=>lD P f.type)=l.map (λx=>some x.agg)then some (.st l)else none
   |none=>none
  |
   some (.array k e)=>match BV P n e with
   |some x=>if eK P e=some (qi x)∧lD P e=some x.agg then some (.ar k x)else none
   |none=>none
  |_=>none
noncomputable def b8 (P:Program) (b:Builtin) (args:List Operand) (tys:List TypeId):Option AK:=
 match b,args,tys with
 |
  .len,[x],[t]=>match P.underlying t,eH x with
  |some .string,some y=>some (.lenS y)
  |some (.slice _),some y=>some (.len y)
  |some (.array n _),some _=>some (.lenC n)
  |some (.pointer a),some _=>match P.underlying a with|some (.array n _)=>some (.lenC n)|_=>none
  |_,_=>none
 |
  .cap,[x],[t]=>match P.underlying t,eH x with
  |some (.slice _),some y=>some (.cap y)
  |_,_=>none
 | .min,xs,_=>match sv xs with|some l=>some (.mm false l)|none=>none
 | .max,xs,_=>match sv xs with|some l=>some (.mm true l)|none=>none
 |
  .append,[x,y],[t,u]=>match P.underlying t,P.underlying u,eH x,eH y with
  |
   some (.slice e),some d,some x,some y=>match P.info? e with
   |
    some i=>match i.zero with
    |
     some z=>if z.cells.size=i.size∧0<i.size∧z.cells.toList.all ew=true then(match d with
     | .slice _=>some (.append i.size i.bytes false x y)
     | .string=>if i.size=1 then some (.append i.size i.bytes true x y)else none
     | .int _=>match zeroOf P e with|some zz=>some (.appendZ i.size i.bytes zz x y)|none=>none
     |_=>none)else none
    |none=>none
   |none=>none
  |_,_,_,_=>none
 |
  .clear,[x],[t]=>match P.underlying t,eH x with
  |some (.slice e),some x=>match eK P e,zeroOf P e with|some n,some z=>if 0<n then some (.fill n z x)else none|_,_=>none
  |_,_=>none
 |
  .copy,[x,y],[t,_]=>match P.underlying t,eH x,eH y with
  |some (.slice e),some x,some y=>match eK P e with|some n=>some (.copy n x y)|none=>none
  |_,_,_=>none
 |_,_,_=>none
noncomputable def kr (P:Program) (own:Bool):Op->Option AK
 | .move x| .assign x=>match eH x with|some y=>some (.mv y)|none=>none
 | .pick c a b=>match eH c,eH a,eH b with|some c,some a,some b=>some (.pick c a b)|_,_,_=>none
 | .alloc t=>match zeroOf P t with|some z=>some (.alloc z)|none=>none
 | .box _ x=>match eH x with|some y=>some (.box y)|none=>none
 |
  .build t parts=>match zeroOf P t,oB parts.toList,P.underlying t with
  |some (.st w l),some ps,some (.struct fs)=>if fs.toList.map (λf=>(f.offset,P.cellsOf f.type))=Nu 0 l∧fs.toList.all (λf=>(P.info? f.type).isSome)=true then some (.build (.st w l) ps)else none
  |some (.ar sz n l),some ps,some (.array _ e)=>if eK P e=some sz then some (.build (.ar sz n l) ps)else none
  |_,_,_=>none
 |
  .buildSlice t n parts=>match P.underlying t,oB parts.toList with
  |
   some (.slice e),some ps=>match zeroOf P e,eK P e with
   |some z,some sz=>if 0<sz∧n*sz≤2^24 then some (.buildSlice own sz z n ps)else none
   |_,_=>none
  |_,_=>none
 |
  .load t a=>match lD P t,eK P t,eH a with
  |some g,some n,some x=>if g=true∨n=1 then some (.load g n x)else none
  |_,_,_=>none
 | .store t a v=>match eK P t,eH a,eH v with|some n,some x,some y=>some (.store n x y)|_,_,_=>none
 | .makeInterface .. | .panic _=>some (.len (.c (.bl true)))
 | .nilCheck x=>match eH x with|some y=>some (.nilCheck y)|none=>none
 |
  .binOp op t x y _=>match eH x,eH y with
  |some p,some q=>if op= .eql∨op= .neq then(match P.underlying t with
    |some (.int _)|some .string=>some (.bin op .no p q)
    |some .bool=>some (.bin op .bl p q)
    |some (.pointer _)=>some (.bin op .ptr p q)
    |some (.func ..)=>some (.bin op .fnc p q)
    |some (.slice _)=>(match y with| .const (.slice none 0 0)=>some (.isNil (decide (op= .neq)) p)|_=>none)
    |some (.struct _)|some (.array _ _)=>if P.eqGuardType P.depth t=false then(match BV P 20 t with|some sh=>some (.bin op (.sh sh) p q)|none=>none)else none
    |_=>none)else some (.bin op .no p q)
  |_,_=>none
 | .unOp op _ x=>match eH x with|some y=>some (.un op y)|none=>none
 |
  .convert s d x=>match P.underlying s,P.underlying d,eH x with
  |some (.int _),some (.int k),some y=>some (.convI k y)
  |some (.slice e),some .string,some y=>(match P.underlying e with|some (.int .u8)=>some (.convS y)|_=>none)
  |some .string,some (.slice e),some y=>(match P.underlying e with|some (.int .u8)=>some (.convB y)|_=>none)
  |some (.slice _),some (.slice e),some y=>if s=d then(match P.underlying e with|some (.int .u8)=>some (.convL y)|_=>none)else none
  |_,_,_=>none
 | .makeFunc f a b=>match sv a.toList,sv b.toList with|some p,some q=>some (.mkFunc f p q)|_,_=>none
 |
  .makeSlice t l c=>match P.underlying t,eH l,eH c with
  |some (.slice e),some l,some c=>(match zeroOf P e,P.info? e with|some z,some i=>if 0<i.size then some (.makeSlice i.size i.bytes z l c)else none|_,_=>none)
  |_,_,_=>none
 |
  .slice t x lo hi mx=>match P.underlying t,eH x,DG lo,DG hi,DG mx with
  |some .string,some x,some lo,some hi,some mx=>some (.slice .str x lo hi mx)
  |some (.slice e),some x,some lo,some hi,some mx=>(match eK P e with|some n=>if mx.isSome=true->hi.isSome=true then some (.slice (.sl n) x lo hi mx)else none|none=>none)
  |some (.array n e),some x,some lo,some hi,some mx=>(match eK P e with|some sz=>some (.slice (.ar n sz) x lo hi mx)|none=>none)
  |_,_,_,_,_=>none
 |
  .fieldAddr t x f=>match P.underlying t,eH x with
  |
   some (.struct fs),some y=>(match fs[f]?with
   |some g=>(match eK P g.type with|some (_+1)=>some (.fieldA f g.offset y)|_=>none)
   |none=>none)
  |_,_=>none
 |
  .field t x f=>match P.underlying t,eH x with
  |
   some (.struct fs),some y=>(match fs[f]?with
   |some g=>(match lD P g.type,eK P g.type with|some a,some n=>if a=true∨n=1 then some (.field f g.offset a n y)else none|_,_=>none)
   |none=>none)
  |_,_=>none
 |
  .indexAddr t x i=>match P.underlying t,eH x,eH i with
  |some (.slice e),some x,some i=>(match eK P e with|some n=>some (.indexA (.sl n) x i)|none=>none)
  |some (.array k e),some x,some i=>(match eK P e with|some n=>some (.indexA (.ar k n) x i)|none=>none)
  |_,_,_=>none
 |
  .index t x i=>match P.underlying t,eH x,eH i with
  |some (.array k e),some x,some i=>(match lD P e,eK P e with|some a,some n=>if a=true∨n=1 then some (.index a k n x i)else none|_,_=>none)
  |some .string,some x,some i=>some (.indexS x i)
  |_,_,_=>none
 | .extract x i=>match eH x with|some y=>some (.extract i y)|none=>none
 | .call {callee:= .value f,args,..}=>match eH f,sv args.toList with|some g,some l=>some (.call g l)|_,_=>none
 | .call {callee:= .builtin b,args,argTypes}=>b8 P b args.toList argTypes.toList
 |
  .sliceToArrayPointer t x=>match P.underlying t,eH x with
  |some (.array n e),some y=>(match eK P e with|some sz=>some (.s2a n sz y)|none=>none)
  |_,_=>none
 |_=>none
abbrev WG:=List PV
abbrev Yx:=List Nat
abbrev Zy:=List Step
abbrev Zz:=List UInt8
abbrev UE:=List Value
abbrev WD:=List aU
abbrev WQ:=List Int
abbrev ZP:=List AX
abbrev ZB:=List AK
abbrev ZI:=List Operand
abbrev UD:=St->Prop
abbrev W7:=PV->Prop
end Go.Ab

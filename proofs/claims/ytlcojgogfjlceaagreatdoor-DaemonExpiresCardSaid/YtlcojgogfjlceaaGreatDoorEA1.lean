/- Values, places and operations of an abstract reading of a Go program. No condition. -/
import Derived.Orders
import Derived.Below
import Derived.Laws.Sem
import Derived.Laws.Entries
import Derived.Laws.StructEq
import Derived.Laws.Cells
set_option linter.all false
namespace Go.Ab
def sJ:= @Option.some.injEq
def aJ:= @Bool.and_eq_true
def gJ:= @List.getElem?_eq_getElem
def tJ:= @List.take_of_length_le
def fJ:= @Bool.false_eq_true
def cJ:= @List.mem_cons
def iJ:= @List.getElem?_eq_some_iff
def mJ:= @Option.map_eq_some_iff
def rJ:= @Result.andThen_ok
def uJ:= @Array.getElem?_setIfInBounds_self_of_lt
def bJ:= @Sem.run_bind
def lJ:= @List.length_take
def JaJ:= @List.length_append
def JaQ:= @Nat.le_refl
def JaX:= @List.length_map
def JaZ:= @List.mem_append
def JaV:= @List.getD_eq_getElem?_getD
def JaW:= @Option.isSome_iff_exists
def JbJ:= @List.getElem_mem
def JbQ:= @Array.getD_eq_getD_getElem?
def JbX:= @List.mem_of_mem_take
def JbZ:= @Array.length_toList
def JbV:= @List.length_drop
def JbW:= @Sem.run_pure
def JcJ:= @List.take_append_drop
def JcQ:= @List.length_cons
def JcX:= @List.take_length
def JcZ:= @List.take_succ_eq_append_getElem
def JcV:= @Nat.mul_le_mul_right
def JcW:= @List.length_replicate
def JdJ:= @List.mem_of_mem_drop
def JdQ:= @List.pairwise_append
def JdX:= @List.map_cons
def JdZ:= @Nat.mod_lt
def JdV:= @List.eq_nil_of_length_eq_zero
def JdW:= @Nat.min_eq_left
def JeJ:= @List.append_assoc
def JeQ:= @List.mem_of_getElem?
def JeX:= @List.all_eq_true
def JeZ:= @List.cons_append
def JeV:= @List.map_append
def JeW:= @Nat.le_trans
def JfJ:= @List.map_set
def JfQ:= @List.map_take
def JfX:= @List.filter_eq_self
def JfZ:= @List.length_filter_le
def JfV:= @Nat.lt_of_le_of_lt
def JfW:= @List.take_append_of_le_length
def JgJ:= @List.nodup_append
def JgQ:= @List.mem_filter
def JgX:= @List.mem_map
def JgZ:= @Nat.add_mul
def JgV:= @List.drop_of_length_le
def JgW:= @Int.fdiv_eq_ediv_of_nonneg
def JhJ:= @List.mem_or_eq_of_mem_set
def JhQ:= @List.append_nil
def JhX:= @Nat.zero_add
def JhZ:= @Bool.not_eq_true'
def JhV:= @List.rel_of_pairwise_cons
def JhW:= @Nat.mul_le_mul
def JiJ:= @Nat.mod_eq_of_lt
def JiQ:= @List.mem_range
def JiX:= @Nat.lt_of_lt_of_le
def JiZ:= @List.nodup_cons
def JiV:= @Bool.or_eq_true_iff
def JiW:= @List.drop_drop
def JjJ:= @Option.map_some
def JjQ:= @List.length_set
def JjX:= @List.pairwise_cons
def JjZ:= @Int.add_mul_emod_self_right
def JjV:= @Bool.true_and
def JjW:= @List.map_drop
def JkJ:= @List.ext_getElem?
def JkQ:= @List.length_pos_iff
def JkX:= @List.pairwise_iff_getElem
def JkZ:= @List.filter_filter
def JkV:= @List.filter_append
def JkW:= @List.mem_flatMap
def JlJ:= @Int.natCast_nonneg
def JlQ:= @List.nil_append
def JlX:= @Int.tmod_eq_emod_of_nonneg
def JlZ:= @Option.bind_some
def JlV:= @Int.natCast_ediv
def JlW:= @List.eq_of_mem_replicate
def JmJ:= @List.mem_iff_getElem
def JmQ:= @List.drop_append_of_le_length
def JmX:= @List.length_eq_zero_iff
def JmZ:= @List.filter_cons_of_pos
def JmV:= @Nat.mul_le_mul_left
def JmW:= @Array.toList_map
def JnJ:= @List.take_zero
def JnQ:= @List.ext_getElem
def JnX:= @Nat.add_zero
def JnZ:= @Nat.eq_zero_or_pos
def JnV:= @List.map_replicate
def JnW:= @UInt8.toNat_ofNat'
def JoJ:= @Option.map_none
def JoQ:= @Bool.or_eq_true
def JoX:= @List.set_getElem_self
def JoZ:= @UInt8.lt_iff_toNat_lt
def JoV:= @List.all_cons
def JoW:= @Nat.or_lt_two_pow
def JpJ:= @Bool.and_eq_true_iff
def JpQ:= @List.mem_take_iff_getElem
def JpX:= @List.set_eq_take_append_cons_drop
def JpZ:= @List.drop_zero
def JpV:= @List.filter_cons
def JpW:= @List.getElem_set
def JqJ:= @List.getElem_map
def JqQ:= @UInt32.toNat_ofNat'
def JqX:= @List.map_congr_left
def JqZ:= @Nat.add_sub_cancel_left
def JqV:= @Option.bind_eq_some_iff
def JqW:= @List.set_cons_zero
def JrJ:= @Int.natCast_mul
def JrQ:= @List.mem_replicate
def JrX:= @List.eq_nil_iff_forall_not_mem
def JrZ:= @List.map_singleton
def JrV:= @List.take_left'
def JrW:= @List.length_eq_one_iff
def JsJ:= @List.getElem_cons_drop
def JsQ:= @List.flatten_cons
def JsX:= @List.flatMap_cons
def JsZ:= @List.drop_take
def JsV:= @List.take_take
def JsW:= @List.set_append_right
def JtJ:= @Int.ofNat_tmod
def JtQ:= @Nat.mul_mod_left
def JtX:= @List.range_eq_range'
def JtZ:= @Nat.pow_le_pow_right
def JtV:= @BitVec.ofInt_natCast
def JtW:= @Nat.lt_irrefl
inductive ft|tip|clip|any|full (n:Nat)
 deriving DecidableEq,Inhabited
inductive Step|f (i off:Nat)|i (j sz:Nat)|w (off n sz:Nat)
 deriving DecidableEq,Inhabited
def bI:List Step->Nat
 |[]=>0
 | .f _ o::r=>o+bI r
 | .i j sz::r=>j*sz+bI r
 | .w o _ sz::r=>o*sz+bI r
theorem ma (a b:List Step):bI (a++b)=bI a+bI b:=by
 induction a with
 |nil=>simp[bI]
 |cons x a ih=>cases x<;>simp[bI,ih]<;>omega
inductive Sh
 |b|i (k:IntKind)|s|st (l:List Sh)|ar (n:Nat) (e:Sh)
inductive PV where
 |un
 |bl (x:Bool)
 |int (k:IntKind) (n:Int)
 |str (l:List UInt8)
 |st (w:Nat) (l:List PV)
 |ar (sz n:Nat) (l:List PV)
 |tup (l:List PV)
 |sl (sz:Nat) (l:List PV) (clip:Bool)
 |rs (k:Nat) (p:List Step) (off len aN sz:Nat) (c:ft)
 |np
 |pt (k:Nat) (p:List Step) (aN:Nat)
 |fp (sz:Nat) (l:List PV) (p:List Step)
 |fn (f:Fn) (first cap:List PV)
 |nf
 |gd (b:Bool) (v:PV)
 |ifc (t:TypeId) (v:PV)
 |ni
 |mp (k b:Nat)
 deriving Inhabited
structure ZrF where
 f:Nat->PV->List PV
 h:f=List.replicate
theorem Jg:Nonempty ZrF:=⟨⟨List.replicate,rfl⟩⟩
noncomputable def zr:Nat->PV->List PV:=(Classical.choice Jg).f
@[simp] theorem aov:(Classical.choice Jg).f=zr:=_root_.id rfl
theorem cm:zr=List.replicate:=(Classical.choice Jg).h
def PV.width:PV->Nat
 | .st w _=>w
 | .ar sz n _=>n*sz
 |_=>1
def PV.isAgg:PV->Bool
 | .st .. | .ar .. =>true
 |_=>false
def PV.isNum:PV->Bool
 | .int .. =>true
 |_=>false
inductive aU where
 |box (v:PV)
 |arr (sz:Nat) (l:List PV)
 |map (b:Nat) (ks vs:Sh) (l:List (PV×PV))
 deriving Inhabited
def aU.aN:aU->Nat
 | .box _=>0
 | .arr _ l=>l.length
 | .map .. =>0
def get {α:Type}:List (Nat×α)->Nat->Option α
 |[],_=>none
 |(k,v)::r,n=>if k=n then some v else get r n
def put {α:Type}:List (Nat×α)->Nat->α->List (Nat×α)
 |[],n,x=>[(n,x)]
 |(k,v)::r,n,x=>if k=n then(n,x)::r else if n<k then(n,x)::(k,v)::r else(k,v)::put r n x
theorem bG {α:Type} (l:List (Nat×α)) (n:Nat) (x:α):get (put l n x) n=some x:=by
 induction l with
 |nil=>simp[put,get]
 |
  cons p r ih=>
  obtain⟨k,v⟩:=p
  simp only[put]
  split
  ·simp[get]
  ·split
   ·simp[get]
   ·simp[get, *]
theorem bp {α:Type} (l:List (Nat×α)) (n m:Nat) (x:α) (h:n≠m):get (put l n x) m=get l m:=by
 induction l with
 |nil=>simp[put,get,h]
 |
  cons p r ih=>
  obtain⟨k,v⟩:=p
  simp only[put]
  split
  ·subst_vars;simp[get,h]
  ·split
   ·simp[get,h]
   ·simp[get,ih]
theorem eg {α:Type} (l:List (Nat×α)) (n m:Nat) (x:α):get (put l n x) m=if n=m then some x else get l m:=by
 by_cases h:n=m
 ·subst h;simp[bG]
 ·simp[bp _ _ _ _ h,h]
def cell (heap:Array Obj) (b o:Nat):Option Value:=
 match heap[b]?with
 |some (.cells c _ _)=>c[o]?
 |_=>none
def ew:Value->Bool
 | .agg _| .tuple _=>false
 |_=>true
structure Cx where
 heap:Array Obj
 ι:Nat->Option Nat
 bx:List (Nat×aU)
 b9:Nat->Prop
def Cx.gn (Γ:Cx) (b:Nat):Prop:=∃k blk,get Γ.bx k=some blk∧Γ.ι k=some b
def Cx.own (Γ:Cx) (b:Nat):Prop:=Γ.gn b∨Γ.b9 b
def pg:ft->Nat->Nat->Prop
 | .clip,len,aX=>aX=len
 | .full n,_,aX=>aX=n
 |_,_,_=>True
theorem pg.clip {c:ft} {len aX:Nat} (h:pg c len aX) (e:c= .clip):aX=len:=by subst e;exact h
def gX (Γ:Cx) (k:Nat) (p:List Step) (off len sz:Nat) (c:ft) (a:Option Addr) (aX:Nat):Prop:=
 match Γ.ι k with
 |none=>len=0∧aX=0∧pg c len aX
 |some b=>len≤aX∧(aX=0∨a=some ⟨b,bI p+off*sz,none⟩)∧pg c len aX∧
   (c= .tip->p=[]∧∃cs e,Γ.heap[b]? =some (.cells cs e (0,0))∧(off+aX)*sz=cs.size)
inductive aD (Γ:Cx):List PV->List Value->Prop
 |nil:aD Γ [] []
 |un {ps vs v}:ew v=true->aD Γ ps vs->aD Γ (.un::ps) (v::vs)
 |bl {ps vs} (x):aD Γ ps vs->aD Γ (.bl x::ps) (.bool x::vs)
 |int {ps vs} (k n):aD Γ ps vs->aD Γ (.int k n::ps) (.int k n::vs)
 |str {ps vs} (l:List UInt8) (s:ByteArray):s.data.toList=l->aD Γ ps vs->aD Γ (.str l::ps) (.string s::vs)
 |st {ps vs cs} (w l):aD Γ l cs->cs.length=w->aD Γ ps vs->aD Γ (.st w l::ps) (cs++vs)
 |ar {ps vs cs} (sz n l):aD Γ l cs->l.length=n->(∀x∈l,x.width=sz)->aD Γ ps vs->aD Γ (.ar sz n l::ps) (cs++vs)
 |sl {ps vs cs} (sz l clip a aX):aD Γ l cs->(∀x∈l,x.width=sz)->l.length≤aX->(clip=true->aX=l.length)->
   (l≠[]->∃b o,a=some ⟨b,o,none⟩∧b<Γ.heap.size∧¬Γ.own b∧∀i c,cs[i]? =some c->cell Γ.heap b (o+i)=some c)->
   aD Γ ps vs->aD Γ (.sl sz l clip::ps) (.slice a l.length aX::vs)
 |rs {ps vs} (k p off len aN sz c v blk):get Γ.bx k=some blk∧aN≤blk.aN->ew v=true->
   (aN=blk.aN->∃a aX,v= .slice a len aX∧gX Γ k p off len sz c a aX)->
   aD Γ ps vs->aD Γ (.rs k p off len aN sz c::ps) (v::vs)
 |np {ps vs}:aD Γ ps vs->aD Γ (.np::ps) (.pointer none::vs)
 |pt {ps vs} (k p aN v blk):get Γ.bx k=some blk∧aN≤blk.aN->ew v=true->
   (aN=blk.aN->∃b,Γ.ι k=some b∧v= .pointer (some ⟨b,bI p,none⟩))->aD Γ ps vs->aD Γ (.pt k p aN::ps) (v::vs)
 |fp {ps vs cs} (sz l p b o):aD Γ l cs->(∀x∈l,x.width=sz)->b<Γ.heap.size∧¬Γ.own b->(∀i c,cs[i]? =some c->cell Γ.heap b (o+i)=some c)->
   aD Γ ps vs->aD Γ (.fp sz l p::ps) (.pointer (some ⟨b,o+bI p,none⟩)::vs)
 |fn {ps vs fs cs} (f first cap):aD Γ first fs->aD Γ cap cs->(∀x∈first,x.isAgg=false)->(∀x∈cap,x.isAgg=false)->
   aD Γ ps vs->aD Γ (.fn f first cap::ps) (.func f fs.toArray cs.toArray::vs)
 |nf {ps vs}:aD Γ ps vs->aD Γ (.nf::ps) (.nilFunc::vs)
 |ifc {ps vs x} (t v):aD Γ [v] [x]->v.isAgg=false->aD Γ ps vs->aD Γ (.ifc t v::ps) (.iface t x::vs)
 |ni {ps vs}:aD Γ ps vs->aD Γ (.ni::ps) (.nilIface::vs)
 |mp {ps vs} (k b):aD Γ ps vs->aD Γ (.mp k b::ps) (.map (some b)::vs)
def aB:List PV->Nat
 |[]=>0
 |p::r=>p.width+aB r
theorem ri (a b:List PV):aB (a++b)=aB a+aB b:=by
 induction a with
 |nil=>simp[aB]
 |cons x a ih=>simp[aB,ih];omega
theorem bf {l:List PV} {sz:Nat} (h:∀x∈l,x.width=sz):aB l=l.length*sz:=by
 induction l with
 |nil=>simp[aB]
 |
  cons x l ih=>
  simp only[aB,JcQ]
  rw[h x (by simp),ih (λy hy=>h y (by simp[hy])),JgZ];omega
theorem aD.length {Γ:Cx} {ps:List PV} {vs:List Value} (h:aD Γ ps vs):vs.length=aB ps:=by
 induction h with
 |nil=>rfl
 |st w l hl hw hr ihl ih=>simp[aB,PV.width,ih,hw]
 |ar sz n l hl hn hs hr ihl ih=>simp[aB,PV.width,ih,ihl,bf hs,hn]
 |_=>rename_i ih;simp only[JcQ,aB,PV.width,ih];omega
theorem aD.one {Γ:Cx} {ps:List PV} {vs:List Value} (h:aD Γ ps vs):∀v∈vs,ew v=true:=by
 induction h with
 |nil=>simp
 |st w l hl hw hr ihl ih=>intro v hv;rcases JaZ.1 hv with h|h;exact ihl v h;exact ih v h
 |ar sz n l hl hn hs hr ihl ih=>intro v hv;rcases JaZ.1 hv with h|h;exact ihl v h;exact ih v h
 |
  _=>
  intro v hv
  rcases cJ.1 hv with h|h
  ·subst h;first|rfl|assumption
  ·first|(rename_i ih;exact ih v h)|simp_all
theorem aD.append {Γ:Cx} {ps qs:List PV} {vs us:List Value} (h:aD Γ ps vs) (h':aD Γ qs us):aD Γ (ps++qs) (vs++us):=by
 induction h with
 |nil=>exact h'
 |un h hr ih=>exact .un h ih
 |bl x hr ih=>exact .bl x ih
 |int k n hr ih=>exact .int k n ih
 |str l s h hr ih=>exact .str l s h ih
 |st w l hl hw hr ihl ih=>rw[JeJ];exact .st w l hl hw ih
 |ar sz n l hl hn hs hr ihl ih=>rw[JeJ];exact .ar sz n l hl hn hs ih
 |sl sz l clip a aX hl hw hc hk hb hr ihl ih=>exact .sl sz l clip a aX hl hw hc hk hb ih
 |rs k p off len aN sz c v blk hg h1 hv hr ih=>exact .rs k p off len aN sz c v blk hg h1 hv ih
 |np hr ih=>exact .np ih
 |pt k p aN v blk hg h1 hv hr ih=>exact .pt k p aN v blk hg h1 hv ih
 |fp sz l p b o hl hw hm hc hr ihl ih=>exact .fp sz l p b o hl hw hm hc ih
 |fn f first cap h1 h2 h3 h4 hr i1 i2 ih=>exact .fn f first cap h1 h2 h3 h4 ih
 |nf hr ih=>exact .nf ih
 |ifc t v h1 h2 hr i1 ih=>exact .ifc t v h1 h2 ih
 |ni hr ih=>exact .ni ih
 |mp k b hr ih=>exact .mp k b ih
theorem aD.lO {Γ:Cx} {p:PV} {ps:List PV} {us:List Value} (h:aD Γ (p::ps) us):∃cs vs,us=cs++vs∧aD Γ [p] cs∧aD Γ ps vs:=by
 cases h with
 |un h hr=>exact⟨[_],_,rfl,.un h .nil,hr⟩
 |bl x hr=>exact⟨[_],_,rfl,.bl x .nil,hr⟩
 |int k n hr=>exact⟨[_],_,rfl,.int k n .nil,hr⟩
 |str l s h hr=>exact⟨[_],_,rfl,.str l s h .nil,hr⟩
 | @st _ vs cs w l hl hw hr=>exact⟨cs,vs,rfl,by simpa using aD.st w l hl hw .nil,hr⟩
 | @ar _ vs cs sz n l hl hn hs hr=>exact⟨cs,vs,rfl,by simpa using aD.ar sz n l hl hn hs .nil,hr⟩
 |sl sz l clip a aX hl hw hc hk hb hr=>exact⟨[_],_,rfl,.sl sz l clip a aX hl hw hc hk hb .nil,hr⟩
 |rs k p off len aN sz c v blk hg h1 hv hr=>exact⟨[_],_,rfl,.rs k p off len aN sz c v blk hg h1 hv .nil,hr⟩
 |np hr=>exact⟨[_],_,rfl,.np .nil,hr⟩
 |pt k p aN v blk hg h1 hv hr=>exact⟨[_],_,rfl,.pt k p aN v blk hg h1 hv .nil,hr⟩
 |fp sz l p b o hl hw hm hc hr=>exact⟨[_],_,rfl,.fp sz l p b o hl hw hm hc .nil,hr⟩
 |fn f first cap h1 h2 h3 h4 hr=>exact⟨[_],_,rfl,.fn f first cap h1 h2 h3 h4 .nil,hr⟩
 |nf hr=>exact⟨[_],_,rfl,.nf .nil,hr⟩
 |ifc t v h1 h2 hr=>exact⟨[_],_,rfl,.ifc t v h1 h2 .nil,hr⟩
 |ni hr=>exact⟨[_],_,rfl,.ni .nil,hr⟩
 |mp k b hr=>exact⟨[_],_,rfl,.mp k b .nil,hr⟩
theorem aD.cons {Γ:Cx} {p:PV} {ps:List PV} {cs vs:List Value} (h:aD Γ [p] cs) (h':aD Γ ps vs):aD Γ (p::ps) (cs++vs):=h.append h'
theorem aD.split {Γ:Cx}:∀ {ps qs:List PV} {us:List Value},aD Γ (ps++qs) us->∃cs vs,us=cs++vs∧aD Γ ps cs∧aD Γ qs vs
 |[],_,us,h=>⟨[],us,rfl,.nil,h⟩
 |
  p::ps,qs,us,h=>by
  obtain⟨c1,v1,rfl,h1,h2⟩:=aD.lO (ps:=ps++qs) h
  obtain⟨c2,v2,rfl,h3,h4⟩:=aD.split h2
  exact⟨c1++c2,v2,by simp,h1.cons h3,h4⟩
theorem aD.fK {Γ:Cx} {p:PV} {cs:List Value} (h:aD Γ [p] cs):cs.length=p.width:=by
 have:=h.length;simpa[aB]using this
theorem aD.at {Γ:Cx} {l:List PV} {cs:List Value} (h:aD Γ l cs) {i:Nat} {p:PV} (hp:l[i]? =some p):
  aD Γ [p] ((cs.drop (aB (l.take i))).take p.width):=by
 obtain⟨hi,rfl⟩:=iJ.1 hp;have e:l=l.take i++l[i]::l.drop (i+1):=by simp
 rw[e]at h;obtain⟨c1,v1,rfl,h1,h2⟩:=h.split;obtain⟨c2,v2,rfl,h3,h4⟩:=h2.lO;have l1:=h1.length;have l2:=h3.fK;rw[JmQ (by omega),←l1];simp[←l2,h3]
theorem aD.set {Γ:Cx} {l:List PV} {cs us:List Value} (h:aD Γ l cs) {i:Nat} {p q:PV} (hp:l[i]? =some p) (hq:aD Γ [q] us) (hw:q.width=p.width):
  aD Γ (l.set i q) (cs.take (aB (l.take i))++us++cs.drop (aB (l.take i)+us.length)):=by
 obtain⟨hi,rfl⟩:=iJ.1 hp;have e:l=l.take i++l[i]::l.drop (i+1):=by simp
 have kQ:l.set i q=l.take i++q::l.drop (i+1):=by
  rw[JpX];simp[hi]
 rw[kQ];rw[e]at h;obtain⟨c1,v1,rfl,h1,h2⟩:=h.split;obtain⟨c2,v2,rfl,h3,h4⟩:=h2.lO;have l1:=h1.length;have l2:=h3.fK;have l3:=hq.fK;rw[←l1];have e1:(c1++(c2++v2)).take c1.length=c1:=by simp
 have e2:(c1++(c2++v2)).drop (c1.length+us.length)=v2:=by
  rw[←JiW];simp;rw[show us.length=c2.length by omega];simp
 rw[e1,e2,JeJ];exact h1.append (hq.append h4)
end Go.Ab
namespace Go.Ab
def aO:PV->List Step->Option PV
 |v,[]=>some v
 | .st _ l,.f i o::r=>if aB (l.take i)=o then(match l[i]?with|some c=>aO c r|none=>none)else none
 | .ar sz _ l,.i j s::r=>if s=sz then(match l[j]?with|some c=>aO c r|none=>none)else none
 | .ar sz _ l,.w o n s::r=>if s=sz∧o+n≤l.length then aO (.ar sz n ((l.drop o).take n)) r else none
 |_,_=>none
def bO:PV->List Step->PV->Option PV
 |v,[],x=>if x.width=v.width then some x else none
 | .st w l,.f i o::r,x=>if aB (l.take i)=o then(match l[i]?with|some c=>(match bO c r x with|some c'=>some (.st w (l.set i c'))|none=>none)|none=>none)else none
 | .ar sz n l,.i j s::r,x=>if s=sz then(match l[j]?with|some c=>(match bO c r x with|some c'=>some (.ar sz n (l.set j c'))|none=>none)|none=>none)else none
 |_,_,_=>none
def oK:aU->List Step->Option PV
 | .box v,p=>aO v p
 | .arr sz l,.i j s::r=>if s=sz then(match l[j]?with|some c=>aO c r|none=>none)else none
 | .arr sz l,.w o n s::r=>if s=sz∧o+n≤l.length then aO (.ar sz n ((l.drop o).take n)) r else none
 | .arr _ _,_=>none
 | .map ..,_=>none
def uv:aU->List Step->PV->Option aU
 | .box v,p,x=>match bO v p x with|some v'=>some (.box v')|none=>none
 | .arr sz l,.i j s::r,x=>if s=sz then(match l[j]?with|some c=>(match bO c r x with|some c'=>some (.arr sz (l.set j c'))|none=>none)|none=>none)else none
 | .arr _ _,_,_=>none
 | .map ..,_,_=>none
theorem fY {l:List PV} {sz j:Nat} (h:∀x∈l,x.width=sz) (hj:j≤l.length):aB (l.take j)=j*sz:=by
 rw[bf (λx hx=>h x (JbX hx))];rw[lJ,JdW hj]
theorem BW {l:List PV} {i:Nat} {p q:PV} (hp:l[i]? =some p) (hw:q.width=p.width):aB (l.set i q)=aB l:=by
 obtain⟨hi,rfl⟩:=iJ.1 hp;have e:l=l.take i++l[i]::l.drop (i+1):=by simp
 have kQ:l.set i q=l.take i++q::l.drop (i+1):=by
  rw[JpX];simp[hi]
 have:=congrArg aB e;rw[kQ,ri,aB,hw];rw[ri,aB]at this;omega
theorem yU {l:List PV} {i:Nat} {p:PV} (hp:l[i]? =some p):aB (l.take i)+p.width≤aB l:=by
 obtain⟨hi,rfl⟩:=iJ.1 hp;have e:l=l.take i++l[i]::l.drop (i+1):=by simp
 have:=congrArg aB e;rw[ri,aB]at this;omega
variable {Γ:Cx}
theorem aD.rj {w:Nat} {l:List PV} {us:List Value} (h:aD Γ [.st w l] us):aD Γ l us∧us.length=w:=by
 cases h with
 | @st _ vs cs w l hl hw hr=>cases hr;simp;exact⟨hl,hw⟩
theorem aD.nL {sz n:Nat} {l:List PV} {us:List Value} (h:aD Γ [.ar sz n l] us):aD Γ l us∧l.length=n∧∀x∈l,x.width=sz:=by
 cases h with
 | @ar _ vs cs sz n l hl hn hs hr=>cases hr;simp;exact⟨hl,hn,hs⟩
theorem aD.st1 {w:Nat} {l:List PV} {us:List Value} (h:aD Γ l us) (hw:us.length=w):aD Γ [.st w l] us:=by
 simpa using aD.st w l h hw .nil
theorem aD.Th {sz n:Nat} {l:List PV} {us:List Value} (h:aD Γ l us) (hn:l.length=n) (hw:∀x∈l,x.width=sz):aD Γ [.ar sz n l] us:=by
 simpa using aD.ar sz n l h hn hw .nil
theorem kY (cs:List Value) (o n p m:Nat) (h:p+m≤n):(((cs.drop o).take n).drop p).take m=(cs.drop (o+p)).take m:=by
 rw[JsZ,JsV,JdW (by omega),JiW]
theorem BX {l:List PV} {cs:List Value} (h:aD Γ l cs) {j:Nat} {c:PV} (hj:l[j]? =some c) {o m:Nat} {u:PV}
  (hu:o+m≤c.width) (hm:m=u.width) (hr:aD Γ [u] ((((cs.drop (aB (l.take j))).take c.width).drop o).take m)):
  aB (l.take j)+o+m≤cs.length∧aD Γ [u] ((cs.drop (aB (l.take j)+o)).take m):=by
 rw[kY _ _ _ _ _ hu]at hr;have h1:=yU hj;have h2:=h.length;exact⟨by omega,hr⟩
theorem aD.GZ {l:List PV} {cs:List Value} {sz o n:Nat} (h:aD Γ l cs) (hw:∀x∈l,x.width=sz) (hn:o+n≤l.length):
  aD Γ ((l.drop o).take n) ((cs.drop (o*sz)).take (n*sz))∧o*sz+n*sz≤cs.length:=by
 have hlen:=h.length;rw[bf hw]at hlen;have e:l=l.take o++((l.drop o).take n++(l.drop o).drop n):=by rw[JcJ,JcJ]
 rw[e]at h;obtain⟨c1,v1,rfl,h1,h2⟩:=h.split;obtain⟨c2,v2,rfl,h3,h4⟩:=h2.split;have l1:=h1.length;rw[fY hw (by omega)]at l1;have l2:=h3.length;rw[bf (λx hx=>hw x (JdJ (JbX hx)))]at l2;rw[lJ,JbV,JdW (by omega)]at l2;rw[←l1,←l2];refine⟨by simpa using h3,by simp⟩
theorem aD.arG {l:List PV} {cs:List Value} {sz n0 o n:Nat} (h:aD Γ [.ar sz n0 l] cs) (hn:o+n≤l.length):
  aD Γ [.ar sz n ((l.drop o).take n)] ((cs.drop (o*sz)).take (n*sz))∧o*sz+n*sz≤cs.length:=by
 obtain⟨h1,h2,h3⟩:=h.nL;obtain⟨h4,h5⟩:=h1.GZ h3 hn;refine⟨h4.Th (by rw[lJ,JbV,JdW (by omega)]) (λx hx=>h3 x (JdJ (JbX hx))),h5⟩
theorem r9:∀(p:List Step) {t u:PV} {cs:List Value},aD Γ [t] cs->aO t p=some u->
  bI p+u.width≤cs.length∧aD Γ [u] ((cs.drop (bI p)).take u.width):=by
 intro p;induction p with
 |
  nil=>
  intro t u cs h hg
  have:u=t:=by cases t<;>simp[aO]at hg<;>exact hg.symm
  subst this
  have hl:=h.fK
  simp only[bI,JpZ]
  rw[tJ (by omega)]
  exact⟨by omega,h⟩
 |
  cons s p ih=>
  intro t u cs h hg
  cases t<;>cases s<;>simp only[aO,reduceCtorEq]at hg
  ·rename_i w l i o
   split at hg
   ·rename_i hw
    split at hg
    ·rename_i c hc
     obtain⟨h1,h2⟩:=h.rj
     have h3:=h1.at hc
     obtain⟨h4,h5⟩:=ih h3 hg
     have h6:=h3.fK
     have:=BX h1 hc (by omega) rfl h5
     rw[hw]at this
     simpa[bI]using this
    ·exact absurd hg (by simp)
   ·exact absurd hg (by simp)
  ·rename_i sz n l j s
   split at hg
   ·rename_i hs
    subst hs
    split at hg
    ·rename_i c hc
     obtain⟨h1,hn,hw⟩:=h.nL
     have h3:=h1.at hc
     obtain⟨h4,h5⟩:=ih h3 hg
     have h6:=h3.fK
     have:=BX h1 hc (by omega) rfl h5
     have hj:=(iJ.1 hc).1
     rw[fY hw (by omega)]at this
     simpa[bI]using this
    ·exact absurd hg (by simp)
   ·exact absurd hg (by simp)
  ·rename_i sz n l o m s
   split at hg
   ·rename_i hs
    obtain⟨rfl,hs⟩:=hs
    obtain⟨h1,h2⟩:=h.arG hs
    obtain⟨h3,h4⟩:=ih h1 hg
    rw[lJ,JbV]at h3
    rw[kY _ _ _ _ _ (by omega)]at h4
    refine⟨by simp only[bI];omega,by simpa only[bI]using h4⟩
   ·exact absurd hg (by simp)
def bj (cs:List Value) (o:Nat) (us:List Value):List Value:=cs.take o++us++cs.drop (o+us.length)
theorem dI {cs us:List Value} {o:Nat} (h:o+us.length≤cs.length):(bj cs o us).length=cs.length:=by
 simp[bj];omega
theorem rk {cs us:List Value} {o m p:Nat} (h:o+m≤cs.length) (h':p+us.length≤m):
  bj cs o (bj ((cs.drop o).take m) p us)=bj cs (o+p) us:=by
 have hl:(bj ((cs.drop o).take m) p us).length=m:=by
  rw[dI]<;>simp<;>omega
 simp only[bj]at hl⊢;rw[hl];apply JkJ;intro i;simp only[List.getElem?_append,JaJ,lJ,JbV,List.getElem?_take,List.getElem?_drop];grind
theorem BY {l:List PV} {cs us:List Value} (h:aD Γ l cs) {j:Nat} {c c':PV} (hj:l[j]? =some c) {o:Nat}
  (hu:o+us.length≤c.width) (hw:c'.width=c.width) (hr:aD Γ [c'] (bj ((cs.drop (aB (l.take j))).take c.width) o us)):
  aB (l.take j)+o+us.length≤cs.length∧aD Γ (l.set j c') (bj cs (aB (l.take j)+o) us):=by
 have h1:=yU hj;have h2:=h.length;refine⟨by omega,?_⟩;have h3:=h.set hj hr hw;rw[←rk (m:=c.width) (by omega) hu];exact h3
theorem rl {l:List PV} {j sz:Nat} {c':PV} (h:∀x∈l,x.width=sz) (hc:c'.width=sz):∀x∈l.set j c',x.width=sz:=by
 intro x hx;rcases JhJ hx with h'|h'
 ·exact h x h'
 ·subst h';exact hc
theorem BZ {us:List Value} {x:PV} (hx:aD Γ [x] us):∀(p:List Step) {t t':PV} {cs:List Value},aD Γ [t] cs->bO t p x=some t'->
  bI p+us.length≤cs.length∧t'.width=t.width∧aD Γ [t'] (bj cs (bI p) us):=by
 have hxw:=hx.fK;intro p;induction p with
 |
  nil=>
  intro t t' cs h hg
  have hl:=h.fK
  have:x.width=t.width∧t'=x:=by
   cases t<;>simp only[bO]at hg<;>split at hg<;>simp_all
  obtain⟨h1,rfl⟩:=this
  refine⟨by simp[bI];omega,h1,?_⟩
  have e:bj cs 0 us=us:=by simp[bj];omega
  simpa[bI,e]using hx
 |
  cons s p ih=>
  intro t t' cs h hg
  cases t<;>cases s<;>simp only[bO,reduceCtorEq]at hg
  ·rename_i w l i o
   split at hg
   ·rename_i hw
    split at hg
    ·rename_i c hc
     split at hg
     ·rename_i c' GP
      simp only[sJ]at hg
      subst hg
      obtain⟨h1,h2⟩:=h.rj
      have h3:=h1.at hc
      obtain⟨h4,h5,h6⟩:=ih h3 GP
      have h7:=h3.fK
      have:=BY h1 hc (by omega) h5 h6
      rw[hw]at this
      refine⟨by simp[bI];omega,rfl,?_⟩
      simp only[bI]
      exact this.2.st1 (by rw[dI this.1];exact h2)
     ·exact absurd hg (by simp)
    ·exact absurd hg (by simp)
   ·exact absurd hg (by simp)
  ·rename_i sz n l j s
   split at hg
   ·rename_i hs
    subst hs
    split at hg
    ·rename_i c hc
     split at hg
     ·rename_i c' GP
      simp only[sJ]at hg
      subst hg
      obtain⟨h1,hn,hw⟩:=h.nL
      have h3:=h1.at hc
      obtain⟨h4,h5,h6⟩:=ih h3 GP
      have h7:=h3.fK
      have:=BY h1 hc (by omega) h5 h6
      have hj:=(iJ.1 hc).1
      rw[fY hw (by omega)]at this
      refine⟨by simp[bI];omega,rfl,?_⟩
      simp only[bI]
      exact this.2.Th (by simpa using hn) (rl hw (by rw[h5];exact hw c (JeQ hc)))
     ·exact absurd hg (by simp)
    ·exact absurd hg (by simp)
   ·exact absurd hg (by simp)
structure Le (Γ Γ':Cx):Prop where
 heap:∀b,b<Γ.heap.size->¬Γ.gn b->Γ'.heap[b]? =Γ.heap[b]?
 gn:∀b,b<Γ.heap.size->Γ'.gn b->Γ.gn b
 b9:Γ'.b9=Γ.b9
 size:Γ.heap.size≤Γ'.heap.size
 ref:∀k blk,get Γ.bx k=some blk->∃bq,get Γ'.bx k=some bq∧blk.aN≤bq.aN∧
  (bq.aN=blk.aN->Γ'.ι k=Γ.ι k∧∀b,Γ.ι k=some b->∀cs e,Γ.heap[b]? =some (.cells cs e (0,0))->∃DH,Γ'.heap[b]? =some (.cells DH e (0,0))∧DH.size=cs.size)
theorem Le.own {Γ Γ':Cx} (h:Le Γ Γ') (b:Nat) (hb:b<Γ.heap.size) (ho:Γ'.own b):Γ.own b:=by
 rcases ho with ho|ho
 ·exact .inl (h.gn b hb ho)
 ·rw[h.b9]at ho;exact .inr ho
theorem cell_of_heap {h h':Array Obj} {b o:Nat} (e:h'[b]? =h[b]?):cell h' b o=cell h b o:=by simp[cell,e]
theorem gX.mono {Γ Γ':Cx} {k off len sz:Nat} {p:List Step} {c:ft} {a:Option Addr} {aX:Nat} (h:gX Γ k p off len sz c a aX) (hι:Γ'.ι k=Γ.ι k)
  (hk:∀b,Γ.ι k=some b->∀cs e,Γ.heap[b]? =some (.cells cs e (0,0))->∃DH,Γ'.heap[b]? =some (.cells DH e (0,0))∧DH.size=cs.size):gX Γ' k p off len sz c a aX:=by
 unfold gX at*;rw[hι];cases hb:Γ.ι k with
 |none=>simpa[hb]using h
 |
  some b=>
  rw[hb]at h
  obtain⟨h1,h2,h3,h4⟩:=h
  refine⟨h1,h2,h3,λhc=> ?_⟩
  obtain⟨hp,cs,e,hh,hs⟩:=h4 hc
  obtain⟨DH,hh',Bk⟩:=hk b hb cs e hh
  exact⟨hp,DH,e,hh',by omega⟩
structure Ou (Γ Γ':Cx):Prop where
 cell:∀b o c,b<Γ.heap.size->¬Γ.own b->cell Γ.heap b o=some c->cell Γ'.heap b o=some c
 own:∀b,b<Γ.heap.size->Γ'.own b->Γ.own b
 size:Γ.heap.size≤Γ'.heap.size
 ref:∀k blk,get Γ.bx k=some blk->∃bq,get Γ'.bx k=some bq∧blk.aN≤bq.aN∧
  (bq.aN=blk.aN->Γ'.ι k=Γ.ι k∧∀b,Γ.ι k=some b->∀cs e,Γ.heap[b]? =some (.cells cs e (0,0))->∃DH,Γ'.heap[b]? =some (.cells DH e (0,0))∧DH.size=cs.size)
theorem Le.c {Γ Γ':Cx} (h:Le Γ Γ'):Ou Γ Γ' where
 cell b o c hb hn hc:=by rw[cell_of_heap (h.heap b hb λh=>hn (.inl h))];exact hc
 own:=h.own
 size:=h.size
 ref:=h.ref
theorem aD.pW {Γ Γ':Cx} (hle:Ou Γ Γ') {l:List PV} {cs:List Value} (h:aD Γ l cs):aD Γ' l cs:=by
 induction h with
 |nil=>exact .nil
 |un h hr ih=>exact .un h ih
 |bl x hr ih=>exact .bl x ih
 |int k n hr ih=>exact .int k n ih
 |str l s h hr ih=>exact .str l s h ih
 |st w l hl hw hr ihl ih=>exact .st w l ihl hw ih
 |ar sz n l hl hn hs hr ihl ih=>exact .ar sz n l ihl hn hs ih
 |
  sl sz l clip a aX hl hw hc hk hb hr ihl ih=>
  refine .sl sz l clip a aX ihl hw hc hk (λcS=> ?_) ih
  obtain⟨b,o,ha,dk,hm,nC⟩:=hb cS
  refine⟨b,o,ha,JiX dk hle.size,λvS=>hm (hle.own b dk vS),λi c hc=> ?_⟩
  exact hle.cell b _ c dk hm (nC i c hc)
 |
  rs k p off len aN sz c v blk hg h1 hv hr ih=>
  obtain⟨bq,lx,El,heq⟩:=hle.ref k blk hg.1
  refine .rs k p off len aN sz c v bq ⟨lx,JeW hg.2 El⟩ h1 (λht=> ?_) ih
  have e1:aN=blk.aN:=by have:=hg.2;omega
  obtain⟨a,aX,xw,nJ⟩:=hv e1
  obtain⟨h3,h4⟩:=heq (by omega)
  exact⟨a,aX,xw,nJ.mono h3 h4⟩
 |np hr ih=>exact .np ih
 |
  pt k p aN v blk hg h1 hv hr ih=>
  obtain⟨bq,lx,El,heq⟩:=hle.ref k blk hg.1
  refine .pt k p aN v bq ⟨lx,JeW hg.2 El⟩ h1 (λht=> ?_) ih
  have e1:aN=blk.aN:=by have:=hg.2;omega
  obtain⟨b,hb,xw⟩:=hv e1
  obtain⟨h3,h4⟩:=heq (by omega)
  exact⟨b,by rw[h3,hb],xw⟩
 |
  fp sz l p b o hl hw hm hc hr ihl ih=>
  refine .fp sz l p b o ihl hw ⟨JiX hm.1 hle.size,λvS=>hm.2 (hle.own b hm.1 vS)⟩ (λi c hi=> ?_) ih
  exact hle.cell b _ c hm.1 hm.2 (hc i c hi)
 |fn f first cap h1 h2 h3 h4 hr i1 i2 ih=>exact .fn f first cap i1 i2 h3 h4 ih
 |nf hr ih=>exact .nf ih
 |ifc t v h1 h2 hr i1 ih=>exact .ifc t v i1 h2 ih
 |ni hr ih=>exact .ni ih
 |mp k b hr ih=>exact .mp k b ih
theorem aD.mono {Γ Γ':Cx} (hle:Le Γ Γ') {l:List PV} {cs:List Value} (h:aD Γ l cs):aD Γ' l cs:=h.pW hle.c
theorem Le.refl (Γ:Cx):Le Γ Γ:=⟨λ_ _ _=>rfl,λ_ _ h=>h,rfl,JaQ _,λ_ blk h=>⟨blk,h,JaQ _,λ_=>⟨rfl,λ_ _ cs _ h=>⟨cs,h,rfl⟩⟩⟩⟩
theorem Le.trans {A B C:Cx} (h:Le A B) (k:Le B C):Le A C where
 heap b hb hm:=by rw[k.heap b (JiX hb h.size) (λvS=>hm (h.gn b hb vS)),h.heap b hb hm]
 gn b hb hm:=h.gn b hb (k.gn b (JiX hb h.size) hm)
 b9:=k.b9.trans h.b9
 size:=JeW h.size k.size
 ref i blk hi:=by
  obtain⟨b1,g1,l1,e1⟩:=h.ref i blk hi;obtain⟨b2,g2,l2,e2⟩:=k.ref i b1 g1;refine⟨b2,g2,JeW l1 l2,λht=> ?_⟩;obtain⟨i1,s1⟩:=e1 (by omega);obtain⟨i2,s2⟩:=e2 (by omega);refine⟨by rw[i2,i1],λb hb cs e hc=> ?_⟩;obtain⟨cs1,Bl,Em⟩:=s1 b hb cs e hc;obtain⟨cs2,yR,Bm⟩:=s2 b (by rw[i1,hb]) cs1 e Bl;exact⟨cs2,yR,by omega⟩
theorem Ou.trans {A B C:Cx} (h:Ou A B) (k:Ou B C):Ou A C where
 cell b o c hb hn hc:=k.cell b o c (JiX hb h.size) (λho=>hn (h.own b hb ho)) (h.cell b o c hb hn hc)
 own b hb ho:=h.own b hb (k.own b (JiX hb h.size) ho)
 size:=JeW h.size k.size
 ref i blk hi:=by
  obtain⟨b1,g1,l1,e1⟩:=h.ref i blk hi;obtain⟨b2,g2,l2,e2⟩:=k.ref i b1 g1;refine⟨b2,g2,JeW l1 l2,λht=> ?_⟩;obtain⟨i1,s1⟩:=e1 (by omega);obtain⟨i2,s2⟩:=e2 (by omega);refine⟨by rw[i2,i1],λb hb cs e hc=> ?_⟩;obtain⟨cs1,Bl,Em⟩:=s1 b hb cs e hc;obtain⟨cs2,yR,Bm⟩:=s2 b (by rw[i1,hb]) cs1 e Bl;exact⟨cs2,yR,by omega⟩
end Go.Ab
namespace Go.Ab
structure St where
 env:List (Nat×PV)
 bx:List (Nat×aU)
def gI (Γ:Cx):PV->Value->Prop
 | .un,_=>True
 | .st w l,v=>∃cs:List Value,v= .agg cs.toArray∧aD Γ [.st w l] cs
 | .ar sz n l,v=>∃cs:List Value,v= .agg cs.toArray∧aD Γ [.ar sz n l] cs
 |p,v=>aD Γ [p] [v]
def kI (Γ:Cx):List PV->List Value->Prop
 |[],[]=>True
 |p::ps,v::vs=>gI Γ p v∧kI Γ ps vs
 |_,_=>False
def aK (Γ:Cx):PV->Value->Prop
 | .gd b p,v=>(b=true->aK Γ p v)∧(b=false->v=undef)
 | .tup l,v=>∃vs:List Value,v= .tuple vs.toArray∧kI Γ l vs
 | .un,_=>True
 | .st w l,v=>∃cs:List Value,v= .agg cs.toArray∧aD Γ [.st w l] cs
 | .ar sz n l,v=>∃cs:List Value,v= .agg cs.toArray∧aD Γ [.ar sz n l] cs
 |p,v=>aD Γ [p] [v]
mutual
def PV.beq:PV->PV->Bool
 | .bl x,.bl y=>x==y
 | .int _ x,.int _ y=>x==y
 | .str x,.str y=>x==y
 | .st _ l,.st _ m=>PV.lC l m
 | .ar _ _ l,.ar _ _ m=>PV.lC l m
 |_,_=>false
def PV.lC:List PV->List PV->Bool
 |[],[]=>true
 |x::l,y::m=>PV.beq x y&&PV.lC l m
 |_,_=>false
end
mutual
def tL:Sh->Nat
 | .st l=>vT l
 | .ar n e=>n*tL e
 |_=>1
def vT:List Sh->Nat
 |[]=>0
 |x::l=>tL x+vT l
end
mutual
def fits:Sh->PV->Bool
 | .b,.bl _=>true
 | .i k,.int k' _=>decide (k=k')
 | .s,.str _=>true
 | .st l,.st w m=>decide (w=vT l)&&dR l m
 | .ar n e,.ar sz k m=>decide (sz=tL e∧k=n∧m.length=n)&&jr e m
 |_,_=>false
def dR:List Sh->List PV->Bool
 |[],[]=>true
 |x::l,y::m=>fits x y&&dR l m
 |_,_=>false
def jr:Sh->List PV->Bool
 |_,[]=>true
 |e,y::m=>fits e y&&jr e m
end
mutual
def bX:PV->List Value
 | .bl x=>[.bool x]
 | .int k n=>[.int k n]
 | .str l=>[.string ⟨l.toArray⟩]
 | .st _ l=>fu l
 | .ar _ _ l=>fu l
 | .fn f _ _=>[.func f #[] #[]]
 | .nf=>[.nilFunc]
 |_=>[]
def fu:List PV->List Value
 |[]=>[]
 |x::l=>bX x++fu l
end
def cI:PV->Value
 | .bl x=> .bool x
 | .int k n=> .int k n
 | .str l=> .string ⟨l.toArray⟩
 | .st _ l=> .agg (fu l).toArray
 | .ar _ _ l=> .agg (fu l).toArray
 | .fn f _ _=> .func f #[] #[]
 | .nf=> .nilFunc
 |_=>undef
mutual
def oL:PV->Bool
 | .bl _=>true
 | .int _ _=>true
 | .str _=>true
 | .fn _ a b=>a.isEmpty&&b.isEmpty
 | .nf=>true
 | .st w l=>decide (w=aB l)&&Mm l
 |_=>false
def Mm:List PV->Bool
 |[]=>true
 |x::l=>oL x&&Mm l
end
def aag (ks vs:Sh) (l:List (PV×PV)) (o:Option Obj):Prop:=
 ∃es clock,o=some (.map es clock)∧es.toList.map (λe=>(e.key,e.val))=l.map (λx=>(cI x.1,cI x.2))∧∀x∈l,fits ks x.1=true∧oL x.2=true
def aU.xz (Γ:Cx) (ob:Option Nat):aU->Prop
 | .box v=>∃b c e,ob=some b∧Γ.heap[b]? =some (.cells c e (0,0))∧aD Γ [v] c.toList
 |
  .arr sz l=>(∀x∈l,x.width=sz)∧0<sz∧match ob with
  |none=>True
  |some b=>∃c e cs rest,Γ.heap[b]? =some (.cells c e (0,0))∧c.toList=cs++rest∧aD Γ l cs∧∀v∈rest,ew v=true
 | .map b ks vs l=>ob=some b∧aag ks vs l Γ.heap[b]?
class cK where
 xA:Nat->Option (Array Value)
structure Mem [cK] (Γ:Cx):Prop where
 blk:∀k blk,get Γ.bx k=some blk->blk.xz Γ (Γ.ι k)
 inj:∀k k' b,(get Γ.bx k).isSome=true->(get Γ.bx k').isSome=true->Γ.ι k=some b->Γ.ι k'=some b->k=k'
 b9:∀b,Γ.b9 b->b<Γ.heap.size
 apart:∀b,Γ.gn b->¬Γ.b9 b
 xA:∀b cs,cK.xA b=some cs->¬Γ.gn b∧∃e x,Γ.heap[b]? =some (.cells cs e x)
structure fX [cK] (nt:Nat) (ds:List Deferred) (s:St) (Γ:Cx) (a:Act):Prop where
 bx:Γ.bx=s.bx
 size:a.tmps.size=nt
 defers:a.defers=ds
 env:∀k p,get s.env k=some p->aK Γ p (a.tmps.getD k undef)
 mem:Mem Γ
def DX (c:ft) (off len aN:Nat):Nat:=match c with
 | .full n=>if off+n≤aN∧len≤n then n else len
 |_=>len
def Fs (c:ft) (a:Nat) (e:Bool):ft:=match c with
 | .tip=> .tip
 | .clip=>if e=true then .clip else .any
 | .any=> .any
 | .full n=> .full (n-a)
inductive AX
 |t (n:Nat)
 |c (p:PV)
def vx (s:St):AX->PV
 | .t n=>(get s.env n).getD .un
 | .c p=>p
def vg (g:Bool) (s:St) (x:AX) (K:PV->Prop):Prop:=
 match vx s x with
 | .gd b p=>(g=true->b=true)∧K p
 |p=>K p
inductive ET
 |no|sh (x:Sh)|bl|ptr|fnc
inductive SK
 |str
 |sl (sz:Nat)
 |ar (n sz:Nat)
inductive AK
 |mv (x:AX)
 |pick (c a b:AX)
 |build (z:PV) (parts:List (Nat×AX))
 |load (agg:Bool) (w:Nat) (x:AX)
 |nilCheck (x:AX)
 |bin (op:BinOp) (eqs:ET) (x y:AX)
 |un (op:UnOp) (x:AX)
 |convI (k:IntKind) (x:AX)
 |convS (x:AX)
 |convB (x:AX)
 |convL (x:AX)
 |mkFunc (f:Fn) (first cap:List AX)
 |slice (k:SK) (x:AX) (lo hi mx:Option AX)
 |fieldA (i off:Nat) (x:AX)
 |field (i off:Nat) (agg:Bool) (w:Nat) (x:AX)
 |indexA (k:SK) (x i:AX)
 |index (agg:Bool) (n w:Nat) (x i:AX)
 |indexS (x i:AX)
 |extract (i:Nat) (x:AX)
 |len (x:AX)
 |lenS (x:AX)
 |cap (x:AX)
 |lenC (n:Nat)
 |mm (mx:Bool) (xs:List AX)
 |alloc (z:PV)
 |box (x:AX)
 |buildSlice (own:Bool) (sz:Nat) (z:PV) (n:Nat) (parts:List (Nat×AX))
 |makeSlice (sz bytes:Nat) (z:PV) (len cap:AX)
 |store (w:Nat) (a x:AX)
 |append (sz bytes:Nat) (str:Bool) (x y:AX)
 |appendZ (sz bytes:Nat) (z:PV) (x y:AX)
 |copy (sz:Nat) (x y:AX)
 |fill (sz:Nat) (z:PV) (x:AX)
 |call (f:AX) (args:List AX)
 |callq (f:AX) (args:List AX)
 |isNil (ng:Bool) (x:AX)
 |s2a (n sz:Nat) (x:AX)
 |mkMap (ks vs:Sh)
 |mapGet (ks vs:Sh) (z:PV) (ok:Bool) (m x:AX)
 |mapSet (ks vs:Sh) (m x y:AX)
def qI (op:BinOp) (k:IntKind) (a b:Int) (K:PV->Prop):Prop:=
 match op with
 | .add=>K (.int k (k.wrap (a+b)))
 | .sub=>K (.int k (k.wrap (a-b)))
 | .mul=>K (.int k (k.wrap (a*b)))
 | .quo=>b≠0∧K (.int k (k.wrap (a.tdiv b)))
 | .rem=>b≠0∧K (.int k (a.tmod b))
 | .and=>K (.int k (bits .and k a b))
 | .or=>K (.int k (bits .or k a b))
 | .xor=>K (.int k (bits .xor k a b))
 | .andNot=>K (.int k (bits .andNot k a b))
 | .eql=>K (.bl (a==b))
 | .neq=>K (.bl (a !=b))
 | .lss=>K (.bl (decide (a<b)))
 | .leq=>K (.bl (decide (a≤b)))
 | .gtr=>K (.bl (decide (a>b)))
 | .geq=>K (.bl (decide (a≥b)))
 | .shl=>0≤b∧K (.int k (k.wrap (a*2^min b.toNat k.bits)))
 | .shr=>0≤b∧K (.int k (a.fdiv (2^min b.toNat k.bits)))
def B7 (op:BinOp) (a b:List UInt8) (K:PV->Prop):Prop:=
 match op with
 | .add=>a.length+b.length≤9223372036854775807∧K (.str (a++b))
 | .eql=>K (.bl (a==b))
 | .neq=>K (.bl (!(a==b)))
 | .lss=>K (.bl (Op.bytesLess a b))
 | .leq=>K (.bl (Op.bytesLess a b||a==b))
 | .gtr=>K (.bl (!(Op.bytesLess a b||a==b)))
 | .geq=>K (.bl (!Op.bytesLess a b))
 |_=>False
def pX (op:BinOp) (b:Bool) (K:PV->Prop):Prop:=
 match op with
 | .eql=>K (.bl b)
 | .neq=>K (.bl (!b))
 |_=>False
def sb (s:St) (op:BinOp) (eqs:ET) (p q:PV) (K:PV->Prop):Prop:=
 match eqs with
 |
  .no=>(match p,q with
  | .int k a,.int k' b=>(op= .shl∨op= .shr∨k=k')∧qI op k a b K
  | .str a,.str b=>B7 op a b K
  |_,_=>False)
 |
  .bl=>(match p,q with
  | .bl a,.bl b=>pX op (a==b) K
  |_,_=>False)
 |
  .ptr=>(match p,q with
  | .np,.np=>pX op true K
  | .pt k _ aN,.np=>(match get s.bx k with|some blk=>aN=blk.aN∧pX op false K|none=>False)
  | .fp _ _ _,.np=>pX op false K
  |_,_=>False)
 |
  .fnc=>(match p,q with
  | .nf,.nf=>pX op true K
  | .fn _ _ _,.nf=>pX op false K
  |_,_=>False)
 | .sh x=>(fits x p=true∧fits x q=true)∧pX op (PV.beq p q) K
def gG:List PV->Option (List UInt8)
 |[]=>some []
 | .int .u8 n::r=>if 0≤n∧n<256 then(match gG r with|some l=>some (UInt8.ofNat n.toNat::l)|none=>none)else none
 |_=>none
def content (s:St):PV->(Nat->List PV->Prop)->Prop
 | .sl sz l _,K=>K sz l
 |
  .rs k p off len aN sz _,K=>match get s.bx k with
  |some (.arr bN l)=>(aN=l.length∧p=[]∧sz=bN∧off+len≤l.length)∧K sz ((l.drop off).take len)
  |
   some (.box v)=>match aO v p with
   |some (.ar bN n l)=>(aN=0∧sz=bN∧off+len≤n)∧K sz ((l.drop off).take len)
   |_=>False
  |_=>False
 |_,_=>False
def pq (p:PV) (K:Int->Prop):Prop:=match p with| .int _ n=>K n|_=>False
def kJ (g:Bool) (s:St) (lo hi:Option AX) (len cap:Nat) (K:Nat->Nat->Prop):Prop:=
 (match hi with|none=>λ(J:Nat->Prop)=>J len|some x=>λJ=>vg g s x λp=>pq p λh=>(0≤h∧h≤cap)∧J h.toNat) λh=>
 (match lo with|none=>λ(J:Nat->Prop)=>J 0|some x=>λJ=>vg g s x λp=>pq p λl=>(0≤l∧l≤h)∧J l.toNat) λl=>K l h
def xq (g:Bool) (s:St):List AX->(List PV->Prop)->Prop
 |[],K=>K []
 |x::r,K=>vg g s x λp=>xq g s r λps=>K (p::ps)
def PV.aT:PV->Bool
 | .un| .tup _| .gd _ _=>false
 |_=>true
def cA:List PV->List (Nat×PV)->Option (List PV)
 |l,[]=>some l
 |
  l,(i,p)::r=>match l[i]?with
  |some q=>if p.width=q.width∧p.aT=true then cA (l.set i p) r else none
  |none=>none
def B8 (g:Bool) (s:St):List (Nat×AX)->(List (Nat×PV)->Prop)->Prop
 |[],K=>K []
 |(i,x)::r,K=>vg g s x λp=>B8 g s r λps=>K ((i,p)::ps)
def nH (mx:Bool):Int->List PV->(Int->Prop)->Prop
 |a,[],K=>K a
 |a,p::r,K=>pq p λb=>nH mx (if mx then max a b else min a b) r K
def ev (g:Bool) (s:St):AK->(PV->Prop)->Prop
 | .mv x,K=>vg g s x K
 |
  .pick c a b,K=>vg g s c λpc=>match pc with
  |
   .bl x=>(match vx s a,vx s b with
   | .bl ya,.bl yb=>K (.bl (bif x then ya else yb))
   | .bl ya,.gd gb (.bl yb)=>(x=false->gb=true)∧K (.bl (bif x then ya else yb))
   | .gd ga (.bl ya),.bl yb=>(x=true->ga=true)∧K (.bl (bif x then ya else yb))
   | .gd ga (.bl ya),.gd gb (.bl yb)=>((x=true->ga=true)∧(x=false->gb=true))∧K (.bl (bif x then ya else yb))
   | .bl ya,.un=>x=true∧K (.bl ya)
   | .un,.bl yb=>x=false∧K (.bl yb)
   |_,_=>False)
  |_=>False
 |
  .build z parts,K=>B8 g s parts λps=>(match z with
  | .st w l=>match cA l ps with|some l'=>K (.st w l')|none=>False
  | .ar sz n l=>match cA l ps with|some l'=>K (.ar sz n l')|none=>False
  |_=>False)
 |
  .load agg w x,K=>vg g s x λp=>match p with
  |
   .pt k p aN=>(match get s.bx k with
   |some blk=>(match oK blk p with|some u=>(aN=blk.aN∧u.width=w∧u.isAgg=agg)∧K u|none=>False)
   |none=>False)
  | .fp sz l p=>(match oK (.arr sz l) p with|some u=>(u.width=w∧u.isAgg=agg)∧K u|none=>False)
  |_=>False
 |
  .nilCheck x,K=>vg g s x λp=>match p with
  | .pt k p aN=>(match get s.bx k with|some blk=>aN=blk.aN∧K (.pt k p aN)|none=>False)
  | .fp sz l p=>K (.fp sz l p)
  | .fn (.func f) a b=>K (.fn (.func f) a b)
  |_=>False
 | .bin op eqs x y,K=>vg g s x λp=>vg g s y λq=>sb s op eqs p q K
 |
  .un op x,K=>vg g s x λp=>match op,p with
  | .not,.bl b=>K (.bl (!b))
  | .neg,.int k n=>K (.int k (k.wrap (0-n)))
  | .xor,.int k n=>K (.int k (bits .xor k (if k.signed then-1 else k.max) n))
  |_,_=>False
 | .convI k x,K=>vg g s x λp=>pq p λn=>K (.int k (k.wrap n))
 | .convS x,K=>vg g s x λp=>content s p λsz l=>sz=1∧(match gG l with|some bs=>K (.str bs)|none=>False)
 | .mkFunc f first cap,K=>xq g s first λps=>xq g s cap λqs=>(ps.all (λp=> !p.isAgg&&p.aT)=true∧qs.all (λp=> !p.isAgg&&p.aT)=true)∧K (.fn f ps qs)
 |
  .slice .str x lo hi mx,K=>vg g s x λp=>match p with
  | .str bs=>mx.isNone=true∧kJ g s lo hi bs.length bs.length λl h=>K (.str ((bs.take h).drop l))
  |_=>False
 |
  .slice (.sl sz) x lo hi mx,K=>vg g s x λp=>match p with
  |
   .sl bN l clip=>(match mx with
   |none=>kJ g s lo hi l.length l.length λa b=>(bN=sz)∧K (.sl sz ((l.take b).drop a) (clip&&decide (b=l.length)))
   |some m=>vg g s m λq=>pq q λm=>(0≤m∧m≤l.length)∧kJ g s lo hi l.length m.toNat λa b=>(bN=sz)∧K (.sl sz ((l.take b).drop a) (decide (b=m.toNat))))
  |
   .rs k p off len aN bN c=>(match get s.bx k with
   |
    some blk=>(aN=blk.aN∧bN=sz)∧(match mx with
    |none=>kJ g s lo hi len (DX c off len aN) λa b=>K (.rs k p (off+a) (b-a) aN sz (Fs c a (decide (b=len))))
    |some m=>vg g s m λq=>pq q λm=>(0≤m∧m≤len)∧kJ g s lo hi len m.toNat λa b=>K (.rs k p (off+a) (b-a) aN sz (if b=m.toNat then .clip else .any)))
   |none=>False)
  |_=>False
 |
  .slice (.ar n sz) x lo hi mx,K=>vg g s x λp=>match p with
  |
   .pt k p aN=>(match get s.bx k with
   |some blk=>aN=blk.aN∧mx.isNone=true∧kJ g s lo hi n n λa b=>K (.rs k p a (b-a) aN sz (if b=n then .clip else .any))
   |none=>False)
  |
   .fp z l q=>(match oK (.arr z l) q with
   |some (.ar z' n' l')=>(z'=sz∧n'=n∧mx.isNone=true)∧kJ g s lo hi n n λa b=>K (.sl sz ((l'.take b).drop a) (decide (b=n)))
   |_=>False)
  |_=>False
 |
  .fieldA i off x,K=>vg g s x λp=>match p with
  | .pt k p aN=>(match get s.bx k with|some blk=>aN=blk.aN∧K (.pt k (p++[.f i off]) aN)|none=>False)
  | .fp sz l p=>K (.fp sz l (p++[.f i off]))
  |_=>False
 |
  .field i off agg w x,K=>vg g s x λp=>match p with
  | .st _ l=>(match l[i]?with|some c=>(aB (l.take i)=off∧c.width=w∧c.isAgg=agg)∧K c|none=>False)
  |_=>False
 |
  .indexA (.sl sz) x i,K=>vg g s x λp=>vg g s i λq=>pq q λj=>(match p with
  | .sl bN l _=>(bN=sz∧0≤j∧j<l.length)∧K (.fp sz l [.i j.toNat sz])
  |
   .rs k p off len aN bN _=>(match get s.bx k with
   |some blk=>(aN=blk.aN∧bN=sz∧0≤j∧j<len)∧K (.pt k (p++[.i (off+j.toNat) sz]) aN)
   |none=>False)
  |_=>False)
 |
  .indexA (.ar n sz) x i,K=>vg g s x λp=>vg g s i λq=>pq q λj=>(0≤j∧j<n)∧(match p with
  | .pt k p aN=>(match get s.bx k with|some blk=>aN=blk.aN∧K (.pt k (p++[.i j.toNat sz]) aN)|none=>False)
  | .fp bN l p=>K (.fp bN l (p++[.i j.toNat sz]))
  |_=>False)
 | .indexA .str _ _,_=>False
 |
  .index agg n w x i,K=>vg g s x λp=>vg g s i λq=>pq q λj=>(match p with
  | .ar sz n' l=>(match l[j.toNat]?with|some c=>(0≤j∧j<n∧n'=n∧sz=w∧c.isAgg=agg)∧K c|none=>False)
  |_=>False)
 |
  .indexS x i,K=>vg g s x λp=>vg g s i λq=>pq q λj=>(match p with
  | .str bs=>(match bs[j.toNat]?with|some c=>0≤j∧K (.int .u8 c.toNat)|none=>False)
  |_=>False)
 |
  .extract i x,K=>match vx s x with
  | .tup l=>(match l[i]?with|some p=>K p|none=>False)
  |_=>False
 |
  .s2a n sz x,K=>vg g s x λp=>match p with
  | .sl bN l _=>(bN=sz∧0<n∧n≤l.length)∧K (.fp sz l [.w 0 n sz])
  | .rs k p off len aN bN _=>(match get s.bx k with|some blk=>(aN=blk.aN∧bN=sz∧0<n∧n≤len)∧K (.pt k (p++[.w off n sz]) aN)|none=>False)
  |_=>False
 |
  .len x,K=>vg g s x λp=>match p with
  | .sl _ l _=>K (.int .i64 l.length)
  | .rs k _ _ len aN _ _=>(match get s.bx k with|some blk=>aN=blk.aN∧K (.int .i64 len)|none=>False)
  |_=>False
 |
  .cap x,K=>vg g s x λp=>match p with
  | .rs k _ _ _ aN _ (.full n)=>(match get s.bx k with|some blk=>aN=blk.aN∧K (.int .i64 n)|none=>False)
  |_=>False
 |
  .lenS x,K=>vg g s x λp=>match p with
  | .str bs=>K (.int .i64 bs.length)
  |_=>False
 | .lenC n,K=>K (.int .i64 n)
 |
  .mm mx xs,K=>xq g s xs λps=>match ps with
  | .int k a::r=>nH mx a r λn=>K (.int k n)
  |_=>False
 |_,_=>False
end Go.Ab
namespace Go.Ab
variable [cK]
def trV:Value->Option PV
 | .bool b=>some (.bl b)
 | .int k n=>some (.int k n)
 | .string s=>some (.str s.data.toList)
 | .pointer none=>some .np
 | .slice none 0 0=>some (.sl 0 [] true)
 | .nilFunc=>some .nf
 | .nilIface=>some .ni
 | .map none=>some .un
 |_=>none
def gk:Operand->Option AX
 | .tmp t=>some (.t t)
 | .const v=>match trV v with|some p=>some (.c p)|none=>none
 | .func f=>some (.c (.fn (.func f) [] []))
 | .global _=>none
def xB:List Operand->Option (List AX)
 |[]=>some []
 |x::r=>match gk x,xB r with|some y,some l=>some (y::l)|_,_=>none
def Ft:Option Operand->Option (Option AX)
 |none=>some none
 |some x=>match gk x with|some y=>some (some y)|none=>none
def sR:List (Nat×Operand)->Option (List (Nat×AX))
 |[]=>some []
 |(i,x)::r=>match gk x,sR r with|some y,some l=>some ((i,y)::l)|_,_=>none
def gL (P:Program) (t:TypeId):Option Nat:=match P.info? t with|some i=>some i.size|none=>none
def allM {α β:Type} (f:α->Option β):List α->Option (List β)
 |[]=>some []
 |x::r=>match f x,allM f r with|some y,some l=>some (y::l)|_,_=>none
def Fu (P:Program) (Z:Nat->PV->List PV):Nat->TypeId->Option PV
 |0,_=>none
 |
  n+1,t=>match P.underlying t with
  |some .bool=>some (.bl false)
  |some (.int k)=>some (.int k 0)
  |some .string=>some (.str [])
  |some (.pointer _)=>some .np
  |some (.slice e)=>some (.sl (P.cellsOf e) [] true)
  |some (.func ..)=>some .nf
  |some (.interface _)=>some .ni
  |
   some (.struct fs)=>match allM (λf=>Fu P Z n f.type) fs.toList with
   |some l=>some (.st (P.cellsOf t) l)
   |none=>none
  |
   some (.array k e)=>match Fu P Z n e with
   |some z=>some (.ar (P.cellsOf e) k (Z k z))
   |none=>none
  |_=>none
mutual
def AY:PV->List Value->Option (List Value)
 | .bl x,.bool y::r=>if x=y then some r else none
 | .int k n,.int k' m::r=>if k=k'∧n=m then some r else none
 | .str l,.string s::r=>if s.data.toList=l then some r else none
 | .np,.pointer none::r=>some r
 | .sl _ [] _,.slice none 0 0::r=>some r
 | .nf,.nilFunc::r=>some r
 | .ni,.nilIface::r=>some r
 | .st w l,vs=>match Mn l vs with|some r=>if vs.length=w+r.length then some r else none|none=>none
 | .ar sz n l,vs=>match Mn l vs with|some r=>if l.length=n∧l.all (λx=>decide (x.width=sz))=true then some r else none|none=>none
 |_,_=>none
def Mn:List PV->List Value->Option (List Value)
 |[],vs=>some vs
 |p::r,vs=>match AY p vs with|some ws=>Mn r ws|none=>none
end
def Br (P:Program) (t:TypeId):Option PV:=
 match Fu P List.replicate 20 t,P.info? t with
 |
  some z,some i=>match i.zero with
  |
   some v=>match AY z v.cells.toList with
   |
    some []=>if z.width=i.size then(match z.isAgg,v with
    |true,.agg _=>some z
    |true,_=>none
    |false,.agg _=>none
    |false,_=>some z)else none
   |_=>none
  |none=>none
 |_,_=>none
noncomputable def zeroOf (P:Program) (t:TypeId):Option PV:=
 match Br P t with|some _=>Fu P zr 20 t|none=>none
theorem Mo {P:Program} {t:TypeId} {z:PV} (h:zeroOf P t=some z):Br P t=some z:=by
 unfold zeroOf at h;split at h
 ·rename_i z' h0;rw[cm]at h;have h1:=h0;unfold Br at h1;split at h1
  ·rename_i z2 i hz hi;rw[h]at hz;cases hz;rw[h0];repeat' split at h1
   all_goals first|exact h1.symm|(simp at h1;done)
  ·simp at h1
 ·simp at h
def lD (P:Program) (t:TypeId):Option Bool:=
 match P.underlying t with
 |some (.struct _)|some (.array _ _)=>some true
 |some _=>some false
 |none=>none
def Ov:Nat->List PV->List (Nat×Nat)
 |_,[]=>[]
 |o,p::r=>(o,p.width)::Ov (o+p.width) r
def Sh.agg:Sh->Bool
 | .st _| .ar _ _=>true
 |_=>false
def yV:Nat->List Sh->List Nat
 |_,[]=>[]
 |o,x::l=>o::yV (o+tL x) l
def rq (P:Program):Nat->TypeId->Option Sh
 |0,_=>none
 |
  n+1,t=>match P.underlying t with
  |some .bool=>some .b
  |some (.int k)=>some (.i k)
  |some .string=>some .s
  |
   some (.struct fs)=>match allM (λf=>rq P n f.type) fs.toList with
   |some l=>if P.stoodInHeld t=false∧fs.toList.all (λf=>f.name != "_")=true∧fs.toList.map (·.offset)=yV 0 l∧fs.toList.map (λf=>gL P f.type)=l.map (λx=>some (tL x))∧
     fs.toList.map (λf=>lD P f.type)=l.map (λx=>some x.agg)then some (.st l)else none
   |none=>none
  |
   some (.array k e)=>match rq P n e with
   |some x=>if gL P e=some (tL x)∧lD P e=some x.agg then some (.ar k x)else none
   |none=>none
  |_=>none
noncomputable def b7 (P:Program) (b:Builtin) (args:List Operand) (tys:List TypeId):Option AK:=
 match b,args,tys with
 |
  .len,[x],[t]=>match P.underlying t,gk x with
  |some .string,some y=>some (.lenS y)
  |some (.slice _),some y=>some (.len y)
  |some (.array n _),some _=>some (.lenC n)
  |some (.pointer a),some _=>match P.underlying a with|some (.array n _)=>some (.lenC n)|_=>none
  |_,_=>none
 |
  .cap,[x],[t]=>match P.underlying t,gk x with
  |some (.slice _),some y=>some (.cap y)
  |_,_=>none
 | .min,xs,_=>match xB xs with|some l=>some (.mm false l)|none=>none
 | .max,xs,_=>match xB xs with|some l=>some (.mm true l)|none=>none
 |
  .append,[x,y],[t,u]=>match P.underlying t,P.underlying u,gk x,gk y with
  |
   some (.slice e),some d,some x,some y=>match P.info? e with
   |
    some i=>match i.zero with
    |
     some z=>if z.cells.size=i.size∧0<i.size∧z.cells.toList.all ew=true then(match d with
     | .slice _=>some (.append i.size i.bytes false x y)
     | .string=>if i.size=1 then some (.append i.size i.bytes true x y)else none
     | .int _=>match zeroOf P e with|some zz=>some (.appendZ i.size i.bytes zz x y)|none=>none
     |_=>none)else none
    |none=>none
   |none=>none
  |_,_,_,_=>none
 |
  .clear,[x],[t]=>match P.underlying t,gk x with
  |some (.slice e),some x=>match gL P e,zeroOf P e with|some n,some z=>if 0<n then some (.fill n z x)else none|_,_=>none
  |_,_=>none
 |
  .copy,[x,y],[t,_]=>match P.underlying t,gk x,gk y with
  |some (.slice e),some x,some y=>match gL P e with|some n=>some (.copy n x y)|none=>none
  |_,_,_=>none
 |_,_,_=>none
noncomputable def jX (P:Program) (own:Bool):Op->Option AK
 | .move x| .assign x=>match gk x with|some y=>some (.mv y)|none=>none
 | .pick c a b=>match gk c,gk a,gk b with|some c,some a,some b=>some (.pick c a b)|_,_,_=>none
 | .alloc t=>match zeroOf P t with|some z=>some (.alloc z)|none=>none
 | .box _ x=>match gk x with|some y=>some (.box y)|none=>none
 |
  .build t parts=>match zeroOf P t,sR parts.toList,P.underlying t with
  |some (.st w l),some ps,some (.struct fs)=>if fs.toList.map (λf=>(f.offset,P.cellsOf f.type))=Ov 0 l∧fs.toList.all (λf=>(P.info? f.type).isSome)=true then some (.build (.st w l) ps)else none
  |some (.ar sz n l),some ps,some (.array _ e)=>if gL P e=some sz then some (.build (.ar sz n l) ps)else none
  |_,_,_=>none
 |
  .buildSlice t n parts=>match P.underlying t,sR parts.toList with
  |
   some (.slice e),some ps=>match zeroOf P e,gL P e with
   |some z,some sz=>if 0<sz∧n*sz≤2^24 then some (.buildSlice own sz z n ps)else none
   |_,_=>none
  |_,_=>none
 |
  .load t a=>match lD P t,gL P t,gk a with
  |some g,some n,some x=>if g=true∨n=1 then some (.load g n x)else none
  |_,_,_=>none
 | .store t a v=>match gL P t,gk a,gk v with|some n,some x,some y=>some (.store n x y)|_,_,_=>none
 | .makeInterface .. | .panic _=>some (.len (.c (.bl true)))
 | .nilCheck x=>match gk x with|some y=>some (.nilCheck y)|none=>none
 |
  .binOp op t x y _=>match gk x,gk y with
  |some p,some q=>if op= .eql∨op= .neq then(match P.underlying t with
    |some (.int _)|some .string=>some (.bin op .no p q)
    |some .bool=>some (.bin op .bl p q)
    |some (.pointer _)=>some (.bin op .ptr p q)
    |some (.func ..)=>some (.bin op .fnc p q)
    |some (.slice _)=>(match y with| .const (.slice none 0 0)=>some (.isNil (decide (op= .neq)) p)|_=>none)
    |some (.struct _)|some (.array _ _)=>if P.eqGuardType P.depth t=false then(match rq P 20 t with|some sh=>some (.bin op (.sh sh) p q)|none=>none)else none
    |_=>none)else some (.bin op .no p q)
  |_,_=>none
 | .unOp op _ x=>match gk x with|some y=>some (.un op y)|none=>none
 |
  .convert s d x=>match P.underlying s,P.underlying d,gk x with
  |some (.int _),some (.int k),some y=>some (.convI k y)
  |some (.slice e),some .string,some y=>(match P.underlying e with|some (.int .u8)=>some (.convS y)|_=>none)
  |some .string,some (.slice e),some y=>(match P.underlying e with|some (.int .u8)=>some (.convB y)|_=>none)
  |some (.slice _),some (.slice e),some y=>if s=d then(match P.underlying e with|some (.int .u8)=>some (.convL y)|_=>none)else none
  |_,_,_=>none
 | .makeFunc f a b=>match xB a.toList,xB b.toList with|some p,some q=>some (.mkFunc f p q)|_,_=>none
 |
  .makeSlice t l c=>match P.underlying t,gk l,gk c with
  |some (.slice e),some l,some c=>(match zeroOf P e,P.info? e with|some z,some i=>if 0<i.size then some (.makeSlice i.size i.bytes z l c)else none|_,_=>none)
  |_,_,_=>none
 |
  .slice t x lo hi mx=>match P.underlying t,gk x,Ft lo,Ft hi,Ft mx with
  |some .string,some x,some lo,some hi,some mx=>some (.slice .str x lo hi mx)
  |some (.slice e),some x,some lo,some hi,some mx=>(match gL P e with|some n=>if mx.isSome=true->hi.isSome=true then some (.slice (.sl n) x lo hi mx)else none|none=>none)
  |some (.array n e),some x,some lo,some hi,some mx=>(match gL P e with|some sz=>some (.slice (.ar n sz) x lo hi mx)|none=>none)
  |_,_,_,_,_=>none
 |
  .fieldAddr t x f=>match P.underlying t,gk x with
  |
   some (.struct fs),some y=>(match fs[f]?with
   |some g=>(match gL P g.type with|some (_+1)=>some (.fieldA f g.offset y)|_=>none)
   |none=>none)
  |_,_=>none
 |
  .field t x f=>match P.underlying t,gk x with
  |
   some (.struct fs),some y=>(match fs[f]?with
   |some g=>(match lD P g.type,gL P g.type with|some a,some n=>if a=true∨n=1 then some (.field f g.offset a n y)else none|_,_=>none)
   |none=>none)
  |_,_=>none
 |
  .indexAddr t x i=>match P.underlying t,gk x,gk i with
  |some (.slice e),some x,some i=>(match gL P e with|some n=>some (.indexA (.sl n) x i)|none=>none)
  |some (.array k e),some x,some i=>(match gL P e with|some n=>some (.indexA (.ar k n) x i)|none=>none)
  |_,_,_=>none
 |
  .index t x i=>match P.underlying t,gk x,gk i with
  |some (.array k e),some x,some i=>(match lD P e,gL P e with|some a,some n=>if a=true∨n=1 then some (.index a k n x i)else none|_,_=>none)
  |some .string,some x,some i=>some (.indexS x i)
  |_,_,_=>none
 | .extract x i=>match gk x with|some y=>some (.extract i y)|none=>none
 | .call {callee:= .value f,args,..}=>match gk f,xB args.toList with|some g,some l=>some (.call g l)|_,_=>none
 | .call {callee:= .builtin b,args,argTypes}=>b7 P b args.toList argTypes.toList
 |
  .sliceToArrayPointer t x=>match P.underlying t,gk x with
  |some (.array n e),some y=>(match gL P e with|some sz=>some (.s2a n sz y)|none=>none)
  |_,_=>none
 |
  .makeMap t none=>match P.underlying t with
  |some (.map k e)=>(match rq P 20 k with|some ks=>some (.mkMap ks .b)|_=>none)
  |_=>none
 |
  .lookup t m x ok=>match P.underlying t,gk m,gk x with
  |
   some (.map k e),some m,some x=>(match rq P 20 k,zeroOf P e with
   |some ks,some z=>if oL z=true then some (.mapGet ks .b z ok m x)else none
   |_,_=>none)
  |_,_,_=>none
 |
  .mapUpdate t m x y=>match P.underlying t,gk m,gk x,gk y with
  |some (.map k e),some m,some x,some y=>(match rq P 20 k with|some ks=>some (.mapSet ks .b m x y)|_=>none)
  |_,_,_,_=>none
 |
  .insert t m x y=>match P.underlying t,gk m,gk x,gk y with
  |some (.map k e),some m,some x,some y=>(match rq P 20 k with|some ks=>some (.mapSet ks .b m x y)|_=>none)
  |_,_,_,_=>none
 |_=>none
end Go.Ab

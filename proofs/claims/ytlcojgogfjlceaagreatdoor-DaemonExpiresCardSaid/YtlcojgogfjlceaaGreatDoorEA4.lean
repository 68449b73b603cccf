/- Regions, loops and bodies do what their abstract reading says. No condition. -/
import Derived.Test.YtlcojgogfjlceaaGreatDoorEA3
set_option linter.all false
namespace Go.Ab
variable [cK]
variable {P:Program} {nt:Nat} {ds:List Deferred} {s:St} {Γ:Cx} {a:Act} {w:World} [eE]
structure AO where
 dst:Option Nat
 guard:Option (Nat×Bool)
 mg:Bool
 k:AK
def pw:AK->Bool
 | .alloc _| .box _| .buildSlice .. | .makeSlice .. | .store .. | .append .. | .appendZ .. | .copy .. | .fill .. | .isNil .. | .convB .. | .convL .. | .mkMap .. | .mapGet .. | .mapSet .. =>true
 |_=>false
def mS (P:Program) (s:St) (d:Option Nat) (f:AX) (args:List AX) (K:St->Prop):Prop:=
 vg true s f λpf=>xq true s args λps=>match pf with
  | .fn (.func fid) first cap=>∃ks os,xI P s d fid (first++ps++cap) ks os K
  | .fn (.yield l) [] []=>Jm s d l ps K
  |_=>False
def qb (P:Program) (s:St) (d:Option Nat) (f:AX) (args:List AX) (K:St->Prop):Prop:=
 vg true s f λpf=>xq true s args λps=>match pf with
  | .fn (.func fid) first cap=>∃v,(ah (λ_=>false) (first++ps++cap)=true∧af (λ_=>false) v=true)∧
    ae P fid (first++ps++cap) [] (λr fp=>r=v∧fp=[])∧K (s.put d v)
  |_=>False
def jT (P:Program) (s:St) (o:AO) (K:St->Prop):Prop:=
 match o.k with
 | .call f args=>mS P s o.dst f args K
 | .callq f args=>qb P s o.dst f args K
 |k=>if pw k=true then ex s o.dst k K else ev true s k λp=>K (s.put o.dst p)
def fR (P:Program) (s:St) (o:AO) (K:St->Prop):Prop:=
 match o.guard with
 |none=>jT P s o K
 |
  some (sl,want)=>match(get s.env sl).getD .un with
  | .bl b=>if o.mg=true then ev (b==want) s o.k (λp=>K (s.put o.dst (.gd (b==want) p)))
    else(b=want->jT P s o K)∧(b≠want->K (s.put o.dst .un))
  | .gd g (.bl b)=>if o.mg=true then ev (g&&b==want) s o.k (λp=>K (s.put o.dst (.gd (g&&b==want) p)))
    else(g=true->b=want->jT P s o K)∧((g=true->b≠want)->K (s.put o.dst .un))
  |_=>False
def vv:AK->Bool
 | .mv _| .pick .. | .load .. | .nilCheck _| .un .. | .convI .. | .convS _| .fieldA .. | .s2a .. | .field .. | .extract .. | .len _| .lenS _| .lenC _| .cap _| .mm .. =>true
 | .bin op _ _ _=>match op with| .quo| .rem| .shl| .shr=>false|_=>true
 |_=>false
def xS (ops:Array Oper):Option (Nat×Bool)->Option (Option (Nat×Bool))
 |none=>some none
 |some (j,want)=>match(ops[j]?).bind (·.dst)with|some d=>some (some (d,want))|none=>none
def As (nt:Nat) (d:Option Nat) (k:AK):Bool:=
 match d,k with
 |some _,.store .. =>false
 |some d,_=>decide (d<nt)
 |none,_=>true
def y9 (P:Program) (draw:Bool) (ty:TypeId):AK->AK
 | .call f args=>if draw=true then .callq f args else .call f args
 |
  .mv (.c (.sl 0 [] true))=>(match P.underlying ty with
  |some (.slice e)=> .mv (.c (.sl (P.cellsOf e) [] true))
  |_=> .mv (.c (.sl 0 [] true)))
 |k=>k
def aak (own:List Nat):Option Nat->Bool
 |some d=>own.contains d
 |none=>true
noncomputable def rv (P:Program) (nt:Nat) (ops:Array Oper) (own sp:List Nat) (draw:Bool) (o:Oper):Option AO:=
 match jX P (match o.dst with|some d=>own.contains d|none=>false) o.op,xS ops o.guard with
 |some k,some g=>if As nt o.dst k=true then some ⟨o.dst,g,vv k&& !(match o.dst with|some d=>sp.contains d|none=>false),y9 P (draw&& !aak own o.dst) o.type k⟩else none
 |_,_=>none
theorem At {own:Bool} {op:Op} {k:AK} (h:jX P own op=some k) (c:Call):op≠ .defer c:=by
 rintro rfl;simp[jX]at h
theorem Oper.Au {ro:Option Nat} {o:Oper} {own:Bool} {k:AK} (qR:jX P own o.op=some k) {K:St->Prop} {Kr:Act->World->Prop} {Q:Exit->Act->World->Prop} (h:jO P nt ds o a w Γ K)
  (hk:∀s' Γ' a' w',fX nt ds s' Γ' a'->w'.heap=Γ'.heap->Le Γ Γ'->WF w w'->K s'->Kr a' w'):o.wpIn (FW ro) 0 P a w Kr Q:=by
 obtain⟨nx,v,w',s',Γ',fN,W9,hs,hh,hle,ua,hK⟩:=h;refine⟨λ_ _=>trivial,?_⟩;rw[Oper.semAt_eq _ _ _ (At qR),fN];rcases W9 with rfl|⟨rfl,rfl⟩
 ·exact hk _ _ _ _ hs hh hle ua hK
 ·exact hk _ _ _ _ hs hh hle ua hK
theorem OT {o:Oper} {k:AK} {own:Bool} {K:St->Prop} (hk:jX P own o.op=some k) (hs:fX nt ds s Γ a) (hw:w.heap=Γ.heap) (hd:As nt o.dst k=true) (he:ex s o.dst k K):jO P nt ds o a w Γ K:=by
 have Bo:(∀x y z,k≠ .store x y z)->∀j,o.dst=some j->j<nt:=by
  intro cS j hj;rw[hj]at hd;unfold As at hd;split at hd
  ·exact absurd rfl (cS _ _ _)
  ·rename_i heq _;simp at heq;subst heq;simpa using hd
  ·rename_i heq;simp at heq
 cases nK:o.op with
 |
  alloc t=>
  rw[nK]at hk;simp only[jX]at hk
  split at hk<;>simp only[sJ,reduceCtorEq]at hk
  rename_i z hz;subst hk
  exact My nK hz hs hw (Bo (by intros;simp)) he
 |
  box t x=>
  rw[nK]at hk;simp only[jX]at hk
  split at hk<;>simp only[sJ,reduceCtorEq]at hk
  rename_i y hy;subst hk
  exact Tr nK hy hs hw (Bo (by intros;simp)) he
 |
  buildSlice t n parts=>
  rw[nK]at hk;simp only[jX]at hk
  split at hk
  ·rename_i e ps hu hp
   split at hk
   ·rename_i z sz hz fA
    split at hk<;>simp only[sJ,reduceCtorEq]at hk
    rename_i hc;subst hk
    exact Cg nK hu hp hz fA hc.1 hc.2 hs hw (Bo (by intros;simp)) he
   ·simp at hk
  ·simp at hk
 |
  makeSlice t l c=>
  rw[nK]at hk;simp only[jX]at hk
  split at hk
  ·rename_i e l' c' hu hl hc
   split at hk
   ·rename_i z i hz hi
    split at hk<;>simp only[sJ,reduceCtorEq]at hk
    rename_i jW;subst hk
    exact D1 nK hu hl hc hz hi jW hs hw (Bo (by intros;simp)) he
   ·simp at hk
  ·simp at hk
 |
  store t x y=>
  rw[nK]at hk;simp only[jX]at hk
  split at hk<;>simp only[sJ,reduceCtorEq]at hk
  rename_i n x' y' hn hx hy;subst hk
  refine MA nK hn hx hy hs hw ?_ he
  cases DW:o.dst with
  |none=>rfl
  |some d=>rw[DW]at hd;simp[As]at hd
 |
  convert t e x=>
  rw[nK]at hk;simp only[jX]at hk
  split at hk
  ·simp only[sJ]at hk;subst hk;simp[ex]at he
  ·split at hk<;>simp only[sJ,reduceCtorEq]at hk
   subst hk;simp[ex]at he
  ·rename_i e' y h1 h2 hx
   split at hk<;>simp only[sJ,reduceCtorEq]at hk
   rename_i h3;subst hk
   exact Mz nK h1 h2 h3 hx hs hw (Bo (by intros;simp)) he
  ·rename_i e0 e' y h1 h2 hx
   split at hk
   ·rename_i hte
    split at hk<;>simp only[sJ,reduceCtorEq]at hk
    rename_i h3;subst hk hte
    exact MK nK h1 (by rw[h1]at h2;cases h2;exact h3) hx hs hw (Bo (by intros;simp)) he
   ·simp at hk
  ·simp at hk
 |
  makeMap t r=>
  rw[nK]at hk
  cases r with
  |some r=>simp[jX]at hk
  |
   none=>
   simp only[jX]at hk
   split at hk
   ·rename_i k' e hu
    split at hk<;>simp only[sJ,reduceCtorEq]at hk
    subst hk
    exact MJ nK hs hw (Bo (by intros;simp)) he
   ·simp at hk
 |
  lookup t m x ok=>
  rw[nK]at hk;simp only[jX]at hk
  split at hk
  ·rename_i k' e m' x' hu hm hx
   split at hk
   ·rename_i ks z h1 hz
    split at hk<;>simp only[sJ,reduceCtorEq]at hk
    rename_i hf;subst hk
    exact Jo nK hu hm hx h1 hz hf hs hw (Bo (by intros;simp)) he
   ·simp at hk
  ·simp at hk
 |
  mapUpdate t m x y=>
  rw[nK]at hk;simp only[jX]at hk
  split at hk
  ·rename_i k' e m' x' y' hu hm hx hy
   split at hk<;>simp only[sJ,reduceCtorEq]at hk
   rename_i ks h1;subst hk
   exact Cu (.inl nK) hu hm hx hy h1 hs hw he
  ·simp at hk
 |
  insert t m x y=>
  rw[nK]at hk;simp only[jX]at hk
  split at hk
  ·rename_i k' e m' x' y' hu hm hx hy
   split at hk<;>simp only[sJ,reduceCtorEq]at hk
   rename_i ks h1;subst hk
   exact Cu (.inr nK) hu hm hx hy h1 hs hw he
  ·simp at hk
 |
  call c=>
  obtain⟨callee,args,tys⟩:=c
  rw[nK]at hk
  cases callee with
  |
   value f=>
   simp only[jX]at hk
   split at hk<;>simp only[sJ,reduceCtorEq]at hk
   subst hk;simp[ex]at he
  |invoke r m=>simp[jX]at hk
  |
   builtin b=>
   simp only[jX]at hk
   obtain⟨args⟩:=args
   obtain⟨tys⟩:=tys
   simp only at hk
   cases b with
   |
    append=>
    match args,tys,nK,hk with
    |
     [x,y],[t,u],nK,hk=>
     unfold b7 at hk
     simp only at hk
     split at hk
     ·rename_i e d x' y' Xa hu2 hx hy
      split at hk
      ·rename_i i hi
       split at hk
       ·rename_i z hz
        split at hk
        ·rename_i hc
         split at hk
         ·simp only[sJ]at hk;subst hk
          exact Cj nK Xa hu2 (.inl ⟨_,rfl⟩) hi hz hc.1 hc.2.1 hc.2.2 hx hy hs hw (Bo (by intros;simp)) he
         ·split at hk<;>simp only[sJ,reduceCtorEq]at hk
          rename_i h1;subst hk
          exact Cj nK Xa hu2 (.inr rfl) hi hz hc.1 hc.2.1 hc.2.2 hx hy hs hw (Bo (by intros;simp)) he
         ·split at hk<;>simp only[sJ,reduceCtorEq]at hk
          rename_i zz hzz;subst hk
          exact Hx nK Xa hu2 hi hz hzz hc.1 hc.2.1 hc.2.2 hx hy hs hw (Bo (by intros;simp)) he
         ·simp at hk
        ·simp at hk
       ·simp at hk
      ·simp at hk
     ·simp at hk
    |[],_,_,hk|[_],_,_,hk|_::_::_::_,_,_,hk|[_,_],[],_,hk|[_,_],[_],_,hk|[_,_],_::_::_::_,_,hk=>simp[b7]at hk
   |
    clear=>
    match args,tys,nK,hk with
    |
     [x],[t],nK,hk=>
     unfold b7 at hk
     simp only at hk
     split at hk
     ·rename_i e x' Xa hx
      split at hk
      ·rename_i n z hn hz
       split at hk<;>simp only[sJ,reduceCtorEq]at hk
       subst hk
       exact OM nK Xa hn hz hx hs hw he
      ·simp at hk
     ·simp at hk
    |[],_,_,hk|_::_::_,_,_,hk|[_],[],_,hk|[_],_::_::_,_,hk=>simp[b7]at hk
   |
    copy=>
    match args,tys,nK,hk with
    |
     [x,y],[t,u],nK,hk=>
     unfold b7 at hk
     simp only at hk
     split at hk
     ·rename_i e x' y' Xa hx hy
      split at hk<;>simp only[sJ,reduceCtorEq]at hk
      rename_i n hn;subst hk
      exact OL nK Xa hn hx hy hs hw (Bo (by intros;simp)) he
     ·simp at hk
    |[],_,_,hk|[_],_,_,hk|_::_::_::_,_,_,hk|[_,_],[],_,hk|[_,_],[_],_,hk|[_,_],_::_::_::_,_,hk=>simp[b7]at hk
   |
    len=>
    exfalso
    unfold b7 at hk
    repeat (split at hk<;>(try contradiction))
    all_goals first|(simp only[sJ]at hk;subst hk;simp[ex]at he;done)|(simp at hk;done)|(split at hk<;>first|(simp only[sJ]at hk;subst hk;simp[ex]at he;done)|(simp at hk;done))
   |
    cap=>
    unfold b7 at hk
    split at hk<;>(try contradiction)
    split at hk<;>simp only[sJ,reduceCtorEq]at hk
    subst hk;simp[ex]at he
   |
    min=>
    unfold b7 at hk
    split at hk<;>(try contradiction)
    split at hk<;>simp only[sJ,reduceCtorEq]at hk
    subst hk;simp[ex]at he
   |
    max=>
    unfold b7 at hk
    split at hk<;>(try contradiction)
    split at hk<;>simp only[sJ,reduceCtorEq]at hk
    subst hk;simp[ex]at he
   |_=>unfold b7 at hk;split at hk<;>contradiction
 |
  binOp op t x y yt=>
  by_cases hn:∃ng p,k= .isNil ng p
  ·obtain⟨ng,p,rfl⟩:=hn
   rw[nK]at hk
   exact ME nK hk hs hw (Bo (by intros;simp)) he
  rw[nK]at hk;simp only[jX]at hk
  exfalso
  repeat (split at hk<;>(try contradiction))
  all_goals first|(simp only[sJ]at hk;subst hk;simp[ex]at he;done)|(simp at hk;done)|(simp only[sJ]at hk;exact hn ⟨_,_,hk.symm⟩)|(split at hk<;>first|(simp only[sJ]at hk;subst hk;simp[ex]at he;done)|(simp at hk;done)|(simp only[sJ]at hk;exact hn ⟨_,_,hk.symm⟩)|(split at hk<;>first|(simp only[sJ]at hk;subst hk;simp[ex]at he;done)|(simp at hk;done)|(simp only[sJ]at hk;exact hn ⟨_,_,hk.symm⟩)|(split at hk<;>first|(simp only[sJ]at hk;subst hk;simp[ex]at he;done)|(simp at hk;done)|(simp only[sJ]at hk;exact hn ⟨_,_,hk.symm⟩))))
 |
  _=>
  exfalso
  rw[nK]at hk
  first
  |(simp only[jX,reduceCtorEq]at hk;done)
  |(simp only[jX]at hk
    repeat (split at hk<;>(try contradiction))
    all_goals first|(simp only[sJ]at hk;subst hk;simp[ex]at he;done)|(simp at hk;done)|(split at hk<;>first|(simp only[sJ]at hk;subst hk;simp[ex]at he;done)|(simp at hk;done)|(split at hk<;>first|(simp only[sJ]at hk;subst hk;simp[ex]at he;done)|(simp at hk;done))))
end Go.Ab
namespace Go.Ab
variable [cK]
variable {P:Program} {nt:Nat} {ds:List Deferred} {s:St} {Γ:Cx} {a:Act} {w:World} [eE]
theorem aD.toV {p:PV} {v:Value} (h:aD Γ [p] [v]) (ha:p.isAgg=false):aK Γ p v:=by
 cases p<;>simp[PV.isAgg]at ha<;>first|(simp only[aK];done)|(simp only[aK];exact h)|(exact absurd h (by intro h;cases h))
theorem sV:∀ {l:List PV} {vs:List Value},aD Γ l vs->(∀x∈l,x.isAgg=false)->eY Γ l vs
 |[],vs,h,_=>by cases h;trivial
 |
  p::l,vs,h,hn=>by
  obtain⟨cs,us,rfl,h1,h2⟩:=h.lO
  have hp:=hn p (by simp)
  have hw:p.width=1:=by cases p<;>simp[PV.isAgg]at hp<;>rfl
  have hl:=h1.fK
  rw[hw]at hl
  obtain⟨v,rfl⟩:=JrW.1 hl
  exact⟨h1.toV hp,sV h2 (λx hx=>hn x (by simp[hx]))⟩
theorem eY.append:∀ {l m:List PV} {vs us:List Value},eY Γ l vs->eY Γ m us->eY Γ (l++m) (vs++us)
 |[],m,[],us,_,h=>h
 |p::l,m,v::vs,us,h,h'=>⟨h.1,eY.append h.2 h'⟩
 |[],m,v::vs,us,h,_=>by simp[eY]at h
 |p::l,m,[],us,h,_=>by simp[eY]at h
theorem eY.aE {f:Nat->Bool} {ρ:Nat->Nat} {Δ:Cx} (hs:y7 f ρ Γ Δ):∀ {l:List PV} {vs:List Value},eY Γ l vs->ah f l=true->eY Δ (aS ρ l) vs
 |[],[],_,_=>trivial
 |
  p::l,v::vs,h,hf=>by
  simp only[ah,aJ]at hf
  exact⟨h.1.aE hs hf.1,eY.aE hs h.2 hf.2⟩
 |[],v::vs,h,_=>by simp[eY]at h
 |p::l,[],h,_=>by simp[eY]at h
theorem wR:∀ {ps:List PV} {xs:List Operand},ps.length=xs.length->(∀(i:Nat) p x,ps[i]? =some p->xs[i]? =some x->aK Γ p (a.eval x))->eY Γ ps (xs.map a.eval)
 |[],[],_,_=>trivial
 |p::ps,x::xs,hl,h=>⟨h 0 p x rfl rfl,wR (by simpa using hl) (λi q y h1 h2=>h (i+1) q y h1 h2)⟩
 |[],_::_,hl,_=>by simp at hl
 |_::_,[],hl,_=>by simp at hl
def Hy (P:Program) (nt:Nat) (ds:List Deferred) (Γ:Cx) (w:World) (K:St->Prop) (Kr:Act->World->Prop):Prop:=
 ∀s' Γ' a' w',fX nt ds s' Γ' a'->w'.heap=Γ'.heap->Le Γ Γ'->WF w w'->K s'->Kr a' w'
theorem ML {o:Oper} {f:Operand} {args:Array Operand} {tys:Array TypeId} {fid:FuncId} {fs cs:Array Value} (ho:o.op= .call {callee:= .value f,args,argTypes:=tys}) (hf:a.eval f= .func (.func fid) fs cs):
  execOp a.eval o=(do let d←(Pure.pure {target:= .fn (.func fid) cs,args:=fs++args.map a.eval}:Sem Deferred);invoke d.target d.args):=by
 unfold execOp;rw[ho];simp only[resolve,hf,Deferred.ofValue]
theorem Jp {o:Oper} {f:Operand} {args:Array Operand} {tys:Array TypeId} {fid:FuncId} {first cap ps:List PV} (ho:o.op= .call {callee:= .value f,args,argTypes:=tys})
  (hf:aK Γ (.fn (.func fid) first cap) (a.eval f)) (hl:ps.length=args.toList.length) (hp:∀(i:Nat) p x,ps[i]? =some p->args.toList[i]? =some x->aK Γ p (a.eval x)):
  ∃vs:List Value,eY Γ (first++ps++cap) vs∧∀w r,(callFunc fid vs.toArray).run P w=r->(execOp a.eval o).run P w=r:=by
 simp only[aK]at hf;generalize hv:a.eval f=v at hf;cases hf with
 |
  @fn _ _ fs cs _ _ _ h1 h2 h3 h4 _=>
  refine⟨fs++args.toList.map a.eval++cs,((sV h1 h3).append (wR hl hp)).append (sV h2 h4),λw r hc=> ?_⟩
  rw[ML ho hv]
  have e:(fs++args.toList.map a.eval++cs).toArray=(fs.toArray++args.map a.eval)++cs.toArray:=by
   apply Array.ext';simp
  rw[e]at hc
  exact hc
theorem Hz {n k:Nat}:cL (dM n) k=k:=by
 unfold cL;split
 ·rename_i h;cases hi:(dM n)[k-KB]?with
  |none=>rfl
  |some j=>simp only[Option.getD_some];have:=(y8.1 hi).2;omega
 ·rfl
theorem OU {ro:Option Nat} {l:Nat} {f:FuncId} {tmps:Array Value} {as bo:Code} {R:Ending->World->Prop} (h:RoundIn (FW none) 0 P l f tmps as bo w R):RoundIn (FW ro) 0 P l f tmps as bo w R:=h
theorem HA {o:Oper} {f:Operand} {args:Array Operand} {tys:Array TypeId} {f':AX} {bC:List AX} {K:St->Prop} {Kr:Act->World->Prop} {Q:Exit->Act->World->Prop} {ro:Option Nat} (ho:o.op= .call {callee:= .value f,args,argTypes:=tys})
  (hf:gk f=some f') (hx:xB args.toList=some bC) (hs:fX nt ds s Γ a) (hw:w.heap=Γ.heap) (hd:∀j,o.dst=some j->j<nt) (hY:EA P Γ) (h:mS P s o.dst f' bC K) (hk:Hy P nt ds Γ w K Kr):o.wpIn (FW ro) 0 P a w Kr Q:=by
 unfold mS at h;obtain⟨pf,h,Oj⟩:=bw hf hs rfl h;obtain⟨ps,h,hl,hp⟩:=xC hs rfl hx h;split at h
 case h_3=>exact h.elim
 case h_2=>
  rename_i l _;obtain⟨bL,R,hg,sQ,qP,GR,hK⟩:=h;obtain⟨Γ0,rec,W8,h0,anH,RS,hAY⟩:=hY l ps bL R GR;rw[←hs.bx]at hg
  have hev:a.eval f= .func (.yield l) #[] #[]:=by
   simp only[aK]at Oj;generalize a.eval f=v at Oj;cases Oj with
   | @fn _ _ fs cs _ _ _ h1 h2 h3 h4 _=>cases h1;cases h2;rfl
  have fN:(execOp a.eval o).run P w=(Instr.yield l (args.toList.map a.eval).toArray).run P w:=by
   have e:(args.toList.map a.eval).toArray= #[]++args.map a.eval:=by apply Array.ext';simp
   rw[e];unfold execOp;rw[ho];simp only[resolve,hev,Deferred.ofValue];rfl
  have ub:=Cx.sn hg;have hA:eY Γ ps (args.toList.map a.eval):=wR hl hp;have S3:=hA.aE ub (by rw[uC];exact sQ);rw[jB (λ_=>uD)]at S3;have RR:Γ.heap[l]? =Γ0.heap[l]? :=by rw[W8.plain RS anH rfl,anH]
  obtain⟨fn,tmps,as,bo,hy,hR⟩:=hAY (Γ.call (dM eE.n) bL) w _ hw (Cx.Cn hs.mem hg (sT _) (by rw[uC];exact qP)) (by simp only[Cx.call];rw[Ct (λ_=>uD)]) S3 (OP h0 W8 hg) RR;refine⟨λ_ _=>trivial,?_⟩;rw[Oper.semAt_eq _ _ _ (λc=>by rw[ho];simp),fN,hy,Oper.uponIn_round];refine⟨λh=>by simp[Fence.wide]at h,OU (hR.mono ?_)⟩;rintro e w' ⟨fp,Γ',rfl,hR,ZV,vS,adS,hle,ua⟩;obtain⟨⟨hlen,pF⟩,hKK⟩:=hK fp hR;have hlk:(dM eE.n++[]).length=eE.n:=by simp[dM]
  obtain⟨same2,le2,mem2⟩:=Co hs.mem hg (os:=[]) (by simpa using sT _) (by simp) vS adS hle (by rw[hlen,hlk]) (by rw[hlen];exact pF);have Bk:=hs.le le2 mem2 (xH:=aI s.bx (dM eE.n) fp) (by simp only[Cx.back,JhQ,hs.bx];rw[Ct (λ_=>Hz)]);exact hk _ _ _ _ (Bk.put hd (p:= .bl true) (v:= .bool true) (by simp only[aK];exact .bl _ .nil)) (by simp[Cx.back,ZV]) le2 ua hKK
 rename_i fid first cap
 obtain⟨ks,os,bL,R,hg,hn,Jc,sQ,qP,hc,hK⟩:=h;obtain⟨vs,hA,fN⟩:=Jp (P:=P) ho Oj hl hp;refine⟨λ_ _=>trivial,?_⟩;rw[←hs.bx]at hg Jc;have hnk:ks.Nodup:=(JgJ.1 hn).1;have ub:=Cx.sn hg
 have key:∀e w',(∃v r xp Γ',e=Ending.returned v∧R r xp∧w'.heap=Γ'.heap∧Mem Γ'∧Γ'.bx=av 0 xp∧aK Γ' r v∧Le (Γ.call ks bL) Γ'∧WF w w')->∃v,e= .returned v∧Kr (a.put o.dst v) w':=by
  rintro e w' ⟨v,r,fp,Γ',rfl,hR,ZV,vS,adS,DK,hle,ua⟩;obtain⟨⟨hlen,hrr,pF⟩,hKK⟩:=hK r fp hR;obtain⟨same2,le2,mem2⟩:=Co hs.mem hg hn Jc vS adS hle hlen pF;have Bk:=hs.le le2 mem2 (xH:=aI s.bx (ks++os) (fp.map (az (cL (ks++os))))) (by simp[Cx.back,hs.bx]);exact⟨v,rfl,hk _ _ _ _ (Bk.put hd (DK.aE same2 hrr)) (by simp[Cx.back,ZV]) le2 ua hKK⟩
 rcases hc (Γ.call ks bL) w vs hw (Cx.Cn hs.mem hg hnk qP) rfl (hA.aE ub sQ)with⟨Bl,yR⟩|⟨v,w',Bl,yR⟩
 ·rw[Oper.semAt_eq _ _ _ (λc=>by rw[ho];simp),fN w _ Bl,Oper.uponIn_enter];refine⟨λh=>by simp[Fence.wide]at h,ON ?_⟩;refine yR.mono λe w' he=> ?_;obtain⟨v,rfl,h⟩:=key e w' he;exact h
 ·rw[Oper.semAt_eq _ _ _ (λc=>by rw[ho];simp),fN w _ Bl];obtain⟨u,hu,h⟩:=key _ w' yR;cases hu;exact h
theorem sr {ρ:Nat->Nat} {p:PV} (h:af (λ_=>false) p=true):aE ρ p=p:=Cl (f:=λ_=>false) (by simp) p h
theorem qT {ρ:Nat->Nat} {l:List PV} (h:ah (λ_=>false) l=true):aS ρ l=l:=og (f:=λ_=>false) (by simp) l h
mutual
theorem jC {f g:Nat->Bool} (h:∀k,f k=true->g k=true):∀p,af f p=true->af g p=true
 | .st w l,hh=>by simp only[af]at*;exact dm h l hh
 | .ar sz n l,hh=>by simp only[af]at*;exact dm h l hh
 | .tup l,hh=>by simp only[af]at*;exact dm h l hh
 | .sl sz l c,hh=>by simp only[af]at*;exact dm h l hh
 | .fp sz l c,hh=>by simp only[af]at*;exact dm h l hh
 | .fn f x y,hh=>by simp only[af,aJ]at*;exact⟨dm h x hh.1,dm h y hh.2⟩
 | .gd b p,hh=>by simp only[af]at*;exact jC h p hh
 | .ifc b p,hh=>by simp only[af]at*;exact jC h p hh
 | .rs ..,hh=>by simp only[af]at*;exact h _ hh
 | .pt ..,hh=>by simp only[af]at*;exact h _ hh
 | .un,_| .bl _,_| .int ..,_| .str _,_| .np,_| .nf,_| .ni,_| .mp ..,_=>by simp[af]
theorem dm {f g:Nat->Bool} (h:∀k,f k=true->g k=true):∀l,ah f l=true->ah g l=true
 |[],_=>by simp[ah]
 |p::l,hh=>by simp only[ah,aJ]at*;exact⟨jC h p hh.1,dm h l hh.2⟩
end
theorem Cv {d:Option Nat} {f:AX} {args:List AX} {K:St->Prop} (h:qb P s d f args K):mS P s d f args K:=by
 unfold qb at h;unfold mS
 have hv:∀ {g:Bool} {x:AX} {K K':PV->Prop},(∀p,K p->K' p)->vg g s x K->vg g s x K':=by
  intro g x K K' hh hv;unfold vg at*;split at hv
  ·exact⟨hv.1,hh _ hv.2⟩
  ·exact hh _ hv
 have hvs:∀ {g:Bool} {xs:List AX} {K K':List PV->Prop},(∀p,K p->K' p)->xq g s xs K->xq g s xs K':=by
  intro g xs;induction xs with
  |nil=>intro K K' hh hv;exact hh _ hv
  |cons x xs ih=>intro K K' hh hq;exact hv (λp hp=>ih (λq hq=>hh _ hq) hp) hq
 refine hv (λpf hq=>hvs (λps hr=> ?_) hq) h;split at hr
 case h_2=>exact hr.elim
 rename_i fid first cap
 obtain⟨v,⟨h1,h2⟩,hc,hK⟩:=hr;refine⟨[],[],[],(λr fp=>r=v∧fp=[]),rfl,by simp,by simp,dm (by simp) _ h1,rfl,?_,?_⟩
 ·rw[qT h1];exact hc
 ·rintro r fp ⟨rfl,rfl⟩;refine⟨⟨rfl,jC (by simp) _ h2,rfl⟩,?_⟩;rw[sr h2];exact hK
end Go.Ab
namespace Go.Ab
variable [cK]
variable {P:Program} {nt:Nat} {ds:List Deferred} {s:St} {Γ:Cx} {a:Act} {w:World} [eE]
def Dt {α:Type} (C:(α->Prop)->Prop):Prop:=∀K,C K->∃p,K p∧∀K':α->Prop,K' p->C K'
theorem Dt.ret {α:Type} (v:α):Dt (λK=>K v):=λ_ h=>⟨v,h,λ_ h=>h⟩
theorem Dt.no {α:Type}:Dt (λ_:α->Prop=>False):=λ_ h=>h.elim
theorem Dt.bind {α β:Type} {C:(α->Prop)->Prop} {D:α->(β->Prop)->Prop} (hc:Dt C) (hd:∀p,Dt (D p)):Dt (λK=>C (λp=>D p K)):=by
 intro K h;obtain⟨p,hp,hk⟩:=hc _ h;obtain⟨q,hq,yT⟩:=hd p _ hp;exact⟨q,hq,λK' h'=>hk _ (yT _ h')⟩
theorem Dt.and {α:Type} {c:Prop} {C:(α->Prop)->Prop} (hc:Dt C):Dt (λK=>c∧C K):=by
 intro K h;obtain⟨p,hp,hk⟩:=hc _ h.2;exact⟨p,hp,λK' h'=>⟨h.1,hk _ h'⟩⟩
theorem ss (g:Bool) (s:St) (x:AX):Dt (vg g s x):=by
 unfold vg;split
 ·exact Dt.and (Dt.ret _)
 ·exact Dt.ret _
theorem sX (g:Bool) (s:St):∀xs,Dt (xq g s xs)
 |[]=>Dt.ret _
 |
  x::xs=>by
  show Dt λK=>xq g s (x::xs) K
  simp only[xq]
  exact Dt.bind (ss g s x) λp=>Dt.bind (sX g s xs) λps=>Dt.ret _
theorem za (g:Bool) (s:St):∀xs,Dt (B8 g s xs)
 |[]=>Dt.ret _
 |
  (i,x)::xs=>by
  show Dt λK=>B8 g s ((i,x)::xs) K
  simp only[B8]
  exact Dt.bind (ss g s x) λp=>Dt.bind (za g s xs) λps=>Dt.ret _
theorem qU (p:PV):Dt (pq p):=by
 unfold pq;split
 ·exact Dt.ret _
 ·exact Dt.no
theorem HB (mx:Bool):∀l a,Dt (nH mx a l)
 |[],a=>Dt.ret _
 |
  p::r,a=>by
  show Dt λK=>nH mx a (p::r) K
  simp only[nH]
  exact Dt.bind (qU p) λb=>HB mx r _
theorem Tv (op:BinOp) (k:IntKind) (a b:Int):Dt (qI op k a b):=by
 cases op<;>first|exact Dt.ret _|exact Dt.and (Dt.ret _)
theorem Tw (op:BinOp) (a b:List UInt8):Dt (B7 op a b):=by
 cases op<;>first|exact Dt.ret _|exact Dt.and (Dt.ret _)|exact Dt.no
theorem vy (op:BinOp) (b:Bool):Dt (pX op b):=by
 cases op<;>first|exact Dt.ret _|exact Dt.no
theorem Tx (s:St) (op:BinOp) (eqs:ET) (p q:PV):Dt (sb s op eqs p q):=by
 show Dt λK=>sb s op eqs p q K;cases eqs<;>simp only[sb]
 case no=>split<;>first|exact Dt.and (Tv _ _ _ _)|exact Tw _ _ _|exact Dt.no
 case sh x=>exact Dt.and (vy _ _)
 case bl=>split<;>first|exact vy _ _|exact Dt.no
 case fnc=>split<;>first|exact vy _ _|exact Dt.no
 case ptr=>
  split
  ·exact vy _ _
  ·split
   ·exact Dt.and (vy _ _)
   ·exact Dt.no
  ·exact vy _ _
  ·exact Dt.no
def A9 {α β:Type} (C:(α->β->Prop)->Prop):Prop:=∀K,C K->∃p q,K p q∧∀K':α->β->Prop,K' p q->C K'
theorem A9.ret {α β:Type} (v:α) (u:β):A9 (λK=>K v u):=λ_ h=>⟨v,u,h,λ_ h=>h⟩
theorem A9.no {α β:Type}:A9 (λ_:α->β->Prop=>False):=λ_ h=>h.elim
theorem A9.and {α β:Type} {c:Prop} {C:(α->β->Prop)->Prop} (hc:A9 C):A9 (λK=>c∧C K):=by
 intro K h;obtain⟨p,q,hp,hk⟩:=hc _ h.2;exact⟨p,q,hp,λK' h'=>⟨h.1,hk _ h'⟩⟩
theorem A9.of {α β γ:Type} {C:(α->Prop)->Prop} {D:α->(β->γ->Prop)->Prop} (hc:Dt C) (hd:∀p,A9 (D p)):A9 (λK=>C (λp=>D p K)):=by
 intro K h;obtain⟨p,hp,hk⟩:=hc _ h;obtain⟨q,r,hq,yT⟩:=hd p _ hp;exact⟨q,r,hq,λK' h'=>hk _ (yT _ h')⟩
theorem Dt.Av {α β γ:Type} {C:(α->β->Prop)->Prop} {D:α->β->(γ->Prop)->Prop} (hc:A9 C) (hd:∀p q,Dt (D p q)):Dt (λK=>C (λp q=>D p q K)):=by
 intro K h;obtain⟨p,q,hp,hk⟩:=hc _ h;obtain⟨r,hq,yT⟩:=hd p q _ hp;exact⟨r,hq,λK' h'=>hk _ (yT _ h')⟩
theorem qc (s:St) (p:PV):A9 (content s p):=by
 show A9 λK=>content s p K
 cases p<;>simp only[content]<;>first
  |exact A9.ret _ _|exact A9.no
  |(split<;>first|exact A9.and (A9.ret _ _)|exact A9.no|(split<;>first|exact A9.and (A9.ret _ _)|exact A9.no))
theorem sY (g:Bool) (s:St) (lo hi:Option AX) (len cap:Nat):A9 (kJ g s lo hi len cap):=by
 unfold kJ;refine A9.of (C:=match hi with|none=>λ(J:Nat->Prop)=>J len|some x=>λJ=>vg g s x λp=>pq p λh=>(0≤h∧h≤cap)∧J h.toNat) ?_ λh=> ?_
 ·cases hi with
  |none=>exact Dt.ret _
  |some x=>exact Dt.bind (ss g s x) λp=>Dt.bind (qU p) λh=>Dt.and (Dt.ret _)
 ·refine A9.of (C:=match lo with|none=>λ(J:Nat->Prop)=>J 0|some x=>λJ=>vg g s x λp=>pq p λl=>(0≤l∧l≤h)∧J l.toNat) ?_ λl=>A9.ret _ _;cases lo with
  |none=>exact Dt.ret _
  |some x=>exact Dt.bind (ss g s x) λp=>Dt.bind (qU p) λh=>Dt.and (Dt.ret _)
theorem tM (g:Bool) (s:St) (k:AK):Dt (ev g s k):=by
 have V:=ss g s;have I:=qU;show Dt λK=>ev g s k K;cases k with
 |mv x=>exact V x
 |
  pick c a b=>
  simp only[ev]
  refine Dt.bind (V c) λp=> ?_
  split
  ·split<;>first|exact Dt.ret _|exact Dt.and (Dt.ret _)|exact Dt.no
  ·exact Dt.no
 |
  build z parts=>
  simp only[ev]
  refine Dt.bind (za g s parts) λp=> ?_
  split<;>first|exact Dt.no|(split<;>first|exact Dt.ret _|exact Dt.no)
 |
  load agg w x=>
  simp only[ev]
  refine Dt.bind (V x) λp=> ?_
  split
  ·split
   ·split<;>first|exact Dt.and (Dt.ret _)|exact Dt.no
   ·exact Dt.no
  ·split<;>first|exact Dt.and (Dt.ret _)|exact Dt.no
  ·exact Dt.no
 |
  nilCheck x=>
  simp only[ev]
  refine Dt.bind (V x) λp=> ?_
  split
  ·split<;>first|exact Dt.and (Dt.ret _)|exact Dt.no
  all_goals first|exact Dt.ret _|exact Dt.no
 |bin op eqs x y=>simp only[ev];exact Dt.bind (V x) λp=>Dt.bind (V y) λq=>Tx _ _ _ _ _
 |
  un op x=>
  simp only[ev]
  refine Dt.bind (V x) λp=> ?_
  split<;>first|exact Dt.ret _|exact Dt.no
 |convI k x=>simp only[ev];exact Dt.bind (V x) λp=>Dt.bind (I p) λn=>Dt.ret _
 |
  convS x=>
  simp only[ev]
  refine Dt.bind (V x) λp=>Dt.Av (qc s p) λsz l=>Dt.and ?_
  split<;>first|exact Dt.ret _|exact Dt.no
 |mkFunc f first cap=>simp only[ev];exact Dt.bind (sX g s first) λp=>Dt.bind (sX g s cap) λq=>Dt.and (Dt.ret _)
 |
  slice k x lo hi mx=>
  cases k with
  |
   str=>
   simp only[ev]
   refine Dt.bind (V x) λp=> ?_
   split
   ·exact Dt.and (Dt.Av (sY _ _ _ _ _ _) λl h=>Dt.ret _)
   ·exact Dt.no
  |
   sl sz=>
   simp only[ev]
   refine Dt.bind (V x) λp=> ?_
   split
   ·split
    ·exact Dt.Av (sY _ _ _ _ _ _) λl h=>Dt.and (Dt.ret _)
    ·exact Dt.bind (V _) λq=>Dt.bind (I q) λm=>Dt.and (Dt.Av (sY _ _ _ _ _ _) λl h=>Dt.and (Dt.ret _))
   ·split
    ·refine Dt.and ?_
     split
     ·exact Dt.Av (sY _ _ _ _ _ _) λl h=>Dt.ret _
     ·exact Dt.bind (V _) λq=>Dt.bind (I q) λm=>Dt.and (Dt.Av (sY _ _ _ _ _ _) λl h=>Dt.ret _)
    ·exact Dt.no
   ·exact Dt.no
  |
   ar n sz=>
   simp only[ev]
   refine Dt.bind (V x) λp=> ?_
   split
   ·split
    ·exact Dt.and (Dt.and (Dt.Av (sY _ _ _ _ _ _) λl h=>Dt.ret _))
    ·exact Dt.no
   ·split
    ·exact Dt.and (Dt.Av (sY _ _ _ _ _ _) λl h=>Dt.ret _)
    ·exact Dt.no
   ·exact Dt.no
 |
  fieldA i off x=>
  simp only[ev]
  refine Dt.bind (V x) λp=> ?_
  split
  ·split<;>first|exact Dt.and (Dt.ret _)|exact Dt.no
  all_goals first|exact Dt.ret _|exact Dt.no
 |
  s2a n sz x=>
  simp only[ev]
  refine Dt.bind (V x) λp=> ?_
  split
  ·exact Dt.and (Dt.ret _)
  ·split<;>first|exact Dt.and (Dt.ret _)|exact Dt.no
  all_goals first|exact Dt.ret _|exact Dt.no
 |
  field i off agg w x=>
  simp only[ev]
  refine Dt.bind (V x) λp=> ?_
  split
  ·split<;>first|exact Dt.and (Dt.ret _)|exact Dt.no
  ·exact Dt.no
 |
  indexA k x i=>
  cases k with
  |str=>simp only[ev];exact Dt.no
  |
   sl sz=>
   simp only[ev]
   refine Dt.bind (V x) λp=>Dt.bind (V i) λq=>Dt.bind (I q) λj=> ?_
   split
   ·exact Dt.and (Dt.ret _)
   ·split<;>first|exact Dt.and (Dt.ret _)|exact Dt.no
   ·exact Dt.no
  |
   ar n sz=>
   simp only[ev]
   refine Dt.bind (V x) λp=>Dt.bind (V i) λq=>Dt.bind (I q) λj=>Dt.and ?_
   split
   ·split<;>first|exact Dt.and (Dt.ret _)|exact Dt.no
   all_goals first|exact Dt.ret _|exact Dt.no
 |
  index agg n w x i=>
  simp only[ev]
  refine Dt.bind (V x) λp=>Dt.bind (V i) λq=>Dt.bind (I q) λj=> ?_
  split
  ·split<;>first|exact Dt.and (Dt.ret _)|exact Dt.no
  ·exact Dt.no
 |
  indexS x i=>
  simp only[ev]
  refine Dt.bind (V x) λp=>Dt.bind (V i) λq=>Dt.bind (I q) λj=> ?_
  split
  ·split<;>first|exact Dt.and (Dt.ret _)|exact Dt.no
  ·exact Dt.no
 |
  extract i x=>
  simp only[ev]
  split
  ·split<;>first|exact Dt.ret _|exact Dt.no
  ·exact Dt.no
 |
  len x=>
  simp only[ev]
  refine Dt.bind (V x) λp=> ?_
  split
  ·exact Dt.ret _
  ·split<;>first|exact Dt.and (Dt.ret _)|exact Dt.no
  ·exact Dt.no
 |
  cap x=>
  simp only[ev]
  refine Dt.bind (V x) λp=> ?_
  split
  ·split<;>first|exact Dt.and (Dt.ret _)|exact Dt.no
  ·exact Dt.no
 |
  lenS x=>
  simp only[ev]
  refine Dt.bind (V x) λp=> ?_
  split<;>first|exact Dt.ret _|exact Dt.no
 |lenC n=>simp only[ev];exact Dt.ret _
 |
  mm mx xs=>
  simp only[ev]
  refine Dt.bind (sX g s xs) λps=> ?_
  split
  ·exact Dt.bind (HB _ _ _) λn=>Dt.ret _
  ·exact Dt.no
 |_=>simp only[ev];exact Dt.no
end Go.Ab
namespace Go.Ab
variable [cK]
variable {P:Program} {nt:Nat} {ds:List Deferred} {s s':St} {Γ:Cx} {a:Act} {w:World} [eE]
def AX.reads:AX->List Nat
 | .t n=>[n]
 | .c _=>[]
def axs:List AX->List Nat
 |[]=>[]
 |x::r=>x.reads++axs r
def axo:Option AX->List Nat
 |none=>[]
 |some x=>x.reads
def axp:List (Nat×AX)->List Nat
 |[]=>[]
 |(_,x)::r=>x.reads++axp r
def AK.reads:AK->List Nat
 | .mv x| .load _ _ x| .nilCheck x| .un _ x| .convI _ x| .convS x| .convB x| .convL x| .fieldA _ _ x| .s2a _ _ x| .field _ _ _ _ x| .extract _ x| .len x| .lenS x| .cap x| .box x=>x.reads
 | .pick c a b=>c.reads++a.reads++b.reads
 | .build _ parts| .buildSlice _ _ _ _ parts=>axp parts
 | .bin _ _ x y| .indexA _ x y| .index _ _ _ x y| .indexS x y| .store _ x y| .append _ _ _ x y| .appendZ _ _ _ x y| .copy _ x y| .makeSlice _ _ _ x y=>x.reads++y.reads
 | .mkFunc _ a b=>axs a++axs b
 | .slice _ x lo hi mx=>x.reads++(axo lo++(axo hi++axo mx))
 | .lenC _| .alloc _| .mkMap .. =>[]
 | .mapGet _ _ _ _ m x=>m.reads++x.reads
 | .mapSet _ _ m x y=>m.reads++(x.reads++y.reads)
 | .mm _ xs=>axs xs
 | .call f args| .callq f args=>f.reads++axs args
 | .isNil _ x| .fill _ _ x=>x.reads
def cC (s s':St) (l:List Nat):Prop:=∀n∈l,get s'.env n=get s.env n
theorem cC.left {l m:List Nat} (h:cC s s' (l++m)):cC s s' l:=λn hn=>h n (JaZ.2 (.inl hn))
theorem cC.right {l m:List Nat} (h:cC s s' (l++m)):cC s s' m:=λn hn=>h n (JaZ.2 (.inr hn))
theorem lF {x:AX} (h:cC s s' x.reads):vx s' x=vx s x:=by
 cases x with
 |t n=>simp only[vx];rw[h n (by simp[AX.reads])]
 |c p=>rfl
theorem aH {g:Bool} {x:AX} (h:cC s s' x.reads):vg g s' x=vg g s x:=by
 funext K;unfold vg;rw[lF h]
theorem fB {g:Bool}:∀ {xs:List AX},cC s s' (axs xs)->xq g s' xs=xq g s xs
 |[],_=>rfl
 |
  x::xs,h=>by
  funext K;simp only[xq];rw[aH (x:=x) h.left,fB (xs:=xs) h.right]
theorem nP {g:Bool}:∀ {xs:List (Nat×AX)},cC s s' (axp xs)->B8 g s' xs=B8 g s xs
 |[],_=>rfl
 |
  (i,x)::xs,h=>by
  funext K;simp only[B8];rw[aH (x:=x) h.left,nP (xs:=xs) h.right]
theorem wE (hb:s'.bx=s.bx) (p:PV):content s' p=content s p:=by
 funext K;cases p<;>simp only[content,hb]
theorem Jq (hb:s'.bx=s.bx) (op:BinOp) (e:ET) (p q:PV):sb s' op e p q=sb s op e p q:=by
 funext K;unfold sb;rw[hb]
theorem Cw {g:Bool} {lo hi:Option AX} (h1:cC s s' (axo lo)) (h2:cC s s' (axo hi)) (n c:Nat):kJ g s' lo hi n c=kJ g s lo hi n c:=by
 funext K;cases lo<;>cases hi<;>simp only[kJ]
 ·rw[aH h2]
 ·rw[aH h1]
 ·rw[aH h2];simp only[aH h1]
theorem Cy {g:Bool} {k:AK} (hb:s'.bx=s.bx) (h:cC s s' k.reads):ev g s' k=ev g s k:=by
 funext K;cases k with
 |mv x=>simp only[ev];rw[aH h]
 |pick c a b=>simp only[ev];rw[aH h.left.left,lF h.left.right,lF h.right]
 |build z parts=>simp only[ev];rw[nP h]
 |load agg w x=>simp only[ev];rw[aH h,hb]
 |nilCheck x=>simp only[ev];rw[aH h,hb]
 |bin op e x y=>simp only[ev];rw[aH h.left,aH h.right];simp only[Jq hb]
 |un op x=>simp only[ev];rw[aH h]
 |convI k x=>simp only[ev];rw[aH h]
 |convS x=>simp only[ev];rw[aH h];simp only[wE hb]
 |mkFunc f a b=>simp only[ev];rw[fB h.left,fB h.right]
 |
  slice k x lo hi mx=>
  have hx:=aH (g:=g) h.left
  have hl:=λn c=>Cw (g:=g) h.right.left h.right.right.left n c
  have hm:=h.right.right.right
  cases k<;>cases mx<;>simp only[ev,hx,hl,hb]
  rw[aH (x:=_) hm]
 |fieldA i off x=>simp only[ev];rw[aH h,hb]
 |s2a n sz x=>simp only[ev];rw[aH h,hb]
 |field i off agg w x=>simp only[ev];rw[aH h]
 |
  indexA k x i=>
  have hx:=aH (g:=g) h.left
  have hi:=aH (g:=g) h.right
  cases k<;>simp only[ev,hx,hi,hb]
 |index agg n w x i=>simp only[ev];rw[aH h.left,aH h.right]
 |indexS x i=>simp only[ev];rw[aH h.left,aH h.right]
 |extract i x=>simp only[ev];rw[lF h]
 |len x=>simp only[ev];rw[aH h,hb]
 |lenS x=>simp only[ev];rw[aH h]
 |cap x=>simp only[ev];rw[aH h,hb]
 |lenC n=>rfl
 |mm mx xs=>simp only[ev];rw[fB h]
 |_=>rfl
def AO.quiet (o:AO):Bool:=
 match o.k with
 | .call .. =>false
 | .callq .. =>true
 | .buildSlice own .. => !own
 |k=> !pw k
def AO.reads (o:AO):List Nat:=(match o.guard with|some (n,_)=>[n]|none=>[])++o.k.reads
theorem OV {d:Option Nat} {f:AX} {args:List AX} {K:St->Prop} (h:qb P s d f args K):
  ∃v,K (s.put d v)∧∀s',s'.bx=s.bx->cC s s' (AK.callq f args).reads->∀K':St->Prop,K' (s'.put d v)->qb P s' d f args K':=by
 unfold qb at h;obtain⟨pf,h,h1⟩:=ss _ _ _ _ h;obtain⟨ps,h,h2⟩:=sX _ _ _ _ h;split at h
 case h_2=>exact h.elim
 rename_i fid first cap
 obtain⟨v,Bl,yR,hK⟩:=h;refine⟨v,hK,λs' hb ha K' kR=> ?_⟩;unfold qb;rw[aH ha.left];refine h1 _ ?_;rw[fB ha.right];exact h2 _ ⟨v,Bl,yR,kR⟩
theorem OW {d:Option Nat} {sz n:Nat} {z:PV} {parts:List (Nat×AX)} {K:St->Prop} (h:ex s d (.buildSlice false sz z n parts) K):
  ∃v,K (s.put d v)∧∀s',s'.bx=s.bx->cC s s' (AK.buildSlice false sz z n parts).reads->∀K':St->Prop,K' (s'.put d v)->ex s' d (.buildSlice false sz z n parts) K':=by
 simp only[ex]at h;obtain⟨ps,h,h1⟩:=za _ _ _ _ h;split at h
 case h_2=>exact h.elim
 rename_i l hl;simp only[fJ,if_false]at h;refine⟨_,h,λs' hb ha K' kR=> ?_⟩;simp only[ex];rw[nP ha];refine h1 _ ?_;simp only[hl,fJ,if_false];exact kR
theorem Jr {o:AO} {K:St->Prop} (hq:o.quiet=true) (h:jT P s o K):
  ∃v,K (s.put o.dst v)∧∀s',s'.bx=s.bx->cC s s' o.k.reads->∀K':St->Prop,K' (s'.put o.dst v)->jT P s' o K':=by
 obtain⟨dst,guard,mg,k⟩:=o;cases k with
 |call f args=>simp[AO.quiet]at hq
 |callq f args=>exact OV h
 |
  buildSlice own sz z n parts=>
  simp only[AO.quiet,JhZ]at hq
  subst hq
  simp only[jT,pw,if_true]at h⊢
  exact OW h
 |
  _=>
  first
  |(simp[AO.quiet,pw]at hq;done)
  |(simp only[jT,pw,fJ,if_false]at h⊢
    obtain⟨v,hK,hv⟩:=tM _ _ _ _ h
    refine⟨v,hK,λs' hb ha K' kR=> ?_⟩
    rw[Cy hb ha]
    exact hv _ kR)
theorem Js {o:AO} {K:St->Prop} (hq:o.quiet=true) (h:fR P s o K):
  ∃v,K (s.put o.dst v)∧∀s',s'.bx=s.bx->cC s s' o.reads->∀K':St->Prop,K' (s'.put o.dst v)->fR P s' o K':=by
 unfold fR at h;cases hg:o.guard with
 |
  none=>
  rw[hg]at h
  obtain⟨v,hK,hv⟩:=Jr hq h
  refine⟨v,hK,λs' hb ha K' kR=> ?_⟩
  unfold fR;rw[hg]
  exact hv s' hb ha.right K' kR
 |
  some gw=>
  obtain⟨sl,want⟩:=gw
  rw[hg]at h
  simp only at h
  have b6:∀ {s':St},cC s s' o.reads->get s'.env sl=get s.env sl:=λha=>ha sl (by simp[AO.reads,hg])
  split at h
  ·rename_i b hb
   split at h
   ·rename_i hm
    obtain⟨v,hK,hv⟩:=tM _ _ _ _ h
    refine⟨_,hK,λs' ly ha K' kR=> ?_⟩
    unfold fR;rw[hg];simp only[b6 ha,hb,hm,if_true]
    rw[Cy ly ha.right]
    exact hv _ kR
   ·rename_i hm
    by_cases pH:b=want
    ·obtain⟨v,hK,hv⟩:=Jr hq (h.1 pH)
     refine⟨v,hK,λs' ly ha K' kR=> ?_⟩
     unfold fR;rw[hg];simp only[b6 ha,hb,hm]
     exact⟨λ_=>hv s' ly ha.right K' kR,λhn=>absurd pH hn⟩
    ·refine⟨.un,h.2 pH,λs' ly ha K' kR=> ?_⟩
     unfold fR;rw[hg];simp only[b6 ha,hb,hm]
     exact⟨λhn=>absurd hn pH,λ_=>kR⟩
  ·rename_i g b hb
   split at h
   ·rename_i hm
    obtain⟨v,hK,hv⟩:=tM _ _ _ _ h
    refine⟨_,hK,λs' ly ha K' kR=> ?_⟩
    unfold fR;rw[hg];simp only[b6 ha,hb,hm,if_true]
    rw[Cy ly ha.right]
    exact hv _ kR
   ·rename_i hm
    by_cases pH:g=true∧b=want
    ·obtain⟨v,hK,hv⟩:=Jr hq (h.1 pH.1 pH.2)
     refine⟨v,hK,λs' ly ha K' kR=> ?_⟩
     unfold fR;rw[hg];simp only[b6 ha,hb,hm]
     exact⟨λ_ _=>hv s' ly ha.right K' kR,λhn=>absurd pH.2 (hn pH.1)⟩
    ·refine⟨.un,h.2 (λh1 h2=>pH ⟨h1,h2⟩),λs' ly ha K' kR=> ?_⟩
     unfold fR;rw[hg];simp only[b6 ha,hb,hm]
     exact⟨λh1 h2=>absurd ⟨h1,h2⟩ pH,λ_=>kR⟩
  ·exact h.elim
theorem put_comm {α:Type} {n m:Nat} (h:n≠m) (x y:α):∀l:List (Nat×α),put (put l n x) m y=put (put l m y) n x
 |
  []=>by
  simp only[put]
  by_cases h1:n<m
  ·simp[h,Ne.symm h,show¬m<n by omega,h1]
  ·simp[h,Ne.symm h,show m<n by omega,h1]
 |
  (k,v)::r=>by
  have ih:=put_comm h x y r
  grind [put]
theorem St.put_comm {d e:Option Nat} (h:∀k,d=some k->e≠some k) (v u:PV):(s.put d v).put e u=(s.put e u).put d v:=by
 cases d with
 |none=>rfl
 |
  some d=>
  cases e with
  |none=>rfl
  |
   some e=>
   have:d≠e:=λhh=>h d rfl (by rw[hh])
   simp only[St.put,Ab.put_comm this]
def AO.apart (x y:AO):Bool:=
 (match x.dst with|some d=> !y.reads.contains d&&y.dst !=some d|none=>true)&&
 (match y.dst with|some d=> !x.reads.contains d|none=>true)
theorem cC.put {d:Option Nat} {v:PV} {l:List Nat} (h:∀k,d=some k->k∉l):cC s (s.put d v) l:=by
 intro n hn;cases d with
 |none=>rfl
 |
  some d=>
  have:d≠n:=λe=>h d rfl (e▸hn)
  simp[St.put,bp _ _ _ _ this]
theorem cC.ah8 {d:Option Nat} {v:PV} {l:List Nat} (h:∀k,d=some k->k∉l):cC (s.put d v) s l:=λn hn=>((cC.put h) n hn).symm
theorem ir (d:Option Nat) (v:PV):(s.put d v).bx=s.bx:=by cases d<;>rfl
theorem OX {x y:AO} {K:St->Prop} (hx:x.quiet=true) (hy:y.quiet=true) (ef:x.apart y=true) (h:fR P s x λs1=>fR P s1 y K):fR P s y λs2=>fR P s2 x K:=by
 have h1:∀d,x.dst=some d->d∉y.reads:=λd hd=>by simp[AO.apart,hd]at ef;exact ef.1.1
 have h2:∀d,x.dst=some d->y.dst≠some d:=λd hd=>by simp[AO.apart,hd]at ef;exact ef.1.2
 have h3:∀d,y.dst=some d->d∉x.reads:=λd hd=>by simp[AO.apart,hd]at ef;exact ef.2
 obtain⟨v,h,hv⟩:=Js hx h;obtain⟨u,h,hu⟩:=Js hy h;refine hu s (ir _ _).symm (cC.ah8 h1) _ ?_;refine hv _ (ir _ _) (cC.put h3) _ ?_;rw[St.put_comm (λk hk he=>h2 k he hk)];exact h
end Go.Ab
namespace Go.Ab
variable [cK]
variable {P:Program} {nt:Nat} {ds:List Deferred} {s s':St} {Γ:Cx} {a:Act} {w:World} [eE]
theorem sZ {ro:Option Nat} {ops:Array Oper} {o:Oper} {i:Nat} {Q:Exit->Act->World->Prop} {K:Act->World->Prop} (hi:ops[i]? =some o) (h1:Region.wanted o (yielded ops a.tmps)=true->o.wpIn (FW ro) 0 P a w K Q) (h2:Region.wanted o (yielded ops a.tmps)=false->K (a.put o.dst undef) w):wpOpIn (FW ro) 0 P ops Q i K a w:=by
 unfold wpOpIn;rw[hi];simp only;cases h:Region.wanted o (yielded ops a.tmps)with
 |true=>simp only[if_true];exact h1 h
 |false=>simp only[fJ,if_false];exact⟨λ_ _=>trivial,h2 h⟩
theorem xT {b:Builtin} {xs:List Operand} {ts:List TypeId} {f:AX} {l:List AX} (h:b7 P b xs ts=some (.call f l)):False:=by
 unfold b7 at h;split at h;all_goals (repeat' (split at h))
 all_goals first|(simp at h;done)|contradiction
theorem wS {b:Builtin} {xs:List Operand} {ts:List TypeId} {f:AX} {l:List AX} (h:b7 P b xs ts=some (.callq f l)):False:=by
 unfold b7 at h;split at h;all_goals (repeat' (split at h))
 all_goals first|(simp at h;done)|contradiction
theorem FK {own:Bool} {op:Op} {f:AX} {l:List AX} (h:jX P own op=some (.callq f l)):False:=by
 unfold jX at h;split at h;all_goals first|(exact wS h)|skip
 all_goals (repeat' (split at h))
 all_goals first|(simp at h;done)|contradiction
theorem aK.slz {z z':Nat} {v:Value} (h:aK Γ (.sl z [] true) v):aK Γ (.sl z' [] true) v:=by
 simp only[aK]at h⊢;cases h with
 |
  sl _ _ _ ad aX h1 h2 h3 h4 h5 h6=>
  have:=aD.sl (Γ:=Γ) z' [] true ad aX .nil (by simp) h3 h4 (λh=>absurd rfl h) .nil
  exact this
theorem OY {o:Oper} {k:AK} {own draw:Bool} {ty:TypeId} {K:PV->Prop} (hk:jX P own o.op=some k) (hs:fX nt ds s Γ a) (hw:w.heap=Γ.heap) (he:ev true s (y9 P draw ty k) K):
  ∃p v,K p∧(execOp a.eval o).run P w= .ok (.value v) w∧aK Γ p v:=by
 unfold y9 at he;split at he
 ·split at he<;>simp[ev]at he
 ·split at he
  ·rename_i e _;obtain⟨p,v,rfl,fN,hr⟩:=Cd (K:=λp=>p= .sl 0 [] true) hk hs hw rfl (by simp[ev,vg,vx]);simp only[ev,vg,vx]at he;exact⟨_,v,he,fN,hr.slz⟩
  ·exact Cd hk hs hw rfl he
 ·exact Cd hk hs hw rfl he
theorem OZ {draw:Bool} {ty:TypeId} {k:AK}:pw (y9 P draw ty k)=pw k:=by
 unfold y9;split
 ·split<;>rfl
 ·split<;>rfl
 ·rfl
theorem aal {draw:Bool} {ty:TypeId} {k:AK} (h:pw k=true):y9 P draw ty k=k:=by
 unfold y9;split
 ·simp[pw]at h
 ·simp[pw]at h
 ·rfl
theorem zb {ro:Option Nat} {o:Oper} {ao:AO} {ops:Array Oper} {own sp:List Nat} {draw:Bool} {K:St->Prop} {Kr:Act->World->Prop} {Q:Exit->Act->World->Prop} (ht:rv P nt ops own sp draw o=some ao) (hs:fX nt ds s Γ a) (hw:w.heap=Γ.heap)
  (hY:EA P Γ) (h:jT P s ao K) (hk:Hy P nt ds Γ w K Kr):o.wpIn (FW ro) 0 P a w Kr Q:=by
 unfold rv at ht;generalize (draw&& !aak own o.dst)=dr at ht;split at ht
 case h_2=>simp at ht
 rename_i k g pV hg;split at ht
 case isFalse=>simp at ht
 rename_i hd;simp only[sJ]at ht;by_cases hc:∃f args,k= .call f args
 ·obtain⟨f,args,rfl⟩:=hc
  have h':mS P s o.dst f args K:=by
   rw[←ht]at h;cases dr with
   |true=>simp only[y9,if_true,jT]at h;exact Cv h
   |false=>simp only[y9,fJ,if_false,jT]at h;exact h
  have Bo:∀j,o.dst=some j->j<nt:=by
   intro j hj;rw[hj]at hd;simpa[As]using hd
  --the operation is a call
  obtain⟨f0,args0,anI,ho,hf0,ha0⟩:∃f0 args0 anI,o.op= .call {callee:= .value f0,args:=args0,argTypes:=anI}∧gk f0=some f∧xB args0.toList=some args:=by
   cases nK:o.op with
   |
    call c=>
    obtain⟨callee,args0,tys⟩:=c
    rw[nK]at pV
    cases callee with
    |
     value f0=>
     simp only[jX]at pV
     split at pV<;>simp only[sJ,reduceCtorEq,AK.call.injEq]at pV
     rename_i g0 l0 e1 e2
     exact⟨f0,args0,tys,rfl,by rw[e1,pV.1],by rw[e2,pV.2]⟩
    |invoke r m=>simp[jX]at pV
    |
     builtin b=>
     exfalso
     simp only[jX]at pV
     exact xT pV
   |
    binOp op t x y yt=>
    exfalso
    rw[nK]at pV;simp only[jX]at pV
    repeat (split at pV<;>(try contradiction))
    all_goals first|(simp at pV;done)|(split at pV<;>first|(simp at pV;done)|(split at pV<;>first|(simp at pV;done)|(split at pV<;>first|(simp at pV;done)|(split at pV<;>simp at pV))))
   |
    _=>
    exfalso
    rw[nK]at pV
    first
    |(simp only[jX,reduceCtorEq]at pV;done)
    |(simp only[jX]at pV
      repeat (split at pV<;>(try contradiction))
      all_goals first|(simp at pV;done)|(split at pV<;>first|(simp at pV;done)|(split at pV<;>first|(simp at pV;done)|(split at pV<;>simp at pV))))
  exact HA ho hf0 ha0 hs hw Bo hY h' hk
 ·by_cases hx:pw k=true
  ·have e:jT P s ao K=ex s o.dst k K:=by
    rw[←ht];unfold jT;rw[aal hx];split
    ·rename_i heq;exact absurd ⟨_,_,heq⟩ hc
    ·rename_i heq;simp only at heq;rw[heq]at hx;simp[pw]at hx
    ·rw[if_pos hx]
   rw[e]at h;exact Oper.Au pV (OT pV hs hw hd h) hk
  ·have e:jT P s ao K->ev true s (y9 P dr o.type k) λp=>K (s.put o.dst p):=by
    rw[←ht];unfold jT;intro h;simp only at h;split at h
    ·rename_i heq;exfalso;unfold y9 at heq;split at heq
     ·exact absurd ⟨_,_,rfl⟩ hc
     ·split at heq<;>simp at heq
     ·exact absurd ⟨_,_,heq⟩ hc
    ·rename_i heq;exfalso;unfold y9 at heq;split at heq
     ·exact absurd ⟨_,_,rfl⟩ hc
     ·split at heq<;>simp at heq
     ·rw[heq]at pV;exact FK pV
    ·rw[if_neg (by rw[OZ];exact hx)]at h;exact h
   have he:=e h;obtain⟨p,v,hK,fN,hr⟩:=OY pV hs hw he;refine Oper.Au pV (p7 hs (λj hj=> ?_) (Le.refl Γ) hs.mem rfl fN hw (WF.refl w) hr hK) hk;rw[hj]at hd;unfold As at hd;split at hd
   ·rename_i heq;simp[pw]at hx
   ·rename_i heq _;simp at heq;subst heq;simpa using hd
   ·rename_i heq;simp at heq
theorem D4:aK Γ .un undef:=by simp[aK]
theorem FL {ops:Array Oper} {j sl:Nat} {want Z6:Bool} (h:xS ops (some (j,want))=some (some (sl,Z6))):(ops[j]?).bind (·.dst)=some sl∧Z6=want:=by
 unfold xS at h;simp only at h;split at h<;>simp at h;rename_i d hd;obtain⟨rfl,rfl⟩:=h;exact⟨hd,rfl⟩
theorem pJ {ro:Option Nat} {ops:Array Oper} {i:Nat} {o:Oper} {ao:AO} {own sp:List Nat} {draw:Bool} {K:St->Prop} {Kr:Act->World->Prop} {Q:Exit->Act->World->Prop} (hi:ops[i]? =some o) (ht:rv P nt ops own sp draw o=some ao) (hs:fX nt ds s Γ a) (hw:w.heap=Γ.heap)
  (hY:EA P Γ) (h:fR P s ao K) (hk:Hy P nt ds Γ w K Kr):wpOpIn (FW ro) 0 P ops Q i Kr a w:=by
 have ht0:=ht;unfold rv at ht;generalize (draw&& !aak own o.dst)=dr at ht;split at ht
 case h_2=>simp at ht
 rename_i k g pV hg;split at ht
 case isFalse=>simp at ht
 rename_i hd;simp only[sJ]at ht;have hkd:ao.k=y9 P dr o.type k:=by rw[←ht]
 have DW:ao.dst=o.dst:=by rw[←ht]
 have ZW:ao.guard=g:=by rw[←ht]
 have hmg:ao.mg=true->vv k=true:=by
  rw[←ht];intro hm;simp only[aJ]at hm;exact hm.1
 have KK:∀ {p:PV} {v:Value},(∀x y z,k≠ .store x y z)->aK Γ p v->K (s.put o.dst p)->Kr (a.put o.dst v) w:=by
  intro p v cS hr hK;refine hk _ _ _ _ (hs.put (λj hj=> ?_) hr) hw (Le.refl Γ) (WF.refl w) hK;rw[hj]at hd;unfold As at hd;split at hd
  ·exact absurd rfl (cS _ _ _)
  ·rename_i heq _;simp at heq;subst heq;simpa using hd
  ·rename_i heq;simp at heq
 have R7:K (s.put o.dst .un)->Kr (a.put o.dst undef) w:=by
  intro hK;refine hk _ _ _ _ (hs.put (λj hj=> ?_) D4) hw (Le.refl Γ) (WF.refl w) hK;rw[hj]at hd;unfold As at hd;split at hd
  ·simp at hd
  ·rename_i heq _;simp at heq;subst heq;simpa using hd
  ·rename_i heq;simp at heq
 unfold fR at h;cases hog:o.guard with
 |
  none=>
  rw[hog]at hg;simp only[xS,sJ]at hg
  rw[ZW,←hg]at h
  refine sZ hi (λ_=>zb ht0 hs hw hY h hk) (λhn=> ?_)
  simp[Region.wanted,hog]at hn
 |
  some jw=>
  obtain⟨j,aw4⟩:=jw
  rw[hog]at hg
  obtain⟨sl,want,rfl⟩:∃sl want,g=some (sl,want):=by
   unfold xS at hg;simp only at hg;split at hg<;>simp at hg;exact⟨_,_,hg.symm⟩
  obtain⟨DR,rfl⟩:=FL hg
  have Mi:Region.wanted o (yielded ops a.tmps)=(yielded ops a.tmps j==some want):=by unfold Region.wanted;rw[hog]
  have hy:∀v,a.tmps.getD sl undef=v->yielded ops a.tmps j=(match v with| .bool b=>some b|_=>none):=by
   intro v hv;unfold yielded;rw[DR];simp only[JlZ];rw[JbQ]at hv;cases ho:a.tmps[sl]?with
   |none=>rw[ho]at hv;subst hv;rfl
   |some u=>rw[ho]at hv;subst hv;cases u<;>rfl
  rw[ZW]at h
  simp only at h
  have hev:∀ {gg:Bool},ao.mg=true->ev gg s ao.k (λp=>K (s.put ao.dst (.gd gg p)))->(Region.wanted o (yielded ops a.tmps)=gg)->wpOpIn (FW ro) 0 P ops Q i Kr a w:=by
   intro gg hm he hwg;have hmm:vv k=true:=hmg hm;have cS:∀x y z,k≠ .store x y z:=by rintro x y z rfl;simp[vv]at hmm
   rw[hkd,DW]at he;refine sZ hi (λh1=> ?_) (λh1=> ?_)
   ·rw[hwg]at h1;subst h1;obtain⟨p,v,hK,fN,hr⟩:=OY pV hs hw he;refine⟨λ_ _=>trivial,?_⟩;rw[Oper.semAt_eq _ _ _ (At pV),fN];exact KK cS (p:= .gd true p) (by rw[aK];exact⟨λ_=>hr,by simp⟩) hK
   ·rw[hwg]at h1;subst h1;obtain⟨p,hK,_⟩:=tM _ _ _ _ he;exact KK cS (p:= .gd false p) (by rw[aK];exact⟨by simp,λ_=>rfl⟩) hK
  split at h
  ·rename_i b hb
   have hbv:a.tmps.getD sl undef= .bool b:=by
    cases hgs:get s.env sl with
    |none=>rw[hgs]at hb;simp at hb
    |
     some q=>
     rw[hgs]at hb;simp only[Option.getD_some]at hb;subst hb
     have:=hs.env sl _ hgs
     simp only[aK]at this
     generalize a.tmps.getD sl undef=v at this
     cases this;rfl
   have hyb:yielded ops a.tmps j=some b:=by rw[hy _ hbv]
   split at h
   ·rename_i hm
    exact hev hm h (by rw[Mi,hyb];rfl)
   ·refine sZ hi (λh1=> ?_) (λh1=> ?_)
    ·rw[Mi,hyb]at h1
     exact zb ht0 hs hw hY (h.1 (by simpa using h1)) hk
    ·rw[Mi,hyb]at h1
     exact R7 (by rw[←DW];exact h.2 (by simpa using h1))
  ·rename_i gg b hb
   have hbv:(gg=true->a.tmps.getD sl undef= .bool b)∧(gg=false->a.tmps.getD sl undef=undef):=by
    cases hgs:get s.env sl with
    |none=>rw[hgs]at hb;simp at hb
    |
     some q=>
     rw[hgs]at hb;simp only[Option.getD_some]at hb;subst hb
     have:=hs.env sl _ hgs
     rw[aK]at this
     refine⟨λhg=> ?_,this.2⟩
     have:=this.1 hg
     simp only[aK]at this
     generalize a.tmps.getD sl undef=v at this
     cases this;rfl
   have hwg:Region.wanted o (yielded ops a.tmps)=(gg&&b==want):=by
    rw[Mi];cases gg with
    |true=>rw[hy _ (hbv.1 rfl)];rfl
    |false=>rw[hy _ (hbv.2 rfl)];simp[undef]
   split at h
   ·rename_i hm
    exact hev hm h hwg
   ·refine sZ hi (λh1=> ?_) (λh1=> ?_)
    ·rw[hwg]at h1
     simp only[aJ,beq_iff_eq]at h1
     exact zb ht0 hs hw hY (h.1 h1.1 h1.2) hk
    ·rw[hwg]at h1
     have h2:=h.2 (λhg pH=>by rw[hg,pH]at h1;simp at h1)
     exact R7 (by rw[←DW];exact h2)
  ·exact h.elim
end Go.Ab
namespace Go.Ab
variable [cK]
variable {P:Program} {nt:Nat} {ds:List Deferred} {s s':St} [eE]
def AK.free:AK->Bool
 | .mv _| .pick .. | .build .. | .un .. | .convI .. | .mkFunc .. | .field .. | .index .. | .indexS .. | .extract .. | .lenS _| .lenC _| .mm .. =>true
 |_=>false
def AO.free (o:AO):Bool:=o.k.free
def AO.qV (o:AO):Bool:=o.dst.isNone&&(match o.k with| .store .. =>true|_=>false)
theorem FM {g:Bool} {k:AK} {K:PV->Prop} (hf:k.free=true) (h:cC s s' k.reads) (he:ev g s k K):ev g s' k K:=by
 cases k with
 |mv x=>simp only[ev]at he⊢;rw[aH h];exact he
 |pick c a b=>simp only[ev]at he⊢;rw[aH h.left.left,lF h.left.right,lF h.right];exact he
 |build z parts=>simp only[ev]at he⊢;rw[nP h];exact he
 |un op x=>simp only[ev]at he⊢;rw[aH h];exact he
 |convI k x=>simp only[ev]at he⊢;rw[aH h];exact he
 |mkFunc f a b=>simp only[ev]at he⊢;rw[fB h.left];simp only[fB h.right];exact he
 |field i off agg w x=>simp only[ev]at he⊢;rw[aH h];exact he
 |index agg n w x i=>simp only[ev]at he⊢;rw[aH h.left,aH h.right];exact he
 |indexS x i=>simp only[ev]at he⊢;rw[aH h.left,aH h.right];exact he
 |extract i x=>simp only[ev]at he⊢;rw[lF h];exact he
 |lenS x=>simp only[ev]at he⊢;rw[aH h];exact he
 |lenC n=>simp only[ev]at he⊢;exact he
 |mm mx xs=>simp only[ev]at he⊢;rw[fB h];exact he
 |_=>simp[AK.free]at hf
theorem Jt {o:AO} (h:o.free=true):o.quiet=true:=by
 obtain⟨d,g,m,k⟩:=o;cases k<;>simp[AO.free,AK.free]at h<;>rfl
theorem Cz {o:AO} {K:St->Prop} (hf:o.free=true) (h:jT P s o K):
  ∃v,K (s.put o.dst v)∧∀s',cC s s' o.k.reads->∀K':St->Prop,K' (s'.put o.dst v)->jT P s' o K':=by
 obtain⟨dst,guard,mg,k⟩:=o
 have e:∀(s:St) K,jT P s ⟨dst,guard,mg,k⟩ K=ev true s k λp=>K (s.put dst p):=by
  intro s K;cases k<;>first|rfl|(simp[AO.free,AK.free]at hf;done)
 rw[e]at h;obtain⟨v,hK,hv⟩:=tM _ _ _ _ h;refine⟨v,hK,λs' ha K' kR=> ?_⟩;rw[e];exact FM hf ha (hv _ kR)
def Qf (P:Program) (r:St) (o:AO) (v:PV):Prop:=∀s':St,cC r s' o.reads->∀K':St->Prop,K' (s'.put o.dst v)->fR P s' o K'
theorem HC {o:AO} {K:St->Prop} (hq:o.free=true) (h:fR P s o K):∃v,K (s.put o.dst v)∧Qf P s o v:=by
 unfold fR at h;cases hg:o.guard with
 |
  none=>
  rw[hg]at h
  obtain⟨v,hK,hv⟩:=Cz hq h
  refine⟨v,hK,λs' ha K' kR=> ?_⟩
  unfold fR;rw[hg]
  exact hv s' ha.right K' kR
 |
  some gw=>
  obtain⟨sl,want⟩:=gw
  rw[hg]at h
  simp only at h
  have b6:∀ {s':St},cC s s' o.reads->get s'.env sl=get s.env sl:=λha=>ha sl (by simp[AO.reads,hg])
  split at h
  ·rename_i b hb
   split at h
   ·rename_i hm
    obtain⟨v,hK,hv⟩:=tM _ _ _ _ h
    refine⟨_,hK,λs' ha K' kR=> ?_⟩
    unfold fR;rw[hg];simp only[b6 ha,hb,hm,if_true]
    exact FM hq ha.right (hv _ kR)
   ·rename_i hm
    by_cases pH:b=want
    ·obtain⟨v,hK,hv⟩:=Cz hq (h.1 pH)
     refine⟨v,hK,λs' ha K' kR=> ?_⟩
     unfold fR;rw[hg];simp only[b6 ha,hb,hm]
     exact⟨λ_=>hv s' ha.right K' kR,λhn=>absurd pH hn⟩
    ·refine⟨.un,h.2 pH,λs' ha K' kR=> ?_⟩
     unfold fR;rw[hg];simp only[b6 ha,hb,hm]
     exact⟨λhn=>absurd hn pH,λ_=>kR⟩
  ·rename_i g b hb
   split at h
   ·rename_i hm
    obtain⟨v,hK,hv⟩:=tM _ _ _ _ h
    refine⟨_,hK,λs' ha K' kR=> ?_⟩
    unfold fR;rw[hg];simp only[b6 ha,hb,hm,if_true]
    exact FM hq ha.right (hv _ kR)
   ·rename_i hm
    by_cases pH:g=true∧b=want
    ·obtain⟨v,hK,hv⟩:=Cz hq (h.1 pH.1 pH.2)
     refine⟨v,hK,λs' ha K' kR=> ?_⟩
     unfold fR;rw[hg];simp only[b6 ha,hb,hm]
     exact⟨λ_ _=>hv s' ha.right K' kR,λhn=>absurd pH.2 (hn pH.1)⟩
    ·refine⟨.un,h.2 (λh1 h2=>pH ⟨h1,h2⟩),λs' ha K' kR=> ?_⟩
     unfold fR;rw[hg];simp only[b6 ha,hb,hm]
     exact⟨λh1 h2=>absurd ⟨h1,h2⟩ pH,λ_=>kR⟩
  ·exact h.elim
theorem FN {o:AO} {K:St->Prop} (hq:o.qV=true) (h:jT P s o K):
  ∃b,K {s with bx:=b}∧∀s',s'.bx=s.bx->cC s s' o.k.reads->∀K':St->Prop,K' {s' with bx:=b}->jT P s' o K':=by
 obtain⟨dst,guard,mg,k⟩:=o;simp only[AO.qV,aJ]at hq;cases k<;>simp at hq;rename_i n x y;simp only[jT,pw,if_true,ex]at h⊢;obtain⟨p,h,h1⟩:=ss _ _ _ _ h;obtain⟨v,h,h2⟩:=ss _ _ _ _ h;cases p<;>simp only at h
 case pt k pth aN=>
  split at h
  case h_2=>exact h.elim
  rename_i blk hb;split at h
  case h_2=>exact h.elim
  rename_i bq sN;obtain⟨hc,hK⟩:=h;refine⟨_,hK,λs' ly ha K' kR=> ?_⟩;rw[aH ha.left];refine h1 _ ?_;rw[aH ha.right];refine h2 _ ?_;simp only[ly,hb,sN];exact⟨hc,kR⟩
theorem zc {o:AO} {K:St->Prop} (hq:o.qV=true) (h:fR P s o K):
  ∃b,K {s with bx:=b}∧∀s',s'.bx=s.bx->cC s s' o.reads->∀K':St->Prop,K' {s' with bx:=b}->fR P s' o K':=by
 have hd:o.dst=none:=by simp[AO.qV]at hq;exact hq.1
 have KK:∀(s:St) p,s.put o.dst p=s:=by intro s p;rw[hd];rfl
 have R8:∀(g:Bool) (s:St) K,ev g s o.k K->False:=by
  intro g s K h;obtain⟨dst,guard,mg,k⟩:=o;cases k<;>simp[AO.qV]at hq;simp[ev]at h
 unfold fR at h;cases hg:o.guard with
 |
  none=>
  rw[hg]at h
  obtain⟨b,hK,hv⟩:=FN hq h
  refine⟨b,hK,λs' hb ha K' kR=> ?_⟩
  unfold fR;rw[hg]
  exact hv s' hb ha.right K' kR
 |
  some gw=>
  obtain⟨sl,want⟩:=gw
  rw[hg]at h
  simp only at h
  have b6:∀ {s':St},cC s s' o.reads->get s'.env sl=get s.env sl:=λha=>ha sl (by simp[AO.reads,hg])
  split at h
  ·rename_i b hb
   split at h
   ·exact(R8 _ _ _ h).elim
   ·rename_i hm
    by_cases pH:b=want
    ·obtain⟨v,hK,hv⟩:=FN hq (h.1 pH)
     refine⟨v,hK,λs' ly ha K' kR=> ?_⟩
     unfold fR;rw[hg];simp only[b6 ha,hb,hm]
     exact⟨λ_=>hv s' ly ha.right K' kR,λhn=>absurd pH hn⟩
    ·refine⟨s.bx,by have:=h.2 pH;rw[KK]at this;exact this,λs' ly ha K' kR=> ?_⟩
     unfold fR;rw[hg];simp only[b6 ha,hb,hm]
     exact⟨λhn=>absurd hn pH,λ_=>by rw[KK];rw[←ly]at kR;exact kR⟩
  ·rename_i g b hb
   split at h
   ·exact(R8 _ _ _ h).elim
   ·rename_i hm
    by_cases pH:g=true∧b=want
    ·obtain⟨v,hK,hv⟩:=FN hq (h.1 pH.1 pH.2)
     refine⟨v,hK,λs' ly ha K' kR=> ?_⟩
     unfold fR;rw[hg];simp only[b6 ha,hb,hm]
     exact⟨λ_ _=>hv s' ly ha.right K' kR,λhn=>absurd pH.2 (hn pH.1)⟩
    ·refine⟨s.bx,by have:=h.2 (λh1 h2=>pH ⟨h1,h2⟩);rw[KK]at this;exact this,λs' ly ha K' kR=> ?_⟩
     unfold fR;rw[hg];simp only[b6 ha,hb,hm]
     exact⟨λh1 h2=>absurd ⟨h1,h2⟩ pH,λ_=>by rw[KK];rw[←ly]at kR;exact kR⟩
  ·exact h.elim
theorem HD {d:Option Nat} {v:PV} {b:List (Nat×aU)}:({s with bx:=b}:St).put d v= {s.put d v with bx:=b}:=by cases d<;>rfl
theorem cC.bx {l:List Nat} {b:List (Nat×aU)}:cC s {s with bx:=b} l:=λ_ _=>rfl
theorem cC.xH {l:List Nat} {b:List (Nat×aU)}:cC {s with bx:=b} s l:=λ_ _=>rfl
def AO.comm (y x:AO):Bool:=y.apart x&&(y.quiet&&x.quiet||y.free&&x.qV||y.qV&&x.free)
theorem O0 {y x:AO} {K:St->Prop} (h:y.comm x=true) (hh:fR P s y λs1=>fR P s1 x K):fR P s x λs2=>fR P s2 y K:=by
 simp only[AO.comm,aJ,JoQ]at h;obtain⟨ef,h⟩:=h;have h1:∀d,y.dst=some d->d∉x.reads:=λd hd=>by simp[AO.apart,hd]at ef;exact ef.1.1
 have h3:∀d,x.dst=some d->d∉y.reads:=λd hd=>by simp[AO.apart,hd]at ef;exact ef.2
 rcases h with(h|h)|h
 ·exact OX h.1 h.2 ef hh
 ·obtain⟨v,hh,hv⟩:=HC h.1 hh;obtain⟨b,hh,hb⟩:=zc h.2 hh;refine hb s (ir _ _).symm (cC.ah8 h1) _ ?_;refine hv _ cC.bx _ ?_;rw[HD];exact hh
 ·obtain⟨b,hh,hb⟩:=zc h.1 hh;obtain⟨v,hh,hv⟩:=HC h.2 hh;refine hv s cC.xH _ ?_;refine hb _ (ir _ _) (cC.put h3) _ ?_;rw[HD]at hh;exact hh
theorem MM {y x:AO} {K K':St->Prop} (h:y.comm x=true) (hk:∀s,K s->K' s) (hh:fR P s y K):fR P s y K':=by
 simp only[AO.comm,aJ,JoQ]at h;obtain⟨_,h⟩:=h
 have hq:y.quiet=true∨y.qV=true:=by
  rcases h with(h|h)|h
  ·exact .inl h.1
  ·exact .inl (Jt h.1)
  ·exact .inr h.1
 rcases hq with hq|hq
 ·obtain⟨v,h1,h2⟩:=Js hq hh;exact h2 s rfl (λ_ _=>rfl) _ (hk _ h1)
 ·obtain⟨b,h1,h2⟩:=zc hq hh;exact h2 s rfl (λ_ _=>rfl) _ (hk _ h1)
end Go.Ab
namespace Go.Ab
variable [cK]
variable {P:Program} {nt:Nat} {ds:List Deferred} {s s':St} {Γ:Cx} {a:Act} {w:World} {Q:Exit->Act->World->Prop} [eE]
def K5 (P:Program) (s:St):List AO->(St->Prop)->Prop
 |[],K=>K s
 |o::r,K=>fR P s o λs'=>K5 P s' r K
def N7 (P:Program) (aos:List AO) (s:St):List Nat->(St->Prop)->Prop
 |[],K=>K s
 |
  i::r,K=>match aos[i]?with
  |some o=>fR P s o λs'=>N7 P aos s' r K
  |none=>False
theorem wT {aos:List AO} {K:St->Prop}:∀(n i:Nat) (s:St),i+n=aos.length->(K5 P s (aos.drop i) K↔N7 P aos s (List.range' i n) K)
 |0,i,s,h=>by simp only[List.range'_zero,N7];rw[JgV (by omega)];rfl
 |
  n+1,i,s,h=>by
  have dk:i<aos.length:=by omega
  rw[List.range'_succ,List.drop_eq_getElem_cons dk]
  simp only[K5,N7,gJ dk]
  have:(λs'=>K5 P s' (aos.drop (i+1)) K)=λs'=>N7 P aos s' (List.range' (i+1) n) K:=funext λs'=>propext (wT n (i+1) s' (by omega))
  rw[this]
noncomputable def mT (P:Program) (nt:Nat) (ops:Array Oper) (own sp:List Nat) (draw:Bool):List Oper->Option (List AO)
 |[]=>some []
 |o::r=>match rv P nt ops own sp draw o,mT P nt ops own sp draw r with|some x,some l=>some (x::l)|_,_=>none
theorem qd {ops:Array Oper} {own sp:List Nat} {draw:Bool}:∀ {os:List Oper} {aos:List AO},mT P nt ops own sp draw os=some aos->aos.length=os.length∧∀(i:Nat) o,os[i]? =some o->∃ao,aos[i]? =some ao∧rv P nt ops own sp draw o=some ao
 |[],aos,h=>by simp[mT]at h;subst h;simp
 |
  o::r,aos,h=>by
  simp only[mT]at h
  split at h
  ·rename_i x l hx hl
   simp only[sJ]at h;subst h
   obtain⟨h1,h2⟩:=qd hl
   refine⟨by simp[h1],λi o' hi=> ?_⟩
   cases i with
   |zero=>simp at hi;subst hi;exact⟨x,rfl,hx⟩
   |succ i=>simp at hi;simpa using h2 i o' hi
  ·simp at h
theorem Hy.trans {Γ1:Cx} {w1:World} {K:St->Prop} {Kr:Act->World->Prop} (h1:Le Γ Γ1) (h2:WF w w1) (h:Hy P nt ds Γ w K Kr):Hy P nt ds Γ1 w1 K Kr:=
 λs' Γ' a' w' a1 a2 a3 a4 a5=>h s' Γ' a' w' a1 a2 (h1.trans a3) (h2.trans a4) a5
theorem EE {ro:Option Nat} {ops:Array Oper} {aos:List AO} {own sp:List Nat} {draw:Bool} (nK:∀(i:Nat) o,ops[i]? =some o->∃ao,aos[i]? =some ao∧rv P nt ops own sp draw o=some ao) (hlen:aos.length=ops.size) {K:St->Prop}:
  ∀(l:List Nat) {s:St} {Γ:Cx} {a:Act} {w:World},fX nt ds s Γ a->w.heap=Γ.heap->EA P Γ->N7 P aos s l K->Hy P nt ds Γ w K (Q .normal)->wpOpsIn (FW ro) 0 P ops Q l a w
 |[],s,Γ,a,w,hs,hw,_,h,hk=>hk _ _ _ _ hs hw (Le.refl Γ) (WF.refl w) h
 |
  i::r,s,Γ,a,w,hs,hw,hY,h,hk=>by
  rw[wpOpsIn_cons]
  simp only[N7]at h
  split at h
  case h_2=>exact h.elim
  rename_i ao BV
  have hi:i<ops.size:=by rw[←hlen];exact(iJ.1 BV).1
  obtain⟨ao',h1,h2⟩:=nK i ops[i] (Array.getElem?_eq_getElem hi)
  rw[BV]at h1;cases h1
  refine pJ (Array.getElem?_eq_getElem hi) h2 hs hw hY h ?_
  intro s' Γ' a' w' b1 b2 b3 b4 b5
  exact EE nK hlen r b1 b2 (hY.le b3) b5 (hk.trans b3 b4)
theorem FO {ro:Option Nat} {ops:Array Oper} {aos:List AO} {own sp:List Nat} {id:Nat} (ht:mT P nt ops own sp false ops.toList=some aos) {K:St->Prop} (hs:fX nt ds s Γ a) (hw:w.heap=Γ.heap) (hY:EA P Γ) (h:K5 P s aos K) (hk:Hy P nt ds Γ w K (Q .normal)):
  (Code.region id ops false).wpIn (FW ro) 0 P Q a w:=by
 obtain⟨h1,h2⟩:=qd ht;refine wpIn_region (EE (λi o hi=>h2 i o (by simpa using hi)) (by simpa using h1) _ hs hw hY ?_ hk);rw[JtX];exact(wT (P:=P) ops.size 0 s (by simpa using h1.symm)).1 (by simpa using h)
inductive Ty (ops:Array Oper):Nat->Nat->Prop
 |dir {i:Nat} {o:Oper} {e:Edge}:ops[i]? =some o->e∈o.after->Region.binds .any e=true->Ty ops i e.on
 |tr {i j:Nat} {o:Oper} {e:Edge}:ops[i]? =some o->e∈o.after->Region.binds .any e=true->Ty ops e.on j->Ty ops i j
def FP (ms:List Nat):List Edge->Nat->Nat
 |[],m=>m
 |e::r,m=>FP ms r (if Region.binds .any e=true then m|||2^e.on|||ms.getD e.on 0 else m)
def fZ:List Oper->List Nat->List Nat
 |[],ms=>ms
 |o::r,ms=>fZ r (ms++[FP ms o.after.toList 0])
theorem Aw {ms:List Nat} {B:Nat->Prop}:∀(l:List Edge) (m:Nat),(∀e∈l,Region.binds .any e=true->B e.on∧∀j,(ms.getD e.on 0).testBit j=true->B j)->(∀j,m.testBit j=true->B j)->
  ∀j,(FP ms l m).testBit j=true->B j
 |[],m,_,hm,j,h=>hm j h
 |
  e::r,m,hl,hm,j,h=>by
  simp only[FP]at h
  refine Aw r _ (λe he=>hl e (by simp[he])) ?_ j h
  intro j hj
  split at hj
  ·rename_i hb
   obtain⟨h1,h2⟩:=hl e (by simp) hb
   rw[Nat.testBit_or,Nat.testBit_or,JoQ,JoQ,Nat.testBit_two_pow]at hj
   rcases hj with(hj|hj)|hj
   ·exact hm j hj
   ·simp only[decide_eq_true_eq]at hj;subst hj;exact h1
   ·exact h2 j hj
  ·exact hm j hj
theorem CA {ops:Array Oper}:∀(l done:List Oper) (ms:List Nat),ops.toList=done++l->ms.length=done.length->(∀(i:Nat) m,ms[i]? =some m->∀j,m.testBit j=true->Ty ops i j)->
  ∀(i:Nat) m,(fZ l ms)[i]? =some m->∀j,m.testBit j=true->Ty ops i j
 |[],_,ms,_,_,h=>h
 |
  o::r,done,ms,hd,hl,h=>by
  refine CA r (done++[o]) _ (by simp[hd]) (by simp[hl]) ?_
  intro i m hi j hj
  rw[List.getElem?_append]at hi
  split at hi
  ·exact h i m hi j hj
  ·rename_i hge
   have hi0:i=ms.length:=by
    have:=(iJ.1 hi).1;simp at this;omega
   subst hi0
   simp at hi
   subst hi
   have ho:ops[ms.length]? =some o:=by
    rw[←Array.getElem?_toList,hd,hl];simp
   refine Aw (B:=λj=>Ty ops ms.length j) _ 0 (λe he hb=>⟨.dir ho (by simpa using he) hb,λj hj=> .tr ho (by simpa using he) hb ?_⟩) (by simp) j hj
   cases hx:ms[e.on]?with
   |none=>rw[JaV,hx]at hj;simp at hj
   |some m=>rw[JaV,hx]at hj;exact h _ m hx j hj
def Ax (ms:List Nat) (i j:Nat):Bool:=(ms.getD i 0).testBit j
theorem CC {ops:Array Oper} {i j:Nat} (h:Ax (fZ ops.toList []) i j=true):Ty ops i j:=by
 unfold Ax at h;cases hx:(fZ ops.toList [])[i]?with
 |none=>rw[JaV,hx]at h;simp at h
 |
  some m=>
  rw[JaV,hx]at h
  exact CA ops.toList [] [] (by simp) rfl (by simp) i m hx j h
def K6 (ops:Array Oper) (aos:List AO) (ms:List Nat):Bool:=
 (List.range ops.size).all λi=>match ops[i]?,aos[i]?with
  |some o,some x=>(o.after.all λe=> !Region.binds .any e||decide (e.on<i))&&
    (List.range i).all λj=>Ax ms i j||(match aos[j]?with|some y=>y.comm x|none=>false)
  |_,_=>false
def FQ (ops:Array Oper) (aos:List AO):Bool:=K6 ops aos (fZ ops.toList [])
def rz (ops:Array Oper) (listed:Array Bool):Prop:=
 ∀(k:Nat) o,ops[k]? =some o->listed.getD k true=true->∀e∈o.after,Region.binds .any e=true->listed.getD e.on false=true
theorem Ju {ops:Array Oper} {listed:Array Bool} (hc:rz ops listed) {i j:Nat} (h:Ty ops i j):listed.getD i false=true->listed.getD j false=true:=by
 have up:∀i:Nat,listed.getD i false=true->listed.getD i true=true:=by
  intro i hl
  have hi:i<listed.size:=by
   rcases Nat.lt_or_ge i listed.size with h'|h'
   ·exact h'
   ·simp[Array.getElem?_eq_none h']at hl
  simpa[JbQ,Array.getElem?_eq_getElem hi]using hl
 induction h with
 |dir ho he hb=>intro hl;exact hc _ _ ho (up _ hl) _ he hb
 |tr ho he hb _ ih=>intro hl;exact ih (hc _ _ ho (up _ hl) _ he hb)
theorem zd {ops:Array Oper} {listed:Array Bool} (hc:rz ops listed) {i j:Nat} (h:Ty ops i j) (hr:i∈Region.ready .any ops listed):listed.getD j false=true:=by
 obtain⟨_,o,ho,cy⟩:=mem_ready.1 hr;cases h with
 |dir ho' he hb=>rw[ho]at ho';cases ho';exact cy _ he hb
 |tr ho' he hb h2=>rw[ho]at ho';cases ho';exact Ju hc h2 (cy _ he hb)
theorem EF {aos:List AO} {K:St->Prop} {i:Nat} {x:AO} (hi:aos[i]? =some x) (l2:List Nat):∀(l1:List Nat) (s:St),
  (∀j∈l1,∃y,aos[j]? =some y∧y.comm x=true)->N7 P aos s (l1++i::l2) K->fR P s x λs'=>N7 P aos s' (l1++l2) K
 |[],s,_,h=>by simpa[N7,hi]using h
 |
  j::l1,s,cy,h=>by
  obtain⟨y,hy,ef⟩:=cy j (by simp)
  simp only[JeZ,N7,hy]at h⊢
  exact O0 ef (MM ef (λs' h'=>EF hi l2 l1 s' (λk hk=>cy k (by simp[hk])) h') h)
theorem arK {ro:Option Nat} {ops:Array Oper} {aos:List AO} {own sp:List Nat} (nK:∀(i:Nat) o,ops[i]? =some o->∃ao,aos[i]? =some ao∧rv P nt ops own sp true o=some ao) (hlen:aos.length=ops.size) (df:FQ ops aos=true) {K:St->Prop}:
  ∀
   (n:Nat) (listed:Array Bool) {s:St} {Γ:Cx} {a:Act} {w:World},listed.size=ops.size->rz ops listed->((List.range ops.size).filter λi=> !listed.getD i true).length=n->
   fX nt ds s Γ a->w.heap=Γ.heap->EA P Γ->N7 P aos s ((List.range ops.size).filter λi=> !listed.getD i true) K->Hy P nt ds Γ w K (Q .normal)->wpAnyIn (FW ro) 0 P .any ops Q n listed a w:=by
 simp only[FQ,K6,JeX,JiQ]at df;have hoi:=df
 --what is first is ready
 have KL:∀listed:Array Bool,listed.size=ops.size->Region.ready .any ops listed=[]->((List.range ops.size).filter λi=> !listed.getD i true)=[]:=by
  intro listed fA hr;cases hl:(List.range ops.size).filter λi=> !listed.getD i true with
  |nil=>rfl
  |
   cons i l=>
   exfalso
   have hm:∀j,j∈i::l↔j<ops.size∧listed.getD j true=false:=by intro j;rw[←hl];simp
   have Mj:(i::l).Pairwise (·<·):=by rw[←hl];exact(List.pairwise_lt_range).filter _
   obtain⟨hi,Ol⟩:=(hm i).1 (by simp)
   have KM:=hoi i hi
   obtain⟨ao,BV,_⟩:=nK i ops[i] (Array.getElem?_eq_getElem hi)
   rw[Array.getElem?_eq_getElem hi,BV]at KM
   simp only[aJ,Array.all_eq_true_iff_forall_mem,JoQ,JhZ,decide_eq_true_eq]at KM
   have:i∈Region.ready .any ops listed:=by
    rw[mem_ready];refine⟨Ol,ops[i],Array.getElem?_eq_getElem hi,λe he hb=> ?_⟩;have dk:=(KM.1 e he).resolve_left (by simp[hb]);cases hx:listed.getD e.on false with
    |true=>rfl
    |
     false=>
     have adU:e.on<listed.size:=by omega
     have hu:listed.getD e.on true=false:=by
      simpa[JbQ,Array.getElem?_eq_getElem adU]using hx
     have iA:=(hm e.on).2 ⟨by omega,hu⟩
     rcases cJ.1 iA with h|h
     ·omega
     ·have:=JhV Mj h;omega
   rw[hr]at this;simp at this
 intro n;induction n with
 |
  zero=>
  intro listed s Γ a w fA hc hn hs hw hY h hk
  have hl:=JmX.1 hn
  rw[hl]at h
  refine⟨?_,hk _ _ _ _ hs hw (Le.refl Γ) (WF.refl w) h⟩
  rw[JrX]
  intro i hi
  have h0:=(mem_ready.1 hi)
  obtain⟨h1,o,ho,_⟩:=h0
  have:i∈(List.range ops.size).filter λi=> !listed.getD i true:=by
   rw[JgQ,JiQ];exact⟨(Array.getElem?_eq_some_iff.1 ho).1,by rw[h1];rfl⟩
  rw[hl]at this;simp at this
 |
  succ n ih=>
  intro listed s Γ a w fA hc hn hs hw hY h hk
  refine⟨λhr=> ?_,λi hi=> ?_⟩
  ·rw[KL listed fA hr]at hn;simp at hn
  ·obtain⟨Ol,o,ho,cy⟩:=mem_ready.1 hi
   have dk:=(Array.getElem?_eq_some_iff.1 ho).1
   obtain⟨ao,BV,N0⟩:=nK i o ho
   have iA:i∈(List.range ops.size).filter λi=> !listed.getD i true:=by
    rw[JgQ,JiQ];exact⟨dk,by rw[Ol];rfl⟩
   obtain⟨l1,l2,hl⟩:=List.append_of_mem iA
   have Mj:(l1++i::l2).Pairwise (·<·):=by rw[←hl];exact(List.pairwise_lt_range).filter _
   have Ha:(l1++i::l2).Nodup:=Mj.imp (λh=>Nat.ne_of_lt h)
   have pn:(List.range ops.size).filter (λj=> !(listed.setIfInBounds i true).getD j true)=l1++l2:=by
    have e:(λj=> !(listed.setIfInBounds i true).getD j true)=λj=>(decide (j≠i))&& !listed.getD j true:=by
     funext j;by_cases Af:i=j
     ·subst Af;simp[JbQ,uJ (by omega:i<listed.size)]
     ·rw[getD_set_ne true Af];simp[Ne.symm Af]
    rw[e,←JkZ,hl,JkV,JpV];simp only[ne_eq,not_true,decide_false,fJ,if_false];have Hb:=JgJ.1 Ha;rw[JfX.2,JfX.2]
    ·intro x hx;simp;rintro rfl;exact(JiZ.1 Hb.2.1).1 hx
    ·intro x hx;simp;rintro rfl;exact Hb.2.2 x hx x (by simp) rfl
   rw[hl]at h hn
   have anL:∀j∈l1,j<i:=λj hj=>by
    have:=(JdQ.1 Mj).2.2 j hj i (by simp);exact this
   have avc:∀j∈l1,listed.getD j true=false:=λj hj=>by
    have:j∈(List.range ops.size).filter λi=> !listed.getD i true:=by rw[hl];simp[hj]
    simpa using(JgQ.1 this).2
   have KM:=hoi i dk
   rw[ho,BV]at KM
   simp only[aJ,JeX,JiQ,JoQ]at KM
   have hf:=EF (P:=P) (K:=K) BV l2 l1 s (λj hj=>by
    have Er:=KM.2 j (anL j hj);rcases Er with hb|hb
    ·have:=zd hc (CC hb) hi;have hx:=avc j hj;have Bp:j<listed.size:=by have:=anL j hj;omega
     simp[JbQ,Array.getElem?_eq_getElem Bp]at this hx;rw[this]at hx;simp at hx
    ·split at hb
     ·rename_i y hy;exact⟨y,hy,hb⟩
     ·simp at hb) h
   refine pJ ho N0 hs hw hY hf ?_
   intro s' Γ' a' w' b1 b2 b3 b4 b5
   refine ih (listed.setIfInBounds i true) (by simp[fA]) ?_ (by rw[pn];simp at hn⊢;omega) b1 b2 (hY.le b3) (by rw[pn];exact b5) (hk.trans b3 b4)
   intro k ok Ag qF e he hb
   by_cases GV:i=k
   ·subst GV;rw[ho]at Ag;cases Ag;exact getD_set_true (cy e he hb)
   ·rw[getD_set_ne true GV]at qF;exact getD_set_true (hc k ok Ag qF e he hb)
theorem xU {ro:Option Nat} {ops:Array Oper} {aos:List AO} {own sp:List Nat} {id:Nat} (hm:P.follows .mixedOrders=true) (ht:mT P nt ops own sp true ops.toList=some aos) (df:FQ ops aos=true) {K:St->Prop} (hs:fX nt ds s Γ a) (hw:w.heap=Γ.heap) (hY:EA P Γ) (h:K5 P s aos K) (hk:Hy P nt ds Γ w K (Q .normal)):
  (Code.region id ops true).wpIn (FW ro) 0 P Q a w:=by
 obtain⟨h1,h2⟩:=qd ht
 have e:((List.range ops.size).filter λi=> !(Array.replicate ops.size false).getD i true)=List.range ops.size:=by
  rw[JfX];intro i hi;rw[JiQ]at hi;simp[JbQ,hi]
 refine wpIn_region_any hm (arK (s:=s) (Γ:=Γ) (K:=K) (λi o hi=>h2 i o (by simpa using hi)) (by simpa using h1) df _ _ (by simp) ?_ (by rw[e];simp) hs hw hY ?_ ?_)
 ·intro k o Z7 hl;have:=(Array.getElem?_eq_some_iff.1 Z7).1;simp[JbQ,this]at hl
 ·rw[e,JtX];exact(wT (P:=P) ops.size 0 s (by simpa using h1.symm)).1 (by simpa using h)
 ·intro s' Γ' a' w' b1 b2 b3 b4 b5;exact hk s' Γ' a' w' b1 b2 b3 ⟨b4.os,b4.tape,b4.output⟩ b5
end Go.Ab
namespace Go.Ab
variable [cK]
variable {P:Program} {nt:Nat} {ds:List Deferred} {s:St} {Γ Δ:Cx} {a:Act} {w:World}
mutual
def iQ (k sz:Nat) (l0:List PV):PV->PV
 | .rs k' p off len aN bN c=>if k'=k then(if aN=l0.length∧p=[]∧bN=sz∧off+len≤l0.length then .sl sz ((l0.drop off).take len) (decide (c= .clip))else .un)else .rs k' p off len aN bN c
 | .pt k' p aN=>if k'=k then(if aN=l0.length then .fp sz l0 p else .un)else .pt k' p aN
 | .st w l=> .st w (jf k sz l0 l)
 | .ar z n l=> .ar z n (jf k sz l0 l)
 | .tup l=> .tup (jf k sz l0 l)
 | .sl z l c=> .sl z (jf k sz l0 l) c
 | .fp z l p=> .fp z (jf k sz l0 l) p
 | .fn f x y=> .fn f (jf k sz l0 x) (jf k sz l0 y)
 | .gd b p=> .gd b (iQ k sz l0 p)
 | .ifc t p=> .ifc t (iQ k sz l0 p)
 |p=>p
def jf (k sz:Nat) (l0:List PV):List PV->List PV
 |[]=>[]
 |p::l=>iQ k sz l0 p::jf k sz l0 l
end
def Ba (k sz:Nat) (l0:List PV):aU->aU
 | .box v=> .box (iQ k sz l0 v)
 | .arr z l=> .arr z (jf k sz l0 l)
 | .map b ks vs l=> .map b ks vs l
variable {k sz:Nat} {l0:List PV}
theorem vz (p:PV):(iQ k sz l0 p).width=p.width:=by
 cases p<;>simp only[iQ]<;>(try split)<;>(try split)<;>simp[PV.width]
theorem nQ (p:PV):(iQ k sz l0 p).isAgg=p.isAgg:=by
 cases p<;>simp only[iQ]<;>(try split)<;>(try split)<;>simp[PV.isAgg]
theorem oo (l:List PV):(jf k sz l0 l).length=l.length:=by induction l<;>simp[jf, *]
theorem su {l:List PV} {q:PV} (h:q∈jf k sz l0 l):∃p∈l,q=iQ k sz l0 p:=by
 induction l with
 |nil=>simp[jf]at h
 |
  cons x l ih=>
  simp only[jf,cJ]at h
  rcases h with h|h
  ·exact⟨x,by simp,h⟩
  ·obtain⟨p,hp,e⟩:=ih h;exact⟨p,by simp[hp],e⟩
theorem xV (b:aU):(Ba k sz l0 b).aN=b.aN:=by cases b<;>simp[Ba,aU.aN,oo]
mutual
theorem FR:∀p,af (λj=>decide (j≠k)) p=true->iQ k sz l0 p=p
 | .rs k' _ _ _ _ _ _,hp=>by simp only[af,decide_eq_true_eq]at hp;simp[iQ,hp]
 | .pt k' _ _,hp=>by simp only[af,decide_eq_true_eq]at hp;simp[iQ,hp]
 | .st _ l,hp=>by simp only[af]at hp;simp[iQ,px l hp]
 | .ar _ _ l,hp=>by simp only[af]at hp;simp[iQ,px l hp]
 | .tup l,hp=>by simp only[af]at hp;simp[iQ,px l hp]
 | .sl _ l _,hp=>by simp only[af]at hp;simp[iQ,px l hp]
 | .fp _ l _,hp=>by simp only[af]at hp;simp[iQ,px l hp]
 | .fn _ x y,hp=>by simp only[af,aJ]at hp;simp[iQ,px x hp.1,px y hp.2]
 | .gd _ p,hp=>by simp only[af]at hp;simp[iQ,FR p hp]
 | .ifc _ p,hp=>by simp only[af]at hp;simp[iQ,FR p hp]
 | .un,_=>by simp[iQ]
 | .bl _,_=>by simp[iQ]
 | .int _ _,_=>by simp[iQ]
 | .str _,_=>by simp[iQ]
 | .np,_=>by simp[iQ]
 | .nf,_=>by simp[iQ]
 | .ni,_=>by simp[iQ]
 | .mp ..,_=>by simp[iQ]
theorem px:∀l,ah (λj=>decide (j≠k)) l=true->jf k sz l0 l=l
 |[],_=>rfl
 |p::l,hp=>by simp only[ah,aJ]at hp;simp[jf,FR p hp.1,px l hp.2]
end
structure Frz (Γ Δ:Cx) (k sz:Nat) (l0:List PV):Prop where
 heap:Δ.heap=Γ.heap
 own:∀b,b<Γ.heap.size->¬Γ.own b->¬Δ.own b
 ref:∀k' blk,k'≠k->get Γ.bx k'=some blk->∃bq,get Δ.bx k'=some bq∧bq.aN=blk.aN∧Δ.ι k'=Γ.ι k'
 here:∀blk,get Γ.bx k=some blk->blk= .arr sz l0
 wd:∀x∈l0,x.width=sz
 cells:∀b,Γ.ι k=some b->b<Γ.heap.size∧¬Δ.own b∧∃c e cs rest,Γ.heap[b]? =some (.cells c e (0,0))∧c.toList=cs++rest∧aD Δ l0 cs
theorem aD.iQ (hf:Frz Γ Δ k sz l0) {l:List PV} {cs:List Value} (h:aD Γ l cs):aD Δ (jf k sz l0 l) cs:=by
 induction h with
 |nil=>exact .nil
 |un h hr ih=>exact .un h ih
 |bl x hr ih=>exact .bl x ih
 |int k n hr ih=>exact .int k n ih
 |str l s h hr ih=>exact .str l s h ih
 |st w l hl hw hr ihl ih=>exact .st w _ ihl hw ih
 |
  ar z n l hl hn hw hr ihl ih=>
  refine .ar z n _ ihl (by rw[oo];exact hn) (λx hx=> ?_) ih
  obtain⟨p,hp,rfl⟩:=su hx
  rw[vz];exact hw p hp
 |
  sl z l clip ad aX hl hw hc hk hb hr ihl ih=>
  have:=aD.sl (Γ:=Δ) z (jf k sz l0 l) clip ad aX ihl (λx hx=>by obtain⟨p,hp,rfl⟩:=su hx;rw[vz];exact hw p hp) (by rw[oo];exact hc) (by rw[oo];exact hk)
   (λcS=>by
    obtain⟨b,o,h1,h2,h3,h4⟩:=hb (by intro h;subst h;simp[jf]at cS);exact⟨b,o,h1,by rw[hf.heap];exact h2,hf.own b h2 h3,by rw[hf.heap];exact h4⟩) ih
  rw[oo]at this
  exact this
 |
  rs k' p off len aN bN c v blk hg h1 hv hr ih=>
  simp only[jf,Ab.iQ]
  by_cases hk:k'=k
  ·rw[if_pos hk]
   subst hk
   have lu:=hf.here blk hg.1
   subst lu
   split
   ·rename_i hc
    obtain⟨ht,hp,fA,hle⟩:=hc
    subst hp fA
    obtain⟨ad,aX,rfl,S8⟩:=hv (by simpa[aU.aN]using ht)
    have hlen:((l0.drop off).take len).length=len:=by simp;omega
    unfold gX at S8
    cases hι:Γ.ι k' with
    |
     none=>
     rw[hι]at S8
     obtain⟨rfl,rfl,_⟩:=S8
     have:=aD.sl (Γ:=Δ) bN ((l0.drop off).take 0) (decide (c= .clip)) ad 0 (cs:=[]) (by simpa using aD.nil) (by simp) (by simp) (by simp) (by simp) ih
     simpa using this
    |
     some b=>
     rw[hι]at S8
     obtain⟨hlr,had,rh,_⟩:=S8
     obtain⟨R6,AU,cc,e,cs,rest,hh,DU,G9⟩:=hf.cells b hι
     have qP:=(G9.Xp hf.wd off (by omega)).Hl (λx hx=>hf.wd x (JdJ hx)) len (by simp;omega)
     have N1:cs.length=l0.length*bN:=by rw[G9.length,bf hf.wd]
     have:=aD.sl (Γ:=Δ) bN ((l0.drop off).take len) (decide (c= .clip)) ad aX qP (λx hx=>hf.wd x (JdJ (JbX hx))) (by rw[hlen];exact hlr) (by rw[hlen];intro e;exact pg.clip rh (of_decide_eq_true e))
      (λcS=>by
       have aw6:len≠0:=by rintro rfl;simp at cS
       refine⟨b,off*bN,?_,by rw[hf.heap];exact R6,AU,λi x hi=> ?_⟩
       ·rcases had with h|h
        ·omega
        ·simpa[bI]using h
       ·rw[List.getElem?_take]at hi;split at hi
        ·rw[List.getElem?_drop]at hi;simp only[cell,hf.heap,hh];rw[←Array.getElem?_toList,DU];have dk:=(iJ.1 hi).1;rw[List.getElem?_append_left dk];exact hi
        ·simp at hi) ih
     rw[hlen]at this
     exact this
   ·exact .un h1 ih
  ·rw[if_neg hk]
   obtain⟨bq,g1,g2,g3⟩:=hf.ref k' blk hk hg.1
   refine .rs k' p off len aN bN c v bq ⟨g1,by rw[g2];exact hg.2⟩ h1 (λht=> ?_) ih
   obtain⟨ad,aX,e1,e2⟩:=hv (by rw[ht,g2])
   exact⟨ad,aX,e1,e2.aE g3 hf.heap⟩
 |np hr ih=>exact .np ih
 |
  pt k' p aN v blk hg h1 hv hr ih=>
  simp only[jf,Ab.iQ]
  by_cases hk:k'=k
  ·rw[if_pos hk]
   subst hk
   have lu:=hf.here blk hg.1
   subst lu
   split
   ·rename_i ht
    obtain⟨b,hι,rfl⟩:=hv (by simpa[aU.aN]using ht)
    obtain⟨R6,AU,cc,e,cs,rest,hh,DU,G9⟩:=hf.cells b hι
    have:=aD.fp (Γ:=Δ) sz l0 p b 0 G9 hf.wd ⟨by rw[hf.heap];exact R6,AU⟩ (λi x hi=>by
     simp only[cell,hf.heap,hh];rw[←Array.getElem?_toList,DU,JhX];have dk:=(iJ.1 hi).1;rw[List.getElem?_append_left dk];exact hi) ih
    simpa using this
   ·exact .un h1 ih
  ·rw[if_neg hk]
   obtain⟨bq,g1,g2,g3⟩:=hf.ref k' blk hk hg.1
   refine .pt k' p aN v bq ⟨g1,by rw[g2];exact hg.2⟩ h1 (λht=> ?_) ih
   obtain⟨b,e1,e2⟩:=hv (by rw[ht,g2])
   exact⟨b,by rw[g3,e1],e2⟩
 |
  fp z l p b o hl hw hm hc hr ihl ih=>
  exact .fp z _ p b o ihl (λx hx=>by obtain⟨p,hp,rfl⟩:=su hx;rw[vz];exact hw p hp) ⟨by rw[hf.heap];exact hm.1,hf.own b hm.1 hm.2⟩ (by rw[hf.heap];exact hc) ih
 |
  fn g first cap h1 h2 h3 h4 hr i1 i2 ih=>
  exact .fn g _ _ i1 i2 (λx hx=>by obtain⟨p,hp,rfl⟩:=su hx;rw[nQ];exact h3 p hp) (λx hx=>by obtain⟨p,hp,rfl⟩:=su hx;rw[nQ];exact h4 p hp) ih
 |nf hr ih=>exact .nf ih
 |
  ifc t v h1 h2 hr i1 ih=>
  simp only[jf]at i1
  exact .ifc t _ i1 (by rw[nQ];exact h2) ih
 |ni hr ih=>exact .ni ih
 |mp k b hr ih=>exact .mp k b ih
theorem aD.CD (hf:Frz Γ Δ k sz l0) {p:PV} {cs:List Value} (h:aD Γ [p] cs):aD Δ [Ab.iQ k sz l0 p] cs:=by
 have:=h.iQ hf;simpa only[jf]using this
theorem aD.ah9 {p:PV} {v:Value} (h:aD Γ [p] [v]) (ha:p.isAgg=false):gI Γ p v:=by
 cases p<;>simp[PV.isAgg]at ha<;>first|(simp only[gI];done)|(simp only[gI];exact h)
theorem gI.iQ (hf:Frz Γ Δ k sz l0) {p:PV} {v:Value} (h:gI Γ p v):gI Δ (Ab.iQ k sz l0 p) v:=by
 cases p
 case un=>trivial
 case st w l=>obtain⟨cs,h1,h2⟩:=h;exact⟨cs,h1,h2.CD hf⟩
 case ar z n l=>obtain⟨cs,h1,h2⟩:=h;exact⟨cs,h1,h2.CD hf⟩
 case rs=>exact(aD.CD hf h).ah9 (by rw[nQ];rfl)
 case pt=>exact(aD.CD hf h).ah9 (by rw[nQ];rfl)
 all_goals exact aD.CD hf h
theorem aK.iQ (hf:Frz Γ Δ k sz l0):∀ {p:PV} {v:Value},aK Γ p v->aK Δ (Ab.iQ k sz l0 p) v:=by
 have h2:∀ {l:List PV} {vs:List Value},kI Γ l vs->kI Δ (jf k sz l0 l) vs:=by
  intro l;induction l with
  |nil=>intro vs h;cases vs<;>simp_all [kI,jf]
  |
   cons p l ih=>
   intro vs h
   cases vs with
   |nil=>simp[kI]at h
   |cons v vs=>simp only[kI,jf]at h⊢;exact⟨h.1.iQ hf,ih h.2⟩
 intro p;induction p using PV.rec (motive_2:=λ_=>True)with
 |gd b p ih=>intro v h;simp only[Ab.iQ];rw[aK]at h⊢;exact⟨λhb=>ih (h.1 hb),h.2⟩
 |tup l=>intro v h;simp only[aK,Ab.iQ]at h⊢;obtain⟨vs,e,h⟩:=h;exact⟨vs,e,h2 h⟩
 |un=>intro v h;simp[aK,Ab.iQ]
 |st w l=>intro v h;obtain⟨cs,e,h⟩:=h;exact⟨cs,e,h.CD hf⟩
 |ar z n l=>intro v h;obtain⟨cs,e,h⟩:=h;exact⟨cs,e,h.CD hf⟩
 |nil=>trivial
 |cons=>trivial
 |rs=>intro v h;exact(aD.CD hf h).toV (by rw[nQ];rfl)
 |pt=>intro v h;exact(aD.CD hf h).toV (by rw[nQ];rfl)
 |_=>intro v h;exact aD.CD hf h
theorem aU.xz.iQ (hf:Frz Γ Δ k sz l0) {blk:aU} {ob:Option Nat} (h:blk.xz Γ ob):(Ba k sz l0 blk).xz Δ ob:=by
 cases blk with
 |
  box v=>
  obtain⟨b,c,e,h1,h2,h3⟩:=h
  exact⟨b,c,e,h1,by rw[hf.heap];exact h2,h3.CD hf⟩
 |
  arr z l=>
  obtain⟨h1,h2,h3⟩:=h
  refine⟨λx hx=>by obtain⟨p,hp,rfl⟩:=su hx;rw[vz];exact h1 p hp,h2,?_⟩
  cases ob with
  |none=>trivial
  |
   some b=>
   obtain⟨c,e,cs,rest,h4,h5,h6,h7⟩:=h3
   exact⟨c,e,cs,rest,by rw[hf.heap];exact h4,h5,h6.iQ hf,h7⟩
 |
  map b ks vs l=>
  obtain⟨h1,h2⟩:=h
  exact⟨h1,by rw[hf.heap];exact h2⟩
end Go.Ab
namespace Go.Ab
variable [cK]
variable {P:Program} {nt:Nat} {ds:List Deferred} {s:St} {Γ Δ Γ0:Cx} {a:Act} {w:World} {k sz:Nat} {l0:List PV}
def del {α:Type}:List (Nat×α)->Nat->List (Nat×α)
 |[],_=>[]
 |(j,v)::r,k=>if j=k then del r k else(j,v)::del r k
def lP {α:Type} (f:α->α):List (Nat×α)->List (Nat×α)
 |[]=>[]
 |(j,v)::r=>(j,f v)::lP f r
def oq {α:Type} (sl:List Nat):List (Nat×α)->List (Nat×α)
 |[]=>[]
 |(j,v)::r=>if sl.contains j=true then(j,v)::oq sl r else oq sl r
theorem mU {α:Type} (l:List (Nat×α)) (k j:Nat):get (del l k) j=if j=k then none else get l j:=by
 induction l with
 |nil=>simp[del,get]
 |
  cons x r ih=>
  obtain⟨i,v⟩:=x
  simp only[del]
  split
  ·rename_i h;subst h;rw[ih];simp only[get];split
   ·rfl
   ·rename_i h2;rw[if_neg (λe=>h2 e.symm)]
  ·simp only[get,ih]
   split
   ·rename_i h h2;subst h2;rw[if_neg h]
   ·rfl
theorem jt {α:Type} (f:α->α) (l:List (Nat×α)) (j:Nat):get (lP f l) j=(get l j).map f:=by
 induction l with
 |nil=>rfl
 |cons x r ih=>obtain⟨i,v⟩:=x;simp only[lP,get,ih];split<;>rfl
theorem MN {α:Type} (sl:List Nat) (l:List (Nat×α)) (j:Nat) {v:α} (h:get (oq sl l) j=some v):get l j=some v:=by
 induction l with
 |nil=>simp[oq,get]at h
 |
  cons x r ih=>
  obtain⟨i,u⟩:=x
  simp only[oq]at h
  split at h
  ·simp only[get]at h⊢
   split
   ·rename_i h2;rw[if_pos h2]at h;exact h
   ·rename_i h2;rw[if_neg h2]at h;exact ih h
  ·rename_i hc
   have h3:=ih h
   simp only[get]
   split
   ·rename_i h2;subst h2
    exfalso
    have:∀r:List (Nat×α),get (oq sl r) i=none:=by
     intro r;induction r with
     |nil=>rfl
     |
      cons y r ih2=>
      obtain⟨m,q⟩:=y
      simp only[oq]
      split
      ·rename_i h4
       simp only[get]
       rw[if_neg (by rintro rfl;exact hc h4)];exact ih2
      ·exact ih2
    rw[this]at h;simp at h
   ·exact h3
def HK (Γ:Cx):Prop:=∀k blk,get Γ.bx k=some blk->KB≤k
def qW (nt:Nat) (ds:List Deferred) (Γ0 Γ:Cx) (a:Act) (K:St->Prop):Prop:=∃s' Γ',fX nt ds s' Γ' a∧Γ'.heap=Γ.heap∧Le Γ0 Γ'∧K s'
theorem xW (hm:Mem Γ) (f:aU->aU) (Z8:∀b,(f b).aN=b.aN):y7 (λj=>decide (j≠k)) id Γ {Γ with bx:=lP f (del Γ.bx k)} where
 heap:=rfl
 own b _ hn:=by
  rintro(⟨j,blk,h1,h2⟩|h)
  ·simp only[jt,mU]at h1;split at h1
   ·simp at h1
   ·obtain⟨b0,g1,_⟩:=mJ.1 h1;exact hn (.inl ⟨j,b0,g1,h2⟩)
  ·exact hn (.inr h)
 ref j blk hj hb:=by
  simp only[decide_eq_true_eq]at hj;exact⟨f blk,by simp[jt,mU,hj,hb],Z8 _,rfl⟩
theorem CE {f:Nat->Bool} {l:List PV} (h:ah f l=true):aS id l=l:=og (f:=f) (λ_ _=>rfl) l h
theorem Bv {f:Nat->Bool} {p:PV} (h:af f p=true):aE id p=p:=Cl (f:=f) (λ_ _=>rfl) p h
theorem O1 (hle:Le Γ0 Γ) (qR:HK Γ0) (hkb:k<KB) (f:aU->aU) (Z8:∀b,(f b).aN=b.aN):Le Γ0 {Γ with bx:=lP f (del Γ.bx k)} where
 heap:=hle.heap
 gn b hb h:=by
  obtain⟨j,blk,h1,h2⟩:=h;simp only[jt,mU]at h1;split at h1
  ·simp at h1
  ·obtain⟨b0,g1,_⟩:=mJ.1 h1;exact hle.gn b hb ⟨j,b0,g1,h2⟩
 b9:=hle.b9
 size:=hle.size
 ref j blk hj:=by
  obtain⟨bq,h1,h2,h3⟩:=hle.ref j blk hj;have:=qR j blk hj;have cS:j≠k:=by omega
  exact⟨f bq,by simp[jt,mU,cS,h1],by rw[Z8];exact h2,λht=>h3 (by rw[←ht,Z8])⟩
theorem Jv (hm:Mem Γ) (hg:get Γ.bx k=some (.arr sz l0)) (hr:ah (λj=>decide (j≠k)) l0=true):Frz Γ {Γ with bx:=lP (Ba k sz l0) (del Γ.bx k)} k sz l0 where
 heap:=rfl
 own:=(xW hm _ xV).own
 ref j blk hj hb:=by
  obtain⟨b',h1,h2,h3⟩:=(xW (k:=k) hm _ (xV (k:=k) (sz:=sz) (l0:=l0))).ref j blk (by simpa using hj) hb;exact⟨b',h1,h2,h3⟩
 here blk hb:=by rw[hg]at hb;exact(Option.some.inj hb).symm
 wd:=(hm.blk k _ hg).1
 cells b hb:=by
  have h:=hm.blk k _ hg;obtain⟨h1,h2,h3⟩:=h;rw[hb]at h3;obtain⟨c,e,cs,rest,h4,h5,h6,_⟩:=h3;refine⟨bS h4,?_,c,e,cs,rest,h4,h5,?_⟩
  ·rintro(⟨j,blk,g1,g2⟩|g)
   ·simp only[jt,mU]at g1;split at g1
    ·simp at g1
    ·rename_i cS;obtain⟨b0,g3,_⟩:=mJ.1 g1;exact cS (hm.inj j k b (by simp[g3]) (by simp[hg]) g2 hb)
   ·exact hm.apart b ⟨k,_,hg,hb⟩ g
  ·have:=h6.aE (xW (k:=k) hm _ (xV (k:=k) (sz:=sz) (l0:=l0))) hr;rwa [CE hr]at this
theorem Bw (hm:Mem Γ) (f:aU->aU) (hf:∀j blk,j≠k->get Γ.bx j=some blk->(f blk).xz {Γ with bx:=lP f (del Γ.bx k)} (Γ.ι j)):Mem {Γ with bx:=lP f (del Γ.bx k)} where
 blk j blk hb:=by
  simp only[jt,mU]at hb;split at hb
  ·simp at hb
  ·rename_i cS;obtain⟨b0,g1,rfl⟩:=mJ.1 hb;exact hf j b0 cS g1
 inj i j b hi hj h1 h2:=by
  have:∀x,(get (lP f (del Γ.bx k)) x).isSome=true->(get Γ.bx x).isSome=true:=by
   intro x hx;simp only[jt,mU]at hx;split at hx
   ·simp at hx
   ·simpa using hx
  exact hm.inj i j b (this i hi) (this j hj) h1 h2
 b9:=hm.b9
 apart b h hp:=by
  refine hm.apart b ?_ hp;obtain⟨j,blk,h1,h2⟩:=h;simp only[jt,mU]at h1;split at h1
  ·simp at h1
  ·obtain⟨b0,g1,_⟩:=mJ.1 h1;exact⟨j,b0,g1,h2⟩
 xA b cs h:=by
  obtain⟨h1,h2⟩:=hm.xA b cs h;refine⟨λhb=>h1 ?_,h2⟩;obtain⟨j,blk,h1,h2⟩:=hb;simp only[jt,mU]at h1;split at h1
  ·simp at h1
  ·obtain⟨b0,g1,_⟩:=mJ.1 h1;exact⟨j,b0,g1,h2⟩
def fz1 (k:Nat) (s:St) (K:St->Prop):Prop:=
 match get s.bx k with
 |some (.arr sz l)=>(ah (λj=>decide (j≠k)) l=true∧k<KB)∧K {env:=lP (iQ k sz l) s.env,bx:=lP (Ba k sz l) (del s.bx k)}
 |_=>False
theorem MO {K:St->Prop} (hs:fX nt ds s Γ a) (hle:Le Γ0 Γ) (qR:HK Γ0) (h:fz1 k s K):qW nt ds Γ0 Γ a K:=by
 unfold fz1 at h;split at h
 ·rename_i sz l hg;obtain⟨⟨hr,hkb⟩,hK⟩:=h;rw[←hs.bx]at hg;have hf:=Jv hs.mem hg hr;refine⟨_,{Γ with bx:=lP (Ba k sz l) (del Γ.bx k)},⟨by simp[hs.bx],hs.size,hs.defers,λj p hj=> ?_,Bw hs.mem _ (λj blk cS hb=>(hs.mem.blk j blk hb).iQ hf)⟩,rfl,O1 hle qR hkb _ xV,hK⟩;simp only[jt]at hj;obtain⟨q,g1,rfl⟩:=mJ.1 hj;exact(hs.env j q g1).iQ hf
 ·exact h.elim
def bn (f:Nat->Bool):List (Nat×PV)->Bool
 |[]=>true
 |(_,p)::r=>af f p&&bn f r
def bU (f:Nat->Bool):List (Nat×aU)->Bool
 |[]=>true
 |(_,b)::r=>ab f b&&bU f r
theorem Ay {f:Nat->Bool}:∀ {l:List (Nat×PV)} {j:Nat} {p:PV},bn f l=true->get l j=some p->af f p=true
 |[],_,_,_,h=>by simp[get]at h
 |
  (i,q)::r,j,p,hr,h=>by
  simp only[bn,aJ]at hr
  simp only[get]at h
  split at h
  ·cases h;exact hr.1
  ·exact Ay hr.2 h
theorem CF {f:Nat->Bool}:∀ {l:List (Nat×aU)} {j:Nat} {p:aU},bU f l=true->get l j=some p->ab f p=true
 |[],_,_,_,h=>by simp[get]at h
 |
  (i,q)::r,j,p,hr,h=>by
  simp only[bU,aJ]at hr
  simp only[get]at h
  split at h
  ·cases h;exact hr.1
  ·exact CF hr.2 h
theorem K7 {α:Type}:∀l:List (Nat×α),lP id l=l
 |[]=>rfl
 |(j,v)::r=>by simp[lP,K7 r]
def dr1 (k:Nat) (s:St) (K:St->Prop):Prop:=
 (bn (λj=>decide (j≠k)) s.env=true∧bU (λj=>decide (j≠k)) (del s.bx k)=true∧k<KB)∧K {s with bx:=del s.bx k}
theorem O3 {f:Nat->Bool} {b:aU} (h:ab f b=true):az id b=b:=by
 cases b with
 |box v=>simp only[az,Bv (f:=f) h]
 |arr sz l=>simp only[az,CE (f:=f) h]
 |map b ks vs l=>rfl
theorem MP {K:St->Prop} (hs:fX nt ds s Γ a) (hle:Le Γ0 Γ) (qR:HK Γ0) (h:dr1 k s K):qW nt ds Γ0 Γ a K:=by
 obtain⟨⟨h1,h2,h3⟩,hK⟩:=h;have ub:=xW (k:=k) hs.mem id (λ_=>rfl);refine⟨_,{Γ with bx:=lP id (del Γ.bx k)},⟨by simp[hs.bx,K7],hs.size,hs.defers,λj p hj=> ?_,Bw hs.mem _ (λj blk cS hb=> ?_)⟩,rfl,O1 hle qR h3 _ (λ_=>rfl),hK⟩
 ·have hr:=Ay h1 hj;have:=(hs.env j p hj).aE ub hr;rwa [Bv hr]at this
 ·have hr:ab (λj=>decide (j≠k)) blk=true:=by
   refine CF (j:=j) h2 ?_;rw[mU,if_neg cS,←hs.bx];exact hb
  have:=(hs.mem.blk j blk hb).aE ub hr;rwa [O3 hr]at this
theorem Jw {K:St->Prop} {sl:List Nat} (hs:fX nt ds s Γ a) (hle:Le Γ0 Γ) (h:K {s with env:=oq sl s.env}):qW nt ds Γ0 Γ a K:=
 ⟨{s with env:=oq sl s.env},Γ,⟨hs.bx,hs.size,hs.defers,λj p hj=>hs.env j p (MN sl _ _ hj),hs.mem⟩,rfl,hle,h⟩
def vt1 (n k sz:Nat) (s:St) (K:St->Prop):Prop:=
 match get s.env n with
 |some (.sl _ [] true)=>(get s.bx k=none∧0<sz)∧K {env:=put s.env n (.rs k [] 0 0 0 sz .tip),bx:=put s.bx k (.arr sz [])}
 |_=>False
theorem MQ {n:Nat} {K:St->Prop} (hs:fX nt ds s Γ a) (hle:Le Γ0 Γ) (h:vt1 n k sz s K):qW nt ds Γ0 Γ a K:=by
 unfold vt1 at h;split at h
 ·rename_i z hg;obtain⟨⟨gK,fA⟩,hK⟩:=h;rw[←hs.bx]at gK;have hl:=vu Γ (.arr sz []) gK;have hm:=Ce hs.mem gK (blk:= .arr sz []) ⟨by simp,fA,trivial⟩;refine⟨_,Γ.mG k (.arr sz []),⟨by simp[Cx.mG,hs.bx],hs.size,hs.defers,λj p hj=> ?_,hm⟩,rfl,hle.trans hl,hK⟩;simp only[eg]at hj;split at hj
  ·rename_i hnj;subst hnj;simp only[sJ]at hj;subst hj;have h0:=hs.env n _ hg;simp only[aK]at h0⊢;generalize a.tmps.getD n undef=v at h0;cases h0 with
   |
    @sl _ _ cs _ _ _ ad aX h1 h2 h3 h4 h5 h6=>
    have hr0:aX=0:=h4 rfl
    subst hr0
    refine .rs k [] 0 0 0 sz .tip _ (.arr sz []) ⟨by simp[Cx.mG,bG],by simp[aU.aN]⟩ rfl (λ_=>⟨ad,0,rfl,?_⟩) .nil
    unfold gX
    simp[Cx.mG,pg]
  ·exact(hs.env j p hj).mono hl
 ·exact h.elim
mutual
theorem qX:∀p:PV,af (λ_=>true) p=true
 | .st _ l| .ar _ _ l| .tup l| .sl _ l _| .fp _ l _=>by simp only[af];exact mV l
 | .fn _ x y=>by simp only[af,mV x,mV y,Bool.and_self]
 | .gd _ p| .ifc _ p=>by simp only[af];exact qX p
 | .rs .. | .pt .. | .un| .bl _| .int .. | .str _| .np| .nf| .ni| .mp .. =>by simp only[af]
theorem mV:∀l:List PV,ah (λ_=>true) l=true
 |[]=>rfl
 |p::l=>by simp only[ah,qX p,mV l,Bool.and_self]
end
theorem xX (b:aU):ab (λ_=>true) b=true:=by cases b<;>simp[ab,qX,mV]
def ze (k k':Nat) (j:Nat):Nat:=if j=k then k' else j
def mv1 (k k':Nat) (s:St) (K:St->Prop):Prop:=
 match get s.bx k with
 |some b=>(get s.bx k'=none∧k<KB∧k'<KB∧k≠k')∧K {env:=lP (aE (ze k k')) s.env,bx:=put (lP (az (ze k k')) (del s.bx k)) k' (az (ze k k') b)}
 |none=>False
def Cx.mv (Γ:Cx) (k k':Nat) (b:aU):Cx:=
 {heap:=Γ.heap,ι:=λj=>if j=k' then Γ.ι k else Γ.ι j,bx:=put (lP (az (ze k k')) (del Γ.bx k)) k' (az (ze k k') b),b9:=Γ.b9}
theorem zf {k k':Nat} {b:aU} (cS:k≠k') (j:Nat):get (Γ.mv k k' b).bx j=if j=k' then some (az (ze k k') b)else if j=k then none else(get Γ.bx j).map (az (ze k k')):=by
 simp only[Cx.mv,eg,jt,mU];by_cases h:k'=j
 ·subst h;simp
 ·have h':¬j=k':=λe=>h e.symm;rw[if_neg h,if_neg h'];by_cases h2:j=k
  ·simp[h2]
  ·simp[h2]
theorem Bx {k k':Nat} {b:aU} (hg:get Γ.bx k=some b) (cS:k≠k') {x:Nat} (h:(Γ.mv k k' b).gn x):Γ.gn x:=by
 obtain⟨j,blk,h1,h2⟩:=h;rw[zf cS]at h1;simp only[Cx.mv]at h2;by_cases hj:j=k'
 ·rw[if_pos hj]at h2;exact⟨k,b,hg,h2⟩
 ·rw[if_neg hj]at h1 h2;by_cases Er:j=k
  ·rw[if_pos Er]at h1;cases h1
  ·rw[if_neg Er]at h1;obtain⟨b0,g1,_⟩:=mJ.1 h1;exact⟨j,b0,g1,h2⟩
theorem FT {k k':Nat} {b:aU} (hg:get Γ.bx k=some b) (hf:get Γ.bx k'=none) (cS:k≠k'):y7 (λ_=>true) (ze k k') Γ (Γ.mv k k' b) where
 heap:=rfl
 own x _ hn:=by
  rintro(h|h)
  ·exact hn (.inl (Bx hg cS h))
  ·exact hn (.inr h)
 ref j blk _ hb:=by
  by_cases hj:j=k
  ·subst hj;rw[hg]at hb;cases hb;exact⟨az (ze j k') b,by rw[zf cS];simp[ze],js _ _,by simp[ze,Cx.mv]⟩
  ·have Er:j≠k':=by rintro rfl;rw[hf]at hb;cases hb
   exact⟨az (ze k k') blk,by rw[zf cS];simp[ze,hj,Er,hb],js _ _,by simp[ze,Cx.mv,hj,Er]⟩
theorem aan (hm:Mem Γ) {k k':Nat} {b:aU} (hg:get Γ.bx k=some b) (hf:get Γ.bx k'=none) (cS:k≠k'):Mem (Γ.mv k k' b) where
 blk j blk hb:=by
  rw[zf cS]at hb;by_cases hj:j=k'
  ·rw[if_pos hj]at hb;cases hb;have:=(hm.blk k b hg).aE (FT hg hf cS) (xX b);simpa[Cx.mv,hj]using this
  ·rw[if_neg hj]at hb;by_cases Er:j=k
   ·rw[if_pos Er]at hb;cases hb
   ·rw[if_neg Er]at hb;obtain⟨b0,g1,rfl⟩:=mJ.1 hb;have:=(hm.blk j b0 g1).aE (FT hg hf cS) (xX b0);have hι:(Γ.mv k k' b).ι j=Γ.ι j:=by simp[Cx.mv,hj]
    rw[hι];exact this
 inj i j x hi hj h1 h2:=by
  have back:∀y,(get (Γ.mv k k' b).bx y).isSome=true->(Γ.mv k k' b).ι y=some x->(get Γ.bx (if y=k' then k else y)).isSome=true∧Γ.ι (if y=k' then k else y)=some x∧(y≠k'->y≠k):=by
   intro y hy hx;rw[zf cS]at hy;simp only[Cx.mv]at hx;by_cases S9:y=k'
   ·rw[if_pos S9]at hx⊢;exact⟨by simp[hg],hx,λh=>absurd S9 h⟩
   ·rw[if_neg S9]at hx hy⊢;by_cases hy2:y=k
    ·rw[if_pos hy2]at hy;cases hy
    ·rw[if_neg hy2]at hy;exact⟨by simpa using hy,hx,λ_=>hy2⟩
  obtain⟨a1,a2,a3⟩:=back i hi h1;obtain⟨c1,c2,c3⟩:=back j hj h2;have:=hm.inj _ _ x a1 c1 a2 c2;by_cases fO:i=k'
  ·by_cases yO:j=k'
   ·rw[fO,yO]
   ·rw[if_pos fO,if_neg yO]at this;exact absurd this.symm (c3 yO)
  ·by_cases yO:j=k'
   ·rw[if_neg fO,if_pos yO]at this;exact absurd this (a3 fO)
   ·rw[if_neg fO,if_neg yO]at this;exact this
 b9:=hm.b9
 apart x h hp:=hm.apart x (Bx hg cS h) hp
 xA x cs h:=by
  obtain⟨h1,h2⟩:=hm.xA x cs h;exact⟨λhb=>h1 (Bx hg cS hb),h2⟩
theorem MR {k k':Nat} {K:St->Prop} (hs:fX nt ds s Γ a) (hle:Le Γ0 Γ) (qR:HK Γ0) (h:mv1 k k' s K):qW nt ds Γ0 Γ a K:=by
 unfold mv1 at h;split at h
 ·rename_i b hg;obtain⟨⟨hf,hkb,ay4,cS⟩,hK⟩:=h;rw[←hs.bx]at hg hf;refine⟨_,Γ.mv k k' b,⟨by simp[Cx.mv,hs.bx],hs.size,hs.defers,λj p hj=> ?_,aan hs.mem hg hf cS⟩,rfl,?_,hK⟩
  ·simp only[jt]at hj;obtain⟨q,g1,rfl⟩:=mJ.1 hj;exact(hs.env j q g1).aE (FT hg hf cS) (qX q)
  ·refine⟨hle.heap,λx hx h=>hle.gn x hx (Bx hg cS h),hle.b9,hle.size,λj blk hj=> ?_⟩;obtain⟨bq,h1,h2,h3⟩:=hle.ref j blk hj;have yO:=qR j blk hj;have hj1:j≠k:=by omega
   have Er:j≠k':=by omega
   refine⟨az (ze k k') bq,by rw[zf cS];simp[hj1,Er,h1],by rw[js];exact h2,λht=> ?_⟩;rw[js]at ht;obtain⟨g1,g2⟩:=h3 ht;exact⟨by simp only[Cx.mv];rw[if_neg Er];exact g1,g2⟩
 ·exact h.elim
def G0 (sz:Nat):PV:= .st sz (List.replicate sz .un)
@[simp] theorem aeD (sz:Nat):(G0 sz).width=sz:=rfl
theorem HE:∀ {vs:List Value},(∀v∈vs,ew v=true)->aD Γ (List.replicate vs.length .un) vs
 |[],_=> .nil
 |v::vs,h=> .un (h v (by simp)) (HE λx hx=>h x (by simp[hx]))
theorem EG {sz:Nat}:∀ {j:Nat} {vs:List Value},vs.length=j*sz->(∀v∈vs,ew v=true)->aD Γ (List.replicate j (G0 sz)) vs
 |
  0,vs,h,_=>by
  have:vs=[]:=JdV (by simpa using h)
  subst this;exact .nil
 |
  j+1,vs,h,h1=>by
  rw[JgZ,Nat.one_mul]at h
  have hl:(vs.take sz).length=sz:=by rw[lJ];omega
  have hr:=aD.st (Γ:=Γ) sz (List.replicate sz .un) (by have:=HE (Γ:=Γ) (vs:=vs.take sz) (λv hv=>h1 v (JbX hv));rwa [hl]at this) hl
   (EG (sz:=sz) (j:=j) (vs:=vs.drop sz) (by rw[JbV];omega) (λv hv=>h1 v (JdJ hv)))
  rw[JcJ]at hr
  exact hr
def mt1 (n:Nat) (s:St) (K:St->Prop):Prop:=
 match get s.env n with
 |
  some (.rs k [] 0 len aN sz .tip)=>(match get s.bx k with
  |some (.arr bN l)=>(bN=sz∧aN=l.length)∧∀c j:Nat,(c=l.length+j∨(c=0∧j=0∧len=0))->
    K {env:=put s.env n (.rs k [] 0 len (l.length+j) sz (.full c)),bx:=put s.bx k (.arr sz (l++List.replicate j (G0 sz)))}
  |_=>False)
 |_=>False
theorem O4 {l l':List PV} {b:Nat} (hm:Mem Γ) (hg:get Γ.bx k=some (.arr sz l)) (hb:Γ.ι k=some b) (ht:l.length≤l'.length)
  (hr:Le Γ {Γ with bx:=put Γ.bx k (.arr sz l')}->(aU.arr sz l').xz {Γ with bx:=put Γ.bx k (.arr sz l')} (some b)):
  Le Γ {Γ with bx:=put Γ.bx k (.arr sz l')}∧Mem {Γ with bx:=put Γ.bx k (.arr sz l')}:=by
 have b6:∀j,get (put Γ.bx k (.arr sz l')) j=if k=j then some (.arr sz l')else get Γ.bx j:=λj=>eg _ _ _ _
 have jS:∀j,(get (put Γ.bx k (.arr sz l')) j).isSome=true->(get Γ.bx j).isSome=true:=by
  intro j hj;rw[b6]at hj;split at hj
  ·rename_i e;subst e;simp[hg]
  ·exact hj
 have hl:Le Γ {Γ with bx:=put Γ.bx k (.arr sz l')}:=by
  refine⟨λ_ _ _=>rfl,λb hb hm=> ?_,rfl,JaQ _,λj blk hj=> ?_⟩
  ·obtain⟨j,blk,h1,h2⟩:=hm;have:=jS j (by rw[h1];rfl);obtain⟨b0,h3⟩:=JaW.1 this;exact⟨j,b0,h3,h2⟩
  ·by_cases e:k=j
   ·subst e;rw[hg]at hj;cases hj;exact⟨.arr sz l',by rw[b6,if_pos rfl],by simpa[aU.aN]using ht,λ_=>⟨rfl,λb hb cs e hh=>⟨cs,hh,rfl⟩⟩⟩
   ·exact⟨blk,by rw[b6,if_neg e];exact hj,JaQ _,λ_=>⟨rfl,λb hb cs e hh=>⟨cs,hh,rfl⟩⟩⟩
 refine⟨hl,λj blk hj=> ?_,λi j b hi hj h1 h2=>hm.inj i j b (jS i hi) (jS j hj) h1 h2,hm.b9,λb hb hp=>hm.apart b ?_ hp,hm.kZ hl⟩
 ·rw[b6]at hj;split at hj
  ·rename_i e;subst e;cases hj;have:=hr hl;rw[←hb]at this;exact this
  ·exact(hm.blk j blk hj).mono hl (λb hb=>rfl)
 ·obtain⟨j,blk,h1,h2⟩:=hb;have:=jS j (by rw[h1];rfl);obtain⟨b0,h3⟩:=JaW.1 this;exact⟨j,b0,h3,h2⟩
theorem MS {n:Nat} {K:St->Prop} (hs:fX nt ds s Γ a) (hle:Le Γ0 Γ) (h:mt1 n s K):qW nt ds Γ0 Γ a K:=by
 unfold mt1 at h;split at h
 case h_2=>exact h.elim
 rename_i k len aN sz he;split at h
 case h_2=>exact h.elim
 rename_i bN l hg;obtain⟨⟨rfl,rfl⟩,hK⟩:=h;have lx:=hg;rw[←hs.bx]at lx;obtain⟨ad,aX,hv,df⟩:=(hs.env n _ he).rs lx rfl;obtain⟨nD,jW,lu⟩:=hs.mem.blk k _ lx;have ay6:=df;unfold gX at df;cases hι:Γ.ι k with
 |
  none=>
  rw[hι]at df
  obtain⟨rfl,rfl,_⟩:=df
  have hK:=hK 0 0 (.inr ⟨rfl,rfl,rfl⟩)
  rw[List.replicate_zero,JhQ,JnX]at hK
  have kW:=mR lx
  have q1:=hs.le (p9 kW) (Ch hs.mem kW) (xH:=put s.bx k (.arr bN l)) (by rw[hs.bx])
  refine⟨{env:=put s.env n (.rs k [] 0 0 l.length bN (.full 0)),bx:=put s.bx k (.arr bN l)},{Γ with bx:=put Γ.bx k (.arr bN l)},⟨q1.bx,q1.size,q1.defers,λj p hj=> ?_,q1.mem⟩,rfl,hle.trans (p9 kW),hK⟩
  simp only[eg]at hj
  split at hj
  ·rename_i e;subst e;cases hj
   rw[hv]
   simp only[aK]
   refine .rs k [] 0 0 l.length bN _ _ (.arr bN l) ⟨by rw[kW];exact lx,by simp[aU.aN]⟩ rfl (λ_=>⟨ad,0,rfl,?_⟩) .nil
   unfold gX
   rw[show({Γ with bx:=put Γ.bx k (.arr bN l)}:Cx).ι k=none from hι]
   exact⟨rfl,rfl,rfl⟩
  ·exact q1.env j p hj
 |
  some b=>
  rw[hι]at df lu
  obtain⟨o1,o2,_,o4⟩:=df
  obtain⟨_,Mf,e0,q1,q2⟩:=o4 rfl
  obtain⟨c,ce,cs,rest,h7,h8,h9,Jb⟩:=lu
  rw[q1]at h7
  simp only[sJ,Obj.cells.injEq]at h7
  obtain⟨rfl,rfl,_⟩:=h7
  have rh:cs.length=l.length*bN:=by rw[h9.length,bf nD]
  have RZ:Mf.size=cs.length+rest.length:=by rw[←JbZ,h8];simp
  rw[JhX]at q2
  have hlr:l.length≤aX:=by
   refine Nat.le_of_not_lt λdk=> ?_;have:aX*bN<l.length*bN:=Nat.mul_lt_mul_of_pos_right dk jW;omega
  obtain⟨j,rfl⟩:∃j,aX=l.length+j:=⟨aX-l.length,by omega⟩
  have G9:rest.length=j*bN:=by rw[JgZ]at q2;omega
  have hK:=hK (l.length+j) j (.inl rfl)
  have Fo:(l++List.replicate j (G0 bN)).length=l.length+j:=by simp
  obtain⟨g1,g2⟩:=O4 (l':=l++List.replicate j (G0 bN)) hs.mem lx hι (by rw[Fo];omega) (λhl=>
   ⟨λx hx=>(JaZ.1 hx).elim (nD x) (λhx=>by rw[(JrQ.1 hx).2];rfl),jW,Mf,e0,cs++rest,[],q1,by rw[JhQ];exact h8,(h9.mono hl).append (EG G9 Jb),by simp⟩)
  have t1:=hs.le g1 g2 (xH:=put s.bx k (.arr bN (l++List.replicate j (G0 bN)))) (by rw[hs.bx])
  refine⟨{env:=put s.env n (.rs k [] 0 len (l.length+j) bN (.full (l.length+j))),bx:=put s.bx k (.arr bN (l++List.replicate j (G0 bN)))},_,⟨t1.bx,t1.size,t1.defers,λi p hj=> ?_,g2⟩,rfl,hle.trans g1,hK⟩
  simp only[eg]at hj
  split at hj
  ·rename_i e;subst e;cases hj
   rw[hv]
   simp only[aK]
   refine .rs k [] 0 len _ bN _ _ (.arr bN (l++List.replicate j (G0 bN))) ⟨by simp[bG],by simp[aU.aN]⟩ rfl (λ_=>⟨ad,_,rfl,?_⟩) .nil
   unfold gX
   rw[show({Γ with bx:=put Γ.bx k (.arr bN (l++List.replicate j (G0 bN)))}:Cx).ι k=some b from hι]
   exact⟨o1,o2,rfl,λhc=>by cases hc⟩
  ·exact t1.env i p hj
inductive Cut
 |fz (k:Nat)
 |dr (k:Nat)
 |keep (sl:List Nat)
 |vt (n k sz:Nat)
 |wk (n:Nat)
 |wb (k:Nat)
 |vb (b:Nat) (p:List Step) (k sz:Nat)
 |mv (k k':Nat)
 |mt (n:Nat)
 |es (k:Nat) (l:List PV)
 |ba (n k:Nat)
def wk1 (n:Nat) (s:St) (K:St->Prop):Prop:=
 match get s.env n with
 |some p=>K {s with env:=put s.env n (wk p)}
 |none=>False
theorem MT {n:Nat} {K:St->Prop} (hs:fX nt ds s Γ a) (hle:Le Γ0 Γ) (h:wk1 n s K):qW nt ds Γ0 Γ a K:=by
 unfold wk1 at h;split at h
 ·rename_i p hp;refine⟨{s with env:=put s.env n (Ab.wk p)},Γ,⟨hs.bx,hs.size,hs.defers,λj q hj=> ?_,hs.mem⟩,rfl,hle,h⟩;simp only[eg]at hj;split at hj
  ·rename_i hnj;subst hnj;cases hj;exact(hs.env _ p hp).wk
  ·exact hs.env j q hj
 ·exact h.elim
def wb1 (k:Nat) (s:St) (K:St->Prop):Prop:=
 match get s.bx k with
 |some (.box v)=>K {s with bx:=put s.bx k (.box (wk v))}
 |_=>False
theorem MU {K:St->Prop} (hs:fX nt ds s Γ a) (hle:Le Γ0 Γ) (h:wb1 k s K):qW nt ds Γ0 Γ a K:=by
 unfold wb1 at h;split at h
 ·rename_i v hg;rw[←hs.bx]at hg;have b6:∀j,get (put Γ.bx k (.box (Ab.wk v))) j=if k=j then some (.box (Ab.wk v))else get Γ.bx j:=λj=>eg _ _ _ _
  have jS:∀j,(get (put Γ.bx k (.box (Ab.wk v))) j).isSome=true->(get Γ.bx j).isSome=true:=by
   intro j hj;rw[b6]at hj;split at hj
   ·rename_i e;subst e;simp[hg]
   ·exact hj
  have hl:Le Γ {Γ with bx:=put Γ.bx k (.box (Ab.wk v))}:=by
   refine⟨λ_ _ _=>rfl,λb hb hm=> ?_,rfl,JaQ _,λj blk hj=> ?_⟩
   ·obtain⟨j,blk,h1,h2⟩:=hm;have:=jS j (by rw[h1];rfl);obtain⟨b0,h3⟩:=JaW.1 this;exact⟨j,b0,h3,h2⟩
   ·by_cases e:k=j
    ·subst e;rw[hg]at hj;cases hj;exact⟨.box (Ab.wk v),by rw[b6,if_pos rfl],JaQ _,λ_=>⟨rfl,λb hb cs e hh=>⟨cs,hh,rfl⟩⟩⟩
    ·exact⟨blk,by rw[b6,if_neg e];exact hj,JaQ _,λ_=>⟨rfl,λb hb cs e hh=>⟨cs,hh,rfl⟩⟩⟩
  have hm:Mem {Γ with bx:=put Γ.bx k (.box (Ab.wk v))}:=by
   refine⟨λj blk hj=> ?_,λi j b hi hj h1 h2=>hs.mem.inj i j b (jS i hi) (jS j hj) h1 h2,hs.mem.b9,λb hb hp=>hs.mem.apart b ?_ hp,hs.mem.kZ hl⟩
   ·rw[b6]at hj;split at hj
    ·rename_i e;subst e;cases hj;obtain⟨b,c,e,h1,h2,h3⟩:=hs.mem.blk _ _ hg;exact⟨b,c,e,h1,h2,h3.wk.mono hl⟩
    ·exact(hs.mem.blk j blk hj).mono hl (λb hb=>rfl)
   ·obtain⟨j,blk,h1,h2⟩:=hb;have:=jS j (by rw[h1];rfl);obtain⟨b0,h3⟩:=JaW.1 this;exact⟨j,b0,h3,h2⟩
  exact⟨{s with bx:=put s.bx k (.box (Ab.wk v))},_,⟨by simp[hs.bx],hs.size,hs.defers,λj q hj=>(hs.env j q hj).mono hl,hm⟩,rfl,hle.trans hl,h⟩
 ·exact h.elim
def vb1 (b:Nat) (p:List Step) (k sz:Nat) (s:St) (K:St->Prop):Prop:=
 match get s.bx b with
 |
  some (.box v)=>(match aO v p,bO v p (.rs k [] 0 0 0 sz .tip)with
  |some (.sl _ [] true),some v'=>(get s.bx k=none∧0<sz)∧K {s with bx:=put (put s.bx k (.arr sz [])) b (.box v')}
  |_,_=>False)
 |_=>False
theorem O5 {v v':PV} (hm:Mem Γ) (hg:get Γ.bx k=some (.box v)) (hv:∀cs,aD Γ [v] cs->aD Γ [v'] cs):
  Le Γ {Γ with bx:=put Γ.bx k (.box v')}∧Mem {Γ with bx:=put Γ.bx k (.box v')}:=by
 have b6:∀j,get (put Γ.bx k (.box v')) j=if k=j then some (.box v')else get Γ.bx j:=λj=>eg _ _ _ _
 have jS:∀j,(get (put Γ.bx k (.box v')) j).isSome=true->(get Γ.bx j).isSome=true:=by
  intro j hj;rw[b6]at hj;split at hj
  ·rename_i e;subst e;simp[hg]
  ·exact hj
 have hl:Le Γ {Γ with bx:=put Γ.bx k (.box v')}:=by
  refine⟨λ_ _ _=>rfl,λb hb hm=> ?_,rfl,JaQ _,λj blk hj=> ?_⟩
  ·obtain⟨j,blk,h1,h2⟩:=hm;have:=jS j (by rw[h1];rfl);obtain⟨b0,h3⟩:=JaW.1 this;exact⟨j,b0,h3,h2⟩
  ·by_cases e:k=j
   ·subst e;rw[hg]at hj;cases hj;exact⟨.box v',by rw[b6,if_pos rfl],JaQ _,λ_=>⟨rfl,λb hb cs e hh=>⟨cs,hh,rfl⟩⟩⟩
   ·exact⟨blk,by rw[b6,if_neg e];exact hj,JaQ _,λ_=>⟨rfl,λb hb cs e hh=>⟨cs,hh,rfl⟩⟩⟩
 refine⟨hl,λj blk hj=> ?_,λi j b hi hj h1 h2=>hm.inj i j b (jS i hi) (jS j hj) h1 h2,hm.b9,λb hb hp=>hm.apart b ?_ hp,hm.kZ hl⟩
 ·rw[b6]at hj;split at hj
  ·rename_i e;subst e;cases hj;obtain⟨b,c,e,h1,h2,h3⟩:=hm.blk _ _ hg;exact⟨b,c,e,h1,h2,(hv _ h3).mono hl⟩
  ·exact(hm.blk j blk hj).mono hl (λb hb=>rfl)
 ·obtain⟨j,blk,h1,h2⟩:=hb;have:=jS j (by rw[h1];rfl);obtain⟨b0,h3⟩:=JaW.1 this;exact⟨j,b0,h3,h2⟩
theorem MV {b:Nat} {p:List Step} {K:St->Prop} (hs:fX nt ds s Γ a) (hle:Le Γ0 Γ) (h:vb1 b p k sz s K):qW nt ds Γ0 Γ a K:=by
 unfold vb1 at h;split at h
 case h_2=>exact h.elim
 rename_i v hg;split at h
 case h_2=>exact h.elim
 rename_i z v' KD GR;obtain⟨⟨gK,fA⟩,hK⟩:=h;rw[←hs.bx]at gK hg;have hl:=vu Γ (.arr sz []) gK;have hm:=Ce hs.mem gK (blk:= .arr sz []) ⟨by simp,fA,trivial⟩;have hbk:b≠k:=by rintro rfl;rw[hg]at gK;simp at gK
 have hg2:get (Γ.mG k (.arr sz [])).bx b=some (.box v):=by
  simp only[Cx.mG];rw[bp _ _ _ _ (λh=>hbk h.symm)];exact hg
 obtain⟨h1,h2⟩:=O5 (v':=v') hm hg2 (by
  intro cs hc;obtain⟨KF,hr⟩:=r9 p hc KD;have hw:(PV.sl z [] true).width=1:=rfl;rw[hw]at KF hr
  obtain⟨x,hx⟩:∃x,(cs.drop (bI p)).take 1=[x]:=by
   have hlen:((cs.drop (bI p)).take 1).length=1:=by rw[lJ,JbV];omega
   exact JrW.1 hlen
  rw[hx]at hr
  have S8:aD (Γ.mG k (.arr sz [])) [.rs k [] 0 0 0 sz .tip] [x]:=by
   cases hr with
   |
    @sl _ _ cs _ _ _ ad aX h1 h2 h3 h4 h5 h6=>
    have hr0:aX=0:=h4 rfl
    subst hr0
    refine .rs k [] 0 0 0 sz .tip _ (.arr sz []) ⟨by simp[Cx.mG,bG],by simp[aU.aN]⟩ rfl (λ_=>⟨ad,0,rfl,?_⟩) .nil
    unfold gX
    simp[Cx.mG,pg]
  obtain⟨g1,g2,g3⟩:=BZ S8 p hc GR
  have e:bj cs (bI p) [x]=cs:=by
   unfold bj;rw[←hx,lJ,JbV,JdW (by omega),JeJ];rw[←JiW,JcJ,JcJ]
  rwa [e]at g3)
 refine⟨{s with bx:=put (put s.bx k (.arr sz [])) b (.box v')},_,⟨by simp[Cx.mG,hs.bx],hs.size,hs.defers,λj q hj=>((hs.env j q hj).mono hl).mono h1,h2⟩,rfl,(hle.trans hl).trans h1,hK⟩
inductive yQ:List PV->List PV->Prop
 |nil:yQ [] []
 |same {p:PV} {l m:List PV}:yQ l m->yQ (p::l) (p::m)
 |emp {a b:Nat} {c:Bool} {l m:List PV}:yQ l m->yQ (.sl a [] c::l) (.sl b [] c::m)
 |st {w:Nat} {x y l m:List PV}:yQ x y->yQ l m->yQ (.st w x::l) (.st w y::m)
theorem yQ.refl:∀l:List PV,yQ l l
 |[]=> .nil
 |_::l=> .same (yQ.refl l)
theorem yQ.len {l m:List PV} (h:yQ l m):l.length=m.length:=by
 induction h with
 |nil=>rfl
 |same _ ih=>simp[ih]
 |emp _ ih=>simp[ih]
 |st _ _ _ ih=>simp[ih]
theorem yQ.width {sz:Nat} {l m:List PV} (h:yQ l m):(∀x∈l,x.width=sz)->∀x∈m,x.width=sz:=by
 induction h with
 |nil=>intro h x hx;cases hx
 |
  same _ ih=>
  intro h x hx
  rcases cJ.1 hx with rfl|hx
  ·exact h _ (by simp)
  ·exact ih (λy hy=>h y (by simp[hy])) x hx
 |
  emp _ ih=>
  intro h x hx
  rcases cJ.1 hx with rfl|hx
  ·have:=h _ (List.mem_cons_self);simpa[PV.width]using this
  ·exact ih (λy hy=>h y (by simp[hy])) x hx
 |
  st _ _ _ ih=>
  intro h x hx
  rcases cJ.1 hx with rfl|hx
  ·have:=h _ (List.mem_cons_self);simpa[PV.width]using this
  ·exact ih (λy hy=>h y (by simp[hy])) x hx
theorem yQ.rep {Γ:Cx} {l m:List PV} (h:yQ l m):∀ {cs:List Value},aD Γ l cs->aD Γ m cs:=by
 induction h with
 |nil=>intro cs h;exact h
 |
  @same p l m _ ih=>
  intro cs h
  obtain⟨c1,c2,rfl,h1,h2⟩:=aD.split (ps:=[p]) (qs:=l) h
  exact h1.cons (ih h2)
 |
  @emp a b c l m _ ih=>
  intro cs h
  obtain⟨c1,c2,rfl,h1,h2⟩:=aD.split (ps:=[.sl a [] c]) (qs:=l) h
  refine aD.cons ?_ (ih h2)
  cases h1 with
  |sl _ _ _ ad aX g1 g2 g3 g4 g5 g6=>exact aD.sl _ _ _ ad aX g1 (by simp) g3 g4 g5 g6
 |
  @st w x y l m _ _ ihx ih=>
  intro cs h
  obtain⟨c1,c2,rfl,h1,h2⟩:=aD.split (ps:=[.st w x]) (qs:=l) h
  refine aD.cons ?_ (ih h2)
  cases h1 with
  |st _ _ g1 g2 g3=>exact aD.st _ _ (ihx g1) g2 g3
theorem O6 {sz:Nat} {l m:List PV} (hm:Mem Γ) (hg:get Γ.bx k=some (.arr sz l)) (hv:yQ l m):
  Le Γ {Γ with bx:=put Γ.bx k (.arr sz m)}∧Mem {Γ with bx:=put Γ.bx k (.arr sz m)}:=by
 have b6:∀j,get (put Γ.bx k (.arr sz m)) j=if k=j then some (.arr sz m)else get Γ.bx j:=λj=>eg _ _ _ _
 have jS:∀j,(get (put Γ.bx k (.arr sz m)) j).isSome=true->(get Γ.bx j).isSome=true:=by
  intro j hj;rw[b6]at hj;split at hj
  ·rename_i e;subst e;simp[hg]
  ·exact hj
 have hl:Le Γ {Γ with bx:=put Γ.bx k (.arr sz m)}:=by
  refine⟨λ_ _ _=>rfl,λb hb hm=> ?_,rfl,JaQ _,λj blk hj=> ?_⟩
  ·obtain⟨j,blk,h1,h2⟩:=hm;have:=jS j (by rw[h1];rfl);obtain⟨b0,h3⟩:=JaW.1 this;exact⟨j,b0,h3,h2⟩
  ·by_cases e:k=j
   ·subst e;rw[hg]at hj;cases hj;exact⟨.arr sz m,by rw[b6,if_pos rfl],by simp[aU.aN,hv.len],λ_=>⟨rfl,λb hb cs e hh=>⟨cs,hh,rfl⟩⟩⟩
   ·exact⟨blk,by rw[b6,if_neg e];exact hj,JaQ _,λ_=>⟨rfl,λb hb cs e hh=>⟨cs,hh,rfl⟩⟩⟩
 refine⟨hl,λj blk hj=> ?_,λi j b hi hj h1 h2=>hm.inj i j b (jS i hi) (jS j hj) h1 h2,hm.b9,λb hb hp=>hm.apart b ?_ hp,hm.kZ hl⟩
 ·rw[b6]at hj;split at hj
  ·rename_i e;subst e;cases hj;obtain⟨w1,w2,w3⟩:=hm.blk _ _ hg;refine aU.xz.mono hl (λb hb=>rfl) (blk:= .arr sz m) (ob:=Γ.ι k) ⟨hv.width w1,w2,?_⟩;cases hi:Γ.ι k with
   |none=>trivial
   |
    some b=>
    rw[hi]at w3
    obtain⟨c,e,cs,rest,g1,g2,g3,g4⟩:=w3
    exact⟨c,e,cs,rest,g1,g2,hv.rep g3,g4⟩
  ·exact(hm.blk j blk hj).mono hl (λb hb=>rfl)
 ·obtain⟨j,blk,h1,h2⟩:=hb;have:=jS j (by rw[h1];rfl);obtain⟨b0,h3⟩:=JaW.1 this;exact⟨j,b0,h3,h2⟩
def es1 (k:Nat) (m:List PV) (s:St) (K:St->Prop):Prop:=
 match get s.bx k with
 |some (.arr sz l)=>yQ l m∧K {s with bx:=put s.bx k (.arr sz m)}
 |_=>False
theorem MW {m:List PV} {K:St->Prop} (hs:fX nt ds s Γ a) (hle:Le Γ0 Γ) (h:es1 k m s K):qW nt ds Γ0 Γ a K:=by
 unfold es1 at h;split at h
 ·rename_i sz l hg;rw[←hs.bx]at hg;obtain⟨h1,h2⟩:=O6 hs.mem hg h.1;exact⟨{s with bx:=put s.bx k (.arr sz m)},_,⟨by simp[hs.bx],hs.size,hs.defers,λj q hj=>(hs.env j q hj).mono h1,h2⟩,rfl,hle.trans h1,h.2⟩
 ·exact h.elim
def ba1 (n k:Nat) (s:St) (K:St->Prop):Prop:=
 match get s.bx k with
 |some (.box v)=>(get s.env n=some (.pt k [] 0)∧0<v.width)∧K {env:=put s.env n (.pt k [.i 0 v.width] 1),bx:=put s.bx k (.arr v.width [v])}
 |_=>False
theorem MX {n:Nat} {K:St->Prop} (hs:fX nt ds s Γ a) (hle:Le Γ0 Γ) (h:ba1 n k s K):qW nt ds Γ0 Γ a K:=by
 unfold ba1 at h;split at h
 ·rename_i v hg;obtain⟨⟨he,hw⟩,hK⟩:=h;rw[←hs.bx]at hg;have hm:=hs.mem;have b6:∀j,get (put Γ.bx k (.arr v.width [v])) j=if k=j then some (.arr v.width [v])else get Γ.bx j:=λj=>eg _ _ _ _
  have jS:∀j,(get (put Γ.bx k (.arr v.width [v])) j).isSome=true->(get Γ.bx j).isSome=true:=by
   intro j hj;rw[b6]at hj;split at hj
   ·rename_i e;subst e;simp[hg]
   ·exact hj
  have hl:Le Γ {Γ with bx:=put Γ.bx k (.arr v.width [v])}:=by
   refine⟨λ_ _ _=>rfl,λb hb hm=> ?_,rfl,JaQ _,λj blk hj=> ?_⟩
   ·obtain⟨j,blk,h1,h2⟩:=hm;have:=jS j (by rw[h1];rfl);obtain⟨b0,h3⟩:=JaW.1 this;exact⟨j,b0,h3,h2⟩
   ·by_cases e:k=j
    ·subst e;rw[hg]at hj;cases hj;exact⟨.arr v.width [v],by rw[b6,if_pos rfl],by simp[aU.aN],λht=>by simp[aU.aN]at ht⟩
    ·exact⟨blk,by rw[b6,if_neg e];exact hj,JaQ _,λ_=>⟨rfl,λb hb cs e hh=>⟨cs,hh,rfl⟩⟩⟩
  have vS:Mem {Γ with bx:=put Γ.bx k (.arr v.width [v])}:=by
   refine⟨λj blk hj=> ?_,λi j b hi hj h1 h2=>hm.inj i j b (jS i hi) (jS j hj) h1 h2,hm.b9,λb hb hp=>hm.apart b ?_ hp,hm.kZ hl⟩
   ·rw[b6]at hj;split at hj
    ·rename_i e;subst e;cases hj;obtain⟨b,c,e,h1,h2,h3⟩:=hm.blk _ _ hg;show aU.xz _ (Γ.ι k) _;rw[h1];exact⟨by simp,hw,c,e,c.toList,[],h2,by simp,h3.mono hl,by simp⟩
    ·exact(hm.blk j blk hj).mono hl (λb hb=>rfl)
   ·obtain⟨j,blk,h1,h2⟩:=hb;have:=jS j (by rw[h1];rfl);obtain⟨b0,h3⟩:=JaW.1 this;exact⟨j,b0,h3,h2⟩
  refine⟨_,_,⟨by simp[hs.bx],hs.size,hs.defers,λj q hj=> ?_,vS⟩,rfl,hle.trans hl,hK⟩;simp only[eg]at hj;split at hj
  ·rename_i e;subst e;cases hj;obtain⟨b,h1,h2⟩:=(hs.env _ _ he).pt hg (by simp[aU.aN]);simp only[aK];exact .pt k _ 1 _ (.arr v.width [v]) ⟨by rw[b6,if_pos rfl],by simp[aU.aN]⟩ (by rw[h2];rfl) (λ_=>⟨b,h1,by rw[h2];simp[bI]⟩) .nil
  ·exact(hs.env j q hj).mono hl
 ·exact h.elim
def gM:Cut->St->(St->Prop)->Prop
 | .fz k,s,K=>fz1 k s K
 | .dr k,s,K=>dr1 k s K
 | .keep sl,s,K=>K {s with env:=oq sl s.env}
 | .vt n k sz,s,K=>vt1 n k sz s K
 | .wk n,s,K=>wk1 n s K
 | .wb k,s,K=>wb1 k s K
 | .vb b p k sz,s,K=>vb1 b p k sz s K
 | .mv k k',s,K=>mv1 k k' s K
 | .mt n,s,K=>mt1 n s K
 | .es k l,s,K=>es1 k l s K
 | .ba n k,s,K=>ba1 n k s K
def iR:List Cut->St->(St->Prop)->Prop
 |[],s,K=>K s
 |c::r,s,K=>gM c s λs'=>iR r s' K
theorem qe {K:St->Prop} (qR:HK Γ0):∀(c:List Cut) {s:St} {Γ:Cx},fX nt ds s Γ a->Le Γ0 Γ->iR c s K->qW nt ds Γ0 Γ a K
 |[],s,Γ,hs,hle,h=>⟨s,Γ,hs,rfl,hle,h⟩
 |
  c::r,s,Γ,hs,hle,h=>by
  have:qW nt ds Γ0 Γ a λs'=>iR r s' K:=by
   cases c with
   |fz k=>exact MO hs hle qR h
   |dr k=>exact MP hs hle qR h
   |keep sl=>exact Jw hs hle h
   |vt n k sz=>exact MQ hs hle h
   |wk n=>exact MT hs hle h
   |wb k=>exact MU hs hle h
   |vb b p k sz=>exact MV hs hle h
   |mv k k'=>exact MR hs hle qR h
   |mt n=>exact MS hs hle h
   |es k l=>exact MW hs hle h
   |ba n k=>exact MX hs hle h
  obtain⟨s',Γ',h1,h2,h3,h4⟩:=this
  obtain⟨s2,Γ2,g1,g2,g3,g4⟩:=qe qR r h1 h3 h4
  exact⟨s2,Γ2,g1,by rw[g2,h2],g3,g4⟩
end Go.Ab
namespace Go.Ab
variable [cK]
variable {P:Program} {nt:Nat} {ds:List Deferred} {s s':St} {Γ:Cx} {a:Act} {w:World} {Q:Exit->Act->World->Prop} [eE]
def HF:aU:= .map 0 (.i .u8) (.i .u8) []
def Sub (b c:List (Nat×aU)):Prop:=∀k blk,get b k=some blk->get c k=some blk∨blk=HF∧∃v,get c k=some (.box v)
theorem Sub.refl (b:List (Nat×aU)):Sub b b:=λ_ _ h=> .inl h
theorem Sub.trans {a b c:List (Nat×aU)} (h:Sub a b) (h':Sub b c):Sub a c:=by
 intro k blk hk;rcases h k blk hk with h1|⟨h1,v,h2⟩
 ·exact h' k blk h1
 ·rcases h' k _ h2 with h3|⟨h3,_⟩
  ·exact .inr ⟨h1,v,h3⟩
  ·simp[HF]at h3
theorem HG (hb:Sub s.bx s'.bx) {p:PV} {K:Nat->List PV->Prop} (h:content s p K):content s' p K:=by
 cases p<;>simp only[content]at h⊢<;>first|exact h|skip
 rename_i k p off len aN sz c;cases hg:get s.bx k with
 |none=>rw[hg]at h;exact h.elim
 |
  some b=>
  rw[hg]at h
  rcases hb k b hg with h1|⟨rfl,v1,h1⟩
  ·rw[h1];exact h
  ·rw[h1];simp only[HF]at h⊢<;>exact h
theorem O7 (hb:Sub s.bx s'.bx) {op:BinOp} {e:ET} {p q:PV} {K:PV->Prop} (h:sb s op e p q K):sb s' op e p q K:=by
 cases e<;>simp only[sb]at h⊢<;>first|exact h|skip
 cases p<;>cases q<;>simp only at h⊢<;>first|exact h|skip
 rename_i k _ _;cases hg:get s.bx k with
 |none=>rw[hg]at h;exact h.elim
 |
  some b=>
  rw[hg]at h
  rcases hb k b hg with h1|⟨rfl,v1,h1⟩
  ·rw[h1];exact h
  ·rw[h1];simp only[HF,aU.aN]at h⊢<;>exact h
theorem bE {g:Bool} {x:AX} {K K':PV->Prop} (hk:vg g s x K) (h:∀p,K p->K' p):vg g s x K':=by
 obtain⟨p,h1,h2⟩:=ss g s x K hk;exact h2 K' (h p h1)
theorem qf {p:PV} {K K':Int->Prop} (hk:pq p K) (h:∀n,K n->K' n):pq p K':=by
 obtain⟨n,h1,h2⟩:=qU p K hk;exact h2 K' (h n h1)
theorem Jx {g:Bool} {k:AK} {K:PV->Prop} (hb:Sub s.bx s'.bx) (h:cC s s' k.reads) (he:ev g s k K):ev g s' k K:=by
 cases k with
 |mv x=>simp only[ev]at he⊢;rw[aH h];exact he
 |pick c a b=>simp only[ev]at he⊢;rw[aH h.left.left,lF h.left.right,lF h.right];exact he
 |build z parts=>simp only[ev]at he⊢;rw[nP h];exact he
 |
  load agg w x=>
  simp only[ev]at he⊢;rw[aH h]
  refine bE he λp hp=> ?_
  cases p<;>simp only at hp⊢<;>first|exact hp|skip
  rename_i k _ _
  cases hg:get s.bx k with
  |none=>rw[hg]at hp;exact hp.elim
  |
   some b=>
   rw[hg]at hp
   rcases hb k b hg with h1|⟨rfl,v1,h1⟩
   ·rw[h1];exact hp
   ·rw[h1];simp only[HF,oK]at hp⊢<;>exact hp
 |
  nilCheck x=>
  simp only[ev]at he⊢;rw[aH h]
  refine bE he λp hp=> ?_
  cases p<;>first|exact hp|(rename_i f _ _;cases f<;>exact hp)|skip
  rename_i k _ _
  simp only at hp⊢
  cases hg:get s.bx k with
  |none=>rw[hg]at hp;exact hp.elim
  |
   some b=>
   rw[hg]at hp
   rcases hb k b hg with h1|⟨rfl,v1,h1⟩
   ·rw[h1];exact hp
   ·rw[h1];simp only[HF,aU.aN]at hp⊢<;>exact hp
 |bin op e x y=>simp only[ev]at he⊢;rw[aH h.left];refine bE he λp hp=> ?_;rw[aH h.right];exact bE hp λq hq=>O7 hb hq
 |un op x=>simp only[ev]at he⊢;rw[aH h];exact he
 |convI k x=>simp only[ev]at he⊢;rw[aH h];exact he
 |convS x=>simp only[ev]at he⊢;rw[aH h];exact bE he λp hp=>HG hb hp
 |mkFunc f a b=>simp only[ev]at he⊢;rw[fB h.left];simp only[fB h.right];exact he
 |
  slice k x lo hi mx=>
  have hx:=aH (g:=g) h.left
  have hl:=λn c=>Cw (g:=g) h.right.left h.right.right.left n c
  have hm:=h.right.right.right
  cases k with
  |str=>simp only[ev,hx,hl]at he⊢;exact he
  |
   sl sz=>
   simp only[ev,hx,hl]at he⊢
   refine bE he λp hp=> ?_
   cases p<;>simp only at hp⊢<;>first|exact hp|skip
   ·cases mx with
    |none=>exact hp
    |some m=>simp only at hp⊢;rw[aH (x:=m) hm];exact hp
   ·rename_i k _ _ _ _ _ _
    cases hg:get s.bx k with
    |none=>rw[hg]at hp;exact hp.elim
    |
     some b=>
     rw[hg]at hp
     rcases hb k b hg with h1|⟨rfl,v1,h1⟩
     ·rw[h1]
      cases mx with
      |none=>exact hp
      |some m=>simp only at hp⊢;rw[aH (x:=m) hm];exact hp
     ·rw[h1];simp only[HF,aU.aN]at hp⊢
      cases mx with
      |none=>exact hp
      |some m=>simp only at hp⊢;rw[aH (x:=m) hm];exact hp
  |
   ar n sz=>
   simp only[ev,hx,hl]at he⊢
   refine bE he λp hp=> ?_
   cases p<;>simp only at hp⊢<;>first|exact hp|skip
   rename_i k _ _
   cases hg:get s.bx k with
   |none=>rw[hg]at hp;exact hp.elim
   |
    some b=>
    rw[hg]at hp
    rcases hb k b hg with h1|⟨rfl,v1,h1⟩
    ·rw[h1];exact hp
    ·rw[h1];simp only[HF,aU.aN]at hp⊢<;>exact hp
 |
  fieldA i off x=>
  simp only[ev]at he⊢;rw[aH h]
  refine bE he λp hp=> ?_
  cases p<;>simp only at hp⊢<;>first|exact hp|skip
  rename_i k _ _
  cases hg:get s.bx k with
  |none=>rw[hg]at hp;exact hp.elim
  |
   some b=>
   rw[hg]at hp
   rcases hb k b hg with h1|⟨rfl,v1,h1⟩
   ·rw[h1];exact hp
   ·rw[h1];simp only[HF,aU.aN]at hp⊢<;>exact hp
 |
  s2a n sz x=>
  simp only[ev]at he⊢;rw[aH h]
  refine bE he λp hp=> ?_
  cases p<;>simp only at hp⊢<;>first|exact hp|skip
  rename_i k _ _ _ _ _ _
  cases hg:get s.bx k with
  |none=>rw[hg]at hp;exact hp.elim
  |
   some b=>
   rw[hg]at hp
   rcases hb k b hg with h1|⟨rfl,v1,h1⟩
   ·rw[h1];exact hp
   ·rw[h1];simp only[HF,aU.aN]at hp⊢<;>exact hp
 |field i off agg w x=>simp only[ev]at he⊢;rw[aH h];exact he
 |
  indexA k x i=>
  have hx:=aH (g:=g) h.left
  have hi:=aH (g:=g) h.right
  cases k with
  |str=>simp only[ev]at he
  |
   sl sz=>
   simp only[ev,hx,hi]at he⊢
   refine bE he λp hp=>bE hp λq hq=>qf hq λj hj=> ?_
   cases p<;>simp only at hj⊢<;>first|exact hj|skip
   rename_i k _ _ _ _ _ _
   cases hg:get s.bx k with
   |none=>rw[hg]at hj;exact hj.elim
   |
    some b=>
    rw[hg]at hj
    rcases hb k b hg with h1|⟨rfl,v1,h1⟩
    ·rw[h1];exact hj
    ·rw[h1];simp only[HF,aU.aN]at hj⊢<;>exact hj
  |
   ar n sz=>
   simp only[ev,hx,hi]at he⊢
   refine bE he λp hp=>bE hp λq hq=>qf hq λj hj=>⟨hj.1,?_⟩
   have hj:=hj.2
   cases p<;>simp only at hj⊢<;>first|exact hj|skip
   rename_i k _ _ _
   cases hg:get s.bx k with
   |none=>rw[hg]at hj;exact hj.elim
   |
    some b=>
    rw[hg]at hj
    rcases hb k b hg with h1|⟨rfl,v1,h1⟩
    ·rw[h1];exact hj
    ·rw[h1];simp only[HF,aU.aN]at hj⊢<;>exact hj
 |index agg n w x i=>simp only[ev]at he⊢;rw[aH h.left,aH h.right];exact he
 |indexS x i=>simp only[ev]at he⊢;rw[aH h.left,aH h.right];exact he
 |extract i x=>simp only[ev]at he⊢;rw[lF h];exact he
 |
  len x=>
  simp only[ev]at he⊢;rw[aH h]
  refine bE he λp hp=> ?_
  cases p<;>simp only at hp⊢<;>first|exact hp|skip
  rename_i k _ _ _ _ _ _
  cases hg:get s.bx k with
  |none=>rw[hg]at hp;exact hp.elim
  |
   some b=>
   rw[hg]at hp
   rcases hb k b hg with h1|⟨rfl,v1,h1⟩
   ·rw[h1];exact hp
   ·rw[h1];simp only[HF,aU.aN]at hp⊢<;>exact hp
 |
  cap x=>
  simp only[ev]at he⊢;rw[aH h]
  refine bE he λp hp=> ?_
  split at hp
  ·rename_i k p off len aN sz n
   cases hg:get s.bx k with
   |none=>rw[hg]at hp;exact hp.elim
   |
    some b=>
    rw[hg]at hp
    rcases hb k b hg with h1|⟨rfl,v1,h1⟩
    ·rw[h1];exact hp
    ·rw[h1];simp only[HF,aU.aN]at hp⊢<;>exact hp
  ·exact hp.elim
 |lenS x=>simp only[ev]at he⊢;rw[aH h];exact he
 |lenC n=>simp only[ev]at he⊢;exact he
 |mm mx xs=>simp only[ev]at he⊢;rw[fB h];exact he
 |_=>simp only[ev]at he
def Qv (P:Program) (r:St) (o:AO) (v:PV):Prop:=∀s':St,Sub r.bx s'.bx->cC r s' o.reads->∀K':St->Prop,K' (s'.put o.dst v)->fR P s' o K'
theorem FU {o:AO} {K:St->Prop} (hq:o.quiet=true) (h:jT P s o K):
  ∃v,K (s.put o.dst v)∧∀s',Sub s.bx s'.bx->cC s s' o.k.reads->∀K':St->Prop,K' (s'.put o.dst v)->jT P s' o K':=by
 obtain⟨dst,guard,mg,k⟩:=o;cases k with
 |call f args=>simp[AO.quiet]at hq
 |
  callq f args=>
  simp only[jT]at h⊢
  unfold qb at h
  obtain⟨pf,h,h1⟩:=ss _ _ _ _ h
  obtain⟨ps,h,h2⟩:=sX _ _ _ _ h
  split at h
  case h_2=>exact h.elim
  rename_i fid first cap
  obtain⟨v,Bl,yR,hK⟩:=h
  refine⟨v,hK,λs' hb ha K' kR=> ?_⟩
  unfold qb
  rw[aH ha.left]
  refine h1 _ ?_
  rw[fB ha.right]
  exact h2 _ ⟨v,Bl,yR,kR⟩
 |
  buildSlice own sz z n parts=>
  simp only[AO.quiet,JhZ]at hq
  subst hq
  simp only[jT,pw,if_true]at h⊢
  simp only[ex]at h
  obtain⟨ps,h,h1⟩:=za _ _ _ _ h
  split at h
  case h_2=>exact h.elim
  rename_i l hl
  simp only[fJ,if_false]at h
  refine⟨_,h,λs' hb ha K' kR=> ?_⟩
  simp only[ex]
  rw[nP ha]
  refine h1 _ ?_
  simp only[hl,fJ,if_false]
  exact kR
 |
  _=>
  first
  |(simp[AO.quiet,pw]at hq;done)
  |(simp only[jT,pw,fJ,if_false]at h⊢
    obtain⟨v,hK,hv⟩:=tM _ _ _ _ h
    refine⟨v,hK,λs' hb ha K' kR=> ?_⟩
    exact Jx hb ha (hv _ kR))
theorem vB {o:AO} {K:St->Prop} (hq:o.quiet=true) (h:fR P s o K):∃v,K (s.put o.dst v)∧Qv P s o v:=by
 unfold fR at h;cases hg:o.guard with
 |
  none=>
  rw[hg]at h
  obtain⟨v,hK,hv⟩:=FU hq h
  refine⟨v,hK,λs' hb ha K' kR=> ?_⟩
  unfold fR;rw[hg]
  exact hv s' hb ha.right K' kR
 |
  some gw=>
  obtain⟨sl,want⟩:=gw
  rw[hg]at h
  simp only at h
  have b6:∀ {s':St},cC s s' o.reads->get s'.env sl=get s.env sl:=λha=>ha sl (by simp[AO.reads,hg])
  split at h
  ·rename_i b hb
   split at h
   ·rename_i hm
    obtain⟨v,hK,hv⟩:=tM _ _ _ _ h
    refine⟨_,hK,λs' ly ha K' kR=> ?_⟩
    unfold fR;rw[hg];simp only[b6 ha,hb,hm,if_true]
    exact Jx ly ha.right (hv _ kR)
   ·rename_i hm
    by_cases pH:b=want
    ·obtain⟨v,hK,hv⟩:=FU hq (h.1 pH)
     refine⟨v,hK,λs' ly ha K' kR=> ?_⟩
     unfold fR;rw[hg];simp only[b6 ha,hb,hm]
     exact⟨λ_=>hv s' ly ha.right K' kR,λhn=>absurd pH hn⟩
    ·refine⟨.un,h.2 pH,λs' ly ha K' kR=> ?_⟩
     unfold fR;rw[hg];simp only[b6 ha,hb,hm]
     exact⟨λhn=>absurd hn pH,λ_=>kR⟩
  ·rename_i g b hb
   split at h
   ·rename_i hm
    obtain⟨v,hK,hv⟩:=tM _ _ _ _ h
    refine⟨_,hK,λs' ly ha K' kR=> ?_⟩
    unfold fR;rw[hg];simp only[b6 ha,hb,hm,if_true]
    exact Jx ly ha.right (hv _ kR)
   ·rename_i hm
    by_cases pH:g=true∧b=want
    ·obtain⟨v,hK,hv⟩:=FU hq (h.1 pH.1 pH.2)
     refine⟨v,hK,λs' ly ha K' kR=> ?_⟩
     unfold fR;rw[hg];simp only[b6 ha,hb,hm]
     exact⟨λ_ _=>hv s' ly ha.right K' kR,λhn=>absurd pH.2 (hn pH.1)⟩
    ·refine⟨.un,h.2 (λh1 h2=>pH ⟨h1,h2⟩),λs' ly ha K' kR=> ?_⟩
     unfold fR;rw[hg];simp only[b6 ha,hb,hm]
     exact⟨λh1 h2=>absurd ⟨h1,h2⟩ pH,λ_=>kR⟩
  ·exact h.elim
end Go.Ab
namespace Go.Ab
variable [cK]
variable {P:Program} {nt:Nat} {ds:List Deferred} {s s':St} [eE]
def tN (d:Option Nat) (s t:St):Prop:=∀n,d≠some n->get t.env n=get s.env n
theorem gT {k:Nat} {v:PV} {b:List (Nat×aU)}:tN (some k) s {env:=put s.env k v,bx:=b}:=by
 intro n hn;rw[bp];intro e;exact hn (by rw[e])
theorem kb {d:Option Nat} {v:PV} {b:List (Nat×aU)}:tN d s ({s with bx:=b}.put d v):=by
 cases d with
 |none=>intro n _;rfl
 |some k=>exact gT
theorem HH {d:Option Nat} {b:List (Nat×aU)}:tN d s {s with bx:=b}:=λ_ _=>rfl
theorem mW {e k:Nat} {u v:PV} {b:List (Nat×aU)} (h:k≠e):({env:=put (put s.env e u) k v,bx:=b}:St)=St.put {env:=put s.env k v,bx:=b} (some e) u:=by
 simp only[St.put];rw[Ab.put_comm (Ne.symm h)]
theorem qg {e:Nat} {d:Option Nat} {u v:PV} {b:List (Nat×aU)} (h:d≠some e):St.put {s.put (some e) u with bx:=b} d v=St.put (St.put {s with bx:=b} d v) (some e) u:=by
 cases d with
 |none=>rfl
 |
  some k=>
  have:k≠e:=λh'=>h (by rw[h'])
  simp only[St.put];rw[Ab.put_comm (Ne.symm this)]
theorem Az {e:Nat} {u:PV} {p:PV}:content (s.put (some e) u) p=content s p:=wE rfl p
theorem K8 {e:Nat} {u:PV} {str:Bool} {sz:Nat} {q:PV} {K:List PV->Prop}:src (s.put (some e) u) str sz q K=src s str sz q K:=by
 unfold src;simp only[Az]
theorem xY {e:Nat} {u:PV} {d:Option Nat} {sz bytes:Nat} {p:PV} {ys:List PV} {K:St->Prop} (hd:d≠some e) (h:fQ (s.put (some e) u) d sz bytes p ys K):
  fQ s d sz bytes p ys λt=>K (t.put (some e) u)∧tN d s t:=by
 cases d with
 |none=>exact h.elim
 |
  some k=>
  have hk:k≠e:=λh'=>hd (by rw[h'])
  unfold fQ at h⊢
  simp only at h⊢
  split at h
  ·refine⟨h.1,?_,gT⟩
   rw[←mW hk];exact h.2
  ·have ly:(s.put (some e) u).bx=s.bx:=rfl
   rw[ly]at h
   split at h
   ·refine⟨h.1,?_,gT⟩
    rw[←mW hk];exact h.2
   ·exact h.elim
  ·have ly:(s.put (some e) u).bx=s.bx:=rfl
   rw[ly]at h
   split at h
   ·refine⟨h.1,λhle=>⟨?_,gT⟩,λdk=>⟨?_,gT⟩⟩
    ·rw[←mW hk];exact h.2.1 hle
    ·rw[←mW hk];exact h.2.2 dk
   ·exact h.elim
  ·rw[Az]at h
   obtain⟨bN,l,h,h2⟩:∃bN l,_∧_:=by
    have:=h;exact qc _ _ _ this
   exact h2 _ ⟨h.1,by rw[←mW hk];exact h.2,gT⟩
  ·exact h.elim
theorem Jy {e:Nat} {u:PV} {d:Option Nat} {sz bytes:Nat} {z p:PV} {m:Int} {K:St->Prop} (hd:d≠some e) (h:pY (s.put (some e) u) d sz bytes z p m K):
  pY s d sz bytes z p m λt=>K (t.put (some e) u)∧tN d s t:=by
 cases d with
 |none=>exact h.elim
 |
  some k=>
  have hk:k≠e:=λh'=>hd (by rw[h'])
  unfold pY at h⊢
  simp only at h⊢
  split at h
  ·have ly:(s.put (some e) u).bx=s.bx:=rfl
   rw[ly]at h
   split at h
   ·refine⟨h.1,?_,gT⟩
    rw[←mW hk];exact h.2
   ·exact h.elim
  ·exact h.elim
theorem wU {e:Nat} {u:PV} {d:Option Nat} {sz:Nat} {p:PV} {ys:List PV} {K:St->Prop} (hd:d≠some e) (h:j8 (s.put (some e) u) d sz p ys K):
  j8 s d sz p ys λt=>K (t.put (some e) u)∧tN d s t:=by
 have ly:(s.put (some e) u).bx=s.bx:=rfl;cases p<;>simp only[j8]at h⊢<;>first|exact h|skip
 rename_i k pth off len aN bN c;rw[ly]at h;split at h
 ·refine⟨h.1,?_,kb⟩;rw[←qg hd];exact h.2
 ·rename_i v hv;split at h
  ·rename_i sz'' n l hg;split at h
   ·rename_i v' hs;refine⟨h.1,?_,kb⟩;rw[←qg hd];exact h.2
   ·exact h.elim
  ·exact h.elim
 ·exact h.elim
theorem O8 {e:Nat} {u:PV} {d:Option Nat} {k:AK} {K:St->Prop} (hd:d≠some e) (hr:e∉k.reads) (h:ex (s.put (some e) u) d k K):
  ex s d k λt=>K (t.put (some e) u)∧tN d s t:=by
 have ag:cC s (s.put (some e) u) k.reads:=cC.put (λj hj=>by cases hj;exact hr);have ly:(s.put (some e) u).bx=s.bx:=rfl;cases k with
 |
  alloc z=>
  cases d with
  |none=>exact h.elim
  |
   some k=>
   have hk:k≠e:=λh'=>hd (by rw[h'])
   simp only[ex]at h⊢
   refine⟨h.1,?_,gT⟩
   rw[←mW hk];exact h.2
 |
  box x=>
  cases d with
  |none=>exact h.elim
  |
   some k=>
   have hk:k≠e:=λh'=>hd (by rw[h'])
   simp only[ex]at h⊢
   rw[aH ag]at h
   refine bE h λp hp=>⟨hp.1,?_,gT⟩
   rw[←mW hk];exact hp.2
 |
  buildSlice own sz z n parts=>
  simp only[ex]at h⊢
  rw[nP ag]at h
  obtain⟨ps,h,h1⟩:=za _ _ _ _ h
  refine h1 _ ?_
  split at h
  ·split at h
   ·cases d with
    |none=>exact h.elim
    |
     some k=>
     have hk:k≠e:=λh'=>hd (by rw[h'])
     rename_i l hl ho
     simp only[hl,if_true]
     refine⟨h.1,?_,gT⟩
     rw[←mW hk];exact h.2
   ·rename_i l hl ho
    simp only[if_neg ho]
    refine⟨?_,kb (b:=s.bx)⟩
    have:=qg (s:=s) (b:=s.bx) (u:=u) (v:= .sl sz l true) hd
    exact this▸h
  ·exact h.elim
 |
  makeSlice sz bytes z len cap=>
  cases d with
  |
   none=>
   simp only[ex]at h
   obtain⟨p,h,_⟩:=ss _ _ _ _ h
   obtain⟨l,h,_⟩:=qU _ _ h
   obtain⟨q,h,_⟩:=ss _ _ _ _ h
   obtain⟨c,h,_⟩:=qU _ _ h
   exact h.elim
  |
   some k=>
   have hk:k≠e:=λh'=>hd (by rw[h'])
   simp only[ex]at h⊢
   rw[aH ag.left]at h
   refine bE h λp hp=>qf hp λl hl=> ?_
   rw[aH ag.right]at hl
   refine bE hl λq hq=>qf hq λc hc=>⟨hc.1,?_,gT⟩
   rw[←mW hk];exact hc.2
 |
  store n x y=>
  simp only[ex]at h⊢
  rw[aH ag.left]at h
  refine bE h λp hp=> ?_
  rw[aH ag.right]at hp
  refine bE hp λv hv=> ?_
  cases p<;>simp only at hv⊢
  rename_i k pth aN
  rw[ly]at hv
  split at hv
  ·split at hv
   ·exact⟨hv.1,hv.2,HH⟩
   ·exact hv.elim
  ·exact hv.elim
 |
  isNil ng x=>
  simp only[ex]at h⊢
  rw[aH ag]at h
  refine bE h λp hp=> ?_
  cases p<;>simp only at hp⊢
  ·intro b hb
   refine⟨?_,kb (b:=s.bx)⟩
   have:=qg (s:=s) (b:=s.bx) (u:=u) (v:= .bl (b !=ng)) hd
   exact this▸hp b hb
  ·rename_i k _ _ _ _ _ _
   rw[ly]at hp
   split at hp
   ·refine⟨hp.1,λb hb=>⟨?_,kb (b:=s.bx)⟩⟩
    have:=qg (s:=s) (b:=s.bx) (u:=u) (v:= .bl (b !=ng)) hd
    exact this▸hp.2 b hb
   ·exact hp.elim
 |
  appendZ sz bytes z x y=>
  simp only[ex]at h⊢
  rw[aH ag.left]at h
  refine bE h λp hp=> ?_
  rw[aH ag.right]at hp
  refine bE hp λq hq=>qf hq λm hm=>Jy hd hm
 |
  append sz bytes str x y=>
  simp only[ex]at h⊢
  rw[aH ag.left]at h
  refine bE h λp hp=> ?_
  rw[aH ag.right]at hp
  refine bE hp λq hq=> ?_
  rw[K8]at hq
  unfold src at hq⊢
  split at hq
  ·rename_i hs
   simp only[hs,if_true]
   cases q<;>simp only at hq⊢
   exact⟨hq.1,xY hd hq.2⟩
  ·rename_i hs
   simp only[hs]
   obtain⟨z,l,hq,h2⟩:=qc _ _ _ hq
   exact h2 _ ⟨hq.1,xY hd hq.2⟩
 |
  copy sz x y=>
  simp only[ex]at h⊢
  rw[aH ag.left]at h
  refine bE h λp hp=> ?_
  rw[aH ag.right]at hp
  refine bE hp λq hq=> ?_
  have avf:∀str,src (s.put (some e) u) str sz q (λys=>j8 (s.put (some e) u) d sz p ys K)->src s str sz q (λys=>j8 s d sz p ys λt=>K (t.put (some e) u)∧tN d s t):=by
   intro str hq;rw[K8]at hq;unfold src at hq⊢;split at hq
   ·rename_i hs;simp only[hs,if_true];cases q<;>simp only at hq⊢;exact⟨hq.1,wU hd hq.2⟩
   ·rename_i hs;simp only[hs];obtain⟨z,l,hq,h2⟩:=qc _ _ _ hq;exact h2 _ ⟨hq.1,wU hd hq.2⟩
  cases q<;>exact avf _ hq
 |
  fill sz z x=>
  simp only[ex]at h⊢
  rw[aH ag]at h
  refine bE h λp hp=> ?_
  obtain⟨h1,h2⟩:=hp
  subst h1
  refine⟨rfl,?_⟩
  cases p<;>simp only at h2⊢<;>first|exact h2.elim|skip
  exact wU hd h2
 |
  mkMap ks vs=>
  cases d with
  |none=>exact h.elim
  |
   some k=>
   have hk:k≠e:=λh'=>hd (by rw[h'])
   simp only[ex]at h⊢
   refine⟨h.1,λb=>⟨?_,gT⟩⟩
   rw[←mW hk];exact h.2 b
 |
  mapGet ks vs z ok m x=>
  simp only[ex]at h⊢
  rw[aH ag.left]at h
  refine bE h λpm hp=> ?_
  rw[aH ag.right]at hp
  refine bE hp λp hq=> ?_
  cases pm<;>simp only at hq⊢<;>first|exact hq.elim|skip
  rw[ly]at hq
  split at hq
  ·rename_i b' BR DV l hg
   refine⟨hq.1,?_,kb (b:=s.bx)⟩
   have:=qg (s:=s) (b:=s.bx) (u:=u) (v:=if ok=true then .tup [(Ao p l).getD z,.bl (Ao p l).isSome]else(Ao p l).getD z) hd
   exact this▸hq.2
  ·exact hq.elim
 |
  mapSet ks vs m x y=>
  simp only[ex]at h⊢
  rw[aH ag.left]at h
  refine bE h λpm hp=> ?_
  rw[aH ag.right.left]at hp
  refine bE hp λp hq=> ?_
  rw[aH ag.right.right]at hq
  refine bE hq λv hv=> ?_
  cases pm<;>simp only at hv⊢<;>first|exact hv.elim|skip
  rw[ly]at hv
  split at hv
  ·exact⟨hv.1,hv.2,HH⟩
  ·exact hv.elim
 |
  convL x=>
  simp only[ex]at h⊢
  rw[aH ag]at h
  refine bE h λp hp=> ?_
  cases p<;>simp only at hp⊢<;>first|exact hp.elim|skip
  rename_i k pth off len aN sz c
  rw[ly]at hp
  split at hp
  ·rename_i bN l hg
   refine⟨hp.1,?_,kb (b:=put s.bx k (.arr 1 (l++[.int .u8 0])))⟩
   have:=qg (s:=s) (b:=put s.bx k (.arr 1 (l++[.int .u8 0]))) (u:=u) (v:= .sl 1 l false) hd
   exact this▸hp.2
  ·exact hp.elim
 |
  convB x=>
  simp only[ex]at h⊢
  rw[aH ag]at h
  refine bE h λp hp=> ?_
  cases p<;>simp only at hp⊢<;>first|exact hp.elim|skip
  rename_i bs
  refine⟨?_,kb (b:=s.bx)⟩
  have:=qg (s:=s) (b:=s.bx) (u:=u) (v:= .sl 1 (bs.map u8) false) hd
  exact this▸hp
 |_=>exact h.elim
theorem HI {e:Nat} {u:PV} {d:Option Nat} {f:AX} {args:List AX} {K:St->Prop} (hd:d≠some e) (hr:e∉(AK.call f args).reads) (h:mS P (s.put (some e) u) d f args K):
  mS P s d f args λt=>K (t.put (some e) u)∧tN d s t:=by
 have ag:cC s (s.put (some e) u) (AK.call f args).reads:=cC.put (λj hj=>by cases hj;exact hr);unfold mS at h⊢;rw[aH ag.left]at h;refine bE h λpf hpf=> ?_;rw[fB ag.right]at hpf;obtain⟨ps,hp,h2⟩:=sX _ _ _ _ hpf;refine h2 _ ?_;split at hp
 ·obtain⟨ks,os,bL,R,a1,a2,a3,a4,a5,a6,a7⟩:=hp;refine⟨ks,os,bL,R,a1,a2,a3,a4,a5,a6,λr fp hR=>⟨(a7 r fp hR).1,?_,kb⟩⟩;rw[←qg hd];exact(a7 r fp hR).2
 ·obtain⟨bL,R,a1,a2,a3,a4,a5⟩:=hp;refine⟨bL,R,a1,a2,a3,a4,λfp hR=>⟨(a5 fp hR).1,?_,kb⟩⟩;rw[←qg hd];exact(a5 fp hR).2
 ·exact hp.elim
end Go.Ab
namespace Go.Ab
variable [cK]
variable {P:Program} {s:St} [eE]
theorem By {g:Bool} {k:AK} {K K':PV->Prop} (h:∀p,K p->K' p) (hk:ev g s k K):ev g s k K':=by
 obtain⟨p,h1,h2⟩:=tM g s k K hk;exact h2 K' (h p h1)
theorem eV {g:Bool} {x:AX} {K K':PV->Prop} (h:∀p,K p->K' p) (hk:vg g s x K):vg g s x K':=by
 obtain⟨p,h1,h2⟩:=ss g s x K hk;exact h2 K' (h p h1)
theorem HJ {g:Bool} {xs:List AX} {K K':List PV->Prop} (h:∀p,K p->K' p) (hk:xq g s xs K):xq g s xs K':=by
 obtain⟨p,h1,h2⟩:=sX g s xs K hk;exact h2 K' (h p h1)
theorem O9 {g:Bool} {xs:List (Nat×AX)} {K K':List (Nat×PV)->Prop} (h:∀p,K p->K' p) (hk:B8 g s xs K):B8 g s xs K':=by
 obtain⟨p,h1,h2⟩:=za g s xs K hk;exact h2 K' (h p h1)
theorem zg {p:PV} {K K':Int->Prop} (h:∀p,K p->K' p) (hk:pq p K):pq p K':=by
 obtain⟨p,h1,h2⟩:=qU p K hk;exact h2 K' (h p h1)
theorem xZ {p:PV} {K K':Nat->List PV->Prop} (h:∀a b,K a b->K' a b) (hk:content s p K):content s p K':=by
 obtain⟨a,b,h1,h2⟩:=qc s p K hk;exact h2 K' (h a b h1)
theorem CG {str:Bool} {sz:Nat} {q:PV} {K K':List PV->Prop} (h:∀p,K p->K' p) (hk:src s str sz q K):src s str sz q K':=by
 unfold src at hk⊢;split at hk
 ·rename_i hs;rw[if_pos hs];split at hk
  ·exact⟨hk.1,h _ hk.2⟩
  ·exact hk.elim
 ·rename_i hs;rw[if_neg hs];exact xZ (λa b N2=>⟨N2.1,h _ N2.2⟩) hk
theorem D5 {d:Option Nat} {sz b:Nat} {p:PV} {ys:List PV} {K K':St->Prop} (h:∀p,K p->K' p) (hk:fQ s d sz b p ys K):fQ s d sz b p ys K':=by
 unfold fQ at hk⊢;split at hk
 ·exact hk.elim
 ·split at hk
  ·exact⟨hk.1,h _ hk.2⟩
  ·split at hk
   ·exact⟨hk.1,h _ hk.2⟩
   ·exact hk.elim
  ·split at hk
   ·exact⟨hk.1,λhle=>h _ (hk.2.1 hle),λdk=>h _ (hk.2.2 dk)⟩
   ·exact hk.elim
  ·exact xZ (λa b N2=>⟨N2.1,h _ N2.2⟩) hk
  ·exact hk.elim
theorem HL {d:Option Nat} {sz b:Nat} {z p:PV} {m:Int} {K K':St->Prop} (h:∀p,K p->K' p) (hk:pY s d sz b z p m K):pY s d sz b z p m K':=by
 unfold pY at hk⊢;split at hk
 ·exact hk.elim
 ·split at hk
  ·split at hk
   ·exact⟨hk.1,h _ hk.2⟩
   ·exact hk.elim
  ·exact hk.elim
theorem uF {d:Option Nat} {sz:Nat} {p:PV} {ys:List PV} {K K':St->Prop} (h:∀p,K p->K' p) (hk:j8 s d sz p ys K):j8 s d sz p ys K':=by
 unfold j8 at hk⊢;split at hk
 ·split at hk
  ·exact⟨hk.1,h _ hk.2⟩
  ·split at hk
   ·split at hk
    ·exact⟨hk.1,h _ hk.2⟩
    ·exact hk.elim
   ·exact hk.elim
  ·exact hk.elim
 ·exact hk.elim
theorem Tz {d:Option Nat} {k:AK} {K K':St->Prop} (h:∀p,K p->K' p) (hk:ex s d k K):ex s d k K':=by
 cases k with
 |alloc z=>simp only[ex]at hk⊢;split at hk;exact⟨hk.1,h _ hk.2⟩;exact hk.elim
 |box x=>simp only[ex]at hk⊢;split at hk;exact eV (λp hp=>⟨hp.1,h _ hp.2⟩) hk;exact hk.elim
 |
  buildSlice own sz z n parts=>
  simp only[ex]at hk⊢
  refine O9 (λps hp=> ?_) hk
  split at hp
  ·split at hp
   ·rename_i ho;rw[if_pos ho]
    split at hp
    ·exact⟨hp.1,h _ hp.2⟩
    ·exact hp.elim
   ·rename_i ho;rw[if_neg ho];exact h _ hp
  ·exact hp.elim
 |
  makeSlice sz b z l c=>
  simp only[ex]at hk⊢
  refine eV (λp hp=>zg (λn hn=>eV (λq hq=>zg (λm hm=> ?_) hq) hn) hp) hk
  split at hm
  ·exact⟨hm.1,h _ hm.2⟩
  ·exact hm.elim
 |
  store n x y=>
  simp only[ex]at hk⊢
  refine eV (λp hp=>eV (λv hv=> ?_) hp) hk
  split at hv
  ·split at hv
   ·split at hv
    ·exact⟨hv.1,h _ hv.2⟩
    ·exact hv.elim
   ·exact hv.elim
  ·exact hv.elim
 |
  isNil ng x=>
  simp only[ex]at hk⊢
  refine eV (λp hp=> ?_) hk
  split at hp
  ·exact λb hb=>h _ (hp b hb)
  ·split at hp
   ·exact⟨hp.1,λb hb=>h _ (hp.2 b hb)⟩
   ·exact hp.elim
  ·exact hp.elim
 |
  append sz b str x y=>
  simp only[ex]at hk⊢
  exact eV (λp hp=>eV (λq hq=>CG (λys hy=>D5 h hy) hq) hp) hk
 |
  copy sz x y=>
  simp only[ex]at hk⊢
  refine eV (λp hp=>eV (λq hq=> ?_) hp) hk
  split at hq
  ·exact CG (λys hy=>uF h hy) hq
  ·exact CG (λys hy=>uF h hy) hq
 |
  appendZ sz b z x y=>
  simp only[ex]at hk⊢
  exact eV (λp hp=>eV (λq hq=>zg (λm hm=>HL h hm) hq) hp) hk
 |
  fill sz z x=>
  simp only[ex]at hk⊢
  refine eV (λp hp=> ?_) hk
  obtain⟨h1,h2⟩:=hp
  refine⟨h1,?_⟩
  cases p<;>simp only at h2⊢<;>first|exact h2.elim|exact uF h h2
 |mkMap ks vs=>simp only[ex]at hk⊢;split at hk;exact⟨hk.1,λb=>h _ (hk.2 b)⟩;exact hk.elim
 |
  mapGet ks vs z ok m x=>
  simp only[ex]at hk⊢
  refine eV (λpm hp=>eV (λp hq=> ?_) hp) hk
  cases pm<;>simp only at hq⊢<;>first|exact hq.elim|skip
  split at hq
  ·exact⟨hq.1,h _ hq.2⟩
  ·exact hq.elim
 |
  mapSet ks vs m x y=>
  simp only[ex]at hk⊢
  refine eV (λpm hp=>eV (λp hq=>eV (λv hv=> ?_) hq) hp) hk
  cases pm<;>simp only at hv⊢<;>first|exact hv.elim|skip
  split at hv
  ·exact⟨hv.1,h _ hv.2⟩
  ·exact hv.elim
 |
  convL x=>
  simp only[ex]at hk⊢
  refine eV (λp hp=> ?_) hk
  cases p<;>simp only at hp⊢<;>first|exact hp.elim|skip
  split at hp
  ·exact⟨hp.1,h _ hp.2⟩
  ·exact hp.elim
 |
  convB x=>
  simp only[ex]at hk⊢
  refine eV (λp hp=> ?_) hk
  cases p<;>simp only at hp⊢<;>first|exact hp.elim|exact h _ hp
 |_=>simp only[ex]at hk
theorem Jz {d:Option Nat} {f:FuncId} {l:List PV} {ks os:List Nat} {K K':St->Prop} (h:∀p,K p->K' p) (hk:xI P s d f l ks os K):xI P s d f l ks os K':=by
 obtain⟨b,R,h1,h2,h3,h4,h5,h6,h7⟩:=hk;exact⟨b,R,h1,h2,h3,h4,h5,h6,λr fp hr=>⟨(h7 r fp hr).1,h _ (h7 r fp hr).2⟩⟩
theorem JA {d:Option Nat} {f:AX} {l:List AX} {K K':St->Prop} (h:∀p,K p->K' p) (hk:mS P s d f l K):mS P s d f l K':=by
 unfold mS at hk⊢;refine eV (λpf hf=>HJ (λps hp=> ?_) hf) hk;split at hp
 ·obtain⟨ks,os,hc⟩:=hp;exact⟨ks,os,Jz h hc⟩
 ·obtain⟨bL,R,a1,a2,a3,a4,a5⟩:=hp;exact⟨bL,R,a1,a2,a3,a4,λfp hR=>⟨(a5 fp hR).1,h _ (a5 fp hR).2⟩⟩
 ·exact hp.elim
theorem JB {d:Option Nat} {f:AX} {l:List AX} {K K':St->Prop} (h:∀p,K p->K' p) (hk:qb P s d f l K):qb P s d f l K':=by
 unfold qb at hk⊢;refine eV (λpf hf=>HJ (λps hp=> ?_) hf) hk;split at hp
 ·obtain⟨v,h1,h2,h3⟩:=hp;exact⟨v,h1,h2,h _ h3⟩
 ·exact hp.elim
theorem CH {o:AO} {K K':St->Prop} (h:∀p,K p->K' p) (hk:jT P s o K):jT P s o K':=by
 unfold jT at hk⊢;split at hk
 ·exact JA h hk
 ·exact JB h hk
 ·split at hk
  ·rename_i he;rw[if_pos he];exact Tz h hk
  ·rename_i he;rw[if_neg he];exact By (λp hp=>h _ hp) hk
theorem bV {o:AO} {K K':St->Prop} (h:∀p,K p->K' p) (hk:fR P s o K):fR P s o K':=by
 unfold fR at hk⊢;split at hk
 ·exact CH h hk
 ·split at hk
  ·split at hk
   ·rename_i hm;rw[if_pos hm];exact By (λp hp=>h _ hp) hk
   ·rename_i hm;rw[if_neg hm];exact⟨λe=>CH h (hk.1 e),λe=>h _ (hk.2 e)⟩
  ·split at hk
   ·rename_i hm;rw[if_pos hm];exact By (λp hp=>h _ hp) hk
   ·rename_i hm;rw[if_neg hm];exact⟨λe e'=>CH h (hk.1 e e'),λe=>h _ (hk.2 e)⟩
  ·exact hk.elim
end Go.Ab
namespace Go.Ab
variable [cK]
variable {P:Program} {nt:Nat} {ds:List Deferred} {s s':St} [eE]
def AO.dS:AO->Option Nat
 |⟨some k,none,_,.alloc _⟩=>some k
 |⟨some k,none,_,.makeSlice _ b _ (.c (.int _ l)) (.c (.int _ c))⟩=>if 0≤l∧l≤c∧c*b≤281474976710656∧c≤9223372036854775807 then some k else none
 |_=>none
def AO.alq (y:AO):Bool:=y.guard.isNone&&((match y.k with| .call .. =>true|_=>false)||y.dS.isSome)
def rC (k:Nat) (z:PV×aU) (s:St):St:= {env:=put s.env k z.1,bx:=put s.bx k z.2}
theorem Pa {k:Nat} {z:PV×aU} {l:List Nat} (h:k∉l):cC s (rC k z s) l:=by
 intro n hn;simp only[rC];rw[bp];rintro rfl;exact h hn
theorem vC {k:Nat} {b:aU}:∀ {ks:List Nat} {bx:List (Nat×aU)} {l:List aU},get bx k=none->getAll bx ks=some l->getAll (put bx k b) ks=some l
 |[],bx,l,_,h=>h
 |
  x::ks,bx,l,hn,h=>by
  simp only[getAll]at h⊢
  split at h
  ·rename_i u v hu hv
   have cS:k≠x:=by rintro rfl;rw[hn]at hu;simp at hu
   rw[bp _ _ _ _ cS,hu,vC hn hv]
   exact h
  ·simp at h
theorem zh {k:Nat} {b:aU}:∀ {ks:List Nat} {bx:List (Nat×aU)} {l:List aU},k∉ks->aI (put bx k b) ks l=put (aI bx ks l) k b
 |[],bx,l,_=>by cases l<;>rfl
 |x::ks,bx,[],_=>rfl
 |
  x::ks,bx,y::l,h=>by
  simp only[aI]
  rw[Ab.put_comm (n:=k) (m:=x) (by rintro rfl;simp at h),zh (λh'=>h (by simp[h']))]
theorem s6 {k:Nat}:∀ {ks:List Nat} {bx:List (Nat×aU)} {l:List aU},get bx k=none->getAll bx ks=some l->k∉ks
 |[],_,_,_,_=>by simp
 |
  x::ks,bx,l,hn,h=>by
  simp only[getAll]at h
  split at h
  ·rename_i u v hu hv
   intro hm
   rcases cJ.1 hm with rfl|hm
   ·rw[hn]at hu;simp at hu
   ·exact s6 hn hv hm
  ·simp at h
theorem Xq {k:Nat} {z:PV×aU} {d:Option Nat} {v:PV} {b:List (Nat×aU)} (hd:d≠some k):St.put {env:=put s.env k z.1,bx:=put b k z.2} d v=rC k z (St.put {s with bx:=b} d v):=by
 cases d with
 |none=>rfl
 |
  some j=>
  have:j≠k:=λh=>hd (by rw[h])
  simp only[St.put,rC]
  rw[Ab.put_comm (Ne.symm this)]
theorem Pb {d:Option Nat} {f:FuncId} {args:List PV} {ks os:List Nat} {k:Nat} {z:PV×aU} {K:St->Prop} (hd:d≠some k) (hn:get s.bx k=none) (h:xI P s d f args ks os λt=>get t.bx k=none∧K (rC k z t)):∃os',xI P (rC k z s) d f args ks os' K:=by
 obtain⟨bL,R,a1,a2,a3,a4,a5,a6,a7⟩:=h;have hk:=s6 hn a1;by_cases hR:∃r fp,R r fp
 ·obtain⟨r0,fp0,hR0⟩:=hR
  have Z7:k∉os:=by
   intro hm;obtain⟨⟨b1,_,_⟩,b2,_⟩:=a7 r0 fp0 hR0;have e:({s with bx:=aI s.bx (ks++os) (fp0.map (az (cL (ks++os))))}.put d (aE (cL (ks++os)) r0)).bx=aI s.bx (ks++os) (fp0.map (az (cL (ks++os)))):=by cases d<;>rfl
   rw[e,wO k a2 (by simpa using b1)]at b2;cases hi:idx (ks++os) k with
   |none=>exact Hm hi (by simp[hm])
   |
    some i=>
    rw[hi]at b2
    have:=(iJ.1 (oh hi)).1
    simp at b2
    omega
  refine⟨os,bL,R,vC hn a1,a2,λo ho=> ?_,a4,a5,a6,λr fp hr=>⟨(a7 r fp hr).1,?_⟩⟩
  ·simp only[rC];rw[bp]
   ·exact a3 o ho
   ·rintro rfl;exact Z7 ho
  ·have:=(a7 r fp hr).2.2;simp only[rC]at this⊢;rw[zh (by simp[hk,Z7]),Xq hd];exact this
 ·exact⟨[],bL,R,vC hn a1,by simpa using(JgJ.1 a2).1,by simp,a4,a5,a6,λr fp hr=>absurd ⟨r,fp,hr⟩ hR⟩
theorem Pc {d:Option Nat} {f:AX} {args:List AX} {k:Nat} {z:PV×aU} {K:St->Prop} (hd:d≠some k) (hn:get s.bx k=none) (hr:k∉(AK.call f args).reads) (h:mS P s d f args λt=>get t.bx k=none∧K (rC k z t)):mS P (rC k z s) d f args K:=by
 have ag:cC s (rC k z s) (AK.call f args).reads:=Pa hr;unfold mS at h⊢;rw[aH ag.left];refine bE h λpf hpf=> ?_;rw[fB ag.right];obtain⟨ps,hp,h2⟩:=sX _ _ _ _ hpf;refine h2 _ ?_;split at hp
 ·obtain⟨ks,os,hc⟩:=hp;obtain⟨os',GP⟩:=Pb hd hn hc;exact⟨ks,os',GP⟩
 ·obtain⟨bL,R,a1,a2,a3,a4,a5⟩:=hp;have hk:=s6 hn a1;refine⟨bL,R,vC hn a1,a2,a3,a4,λfp hR=>⟨(a5 fp hR).1,?_⟩⟩;have:=(a5 fp hR).2.2;simp only[rC]at this⊢;rw[zh hk,Xq hd];exact this
 ·exact hp.elim
theorem qh {x:AO} {k:Nat} (hx:x.dS=some k):∃z,x.dst=some k∧∀(s:St) (K:St->Prop),fR P s x K↔(get s.bx k=none∧K (rC k z s)):=by
 unfold AO.dS at hx;split at hx
 ·rename_i k' mg z;simp only[sJ]at hx;subst hx;exact⟨(.pt k' [] 0,.box z),rfl,λs K=>Iff.rfl⟩
 ·rename_i k' mg sz b z kl l kc c;split at hx
  ·rename_i hc;simp only[sJ]at hx;subst hx;refine⟨(.rs k' [] 0 l.toNat l.toNat sz .tip,.arr sz (List.replicate l.toNat z)),rfl,λs K=> ?_⟩;have e:fR P s ⟨some k',none,mg,.makeSlice sz b z (.c (.int kl l)) (.c (.int kc c))⟩ K↔((get s.bx k'=none∧0≤l∧l≤c∧c*b≤281474976710656∧c≤9223372036854775807)∧K (rC k' (.rs k' [] 0 l.toNat l.toNat sz .tip,.arr sz (List.replicate l.toNat z)) s)):=Iff.rfl;rw[e];exact⟨λh=>⟨h.1.1,h.2⟩,λh=>⟨⟨h.1,hc⟩,h.2⟩⟩
  ·simp at hx
 ·simp at hx
theorem JC {y:AO} {k:Nat} {z:PV×aU} {K:St->Prop} (hy:y.alq=true) (hd:y.dst≠some k) (hr:k∉y.reads) (hn:get s.bx k=none) (h:fR P s y λt=>get t.bx k=none∧K (rC k z t)):fR P (rC k z s) y K:=by
 unfold AO.alq at hy;simp only[aJ]at hy;cases lN:y.dS with
 |
  some j=>
  obtain⟨z',DR,hw⟩:=qh (P:=P) lN
  have yO:j≠k:=λh=>hd (by rw[DR,h])
  have h:get s.bx j=none∧get (rC j z' s).bx k=none∧K (rC k z (rC j z' s)):=(hw _ _).1 h
  refine(hw _ _).2 ⟨by simp only[rC];rw[bp _ _ _ _ (Ne.symm yO)];exact h.1,?_⟩
  have e:rC j z' (rC k z s)=rC k z (rC j z' s):=by
   simp only[rC];rw[Ab.put_comm (Ne.symm yO),Ab.put_comm (Ne.symm yO)]
  rw[e];exact h.2.2
 |
  none=>
  obtain⟨dst,guard,mg,ak⟩:=y
  rw[lN]at hy
  cases guard with
  |some g=>simp at hy
  |
   none=>
   cases ak with
   |call f args=>exact Pc hd hn (λh=>hr (by simp[AO.reads,h])) h
   |_=>simp at hy
end Go.Ab
namespace Go.Ab
variable [cK]
variable {P:Program} {nt:Nat} {ds:List Deferred} {s s':St} [eE]
def JD:List Nat->Bool
 |a::b::_=>a==b
 |_=>false
def yc (W:List Nat) (k:Nat) (b:aU):aU:=match b with| .box v=>if JD W=true∧W.contains k=true then HF else .box v|b=>b
def St.less (s:St) (W:List Nat):St:= {s with bx:=(s.bx.filter λp=>JD W|| !W.contains p.1).map λp=>(p.1,yc W p.1 p.2)}
def Fr (W:List Nat) (s t:St):Prop:=∀k b,(JD W|| !W.contains k)=true->get s.bx k=some b->∃b',get t.bx k=some b'∧yc W k b'=yc W k b
theorem get_filter {c:Nat->Bool} (k:Nat):∀l:List (Nat×aU),get (l.filter λp=>c p.1) k=if c k=true then get l k else none
 |[]=>by simp[get]
 |
  (n,v)::r=>by
  have ih:=get_filter (c:=c) k r
  by_cases hn:c n=true
  ·rw[JmZ (by simpa using hn)]
   simp only[get,ih]
   by_cases hk:n=k
   ·subst hk;rw[if_pos rfl,if_pos hn,if_pos rfl]
   ·rw[if_neg hk,if_neg hk]
  ·rw[List.filter_cons_of_neg (by simpa using hn),ih]
   by_cases hk:n=k
   ·subst hk;rw[if_neg hn,if_neg hn]
   ·simp only[get,if_neg hk]
theorem K9 {W:List Nat} (k:Nat):∀l:List (Nat×aU),get (l.map λp=>(p.1,yc W p.1 p.2)) k=(get l k).map (yc W k)
 |[]=>rfl
 |
  (n,v)::r=>by
  simp only[JdX,get]
  by_cases hk:n=k
  ·subst hk;simp
  ·rw[if_neg hk,if_neg hk];exact K9 k r
theorem CI {W:List Nat} (k:Nat):get (s.less W).bx k=if(JD W|| !W.contains k)=true then(get s.bx k).map (yc W k)else none:=by
 simp only[St.less,K9];rw[get_filter (c:=λn=>JD W|| !W.contains n)];split<;>rfl
theorem Pd (W:List Nat):Sub (s.less W).bx s.bx:=by
 intro k b h;rw[CI]at h;split at h
 ·cases hg:get s.bx k with
  |none=>rw[hg]at h;simp at h
  |
   some c=>
   rw[hg]at h
   simp only[JjJ,sJ]at h
   cases c with
   |
    box v=>
    simp only[yc]at h
    split at h
    ·exact .inr ⟨h.symm,v,rfl⟩
    ·exact .inl (by rw[h])
   |arr sz l=>exact .inl (by rw[←h];rfl)
   |map b ks vs l=>exact .inl (by rw[←h];rfl)
 ·simp at h
theorem Bz {W:List Nat} (h:Fr W s s'):Sub (s.less W).bx (s'.less W).bx:=by
 intro k b hk;rw[CI]at hk;split at hk
 ·rename_i hw;cases hg:get s.bx k with
  |none=>rw[hg]at hk;simp at hk
  |
   some c=>
   obtain⟨b',h1,h2⟩:=h k c hw hg
   rw[hg]at hk
   left
   rw[CI,if_pos hw,h1,JjJ,h2]
   exact hk
 ·simp at hk
theorem Pe {W:List Nat} {d:Option Nat} {v:PV}:(s.put d v).less W=(s.less W).put d v:=by cases d<;>rfl
theorem zi {W:List Nat} {d:Option Nat} {v:PV}:({((s.less W).put d v)with bx:=s.bx}:St)=s.put d v:=by cases d<;>rfl
def jg (P:Program) (W:List Nat) (f:Bool) (s:St) (o:AO) (K:St->Prop):Prop:=
 if o.quiet=true then(if f=true then fR P (s.less W) o (λt=>K {t with bx:=s.bx})else fR P s o K)else fR P s o (λt=>(f=true->Fr W s t)∧K t)
def dT (aos:List AO) (s:St) (l:List Nat):Bool:=l.all λi=>match aos[i]?with|some o=>(match o.dS with|some k=>(get s.bx k).isNone|none=>true)|none=>true
def iE (P:Program) (aos:List AO) (fl:Nat->Bool) (W:List Nat) (s:St):List Nat->(St->Prop)->Prop
 |[],K=>K s
 |
  i::r,K=>match aos[i]?with
  |some o=>dT aos s (i::r)=true∧jg P W (fl i) s o λt=>iE P aos fl W t r K
  |none=>False
theorem zj {aos:List AO} {fl:Nat->Bool} {W:List Nat} {K:St->Prop}:∀ {l:List Nat} {s:St},iE P aos fl W s l K->dT aos s l=true
 |[],s,_=>rfl
 |
  i::r,s,h=>by
  simp only[iE]at h
  split at h
  ·exact h.1
  ·exact h.elim
theorem ke {aos:List AO} {s s':St} (h:s'.bx=s.bx) (l:List Nat):dT aos s' l=dT aos s l:=by unfold dT;rw[h]
theorem bP {aos:List AO} {s:St} {i:Nat} {l:List Nat}:dT aos s (i::l)=(dT aos s [i]&&dT aos s l):=by simp[dT]
theorem nR {aos:List AO} {s:St} {l m:List Nat}:dT aos s (l++m)=(dT aos s l&&dT aos s m):=by simp[dT]
theorem La {aos:List AO} {s:St} {i j:Nat} {l m:List Nat} (h:dT aos s (j::(l++i::m))=true):dT aos s [j]=true∧dT aos s l=true∧dT aos s [i]=true∧dT aos s m=true:=by
 rw[bP (l:=l++i::m),nR,bP (l:=m)]at h;simpa only[aJ]using h
theorem Lb {aos:List AO} {s:St} {j:Nat} {l m:List Nat} (h1:dT aos s [j]=true) (h2:dT aos s l=true) (h3:dT aos s m=true):dT aos s (j::(l++m))=true:=by
 rw[bP (l:=l++m),nR,h1,h2,h3];rfl
theorem sv {aos:List AO} {s:St} {i:Nat} {x:AO} {k:Nat} (hi:aos[i]? =some x) (hx:x.dS=some k):dT aos s [i]=true↔get s.bx k=none:=by simp[dT,hi,hx]
theorem kK {aos:List AO} {s:St} {i:Nat} {x:AO} (hi:aos[i]? =some x) (hx:x.dS=none):dT aos s [i]=true:=by simp[dT,hi,hx]
theorem eF {x:AO} (hx:x.quiet=true):x.dS=none:=by
 cases h:x.dS with
 |none=>rfl
 |
  some k=>
  exfalso
  unfold AO.dS at h
  split at h
  ·simp[AO.quiet,pw]at hx
  ·simp[AO.quiet,pw]at hx
  ·simp at h
def qi (W:List Nat) (f:Bool) (s:St):St:=if f=true then s.less W else s
theorem kL {W:List Nat} {f:Bool} {o:AO} {K:St->Prop} (hq:o.quiet=true) (h:jg P W f s o K):∃v,K (s.put o.dst v)∧Qv P (qi W f s) o v:=by
 unfold jg at h;rw[if_pos hq]at h;cases f with
 |
  true=>
  simp only[if_true]at h
  obtain⟨v,h1,h2⟩:=vB hq h
  rw[zi]at h1
  exact⟨v,h1,h2⟩
 |
  false=>
  simp only[fJ,if_false]at h
  obtain⟨v,h1,h2⟩:=vB hq h
  exact⟨v,h1,h2⟩
theorem sx {W:List Nat} {f:Bool} {o:AO} {v:PV} {r:St} {K:St->Prop} (hq:o.quiet=true) (h:Qv P r o v) (hs:Sub r.bx (qi W f s).bx) (ha:cC r s o.reads) (hk:K (s.put o.dst v)):jg P W f s o K:=by
 unfold jg;rw[if_pos hq];cases f with
 |
  true=>
  simp only[if_true]
  refine h _ hs ha _ ?_
  show K {((s.less W).put o.dst v)with bx:=s.bx}
  rw[zi];exact hk
 |
  false=>
  simp only[fJ,if_false]
  exact h _ hs ha _ hk
theorem HM {W:List Nat} {f:Bool}:Sub (qi W f s).bx s.bx:=by
 unfold qi;split
 ·exact Pd W
 ·exact Sub.refl _
theorem HN {W:List Nat} {f:Bool} {d:Option Nat} {v:PV}:(qi W f (s.put d v)).bx=(qi W f s).bx:=by
 unfold qi;split
 ·rw[Pe,ir]
 ·rw[ir]
theorem uG {W:List Nat} {f:Bool}:(qi W f s).env=s.env:=by unfold qi;split<;>rfl
theorem vD {W:List Nat} {f:Bool} {l:List Nat} (h:cC s s' l):cC (qi W f s) s' l:=by
 intro n hn;rw[uG];exact h n hn
def AK.iS:AK->Bool
 | .mv _| .extract _ _| .mm _ _| .un _ _| .convI _ _| .field _ _ _ _ _| .build _ _=>true
 | .bin _ e _ _=>match e with| .ptr=>false|_=>true
 |_=>false
def AO.iS (o:AO):Bool:=o.guard.isNone&&o.k.iS
theorem Pf {b:List (Nat×aU)} (x:AX):vx {s with bx:=b} x=vx s x:=by cases x<;>rfl
theorem FX {b:List (Nat×aU)} {g:Bool} (x:AX):vg g {s with bx:=b} x=vg g s x:=by
 funext K;unfold vg;rw[Pf]
theorem Lc {b:List (Nat×aU)} {g:Bool}:∀(l:List AX),xq g {s with bx:=b} l=xq g s l
 |[]=>rfl
 |x::l=>by funext K;simp only[xq,FX,Lc l]
theorem Ld {b:List (Nat×aU)} {g:Bool}:∀(l:List (Nat×AX)),B8 g {s with bx:=b} l=B8 g s l
 |[]=>rfl
 |(n,x)::l=>by funext K;simp only[B8,FX,Ld l]
theorem Ph {b:List (Nat×aU)} {o:BinOp} {e:ET} (he:(match e with| .ptr=>false|_=>true)=true) (p q:PV):sb {s with bx:=b} o e p q=sb s o e p q:=by
 funext K;cases e<;>first|rfl|simp at he
theorem aao {b:List (Nat×aU)} {g:Bool} {k:AK} (hk:k.iS=true) (K:PV->Prop):ev g {s with bx:=b} k K=ev g s k K:=by
 cases k<;>first|(simp[AK.iS]at hk;done)|skip
 case bin o e x y=>
  simp only[ev,FX];simp only[AK.iS]at hk;have:=λp q=>Ph (s:=s) (b:=b) (o:=o) hk p q;simp only[this]
 all_goals simp only[ev,FX,Lc,Ld,Pf]
theorem HO {k:AK} (h:k.iS=true):pw k=false:=by
 cases k<;>first|rfl|simp[AK.iS]at h
theorem AB {r:St} {o:AO} {v:PV} (hf:o.iS=true) (hv:Qv P r o v) (s':St) (ha:cC r s' o.reads) (K':St->Prop) (hk:K' (s'.put o.dst v)):fR P s' o K':=by
 have h:=hv {s' with bx:=r.bx} (Sub.refl _) ha (λt=>K' {t with bx:=s'.bx}) (by
  have e:({(({s' with bx:=r.bx}:St).put o.dst v)with bx:=s'.bx}:St)=s'.put o.dst v:=by cases o.dst<;>rfl
  show K' _;rw[e];exact hk)
 obtain⟨dst,guard,mg,k⟩:=o;have e:∀p,({(({s' with bx:=r.bx}:St).put dst p)with bx:=s'.bx}:St)=s'.put dst p:=by intro p;cases dst<;>rfl
 simp only[AO.iS,aJ,Option.isNone_iff_eq_none]at hf;obtain⟨hg,RW⟩:=hf;subst hg;have hx:=HO RW;cases k<;>first|(simp[AK.iS]at RW;done)|skip
 all_goals
  simp only[fR,jT,hx,fJ,if_false,aao RW,e]at h⊢
  exact h
theorem zk {W:List Nat} {f:Bool} {o:AO} {v:PV} {r:St} {K:St->Prop} (hq:o.quiet=true) (hf:o.iS=true) (h:Qv P r o v) (ha:cC r s o.reads) (hk:K (s.put o.dst v)):jg P W f s o K:=by
 unfold jg;rw[if_pos hq];cases f with
 |
  true=>
  simp only[if_true]
  refine AB hf h (s.less W) (λn hn=>ha n hn) _ ?_
  show K {((s.less W).put o.dst v)with bx:=s.bx}
  rw[zi];exact hk
 |
  false=>
  simp only[fJ,if_false]
  exact AB hf h _ ha _ hk
def gN (aos:List AO) (fl:Nat->Bool) (j i:Nat):Bool:=match aos[j]?,aos[i]?with
 |some y,some x=>y.quiet&&y.dst.isSome&&y.apart x&&(x.quiet||y.iS||(x.dS.isSome||fl j&&fl i))|| !y.quiet&&y.alq&&(match x.dS with|some k=>y.dst !=some k&& !y.reads.contains k|none=>false)
 |_,_=>false
def qj (aos:List AO) (j i:Nat):Bool:=match aos[j]?,aos[i]?with
 |some y,some x=>(match y.dS,x.dS with|some a,some b=>a !=b|_,_=>true)
 |_,_=>true
theorem JE {aos:List AO} {fl:Nat->Bool} {W:List Nat} {K:St->Prop} {i:Nat} {x:AO} (hi:aos[i]? =some x) (hx:x.quiet=true) (l2:List Nat):∀(l1:List Nat) (s:St),
  (∀j∈l1,gN aos fl j i=true)->iE P aos fl W s (l1++i::l2) K->∃v,iE P aos fl W (s.put x.dst v) (l1++l2) K∧Qv P s x v
 |
  [],s,_,h=>by
  simp only[JlQ,iE,hi]at h
  obtain⟨v,h1,h2⟩:=kL hx h.2
  exact⟨v,h1,λs' hb ha K' hk=>h2 s' (HM.trans hb) (vD ha) K' hk⟩
 |
  j::l1,s,cy,h=>by
  have hp:=cy j (by simp)
  unfold gN at hp
  cases hy:aos[j]?with
  |none=>rw[hy]at hp;simp at hp
  |
   some y=>
   rw[hy,hi]at hp
   simp only[eF hx,Bool.and_false,Bool.or_false,aJ]at hp
   obtain⟨⟨⟨qG,_⟩,ef⟩,_⟩:=hp
   have h1:∀d,y.dst=some d->d∉x.reads:=λd hd=>by simp[AO.apart,hd]at ef;exact ef.1.1
   have h2:∀d,y.dst=some d->x.dst≠some d:=λd hd=>by simp[AO.apart,hd]at ef;exact ef.1.2
   have h3:∀d,x.dst=some d->d∉y.reads:=λd hd=>by simp[AO.apart,hd]at ef;exact ef.2
   simp only[JeZ,iE,hy]at h⊢
   obtain⟨pF,h⟩:=h
   obtain⟨v,h,hv⟩:=kL qG h
   obtain⟨u,h,hu⟩:=JE hi hx l2 l1 _ (λk hk=>cy k (by simp[hk])) h
   refine⟨u,⟨?_,sx qG hv (by rw[HN];exact Sub.refl _) (vD (cC.put h3)) ?_⟩,?_⟩
   ·have pF:=La pF
    rw[ke (ir _ _)]
    exact Lb pF.1 pF.2.1 pF.2.2.2
   ·rw[St.put_comm (λk hk he=>h2 k he hk)];exact h
   ·intro s' hb ha K' hk
    refine hu s' (by rw[ir];exact hb) (λn hn=> ?_) K' hk
    rw[ha n hn]
    exact((cC.put h1) n hn).symm
theorem zl {o:AO} {e:Nat} {u:PV} {K:St->Prop} (hq:o.quiet=false) (hd:o.dst≠some e) (hr:e∉o.k.reads) (h:jT P (s.put (some e) u) o K):jT P s o λt=>K (t.put (some e) u)∧tN o.dst s t:=by
 obtain⟨dst,guard,mg,k⟩:=o;cases k with
 |call f args=>exact HI hd hr h
 |callq f args=>simp[AO.quiet]at hq
 |
  _=>
  first
  |(simp[AO.quiet,pw]at hq;done)
  |(simp only[jT,pw,if_true]at h⊢;exact O8 hd hr h)
theorem pK {o:AO} {e:Nat} {u:PV} {K:St->Prop} (hq:o.quiet=false) (hd:o.dst≠some e) (hr:e∉o.reads) (h:fR P (s.put (some e) u) o K):fR P s o λt=>K (t.put (some e) u)∧tN o.dst s t:=by
 have hrk:e∉o.k.reads:=λh=>hr (by simp[AO.reads,h])
 have Ol:K ((s.put (some e) u).put o.dst .un)->K ((s.put o.dst .un).put (some e) u)∧tN o.dst s (s.put o.dst .un):=by
  intro hk;refine⟨?_,kb (b:=s.bx)⟩;have:=qg (s:=s) (b:=s.bx) (u:=u) (v:= .un) hd;exact this▸hk
 have R8:∀(g:Bool) (s:St) K,ev g s o.k K->False:=by
  intro g s K h;obtain⟨dst,guard,mg,k⟩:=o;cases k<;>first|(simp[AO.quiet,pw]at hq;done)|(simp[ev]at h;done)
 unfold fR at h⊢;cases hg:o.guard with
 |
  none=>
  rw[hg]at h
  exact zl hq hd hrk h
 |
  some gw=>
  obtain⟨sl,want⟩:=gw
  rw[hg]at h
  have DQ:get (s.put (some e) u).env sl=get s.env sl:=by
   simp only[St.put];rw[bp];rintro rfl;exact hr (by simp[AO.reads,hg])
  simp only[DQ]at h⊢
  split at h
  ·split at h
   ·exact(R8 _ _ _ h).elim
   ·rename_i hm
    rw[if_neg hm]
    exact⟨λe1=>zl hq hd hrk (h.1 e1),λe1=>Ol (h.2 e1)⟩
  ·split at h
   ·exact(R8 _ _ _ h).elim
   ·rename_i hm
    rw[if_neg hm]
    exact⟨λe1 e2=>zl hq hd hrk (h.1 e1 e2),λe1=>Ol (h.2 e1)⟩
  ·exact h.elim
theorem ye {aos:List AO} {k:Nat} {z:PV×aU} {i:Nat} {x:AO} (hi:aos[i]? =some x) (hx:x.dS=some k) {l:List Nat} (cS:∀j∈l,qj aos j i=true) (h:dT aos s l=true):dT aos (rC k z s) l=true:=by
 simp only[dT,JeX]at h⊢;intro j hj;have h1:=h j hj;have h2:=cS j hj;unfold qj at h2;rw[hi]at h2;split
 ·rename_i y hy;rw[hy]at h1 h2;simp only at h1 h2⊢;split
  ·rename_i b hb;rw[hb]at h1 h2;rw[hx]at h2;simp only[bne_iff_ne,ne_eq]at h1 h2⊢;simp only[rC];rw[bp _ _ _ _ (λh=>h2 h.symm)];exact h1
  ·rfl
 ·rfl
theorem EH {W:List Nat} {k:Nat} {z:PV×aU} (hn:get s.bx k=none):Fr W s (rC k z s):=by
 intro j b _ hb;refine⟨b,?_,rfl⟩;simp only[rC];rw[bp]
 ·exact hb
 ·rintro rfl;rw[hn]at hb;simp at hb
theorem JF {W:List Nat} {k:Nat} {z:PV×aU} {t:St} (h:Fr W s t):Fr W (rC k z s) (rC k z t):=by
 intro j b hw hb;simp only[rC,eg]at hb⊢;split
 ·rename_i e;rw[if_pos e]at hb;exact⟨b,hb,rfl⟩
 ·rename_i e;rw[if_neg e]at hb;exact h j b hw hb
theorem FY {W:List Nat} {f g:Bool} {y x:AO} {k e:Nat} {v:PV} {R:St->Prop} (qG:y.quiet=true) (hk:x.dS=some k) (he:y.dst=some e) (h2:x.dst≠some e) (h3:∀d,x.dst=some d->d∉y.reads) (hn:get s.bx k=none) (hv:Qv P (qi W f s) y v)
  (ih:fR P (s.put (some e) v) x λt=>(g=true->Fr W (s.put (some e) v) t)∧R t):fR P s x λt=>(g=true->Fr W s t)∧R (t.put (some e) v)∧jg P W f t y R:=by
 obtain⟨z,DR,lN⟩:=qh (P:=P) hk;obtain⟨_,_,hR⟩:=(lN _ _).1 ih;have hek:k≠e:=λh=>h2 (by rw[DR,h])
 have ec:rC k z (s.put (some e) v)=(rC k z s).put (some e) v:=by
  simp only[rC,St.put];rw[Ab.put_comm hek]
 rw[ec]at hR;refine(lN s _).2 ⟨hn,λ_=>EH hn,hR,sx (r:=qi W f s) qG hv ?_ (λn NW=> ?_) (by rw[he];exact hR)⟩
 ·cases f with
  |true=>simpa[qi]using Bz (EH (W:=W) (z:=z) hn)
  |
   false=>
   intro j b hj
   simp only[qi,fJ,if_false]at hj⊢
   refine .inl ?_
   simp only[rC]
   rw[bp]
   ·exact hj
   ·rintro rfl;rw[hn]at hj;simp at hj
 ·rw[uG];simp only[rC];rw[bp];rintro rfl;exact h3 _ DR NW
theorem zm {aos:List AO} {fl:Nat->Bool} {W:List Nat} {K:St->Prop} {i:Nat} {x:AO} (hi:aos[i]? =some x) (hx:x.quiet=false) (l2:List Nat):∀(l1:List Nat) (s:St),
  (∀j∈l1,gN aos fl j i=true)->(∀j∈l1++l2,qj aos j i=true)->iE P aos fl W s (l1++i::l2) K->fR P s x λt=>(fl i=true->Fr W s t)∧iE P aos fl W t (l1++l2) K
 |
  [],s,_,_,h=>by
  simp only[JlQ,iE,hi]at h
  have h:=h.2
  unfold jg at h
  rw[if_neg (by rw[hx];simp)]at h
  exact h
 |
  j::l1,s,cy,cS,h=>by
  have hp:=cy j (by simp)
  unfold gN at hp
  cases hy:aos[j]?with
  |none=>rw[hy]at hp;simp at hp
  |
   some y=>
   rw[hy,hi]at hp
   simp only[JeZ,iE,hy]at h⊢
   obtain⟨pF,h⟩:=h
   have pF:=La pF
   rcases JiV.1 hp with hp|hp
   ·simp only[aJ,hx,Bool.false_or]at hp
    obtain⟨⟨⟨qG,Fl⟩,ef⟩,IX⟩:=hp
    obtain⟨e,he⟩:=JaW.1 Fl
    have h1:e∉x.reads:=by simp[AO.apart,he]at ef;exact ef.1.1
    have h2:x.dst≠some e:=by simp[AO.apart,he]at ef;exact ef.1.2
    have h3:∀d,x.dst=some d->d∉y.reads:=λd hd=>by simp[AO.apart,hd]at ef;exact ef.2
    rcases JiV.1 IX with Xb|IX
    ·obtain⟨v,h,hv⟩:=kL qG h
     have ih:=zm hi hx l2 l1 _ (λk hk=>cy k (by simp[hk])) (λk hk=>cS k (by simp only[JeZ,cJ];exact .inr hk)) h
     rw[he]at ih
     refine bV (λt ht=> ?_) (pK hx h2 h1 ih)
     obtain⟨⟨hf,hk⟩,vq⟩:=ht
     refine⟨λKE=>λk b hw hb=>hf KE k b hw hb,?_,zk (r:=qi W (fl j) s) qG Xb hv (λn hn=> ?_) (by rw[he];exact hk)⟩
     ·rw[bP,kK hy (eF qG),JjV]
      have:=zj hk
      rwa [ke (ir _ _)]at this
     ·rw[uG];exact vq n (λhd=>h3 n hd hn)
    ·rcases JiV.1 IX with hia|IX
     ·obtain⟨k,hk⟩:=JaW.1 hia
      obtain⟨v,h,hv⟩:=kL qG h
      have ih:=zm hi hx l2 l1 _ (λk hk=>cy k (by simp[hk])) (λk hk=>cS k (by simp only[JeZ,cJ];exact .inr hk)) h
      rw[he]at ih
      refine bV (λt ht=> ?_) (FY qG hk he h2 h3 ((sv hi hk).1 pF.2.2.1) hv ih)
      refine⟨ht.1,?_,ht.2.2⟩
      rw[bP,kK hy (eF qG),JjV]
      have:=zj ht.2.1
      rw[ke (ir _ _)]at this
      exact this
     ·obtain⟨hfl,KE⟩:=JpJ.1 IX
      rw[hfl]at h⊢
      obtain⟨v,h,hv⟩:=kL qG h
      have ih:=zm hi hx l2 l1 _ (λk hk=>cy k (by simp[hk])) (λk hk=>cS k (by simp only[JeZ,cJ];exact .inr hk)) h
      rw[he]at ih
      refine bV (λt ht=> ?_) (pK hx h2 h1 ih)
      obtain⟨⟨hf,hk⟩,vq⟩:=ht
      have Z9:Fr W s t:=λk b hw hb=>hf KE k b hw hb
      refine⟨λ_=>Z9,?_,sx (r:=s.less W) qG (by simpa[qi]using hv) (by simpa[qi]using Bz Z9) (λn hn=> ?_) (by rw[he];exact hk)⟩
      ·rw[bP,kK hy (eF qG),JjV]
       have:=zj hk
       rwa [ke (ir _ _)]at this
      ·exact vq n (λhd=>h3 n hd hn)
   ·simp only[aJ,JhZ]at hp
    obtain⟨⟨qG,hya⟩,hp⟩:=hp
    split at hp
    case h_2=>simp at hp
    rename_i k hk
    simp only[aJ,bne_iff_ne,ne_eq,JhZ,List.contains_eq_mem,decide_eq_false_iff_not]at hp
    obtain⟨z,DR,lN⟩:=qh (P:=P) hk
    have hn:get s.bx k=none:=(sv hi hk).1 pF.2.2.1
    unfold jg at h
    rw[if_neg (by rw[qG];simp)]at h
    have h':fR P s y λt=>get t.bx k=none∧(λt'=>(fl j=true->Fr W (rC k z s) t')∧iE P aos fl W t' (l1++l2) K) (rC k z t):=by
     refine bV (λt ht=> ?_) h;obtain⟨hf,ht⟩:=ht;have ih:=zm hi hx l2 l1 _ (λk hk=>cy k (by simp[hk])) (λk hk=>cS k (by simp only[JeZ,cJ];exact .inr hk)) ht;obtain⟨i1,_,i3⟩:=(lN t _).1 ih;exact⟨i1,λe=>JF (hf e),i3⟩
    refine(lN s _).2 ⟨hn,λ_=>EH hn,?_,?_⟩
    ·refine ye hi hk (λm hm=>cS m (by simpa using hm)) ?_
     exact Lb pF.1 pF.2.1 pF.2.2.2
    ·unfold jg
     rw[if_neg (by rw[qG];simp)]
     exact JC hya hp.1 hp.2 hn h'
end Go.Ab
namespace Go.Ab
variable [cK]
variable {P:Program} {nt:Nat} {ds:List Deferred} {s s':St} {Γ:Cx} {a:Act} {w:World} {Q:Exit->Act->World->Prop} [eE]
def vE (ops:Array Oper):List Nat->List Nat->Bool
 |_,[]=>true
 |done,i::r=>(match ops[i]?with|some o=>(o.after.all λe=> !Region.binds .any e||done.contains e.on)|none=>false)&&vE ops (i::done) r
def s7 (ms:List Nat) (aos:List AO) (fl:Nat->Bool):List Nat->Bool
 |[]=>true
 |j::r=>(r.all λi=>j !=i&&qj aos j i&&(Ax ms i j||gN aos fl j i))&&s7 ms aos fl r
def yf (ops:Array Oper) (aos:List AO) (ord us:List Nat):Bool:=
 vE ops [] ord&&s7 (fZ ops.toList []) aos us.contains ord&&ord.length==ops.size&&(ord.all λi=>decide (i<ops.size))&&(List.range ops.size).all λi=>ord.contains i
theorem s8 {ops:Array Oper}:∀(p:List Nat) (done:List Nat) {i:Nat} {q:List Nat},vE ops done (p++i::q)=true->∀o,ops[i]? =some o->∀e∈o.after,Region.binds .any e=true->e.on∈done∨e.on∈p
 |
  [],done,i,q,h,o,ho,e,he,hb=>by
  simp only[JlQ,vE,ho,aJ,Array.all_eq_true_iff_forall_mem]at h
  have:=h.1 e he
  simp[hb]at this
  exact .inl this
 |
  x::p,done,i,q,h,o,ho,e,he,hb=>by
  simp only[JeZ,vE,aJ]at h
  rcases s8 p (x::done) h.2 o ho e he hb with h1|h1
  ·rcases cJ.1 h1 with h2|h2
   ·exact .inr (by simp[h2])
   ·exact .inl h2
  ·exact .inr (by simp[h1])
theorem s9 {ms:List Nat} {aos:List AO} {fl:Nat->Bool}:∀ {l:List Nat},s7 ms aos fl l=true->l.Pairwise λj i=>(j≠i∧qj aos j i=true)∧(Ax ms i j=true∨gN aos fl j i=true)
 |[],_=> .nil
 |
  j::r,h=>by
  simp only[s7,aJ,JeX]at h
  refine .cons (λi hi=> ?_) (s9 h.2)
  have:=h.1 i hi
  simpa using this
theorem mh {aos:List AO} {i j:Nat} (h:qj aos i j=true):qj aos j i=true:=by
 unfold qj at*;cases h1:aos[i]? <;>cases h2:aos[j]? <;>simp only[h1,h2]at h⊢;rename_i x y;cases h3:x.dS<;>cases h4:y.dS<;>simp only[h3,h4,bne_iff_ne]at h⊢;exact λe=>h e.symm
def qY (ops:Array Oper) (ord:List Nat):Bool:=
 vE ops [] ord&&ord.length==ops.size&&(ord.all λi=>decide (i<ops.size))&&(List.range ops.size).all λi=>ord.contains i
def qZ (ops:Array Oper) (aos:List AO) (fl:Nat->Bool) (j i:Nat):Prop:=(j≠i∧qj aos j i=true)∧(Ax (fZ ops.toList []) i j=true∨gN aos fl j i=true)
theorem aia {ro:Option Nat} {ops:Array Oper} {aos:List AO} {own sp:List Nat} {ord us:List Nat} {W:List Nat} (nK:∀(i:Nat) o,ops[i]? =some o->∃ao,aos[i]? =some ao∧rv P nt ops own sp true o=some ao) (df:qY ops ord=true) {K:St->Prop}:
  ∀
   (n:Nat) (listed:Array Bool) {s:St} {Γ:Cx} {a:Act} {w:World},listed.size=ops.size->rz ops listed->(ord.filter λi=> !listed.getD i true).Pairwise (qZ ops aos us.contains)->(ord.filter λi=> !listed.getD i true).length=n->
   fX nt ds s Γ a->w.heap=Γ.heap->EA P Γ->iE P aos us.contains W s (ord.filter λi=> !listed.getD i true) K->Hy P nt ds Γ w K (Q .normal)->wpAnyIn (FW ro) 0 P .any ops Q n listed a w:=by
 simp only[qY,aJ,JeX,decide_eq_true_eq,JiQ]at df;obtain⟨⟨⟨hE,_⟩,dk⟩,cy⟩:=df
 have KL:∀listed:Array Bool,listed.size=ops.size->Region.ready .any ops listed=[]->(ord.filter λi=> !listed.getD i true)=[]:=by
  intro listed fA hr;cases hl:ord.filter λi=> !listed.getD i true with
  |nil=>rfl
  |
   cons i l=>
   exfalso
   obtain⟨p,q,KN,hp,hi,_⟩:=List.filter_eq_cons_iff.1 hl
   have hio:i<ops.size:=dk i (by rw[KN];simp)
   have:i∈Region.ready .any ops listed:=by
    rw[mem_ready];refine⟨by simpa using hi,ops[i],Array.getElem?_eq_getElem hio,λe he hb=> ?_⟩;rw[KN]at hE;rcases s8 p [] hE _ (Array.getElem?_eq_getElem hio) e he hb with h1|h1
    ·simp at h1
    ·have h2:=hp _ h1;have h3:e.on<listed.size:=by rw[fA];exact dk _ (by rw[KN];simp[h1])
     simp[JbQ,Array.getElem?_eq_getElem h3]at h2⊢;exact h2
   rw[hr]at this;simp at this
 intro n;induction n with
 |
  zero=>
  intro listed s Γ a w fA hc _ hn hs hw hY h hk
  have hl:=JmX.1 hn
  rw[hl]at h
  refine⟨?_,hk _ _ _ _ hs hw (Le.refl Γ) (WF.refl w) h⟩
  rw[JrX]
  intro i hi
  obtain⟨h1,o,ho,_⟩:=mem_ready.1 hi
  have:i∈ord.filter λi=> !listed.getD i true:=by
   rw[JgQ];exact⟨by simpa using cy i (Array.getElem?_eq_some_iff.1 ho).1,by rw[h1];rfl⟩
  rw[hl]at this;simp at this
 |
  succ n ih=>
  intro listed s Γ a w fA hc hPw hn hs hw hY h hk
  refine⟨λhr=> ?_,λi hi=> ?_⟩
  ·rw[KL listed fA hr]at hn;simp at hn
  ·obtain⟨Ol,o,ho,IY⟩:=mem_ready.1 hi
   have Xc:=(Array.getElem?_eq_some_iff.1 ho).1
   obtain⟨ao,BV,N0⟩:=nK i o ho
   have iA:i∈ord.filter λi=> !listed.getD i true:=by
    rw[JgQ];exact⟨by simpa using cy i Xc,by rw[Ol];rfl⟩
   obtain⟨l1,l2,hl⟩:=List.append_of_mem iA
   have KO:(l1++i::l2).Pairwise λj i=>(j≠i∧qj aos j i=true)∧(Ax (fZ ops.toList []) i j=true∨gN aos us.contains j i=true):=by rw[←hl];exact hPw
   have Ha:(l1++i::l2).Nodup:=KO.imp (λh=>h.1.1)
   have pn:ord.filter (λj=> !(listed.setIfInBounds i true).getD j true)=l1++l2:=by
    have e:(λj=> !(listed.setIfInBounds i true).getD j true)=λj=>(decide (j≠i))&& !listed.getD j true:=by
     funext j;by_cases Af:i=j
     ·subst Af;simp[JbQ,uJ (by omega:i<listed.size)]
     ·rw[getD_set_ne true Af];simp[Ne.symm Af]
    rw[e,←JkZ,hl,JkV,JpV];simp only[ne_eq,not_true,decide_false,fJ,if_false];have Hb:=JgJ.1 Ha;rw[JfX.2,JfX.2]
    ·intro x hx;simp;rintro rfl;exact(JiZ.1 Hb.2.1).1 hx
    ·intro x hx;simp;rintro rfl;exact Hb.2.2 x hx x (by simp) rfl
   rw[hl]at h hn
   have uc:∀j∈l1,gN aos us.contains j i=true:=by
    intro j hj;have h1:=(JdQ.1 KO).2.2 j hj i (by simp);rcases h1.2 with hb|hb
    ·exfalso;have hjm:j∈ord.filter λi=> !listed.getD i true:=by rw[hl];simp[hj]
     obtain⟨hjo,Xd⟩:=JgQ.1 hjm;have:=zd hc (CC hb) hi;have Bp:j<listed.size:=by rw[fA];exact dk j hjo
     simp[JbQ,Array.getElem?_eq_getElem Bp]at this Xd;rw[this]at Xd;simp at Xd
    ·exact hb
   have cS:∀j∈l1++l2,qj aos j i=true:=by
    intro j hj;rcases JaZ.1 hj with hj|hj
    ·exact((JdQ.1 KO).2.2 j hj i (by simp)).1.2
    ·have h1:=(JhV (JdQ.1 KO).2.1 hj).1.2;exact mh h1
   have hf:fR P s ao λt=>iE P aos us.contains W t (l1++l2) K:=by
    cases hx:ao.quiet with
    |
     true=>
     obtain⟨v,h1,h2⟩:=JE BV hx l2 l1 s uc h
     exact h2 s (Sub.refl _) (λ_ _=>rfl) _ h1
    |false=>exact bV (λt ht=>ht.2) (zm BV hx l2 l1 s uc cS h)
   refine pJ ho N0 hs hw hY hf ?_
   intro s' Γ' a' w' b1 b2 b3 b4 b5
   refine ih (listed.setIfInBounds i true) (by simp[fA]) ?_ (by rw[pn];exact KO.sublist (List.Sublist.append (List.Sublist.refl l1) (List.sublist_cons_self i l2))) (by rw[pn];simp at hn⊢;omega) b1 b2 (hY.le b3) (by rw[pn];exact b5) (hk.trans b3 b4)
   intro k ok Ag qF e he hb
   by_cases GV:i=k
   ·subst GV;rw[ho]at Ag;cases Ag;exact getD_set_true (IY e he hb)
   ·rw[getD_set_ne true GV]at qF;exact getD_set_true (hc k ok Ag qF e he hb)
theorem Pj {ops:Array Oper} {aos:List AO} {ord us:List Nat} (h:yf ops aos ord us=true):qY ops ord=true:=by
 simp only[yf,qY,aJ]at h⊢;exact⟨⟨⟨h.1.1.1.1,h.1.1.2⟩,h.1.2⟩,h.2⟩
theorem wV {ro:Option Nat} {ops:Array Oper} {aos:List AO} {own sp:List Nat} {ord us:List Nat} {id:Nat} (hm:P.follows .mixedOrders=true) (ht:mT P nt ops own sp true ops.toList=some aos) (df:yf ops aos ord us=true) {K:St->Prop} (hs:fX nt ds s Γ a) (hw:w.heap=Γ.heap)
  (hY:EA P Γ) (h:∃W,iE P aos us.contains W s ord K) (hk:Hy P nt ds Γ w K (Q .normal)):(Code.region id ops true).wpIn (FW ro) 0 P Q a w:=by
 obtain⟨W,h⟩:=h;obtain⟨h1,h2⟩:=qd ht;have Xe:=df;simp only[yf,aJ,JeX,decide_eq_true_eq,JiQ,beq_iff_eq]at Xe
 have e:(ord.filter λi=> !(Array.replicate ops.size false).getD i true)=ord:=by
  rw[JfX];intro i hi;have:=Xe.1.2 i hi;simp[JbQ,this]
 refine wpIn_region_any hm (aia (s:=s) (Γ:=Γ) (K:=K) (W:=W) (λi o hi=>h2 i o (by simpa using hi)) (Pj df) _ _ (by simp) ?_ (by rw[e];exact s9 Xe.1.1.1.2) (by rw[e];exact Xe.1.1.2) hs hw hY (by rw[e];exact h) ?_)
 ·intro k o Z7 hl;have:=(Array.getElem?_eq_some_iff.1 Z7).1;simp[JbQ,this]at hl
 ·intro s' Γ' a' w' b1 b2 b3 b4 b5;exact hk s' Γ' a' w' b1 b2 b3 ⟨b4.os,b4.tape,b4.output⟩ b5
def Pk (ops:Array Oper) (done:List Nat) (i:Nat):Bool:= !done.contains i&&match ops[i]?with|some o=>o.after.all λe=> !Region.binds .any e||done.contains e.on|none=>false
def rD (aos:List AO) (i:Nat):Bool:=match aos[i]?with|some x=>x.quiet|none=>false
def aap (ops:Array Oper) (aos:List AO):Nat->List Nat->List Nat
 |0,done=>done.reverse
 |
  n+1,done=>match(List.range ops.size).find? (λi=>Pk ops done i&&rD aos i)with
  |some i=>aap ops aos n (i::done)
  |
   none=>match(List.range ops.size).find? (Pk ops done)with
   |some i=>aap ops aos n (i::done)
   |none=>done.reverse
def soB (aos:List AO) (i:Nat):Bool:=match aos[i]?with|some x=>x.iS|none=>false
def early (ms:List Nat) (aos:List AO):List Nat->List Nat
 |[]=>[]
 |j::r=>if(rD aos j&& !soB aos j&&r.any λi=> !rD aos i&& !Ax ms i j)=true then j::early ms aos r else early ms aos r
def zn (ops:Array Oper) (aos:List AO):List Nat:=aap ops aos ops.size []
def Pl (ms:List Nat) (aos:List AO):List Nat->List Nat->List Nat
 |_,[]=>[]
 |done,i::r=>if(!rD aos i&&done.any λj=>rD aos j&& !soB aos j&& !Ax ms i j)=true then i::Pl ms aos (i::done) r else Pl ms aos (i::done) r
def Lf (ops:Array Oper) (aos:List AO):List Nat:=early (fZ ops.toList []) aos (zn ops aos)++Pl (fZ ops.toList []) aos [] (zn ops aos)
end Go.Ab
namespace Go.Ab
variable [cK]
variable {P:Program} {nt:Nat} {ds:List Deferred} {s:St} {Γ Γ0:Cx} {a:Act} {w w0:World}
def Cx.out (Γ:Cx) (ks:List Nat) (bL:List aU):Cx:=
 {
  heap:=Γ.heap,ι:=λk=>if KB≤k then(match ks[k-KB]?with|some j=>Γ.ι j|none=>none)else none,
  bx:=av 0 (bL.map (az (bz ks))),b9:=Γ.b9}
theorem Cx.yg {ks:List Nat} {bL:List aU} (hg:getAll Γ.bx ks=some bL) {b:Nat}:(Γ.out ks bL).gn b↔∃(i:Nat) (k:Nat),ks[i]? =some k∧Γ.ι k=some b:=Cx.mf (Γ:=Γ) hg
theorem Cx.HP {ks:List Nat} {bL:List aU} (hg:getAll Γ.bx ks=some bL):y7 (bT ks) (bz ks) Γ (Γ.out ks bL) where
 heap:=rfl
 own b hb hn:=by
  rintro(h|h)
  ·obtain⟨i,k,h1,h2⟩:=(Cx.yg hg).1 h;obtain⟨_,b6⟩:=dD hg;obtain⟨b',g1,_⟩:=b6 _ _ h1;exact hn (.inl ⟨k,b',g1,h2⟩)
  ·exact hn (.inr h)
 ref:=(Cx.sn hg).ref
theorem Cx.TA (hm:Mem Γ) {ks:List Nat} {bL:List aU} (hg:getAll Γ.bx ks=some bL) (hn:ks.Nodup) (df:bL.all (ab (bT ks))=true):Mem (Γ.out ks bL) where
 blk k blk hk:=by
  obtain⟨hl,b6⟩:=dD hg;simp only[Cx.out,fw]at hk;split at hk
  ·rename_i hle;rw[List.getElem?_map,mJ]at hk;obtain⟨b0,tK,rfl⟩:=hk;have hi:=(iJ.1 tK).1;obtain⟨j,hj⟩:∃j,ks[k-KB]? =some j:=⟨_,gJ (by omega)⟩
   obtain⟨b1,g1,g2⟩:=b6 _ _ hj;simp only[Nat.sub_zero]at tK;rw[tK]at g2;cases g2;have:=(hm.blk j b0 g1).aE (Cx.HP hg) (JeX.1 df b0 (JeQ tK));have e:(Γ.out ks bL).ι k=Γ.ι j:=by simp only[Cx.out];rw[if_pos (by omega),hj]
   rw[e];exact this
  ·simp at hk
 inj:=(Cx.Cn hm hg hn df).inj
 b9:=hm.b9
 apart b h hp:=by
  obtain⟨i,k,h1,h2⟩:=(Cx.yg hg).1 h;obtain⟨_,b6⟩:=dD hg;obtain⟨b',g1,_⟩:=b6 _ _ h1;exact hm.apart b ⟨k,b',g1,h2⟩ hp
 xA b cs h:=by
  obtain⟨h1,h2⟩:=hm.xA b cs h;refine⟨λhb=>h1 ?_,h2⟩;obtain⟨i,k,g1,g2⟩:=(Cx.yg hg).1 hb;obtain⟨b',g3,_⟩:=(dD hg).2 i k g1;exact⟨k,b',g3,g2⟩
theorem Cx.aaq {ks:List Nat} {bL fp:List aU} (hle:Le Γ0 Γ) (h0:Γ0.bx=av 0 fp) (hg:getAll Γ.bx ks=some bL) (S5:ks.take fp.length=dM fp.length):Le Γ0 (Γ.out ks bL) where
 heap:=hle.heap
 gn b hb h:=by
  obtain⟨i,k,h1,h2⟩:=(Cx.yg hg).1 h;obtain⟨_,b6⟩:=dD hg;obtain⟨b',g1,_⟩:=b6 _ _ h1;exact hle.gn b hb ⟨k,b',g1,h2⟩
 b9:=hle.b9
 size:=hle.size
 ref k blk hk:=by
  obtain⟨bq,h1,h2,h3⟩:=hle.ref k blk hk;rw[h0,fw]at hk;split at hk
  ·rename_i hkb;have hi:=(iJ.1 hk).1
   have e:ks[k-KB]? =some k:=by
    have:(ks.take fp.length)[k-KB]? =some k:=by
     rw[S5,dM,List.getElem?_map,List.getElem?_range (by omega)];simp;omega
    rw[List.getElem?_take]at this;split at this
    ·exact this
    ·simp at this
   obtain⟨hl,b6⟩:=dD hg;obtain⟨b1,g1,g2⟩:=b6 _ _ e;rw[h1]at g1;cases g1;refine⟨az (bz ks) bq,?_,by rw[js];exact h2,λht=> ?_⟩
   ·simp only[Cx.out,fw];rw[if_pos (by omega),List.getElem?_map,show k-KB-0=k-KB by omega,g2];rfl
   ·rw[js]at ht;obtain⟨h4,h5⟩:=h3 ht;exact⟨by simp only[Cx.out];rw[if_pos (by omega),e];exact h4,h5⟩
  ·simp at hk
def AD (Q:Exit->St->Prop) (K:St->Prop):Exit->St->Prop
 | .normal,s=>K s
 |e,s=>Q e s
def Xr (id:Nat) (Q:Exit->St->Prop):Exit->St->Prop
 | .exit id',s=>if id'=id then Q .normal s else Q (.exit id') s
 |e,s=>Q e s
def lift (nt:Nat) (Γ0:Cx) (w0:World) (Q:Exit->St->Prop):Exit->Act->World->Prop:=
 λe a w=>∃ds s Γ,fX nt ds s Γ a∧sq Γ0.heap.size Γ ds∧w.heap=Γ.heap∧Le Γ0 Γ∧WF w0 w∧Q e s
theorem CJ {Q:Exit->St->Prop} {K:St->Prop} {e:Exit} (h:lift nt Γ0 w0 (AD Q K) e a w):Exit.then (lift nt Γ0 w0 (λ_=>K) .normal) (lift nt Γ0 w0 Q) e a w:=by
 cases e<;>exact h
theorem Pm {Q:Exit->St->Prop} {id:Nat} {e:Exit} (h:lift nt Γ0 w0 (Xr id Q) e a w):Exit.inBlock id (lift nt Γ0 w0 Q) e a w:=by
 cases e with
 |
  exit id'=>
  obtain⟨ds,s,Γ,h1,hd,h2,h3,h4,h5⟩:=h
  simp only[Exit.inBlock,Xr]at h5⊢
  split at h5
  ·rename_i hid;rw[if_pos hid];exact⟨ds,s,Γ,h1,hd,h2,h3,h4,h5⟩
  ·rename_i hid;rw[if_neg hid];exact⟨ds,s,Γ,h1,hd,h2,h3,h4,h5⟩
 |_=>exact h
theorem eY.length:∀ {l:List PV} {vs:List Value},eY Γ l vs->vs.length=l.length
 |[],[],_=>rfl
 |[],_::_,h=>by simp[eY]at h
 |_::_,[],h=>by simp[eY]at h
 |_::_,_::_,h=>by simp[eY.length h.2]
theorem eY.mono {Γ':Cx} (hle:Le Γ Γ'):∀ {l:List PV} {vs:List Value},eY Γ l vs->eY Γ' l vs
 |[],[],_=>trivial
 |p::l,v::vs,h=>⟨h.1.mono hle,h.2.mono hle⟩
 |[],_::_,h=>h.elim
 |_::_,[],h=>h.elim
end Go.Ab
namespace Go.Ab
variable [cK]
variable {P:Program} {nt:Nat} {ds:List Deferred} {s s':St} [eE]
def lQ (P:Program) (aos:List AO) (fl:Nat->Bool) (W E:List Nat) (s:St):List Nat->(St->Prop)->Prop
 |[],K=>dT aos s E=true∧K s
 |
  i::r,K=>match aos[i]?with
  |some o=>dT aos s (i::(r++E))=true∧jg P W (fl i) s o λt=>lQ P aos fl W E t r K
  |none=>False
theorem pL {aos:List AO} {fl:Nat->Bool} {W E:List Nat} {K:St->Prop}:∀ {l:List Nat} {s:St},lQ P aos fl W E s l K->dT aos s (l++E)=true
 |[],s,h=>by simpa using h.1
 |
  i::r,s,h=>by
  simp only[lQ]at h
  split at h
  ·simpa using h.1
  ·exact h.elim
theorem Lg {aos:List AO} {fl:Nat->Bool} {W E:List Nat} {K:St->Prop} {i:Nat} {x:AO} (hi:aos[i]? =some x) (hx:x.quiet=true) (l2:List Nat):∀(l1:List Nat) (s:St),
  (∀j∈l1,gN aos fl j i=true)->lQ P aos fl W E s (l1++i::l2) K->∃v,lQ P aos fl W E (s.put x.dst v) (l1++l2) K∧Qv P s x v
 |
  [],s,_,h=>by
  simp only[JlQ,lQ,hi]at h
  obtain⟨v,h1,h2⟩:=kL hx h.2
  exact⟨v,h1,λs' hb ha K' hk=>h2 s' (HM.trans hb) (vD ha) K' hk⟩
 |
  j::l1,s,cy,h=>by
  have hp:=cy j (by simp)
  unfold gN at hp
  cases hy:aos[j]?with
  |none=>rw[hy]at hp;simp at hp
  |
   some y=>
   rw[hy,hi]at hp
   simp only[eF hx,Bool.and_false,Bool.or_false,aJ]at hp
   obtain⟨⟨⟨qG,_⟩,ef⟩,_⟩:=hp
   have h1:∀d,y.dst=some d->d∉x.reads:=λd hd=>by simp[AO.apart,hd]at ef;exact ef.1.1
   have h2:∀d,y.dst=some d->x.dst≠some d:=λd hd=>by simp[AO.apart,hd]at ef;exact ef.1.2
   have h3:∀d,x.dst=some d->d∉y.reads:=λd hd=>by simp[AO.apart,hd]at ef;exact ef.2
   simp only[JeZ,lQ,hy,JeJ]at h⊢
   obtain⟨pF,h⟩:=h
   obtain⟨v,h,hv⟩:=kL qG h
   obtain⟨u,h,hu⟩:=Lg hi hx l2 l1 _ (λk hk=>cy k (by simp[hk])) h
   refine⟨u,⟨?_,sx qG hv (by rw[HN];exact Sub.refl _) (vD (cC.put h3)) ?_⟩,?_⟩
   ·have pF:=La pF
    rw[ke (ir _ _)]
    exact Lb pF.1 pF.2.1 pF.2.2.2
   ·rw[St.put_comm (λk hk he=>h2 k he hk)];exact h
   ·intro s' hb ha K' hk
    refine hu s' (by rw[ir];exact hb) (λn hn=> ?_) K' hk
    rw[ha n hn]
    exact((cC.put h1) n hn).symm
theorem yh {aos:List AO} {fl:Nat->Bool} {W E:List Nat} {K:St->Prop} {i:Nat} {x:AO} (hi:aos[i]? =some x) (hx:x.quiet=false) (l2:List Nat):∀(l1:List Nat) (s:St),
  (∀j∈l1,gN aos fl j i=true)->(∀j∈l1++(l2++E),qj aos j i=true)->lQ P aos fl W E s (l1++i::l2) K->fR P s x λt=>(fl i=true->Fr W s t)∧lQ P aos fl W E t (l1++l2) K
 |
  [],s,_,_,h=>by
  simp only[JlQ,lQ,hi]at h
  have h:=h.2
  unfold jg at h
  rw[if_neg (by rw[hx];simp)]at h
  exact h
 |
  j::l1,s,cy,cS,h=>by
  have hp:=cy j (by simp)
  unfold gN at hp
  cases hy:aos[j]?with
  |none=>rw[hy]at hp;simp at hp
  |
   some y=>
   rw[hy,hi]at hp
   simp only[JeZ,lQ,hy,JeJ]at h⊢
   obtain⟨pF,h⟩:=h
   have pF:=La pF
   rcases JiV.1 hp with hp|hp
   ·simp only[aJ,hx,Bool.false_or]at hp
    obtain⟨⟨⟨qG,Fl⟩,ef⟩,IX⟩:=hp
    obtain⟨e,he⟩:=JaW.1 Fl
    have h1:e∉x.reads:=by simp[AO.apart,he]at ef;exact ef.1.1
    have h2:x.dst≠some e:=by simp[AO.apart,he]at ef;exact ef.1.2
    have h3:∀d,x.dst=some d->d∉y.reads:=λd hd=>by simp[AO.apart,hd]at ef;exact ef.2
    rcases JiV.1 IX with Xb|IX
    ·obtain⟨v,h,hv⟩:=kL qG h
     have ih:=yh hi hx l2 l1 _ (λk hk=>cy k (by simp[hk])) (λk hk=>cS k (by simp only[JeZ,cJ];exact .inr hk)) h
     rw[he]at ih
     refine bV (λt ht=> ?_) (pK hx h2 h1 ih)
     obtain⟨⟨hf,hk⟩,vq⟩:=ht
     refine⟨λKE=>λk b hw hb=>hf KE k b hw hb,?_,zk (r:=qi W (fl j) s) qG Xb hv (λn hn=> ?_) (by rw[he];exact hk)⟩
     ·rw[bP,kK hy (eF qG),JjV]
      have:=pL hk
      rw[ke (ir _ _),JeJ]at this
      exact this
     ·rw[uG];exact vq n (λhd=>h3 n hd hn)
    ·rcases JiV.1 IX with hia|IX
     ·obtain⟨k,hk⟩:=JaW.1 hia
      obtain⟨v,h,hv⟩:=kL qG h
      have ih:=yh hi hx l2 l1 _ (λk hk=>cy k (by simp[hk])) (λk hk=>cS k (by simp only[JeZ,cJ];exact .inr hk)) h
      rw[he]at ih
      refine bV (λt ht=> ?_) (FY qG hk he h2 h3 ((sv hi hk).1 pF.2.2.1) hv ih)
      refine⟨ht.1,?_,ht.2.2⟩
      rw[bP,kK hy (eF qG),JjV]
      have:=pL ht.2.1
      rw[ke (ir _ _),JeJ]at this
      exact this
     ·obtain⟨hfl,KE⟩:=JpJ.1 IX
      rw[hfl]at h⊢
      obtain⟨v,h,hv⟩:=kL qG h
      have ih:=yh hi hx l2 l1 _ (λk hk=>cy k (by simp[hk])) (λk hk=>cS k (by simp only[JeZ,cJ];exact .inr hk)) h
      rw[he]at ih
      refine bV (λt ht=> ?_) (pK hx h2 h1 ih)
      obtain⟨⟨hf,hk⟩,vq⟩:=ht
      have Z9:Fr W s t:=λk b hw hb=>hf KE k b hw hb
      refine⟨λ_=>Z9,?_,sx (r:=s.less W) qG (by simpa[qi]using hv) (by simpa[qi]using Bz Z9) (λn hn=> ?_) (by rw[he];exact hk)⟩
      ·rw[bP,kK hy (eF qG),JjV]
       have:=pL hk
       rw[ke (ir _ _),JeJ]at this
       exact this
      ·exact vq n (λhd=>h3 n hd hn)
   ·simp only[aJ,JhZ]at hp
    obtain⟨⟨qG,hya⟩,hp⟩:=hp
    split at hp
    case h_2=>simp at hp
    rename_i k hk
    simp only[aJ,bne_iff_ne,ne_eq,JhZ,List.contains_eq_mem,decide_eq_false_iff_not]at hp
    obtain⟨z,DR,lN⟩:=qh (P:=P) hk
    have hn:get s.bx k=none:=(sv hi hk).1 pF.2.2.1
    unfold jg at h
    rw[if_neg (by rw[qG];simp)]at h
    have h':fR P s y λt=>get t.bx k=none∧(λt'=>(fl j=true->Fr W (rC k z s) t')∧lQ P aos fl W E t' (l1++l2) K) (rC k z t):=by
     refine bV (λt ht=> ?_) h;obtain⟨hf,ht⟩:=ht;have ih:=yh hi hx l2 l1 _ (λk hk=>cy k (by simp[hk])) (λk hk=>cS k (by simp only[JeZ,cJ];exact .inr hk)) ht;obtain⟨i1,_,i3⟩:=(lN t _).1 ih;exact⟨i1,λe=>JF (hf e),i3⟩
    refine(lN s _).2 ⟨hn,λ_=>EH hn,?_,?_⟩
    ·refine ye hi hk (λm hm=>cS m (by simpa using hm)) ?_
     exact Lb pF.1 pF.2.1 pF.2.2.2
    ·unfold jg
     rw[if_neg (by rw[qG];simp)]
     exact JC hya hp.1 hp.2 hn h'
theorem AE {W:List Nat} {f:Bool} {o:AO} {K K':St->Prop} (h:∀t,K t->K' t) (hk:jg P W f s o K):jg P W f s o K':=by
 unfold jg at hk⊢;split at hk
 ·rename_i hq;rw[if_pos hq];split at hk
  ·rename_i hf;rw[if_pos hf];exact bV (λt ht=>h _ ht) hk
  ·rename_i hf;rw[if_neg hf];exact bV h hk
 ·rename_i hq;rw[if_neg hq];exact bV (λt ht=>⟨ht.1,h t ht.2⟩) hk
theorem JG {aos:List AO} {s:St} {p q:Nat} {l:List Nat}:dT aos s (q::p::l)=dT aos s (p::q::l):=by
 have h1:=bP (aos:=aos) (s:=s) (i:=q) (l:=p::l);have h2:=bP (aos:=aos) (s:=s) (i:=p) (l:=l);have h3:=bP (aos:=aos) (s:=s) (i:=p) (l:=q::l);have h4:=bP (aos:=aos) (s:=s) (i:=q) (l:=l);rw[h1,h2,h3,h4];exact Bool.and_left_comm _ _ _
theorem CK {aos:List AO} {fl:Nat->Bool} {W E E':List Nat} {K:St->Prop} (hE:∀s,dT aos s E'=dT aos s E):∀ {l:List Nat} {s:St},lQ P aos fl W E s l (λt=>iE P aos fl W t E' K)->iE P aos fl W s (l++E') K
 |[],s,h=>h.2
 |
  i::r,s,h=>by
  simp only[lQ]at h
  simp only[JeZ,iE]
  cases ho:aos[i]?with
  |none=>rw[ho]at h;exact h.elim
  |
   some o=>
   rw[ho]at h
   simp only at h⊢
   refine⟨?_,AE (λt ht=>CK hE ht) h.2⟩
   have:=h.1
   rw[bP,nR]at this⊢
   rw[hE];exact this
end Go.Ab
namespace Go.Ab
variable [cK]
variable {P:Program} {nt:Nat} {ds:List Deferred} {s s':St} {Γ:Cx} {a:Act} {w:World} {Q:Exit->Act->World->Prop} [eE]
theorem CL {listed:Array Bool} {ord l1 l2:List Nat} {i:Nat} (hi:i<listed.size) (hl:(ord.filter λi=> !listed.getD i true)=l1++i::l2) (Ha:(l1++i::l2).Nodup):ord.filter (λj=> !(listed.setIfInBounds i true).getD j true)=l1++l2:=by
 have e:(λj=> !(listed.setIfInBounds i true).getD j true)=λj=>(decide (j≠i))&& !listed.getD j true:=by
  funext j;by_cases Af:i=j
  ·subst Af;simp[JbQ,uJ hi]
  ·rw[getD_set_ne true Af];simp[Ne.symm Af]
 rw[e,←JkZ,hl,JkV,JpV];simp only[ne_eq,not_true,decide_false,fJ,if_false];have Hb:=JgJ.1 Ha;rw[JfX.2,JfX.2]
 ·intro x hx;simp;rintro rfl;exact(JiZ.1 Hb.2.1).1 hx
 ·intro x hx;simp;rintro rfl;exact Hb.2.2 x hx x (by simp) rfl
theorem JH {aos:List AO} {us:List Nat} {W:List Nat} {i:Nat} {ao:AO} {l1 l2:List Nat} {K:St->Prop} (BV:aos[i]? =some ao) (uc:∀j∈l1,gN aos us.contains j i=true) (cS:∀j∈l1++l2,qj aos j i=true)
  (h:iE P aos us.contains W s (l1++i::l2) K):fR P s ao λt=>iE P aos us.contains W t (l1++l2) K:=by
 cases hx:ao.quiet with
 |
  true=>
  obtain⟨v,h1,h2⟩:=JE BV hx l2 l1 s uc h
  exact h2 s (Sub.refl _) (λ_ _=>rfl) _ h1
 |false=>exact bV (λt ht=>ht.2) (zm BV hx l2 l1 s uc cS h)
theorem TB {aos:List AO} {us:List Nat} {W E:List Nat} {i:Nat} {ao:AO} {l1 l2:List Nat} {K:St->Prop} (BV:aos[i]? =some ao) (uc:∀j∈l1,gN aos us.contains j i=true) (cS:∀j∈l1++(l2++E),qj aos j i=true)
  (h:lQ P aos us.contains W E s (l1++i::l2) K):fR P s ao λt=>lQ P aos us.contains W E t (l1++l2) K:=by
 cases hx:ao.quiet with
 |
  true=>
  obtain⟨v,h1,h2⟩:=Lg BV hx l2 l1 s uc h
  exact h2 s (Sub.refl _) (λ_ _=>rfl) _ h1
 |false=>exact bV (λt ht=>ht.2) (yh BV hx l2 l1 s uc cS h)
theorem JI {ops:Array Oper} {listed:Array Bool} {i:Nat} {o:Oper} (hc:rz ops listed) (ho:ops[i]? =some o) (IY:∀e∈o.after,Region.binds .any e=true->listed.getD e.on false=true):rz ops (listed.setIfInBounds i true):=by
 intro k ok Ag qF e he hb;by_cases GV:i=k
 ·subst GV;rw[ho]at Ag;cases Ag;exact getD_set_true (IY e he hb)
 ·rw[getD_set_ne true GV]at qF;exact getD_set_true (hc k ok Ag qF e he hb)
theorem TC {ops:Array Oper} {listed:Array Bool} {i j:Nat} (fA:listed.size=ops.size) (hc:rz ops listed) (hi:i∈Region.ready .any ops listed) (hj:j<ops.size) (hb:Ax (fZ ops.toList []) i j=true) (Xd:(!listed.getD j true)=true):False:=by
 have:=zd hc (CC hb) hi;have Bp:j<listed.size:=by rw[fA];exact hj
 simp[JbQ,Array.getElem?_eq_getElem Bp]at this Xd;rw[this]at Xd;simp at Xd
theorem Lh {ops:Array Oper} {ord:List Nat} (h:qY ops ord=true):(∀i∈ord,i<ops.size)∧∀i,i<ops.size->i∈ord:=by
 simp only[qY,aJ,JeX,decide_eq_true_eq,JiQ]at h;exact⟨h.1.2,λi hi=>by simpa using h.2 i hi⟩
theorem JJ {ops:Array Oper} {ord:List Nat} (df:qY ops ord=true):∀listed:Array Bool,listed.size=ops.size->Region.ready .any ops listed=[]->(ord.filter λi=> !listed.getD i true)=[]:=by
 simp only[qY,aJ,JeX,decide_eq_true_eq,JiQ]at df;obtain⟨⟨⟨hE,_⟩,dk⟩,cy⟩:=df;intro listed fA hr;cases hl:ord.filter λi=> !listed.getD i true with
 |nil=>rfl
 |
  cons i l=>
  exfalso
  obtain⟨p,q,KN,hp,hi,_⟩:=List.filter_eq_cons_iff.1 hl
  have hio:i<ops.size:=dk i (by rw[KN];simp)
  have:i∈Region.ready .any ops listed:=by
   rw[mem_ready];refine⟨by simpa using hi,ops[i],Array.getElem?_eq_getElem hio,λe he hb=> ?_⟩;rw[KN]at hE;rcases s8 p [] hE _ (Array.getElem?_eq_getElem hio) e he hb with h1|h1
   ·simp at h1
   ·have h2:=hp _ h1;have h3:e.on<listed.size:=by rw[fA];exact dk _ (by rw[KN];simp[h1])
    simp[JbQ,Array.getElem?_eq_getElem h3]at h2⊢;exact h2
  rw[hr]at this;simp at this
theorem yi {aos:List AO} {fl:Nat->Bool} {W E:List Nat}:∀ {l:List Nat} {s:St} {K K':St->Prop},(∀p,K p->K' p)->lQ P aos fl W E s l K->lQ P aos fl W E s l K'
 |[],s,K,K',h,hk=>⟨hk.1,h _ hk.2⟩
 |
  i::l,s,K,K',h,hk=>by
  simp only[lQ]at hk⊢
  split at hk
  ·exact⟨hk.1,AE (λt ht=>yi h ht) hk.2⟩
  ·exact hk.elim
theorem JK {l m:List Nat} {p q:Nat} (h:(l++p::q::m).Nodup):(l++q::p::m).Nodup:=by
 refine(List.Perm.nodup_iff (List.Perm.append_left l (List.Perm.swap q p m))).1 h
theorem EI {ops:Array Oper} {aos:List AO} {fl:Nat->Bool} {l:List Nat} (h:s7 (fZ ops.toList []) aos fl l=true):l.Pairwise (qZ ops aos fl):=s9 h
theorem uH {aos:List AO} {fl:Nat->Bool} {W E E':List Nat} {K K':St->Prop} {i k:Nat} {x:AO} (hi:aos[i]? =some x) (hk:x.dS=some k) (hx:x.quiet=false) (hE:∀s,dT aos s E=true->get s.bx k=none∧dT aos s E'=true) (hnE:∀j∈E',qj aos j i=true) (hK:∀s,K s->fR P s x K'):∀(l1:List Nat) (s:St),
  (∀j∈l1,gN aos fl j i=true)->(∀j∈l1,qj aos j i=true)->lQ P aos fl W E s l1 K->fR P s x λt=>(fl i=true->Fr W s t)∧lQ P aos fl W E' t l1 K'
 |
  [],s,_,_,h=>by
  obtain⟨z,DR,lN⟩:=qh (P:=P) hk
  obtain⟨hn,hf⟩:=hE s h.1
  exact(lN s _).2 ⟨hn,λ_=>EH hn,ye hi hk hnE hf,((lN s _).1 (hK s h.2)).2⟩
 |
  j::l1,s,cy,cS,h=>by
  have hp:=cy j (by simp)
  unfold gN at hp
  cases hy:aos[j]?with
  |none=>rw[hy]at hp;simp at hp
  |
   some y=>
   rw[hy,hi]at hp
   simp only[lQ,hy]at h⊢
   obtain⟨pF,h⟩:=h
   rw[bP,nR,aJ,aJ]at pF
   obtain⟨S6,S7,hf3⟩:=pF
   obtain⟨hn,hfE⟩:=hE s hf3
   rcases JiV.1 hp with hp|hp
   ·simp only[aJ,hx,Bool.false_or]at hp
    obtain⟨⟨⟨qG,Fl⟩,ef⟩,IX⟩:=hp
    obtain⟨e,he⟩:=JaW.1 Fl
    have h1:e∉x.reads:=by simp[AO.apart,he]at ef;exact ef.1.1
    have h2:x.dst≠some e:=by simp[AO.apart,he]at ef;exact ef.1.2
    have h3:∀d,x.dst=some d->d∉y.reads:=λd hd=>by simp[AO.apart,hd]at ef;exact ef.2
    rcases JiV.1 IX with Xb|IX
    ·obtain⟨v,h,hv⟩:=kL qG h
     have ih:=uH hi hk hx hE hnE hK l1 _ (λk hk=>cy k (by simp[hk])) (λk hk=>cS k (by simp[hk])) h
     rw[he]at ih
     refine bV (λt ht=> ?_) (pK hx h2 h1 ih)
     obtain⟨⟨hf,hk⟩,vq⟩:=ht
     refine⟨λKE=>λk b hw hb=>hf KE k b hw hb,?_,zk (r:=qi W (fl j) s) qG Xb hv (λn hn=> ?_) (by rw[he];exact hk)⟩
     ·rw[bP,kK hy (eF qG),JjV]
      have:=pL hk
      rw[ke (ir _ _)]at this
      exact this
     ·rw[uG];exact vq n (λhd=>h3 n hd hn)
    ·rcases JiV.1 IX with hia|IX
     ·obtain⟨v,h,hv⟩:=kL qG h
      have ih:=uH hi hk hx hE hnE hK l1 _ (λk hk=>cy k (by simp[hk])) (λk hk=>cS k (by simp[hk])) h
      rw[he]at ih
      refine bV (λt ht=> ?_) (FY qG hk he h2 h3 hn hv ih)
      refine⟨ht.1,?_,ht.2.2⟩
      rw[bP,kK hy (eF qG),JjV]
      have:=pL ht.2.1
      rw[ke (ir _ _)]at this
      exact this
     ·obtain⟨hfl,KE⟩:=JpJ.1 IX
      rw[hfl]at h⊢
      obtain⟨v,h,hv⟩:=kL qG h
      have ih:=uH hi hk hx hE hnE hK l1 _ (λk hk=>cy k (by simp[hk])) (λk hk=>cS k (by simp[hk])) h
      rw[he]at ih
      refine bV (λt ht=> ?_) (pK hx h2 h1 ih)
      obtain⟨⟨hf,hk⟩,vq⟩:=ht
      have Z9:Fr W s t:=λk b hw hb=>hf KE k b hw hb
      refine⟨λ_=>Z9,?_,sx (r:=s.less W) qG (by simpa[qi]using hv) (by simpa[qi]using Bz Z9) (λn hn=> ?_) (by rw[he];exact hk)⟩
      ·rw[bP,kK hy (eF qG),JjV]
       have:=pL hk
       rw[ke (ir _ _)]at this
       exact this
      ·exact vq n (λhd=>h3 n hd hn)
   ·simp only[aJ,JhZ]at hp
    obtain⟨⟨qG,hya⟩,hp⟩:=hp
    rw[hk]at hp
    simp only[aJ,bne_iff_ne,ne_eq,JhZ,List.contains_eq_mem,decide_eq_false_iff_not]at hp
    obtain⟨z,DR,lN⟩:=qh (P:=P) hk
    unfold jg at h
    rw[if_neg (by rw[qG];simp)]at h
    have h':fR P s y λt=>get t.bx k=none∧(λt'=>(fl j=true->Fr W (rC k z s) t')∧lQ P aos fl W E' t' l1 K') (rC k z t):=by
     refine bV (λt ht=> ?_) h;obtain⟨hf,ht⟩:=ht;have ih:=uH hi hk hx hE hnE hK l1 _ (λk hk=>cy k (by simp[hk])) (λk hk=>cS k (by simp[hk])) ht;obtain⟨i1,_,i3⟩:=(lN t _).1 ih;exact⟨i1,λe=>JF (hf e),i3⟩
    refine(lN s _).2 ⟨hn,λ_=>EH hn,?_,?_⟩
    ·refine ye hi hk (λm hm=> ?_) ?_
     ·rcases cJ.1 hm with rfl|hm
      ·exact cS _ (by simp)
      ·rcases JaZ.1 hm with hm|hm
       ·exact cS m (by simp[hm])
       ·exact hnE m hm
     ·rw[bP,nR,S6,S7,hfE];rfl
    ·unfold jg
     rw[if_neg (by rw[qG];simp)]
     exact JC hya hp.1 hp.2 hn h'
def CM (aos:List AO) (i:Nat):Bool:=match aos[i]?with|some o=>o.dS.isSome|none=>false
def FZ (ops:Array Oper) (aos:List AO) (pre:List Nat) (p q:Nat) (suf us:List Nat):Bool:=
 qY ops (pre++p::q::suf)&&qY ops (pre++q::p::suf)&&s7 (fZ ops.toList []) aos us.contains (pre++p::suf)&&s7 (fZ ops.toList []) aos us.contains (pre++q::suf)&&p !=q&&qj aos p q&&suf.all λi=>Ax (fZ ops.toList []) i p||(Ax (fZ ops.toList []) i q||CM aos i)
theorem aic {ro:Option Nat} {ops:Array Oper} {aos:List AO} {own sp:List Nat} {pre suf us:List Nat} {p q:Nat} {W:List Nat} (nK:∀(i:Nat) o,ops[i]? =some o->∃ao,aos[i]? =some ao∧rv P nt ops own sp true o=some ao)
  (adX:qY ops (pre++p::q::suf)=true) (Ag:qY ops (pre++q::p::suf)=true) (Fp:(pre++p::suf).Pairwise (qZ ops aos us.contains)) (BU:(pre++q::suf).Pairwise (qZ ops aos us.contains)) (N3:p≠q) (lN:qj aos p q=true) (avh:∀i∈suf,Ax (fZ ops.toList []) i p=true∨Ax (fZ ops.toList []) i q=true∨CM aos i=true) {K:St->Prop}:
  ∀
   (n:Nat) (listed:Array Bool) {s:St} {Γ:Cx} {a:Act} {w:World},listed.size=ops.size->rz ops listed->(!listed.getD p true)=true->(!listed.getD q true)=true->(pre.filter λi=> !listed.getD i true).length+(suf.filter λi=> !listed.getD i true).length=n->
   fX nt ds s Γ a->w.heap=Γ.heap->EA P Γ->lQ P aos us.contains W (p::q::suf.filter λi=> !listed.getD i true) s (pre.filter λi=> !listed.getD i true) (λt=>iE P aos us.contains W t (p::q::suf.filter λi=> !listed.getD i true) K∧iE P aos us.contains W t (q::p::suf.filter λi=> !listed.getD i true) K)->Hy P nt ds Γ w K (Q .normal)->wpAnyIn (FW ro) 0 P .any ops Q (n+1+1) listed a w:=by
 obtain⟨dk,cy⟩:=Lh adX
 have ot:(pre++p::q::suf).Nodup:=by
  have a1:=Fp.imp (λh=>h.1.1);have a2:=BU.imp (λh=>h.1.1);obtain⟨b1,b2,b3⟩:=JdQ.1 a1;obtain⟨c1,c2,c3⟩:=JdQ.1 a2;refine JdQ.2 ⟨b1,.cons (λx hx=> ?_) c2,λx hx y hy=> ?_⟩
  ·rcases cJ.1 hx with rfl|hx
   ·exact N3
   ·exact JhV b2 hx
  ·rcases cJ.1 hy with rfl|hy
   ·exact b3 x hx _ (by simp)
   ·exact c3 x hx y hy
 have En:p∉suf:=λh=>(JiZ.1 (JgJ.1 ot).2.1).1 (by simp[h]);have hqs:q∉suf:=λh=>(JiZ.1 (JiZ.1 (JgJ.1 ot).2.1).2).1 h;have AV:p∉pre:=λh=>(JgJ.1 ot).2.2 _ h p (by simp) rfl;have hqp:q∉pre:=λh=>(JgJ.1 ot).2.2 _ h q (by simp) rfl;have anP:∀i∈pre,i∉suf:=λi h h'=>(JgJ.1 ot).2.2 _ h i (by simp[h']) rfl
 --what is not listed yet,in both orders
 have hE1:∀listed:Array Bool,(!listed.getD p true)=true->(!listed.getD q true)=true->((pre++p::q::suf).filter λi=> !listed.getD i true)=(pre.filter λi=> !listed.getD i true)++p::q::suf.filter λi=> !listed.getD i true:=by
  intro listed h h';rw[JkV,JmZ (by exact h),JmZ (by exact h')]
 have hE2:∀listed:Array Bool,(!listed.getD p true)=true->(!listed.getD q true)=true->((pre++q::p::suf).filter λi=> !listed.getD i true)=(pre.filter λi=> !listed.getD i true)++q::p::suf.filter λi=> !listed.getD i true:=by
  intro listed h h';rw[JkV,JmZ (by exact h'),JmZ (by exact h)]
 --one step
 have stepP:∀ {n:Nat},(∀m,m+1=n->∀(listed:Array Bool) {s:St} {Γ:Cx} {a:Act} {w:World},listed.size=ops.size->rz ops listed->(!listed.getD p true)=true->(!listed.getD q true)=true->(pre.filter λi=> !listed.getD i true).length+(suf.filter λi=> !listed.getD i true).length=m->
   fX nt ds s Γ a->w.heap=Γ.heap->EA P Γ->lQ P aos us.contains W (p::q::suf.filter λi=> !listed.getD i true) s (pre.filter λi=> !listed.getD i true) (λt=>iE P aos us.contains W t (p::q::suf.filter λi=> !listed.getD i true) K∧iE P aos us.contains W t (q::p::suf.filter λi=> !listed.getD i true) K)->Hy P nt ds Γ w K (Q .normal)->wpAnyIn (FW ro) 0 P .any ops Q (m+1+1) listed a w)->
  ∀
   {listed:Array Bool} {s:St} {Γ:Cx} {a:Act} {w:World},listed.size=ops.size->rz ops listed->(!listed.getD p true)=true->(!listed.getD q true)=true->(pre.filter λi=> !listed.getD i true).length+(suf.filter λi=> !listed.getD i true).length=n->
   fX nt ds s Γ a->w.heap=Γ.heap->EA P Γ->lQ P aos us.contains W (p::q::suf.filter λi=> !listed.getD i true) s (pre.filter λi=> !listed.getD i true) (λt=>iE P aos us.contains W t (p::q::suf.filter λi=> !listed.getD i true) K∧iE P aos us.contains W t (q::p::suf.filter λi=> !listed.getD i true) K)->Hy P nt ds Γ w K (Q .normal)->wpAnyIn (FW ro) 0 P .any ops Q (n+1+1) listed a w:=by
  intro n IH listed s Γ a w fA hc Ta Tb hn hs hw hY h hk
  refine⟨λhr=> ?_,λi hi=> ?_⟩
  ·exfalso
   have:=JJ adX listed fA hr
   rw[hE1 listed Ta Tb]at this;simp at this
  ·obtain⟨Ol,o,ho,IY⟩:=mem_ready.1 hi
   have Xc:=(Array.getElem?_eq_some_iff.1 ho).1
   have R9:i<listed.size:=by rw[fA];exact Xc
   obtain⟨ao,BV,N0⟩:=nK i o ho
   have KP:=hE1 listed Ta Tb
   have AW:=hE2 listed Ta Tb
   have adY:=JI hc ho IY
   have adZ:(listed.setIfInBounds i true).size=ops.size:=by simp[fA]
   have Xf:(pre.filter λi=> !listed.getD i true).Sublist pre:=List.filter_sublist
   have hSs:(suf.filter λi=> !listed.getD i true).Sublist suf:=List.filter_sublist
   have hFu:∀j∈(pre.filter λi=> !listed.getD i true),(!listed.getD j true)=true:=λj hj=>(JgQ.1 hj).2
   have hSu:∀j∈(suf.filter λi=> !listed.getD i true),(!listed.getD j true)=true:=λj hj=>(JgQ.1 hj).2
   have anQ:((pre.filter λi=> !listed.getD i true)++p::q::suf.filter λi=> !listed.getD i true).Nodup:=by rw[←KP];exact ot.sublist List.filter_sublist
   have Ah:∀j,j∈pre++p::q::suf->(!listed.getD j true)=true->Ax (fZ ops.toList []) i j=true->False:=λj hj Xd hb=>TC fA hc hi (dk j hj) hb Xd
   have iA:i∈(pre.filter λi=> !listed.getD i true)++p::q::suf.filter λi=> !listed.getD i true:=by
    rw[←KP,JgQ];exact⟨cy i Xc,by rw[Ol];rfl⟩
   have hpF:∀ {j x:Nat} {r:List Nat},j∈(pre.filter λi=> !listed.getD i true)->(pre++x::r).Pairwise (qZ ops aos us.contains)->qZ ops aos us.contains j x:=λhj hp=>(JdQ.1 hp).2.2 _ (Xf.subset hj) _ (by simp)
   --p or q:what comes then stands in one order
   have anR:∀(q':Nat),qY ops (pre++i::q'::suf)=true->((pre++i::q'::suf).filter λi=> !listed.getD i true)=(pre.filter λi=> !listed.getD i true)++i::q'::(suf.filter λi=> !listed.getD i true)->(pre++i::suf).Pairwise (qZ ops aos us.contains)->(pre++q'::suf).Pairwise (qZ ops aos us.contains)->qj aos q' i=true->((pre.filter λi=> !listed.getD i true)++i::q'::(suf.filter λi=> !listed.getD i true)).Nodup->
     iE P aos us.contains W s ((pre.filter λi=> !listed.getD i true)++i::q'::(suf.filter λi=> !listed.getD i true)) K->wpOpIn (FW ro) 0 P ops Q i (wpAnyIn (FW ro) 0 P .any ops Q (n+1) (listed.setIfInBounds i true)) a w:=by
    intro q' ok hfl GW avj Xg Ha h
    have pn:=CL R9 hfl Ha
    have uc:∀j∈(pre.filter λi=> !listed.getD i true),gN aos us.contains j i=true:=by
     intro j hj;rcases(hpF hj GW).2 with hb|hb
     ·exact(Ah j (List.mem_append_left _ (Xf.subset hj)) (hFu j hj) hb).elim
     ·exact hb
    have cS:∀j∈(pre.filter λi=> !listed.getD i true)++(q'::suf.filter λi=> !listed.getD i true),qj aos j i=true:=by
     intro j hj;rcases JaZ.1 hj with hj|hj
     ·exact(hpF hj GW).1.2
     ·rcases cJ.1 hj with rfl|hj
      ·exact Xg
      ·exact mh (JhV (JdQ.1 GW).2.1 (hSs.subset hj)).1.2
    refine pJ ho N0 hs hw hY (JH BV uc cS h) ?_
    intro s' Γ' a' w' b1 b2 b3 b4 b5
    refine aia (W:=W) (us:=us) nK ok (n+1) (listed.setIfInBounds i true) adZ adY ?_ ?_ b1 b2 (hY.le b3) ?_ (hk.trans b3 b4)
    ·rw[pn];exact avj.sublist (List.Sublist.append Xf (hSs.cons_cons _))
    ·rw[pn,JaJ];simp only[JcQ];omega
    ·rw[pn];exact b5
   have anS:=JgJ.1 anQ
   rcases JaZ.1 iA with hiF|hiE
   ·--one of those ahead of both
    obtain⟨l1,l2,hl⟩:=List.append_of_mem hiF
    have Ha:(l1++i::l2).Nodup:=by rw[←hl];exact anS.1
    have pn:=CL R9 hl Ha
    have hip:i∈pre:=Xf.subset hiF
    have hrS:(suf.filter λj=> !(listed.setIfInBounds i true).getD j true)=suf.filter λj=> !listed.getD j true:=by
     refine List.filter_congr λj hj=> ?_;rw[getD_set_ne true (by rintro rfl;exact anP _ hip hj)]
    have KO:(pre.filter λi=> !listed.getD i true).Pairwise (qZ ops aos us.contains):=(JdQ.1 Fp).1.sublist Xf
    rw[hl]at KO
    have uc:∀j∈l1,gN aos us.contains j i=true:=by
     intro j hj;have hjF:j∈pre.filter λi=> !listed.getD i true:=by rw[hl];simp[hj]
     rcases((JdQ.1 KO).2.2 j hj i (by simp)).2 with hb|hb
     ·exact(Ah j (List.mem_append_left _ (Xf.subset hjF)) (hFu j hjF) hb).elim
     ·exact hb
    have cS:∀j∈l1++(l2++p::q::suf.filter λi=> !listed.getD i true),qj aos j i=true:=by
     intro j hj;rcases JaZ.1 hj with hj|hj
     ·exact((JdQ.1 KO).2.2 j hj i (by simp)).1.2
     ·rcases JaZ.1 hj with hj|hj
      ·exact mh (JhV (JdQ.1 KO).2.1 hj).1.2
      ·rcases cJ.1 hj with rfl|hj
       ·exact mh (hpF hiF Fp).1.2
       ·rcases cJ.1 hj with rfl|hj
        ·exact mh (hpF hiF BU).1.2
        ·exact mh ((JdQ.1 Fp).2.2 _ (Xf.subset hiF) _ (by simp[hSs.subset hj])).1.2
    rw[hl]at h hn
    refine pJ ho N0 hs hw hY (TB BV uc cS h) ?_
    intro s' Γ' a' w' b1 b2 b3 b4 b5
    have ad0:i≠p:=by rintro rfl;exact AV hip
    have ad1:i≠q:=by rintro rfl;exact hqp hip
    change wpAnyIn (FW ro) 0 P .any ops Q (n+1) _ _ _
    obtain⟨m,rfl⟩:∃m,n=m+1:=⟨n-1,by simp only[JaJ,JcQ]at hn;omega⟩
    refine IH m rfl (listed.setIfInBounds i true) adZ adY (by rw[getD_set_ne true ad0];exact Ta) (by rw[getD_set_ne true ad1];exact Tb) (by rw[pn,hrS];simp only[JaJ,JcQ]at hn⊢;omega) b1 b2 (hY.le b3) (by rw[pn,hrS];exact b5) (hk.trans b3 b4)
   ·rcases cJ.1 hiE with rfl|hiE
    ·refine anR q adX KP Fp BU (mh lN) anQ ?_
     exact CK (λ_=>rfl) (yi (λt ht=>ht.1) h)
    ·rcases cJ.1 hiE with rfl|hiE
     ·refine anR p Ag AW BU Fp lN (by rw[←AW];exact(List.Nodup.sublist List.filter_sublist (JK ot))) ?_
      exact CK (λ_=>JG) (yi (λt ht=>ht.2) h)
     ·--something made,that waits for neither
      have his:i∈suf:=hSs.subset hiE
      have hnp:¬Ax (fZ ops.toList []) i p=true:=λhb=>Ah p (by simp) Ta hb
      have hnq:¬Ax (fZ ops.toList []) i q=true:=λhb=>Ah q (by simp) Tb hb
      have hia:CM aos i=true:=by
       rcases avh i his with hb|hb|hb
       ·exact absurd hb hnp
       ·exact absurd hb hnq
       ·exact hb
      simp only[CM,BV]at hia
      obtain⟨k,hka⟩:=JaW.1 hia
      have hxq:ao.quiet=false:=by
       cases hxx:ao.quiet with
       |false=>rfl
       |true=>rw[eF hxx]at hka;cases hka
      obtain⟨S1,S2,hl⟩:=List.append_of_mem hiE
      have Ha:(S1++i::S2).Nodup:=by rw[←hl];exact(JiZ.1 (JiZ.1 anS.2.1).2).2
      have pn:=CL R9 hl Ha
      have hrF:(pre.filter λj=> !(listed.setIfInBounds i true).getD j true)=pre.filter λj=> !listed.getD j true:=by
       refine List.filter_congr λj hj=> ?_;rw[getD_set_ne true (by rintro rfl;exact anP _ hj his)]
      have hR1:=(JdQ.1 Fp)
      have hR2:=(JdQ.1 BU)
      have rP:qZ ops aos us.contains p i:=JhV hR1.2.1 his
      have rQ:qZ ops aos us.contains q i:=JhV hR2.2.1 his
      have oP:gN aos us.contains p i=true:=rP.2.resolve_left hnp
      have oQ:gN aos us.contains q i=true:=rQ.2.resolve_left hnq
      have ad5:(suf.filter λi=> !listed.getD i true).Pairwise (qZ ops aos us.contains):=(JjX.1 hR1.2.1).2.sublist hSs
      rw[hl]at ad5
      have rS:∀j∈S1,qZ ops aos us.contains j i:=λj hj=>(JdQ.1 ad5).2.2 j hj i (by simp)
      have rS2:∀j∈S2,qj aos j i=true:=λj hj=>mh (JhV (JdQ.1 ad5).2.1 hj).1.2
      have oS:∀j∈S1,gN aos us.contains j i=true:=by
       intro j hj;have hjS:j∈suf.filter λi=> !listed.getD i true:=by rw[hl];simp[hj]
       rcases(rS j hj).2 with hb|hb
       ·exact(Ah j (by simp[hSs.subset hjS]) (hSu j hjS) hb).elim
       ·exact hb
      have oF:∀j∈(pre.filter λi=> !listed.getD i true),qZ ops aos us.contains j i:=λj hj=>hR1.2.2 _ (Xf.subset hj) _ (by simp[his])
      have ad6:∀j∈p::q::(S1++S2),qj aos j i=true:=by
       intro j hj;rcases cJ.1 hj with rfl|hj
       ·exact rP.1.2
       ·rcases cJ.1 hj with rfl|hj
        ·exact rQ.1.2
        ·rcases JaZ.1 hj with hj|hj
         ·exact(rS j hj).1.2
         ·exact rS2 j hj
      rw[hl]at h hn
      have hgo:=uH (P:=P) (E':=p::q::(S1++S2)) (K':=λt=>iE P aos us.contains W t (p::q::(S1++S2)) K∧iE P aos us.contains W t (q::p::(S1++S2)) K) BV hka hxq ?_ ad6 ?_ _ s (λj hj=> ?_) (λj hj=>(oF j hj).1.2) h
      ·refine pJ ho N0 hs hw hY (bV (λt ht=>ht.2) hgo) ?_
       intro s' Γ' a' w' b1 b2 b3 b4 b5
       have ad0:i≠p:=by rintro rfl;exact En his
       have ad1:i≠q:=by rintro rfl;exact hqs his
       change wpAnyIn (FW ro) 0 P .any ops Q (n+1) _ _ _
       obtain⟨m,rfl⟩:∃m,n=m+1:=⟨n-1,by simp only[JaJ,JcQ]at hn;omega⟩
       refine IH m rfl (listed.setIfInBounds i true) adZ adY (by rw[getD_set_ne true ad0];exact Ta) (by rw[getD_set_ne true ad1];exact Tb) (by rw[pn,hrF];simp only[JaJ,JcQ]at hn⊢;omega) b1 b2 (hY.le b3) (by rw[pn,hrF];exact b5) (hk.trans b3 b4)
      ·intro s hf
       rw[bP,bP (l:=S1++i::S2),nR,bP (l:=S2)]at hf
       simp only[aJ]at hf
       refine⟨(sv BV hka).1 hf.2.2.2.1,?_⟩
       rw[bP,bP (l:=S1++S2),nR,hf.1,hf.2.1,hf.2.2.1,hf.2.2.2.2];rfl
      ·intro s hs
       obtain⟨z,DR,lN⟩:=qh (P:=P) hka
       have f1:=JH (s:=s) (l1:=p::q::S1) (l2:=S2) BV (λj hj=>by
        rcases cJ.1 hj with rfl|hj
        ·exact oP
        ·rcases cJ.1 hj with rfl|hj
         ·exact oQ
         ·exact oS j hj) (by simpa using ad6) hs.1
       have f2:=JH (s:=s) (l1:=q::p::S1) (l2:=S2) BV (λj hj=>by
        rcases cJ.1 hj with rfl|hj
        ·exact oQ
        ·rcases cJ.1 hj with rfl|hj
         ·exact oP
         ·exact oS j hj) (λj hj=>ad6 j (by simp at hj⊢;rcases hj with h|h|h|h<;>simp[h])) hs.2
       exact(lN s _).2 ⟨((lN s _).1 f1).1,((lN s _).1 f1).2,((lN s _).1 f2).2⟩
      ·rcases(oF j hj).2 with hb|hb
       ·exact(Ah j (List.mem_append_left _ (Xf.subset hj)) (hFu j hj) hb).elim
       ·exact hb
 intro n;induction n with
 |
  zero=>
  intro listed s Γ a w fA hc Ta Tb hn hs hw hY h hk
  exact stepP (λ_ NW=>absurd NW (by omega)) fA hc Ta Tb hn hs hw hY h hk
 |
  succ n ih=>
  intro listed s Γ a w fA hc Ta Tb hn hs hw hY h hk
  exact stepP (λm hm=>by
                obtain rfl:m=n:=by omega
                exact ih) fA hc Ta Tb hn hs hw hY h hk
theorem wW {ro:Option Nat} {ops:Array Oper} {aos:List AO} {own sp:List Nat} {pre suf us:List Nat} {p q:Nat} {id:Nat} (hm:P.follows .mixedOrders=true) (ht:mT P nt ops own sp true ops.toList=some aos) (df:FZ ops aos pre p q suf us=true) {K:St->Prop} (hs:fX nt ds s Γ a) (hw:w.heap=Γ.heap)
  (hY:EA P Γ) (h:∃W,lQ P aos us.contains W (p::q::suf) s pre (λt=>iE P aos us.contains W t (p::q::suf) K∧iE P aos us.contains W t (q::p::suf) K)) (hk:Hy P nt ds Γ w K (Q .normal)):(Code.region id ops true).wpIn (FW ro) 0 P Q a w:=by
 obtain⟨W,h⟩:=h;obtain⟨h1,h2⟩:=qd ht;simp only[FZ,aJ,bne_iff_ne,ne_eq,JeX,JoQ]at df;obtain⟨⟨⟨⟨⟨⟨k1,k2⟩,k3⟩,k4⟩,k5⟩,k6⟩,k7⟩:=df;obtain⟨dk,cy⟩:=Lh k1
 have hg:∀i∈pre++p::q::suf,(!(Array.replicate ops.size false).getD i true)=true:=by
  intro i hi;have:=dk i hi;simp[JbQ,this]
 have e:(pre.filter λi=> !(Array.replicate ops.size false).getD i true)=pre:=by
  rw[JfX];intro i hi;exact hg i (by simp[hi])
 have e':(suf.filter λi=> !(Array.replicate ops.size false).getD i true)=suf:=by
  rw[JfX];intro i hi;exact hg i (by simp[hi])
 have hlen:ops.size=pre.length+suf.length+1+1:=by
  simp only[qY,aJ,beq_iff_eq]at k1;have:=k1.1.1.2;simp at this;omega
 have hgo:=aic (P:=P) (nt:=nt) (ds:=ds) (ro:=ro) (Q:=Q) (s:=s) (Γ:=Γ) (a:=a) (w:= {w with drawn:=w.drawn+1}) (K:=K) (W:=W) (λi o hi=>h2 i o (by simpa using hi)) k1 k2 (EI k3) (EI k4) k5 k6 k7 (pre.length+suf.length) (Array.replicate ops.size false) (by simp) ?_ (hg p (by simp)) (hg q (by simp)) (by rw[e,e']) hs hw hY (by rw[e,e'];exact h) ?_
 ·rw[←hlen]at hgo;exact wpIn_region_any hm hgo
 ·intro k o Z7 hl;have:=(Array.getElem?_eq_some_iff.1 Z7).1;simp[JbQ,this]at hl
 ·intro s' Γ' a' w' b1 b2 b3 b4 b5;exact hk s' Γ' a' w' b1 b2 b3 ⟨b4.os,b4.tape,b4.output⟩ b5
def Pn (ops:Array Oper) (aos:List AO) (p q i:Nat):Bool:=CM aos i&&(List.range ops.size).all λj=> !Ax (fZ ops.toList []) j i||(Ax (fZ ops.toList []) j p||Ax (fZ ops.toList []) j q)
def F0 (ms:List Nat) (aos:List AO):List Nat->List Nat
 |[]=>[]
 |j::r=>if(rD aos j&& !soB aos j&&r.any λi=> !rD aos i&&(!CM aos i&& !Ax ms i j))=true then j::F0 ms aos r else F0 ms aos r
def TD (ms:List Nat) (aos:List AO):List Nat->List Nat->List Nat
 |_,[]=>[]
 |done,i::r=>if(!rD aos i&&(!CM aos i&&done.any λj=>rD aos j&& !soB aos j&& !Ax ms i j))=true then i::TD ms aos (i::done) r else TD ms aos (i::done) r
def Li (ops:Array Oper) (aos:List AO) (p q:Nat):List Nat:=(zn ops aos).filter λi=> !(i==p||i==q||(Ax (fZ ops.toList []) i p||(Ax (fZ ops.toList []) i q||Pn ops aos p q i)))
def Lj (ops:Array Oper) (aos:List AO) (p q:Nat):List Nat:=(zn ops aos).filter λi=> !(i==p||i==q)&&(Ax (fZ ops.toList []) i p||(Ax (fZ ops.toList []) i q||Pn ops aos p q i))
def Po (ops:Array Oper) (aos:List AO) (p q:Nat):List Nat:=
 let l:=Li ops aos p q++p::Lj ops aos p q
 let m:=Li ops aos p q++q::Lj ops aos p q
 F0 (fZ ops.toList []) aos l++TD (fZ ops.toList []) aos [] l++F0 (fZ ops.toList []) aos m++TD (fZ ops.toList []) aos [] m
def aid (own:List Nat):Option (Nat×Nat):=match own.find? (λn=>decide (1000000≤n))with|some n=>some ((n-1000000)/1000,(n-1000000)%1000)|none=>none
def arM (own:List Nat) (aos:List AO):Option (Nat×Nat):=match aid own with|some (p,q)=>if(!soB aos p&& !rD aos q)=true then some (p,q)else none|none=>none
end Go.Ab
namespace Go.Ab
variable [cK]
variable {P:Program} {nt:Nat} {ds:List Deferred} {s:St} {Γ Δ Γ0:Cx} {a:Act} {w w0:World} [eE]
inductive cq
 |skip
 |region (l:List AO)
 |regionD (l:List AO) (ord us:List Nat)
 |regionE (l:List AO) (pre:List Nat) (p q:Nat) (suf us:List Nat)
 |seq (x y:cq)
 |cond (c:AX) (x y:cq)
 |block (id:Nat) (x:cq)
 |loop (x:cq)
 |exit (id:Nat)
 |ret
 |seqm (x y:cq)
def erase:cq->cq
 | .seq x y| .seqm x y=> .seq (erase x) (erase y)
 | .cond c x y=> .cond c (erase x) (erase y)
 | .block id x=> .block id (erase x)
 | .loop x=> .loop (erase x)
 | .skip=> .skip
 | .region l=> .region l
 | .regionD l o u=> .regionD l o u
 | .regionE l a p q b u=> .regionE l a p q b u
 | .exit id=> .exit id
 | .ret=> .ret
def F1:cq->Bool
 | .seq x y| .seqm x y| .cond _ x y=>F1 x&&F1 y
 | .block _ x| .loop x=>F1 x
 |_=>true
noncomputable def fL (P:Program) (nt:Nat) (own sp:List Nat):Code->Option cq
 | .skip=>some .skip
 | .region _ ops false=>match mT P nt ops own sp false ops.toList with|some l=>some (.region l)|none=>none
 | .region _ ops true=>match mT P nt ops own sp true ops.toList with|some l=>if P.follows .mixedOrders=true then(if FQ ops l=true then some (.region l)else match arM own l with|some (p,q)=>(if FZ ops l (Li ops l p q) p q (Lj ops l p q) (Po ops l p q)=true then some (.regionE l (Li ops l p q) p q (Lj ops l p q) (Po ops l p q))else none)|none=>if yf ops l (zn ops l) (Lf ops l)=true then some (.regionD l (zn ops l) (Lf ops l))else none)else none|none=>none
 | .seq x y=>match fL P nt own sp x,fL P nt own sp y with|some x,some y=>some (.seq x y)|_,_=>none
 | .cond c x y=>match gk c,fL P nt own sp x,fL P nt own sp y with|some c,some x,some y=>some (.cond c x y)|_,_,_=>none
 | .block id x=>match fL P nt own sp x with|some x=>some (.block id x)|none=>none
 | .loop x=>match fL P nt own sp x with|some x=>some (.loop x)|none=>none
 | .exit id=>some (.exit id)
 | .ret=>some .ret
 |_=>none
theorem MY (own sp:List Nat):∀(c:Code) {ac:cq},fL P nt own sp c=some ac->erase ac=ac:=by
 intro c;induction c with
 |
  seq x y ihx ihy=>
  intro ac h
  simp only[fL]at h
  split at h<;>simp only[sJ,reduceCtorEq]at h
  subst h
  rename_i hx hy
  simp only[erase,ihx hx,ihy hy]
 |
  cond c x y ihx ihy=>
  intro ac h
  simp only[fL]at h
  split at h<;>simp only[sJ,reduceCtorEq]at h
  subst h
  rename_i hx hy
  simp only[erase,ihx hx,ihy hy]
 |
  block id x ih=>
  intro ac h
  simp only[fL]at h
  split at h<;>simp only[sJ,reduceCtorEq]at h
  subst h
  rename_i hx
  simp only[erase,ih hx]
 |
  loop x ih=>
  intro ac h
  simp only[fL]at h
  split at h<;>simp only[sJ,reduceCtorEq]at h
  subst h
  rename_i hx
  simp only[erase,ih hx]
 |
  region id ops d=>
  intro ac h
  cases d<;>simp only[fL]at h<;>(repeat' split at h)<;>simp only[sJ,reduceCtorEq]at h<;>subst h<;>rfl
 |_=>intro ac h;simp only[fL,sJ,reduceCtorEq]at h;try(subst h;rfl)
structure LkF where
 f:cq->cq
 h:∀c,f c=c
theorem Pp:Nonempty LkF:=⟨⟨id,λ_=>rfl⟩⟩
noncomputable abbrev lk:cq->cq:=(Classical.choice Pp).f
theorem aar (c:cq):lk c=c:=(Classical.choice Pp).h c
def Lk:cq->Bool
 | .loop _=>true
 | .seq x y| .cond _ x y=>Lk x||Lk y
 | .block _ x=>Lk x
 |_=>false
def aas:cq->Bool
 | .skip| .exit _| .ret=>true
 | .seq x y=>aas x&&aas y
 |_=>false
noncomputable def MZ:cq->cq
 | .seq x y=> .seq (MZ x) (bif Lk x&& !aas y then lk (MZ y)else MZ y)
 | .cond c x y=> .cond c (MZ x) (MZ y)
 | .block id x=> .block id (MZ x)
 | .loop x=> .loop (lk (MZ x))
 | .skip=> .skip
 | .region l=> .region l
 | .regionD l o u=> .regionD l o u
 | .regionE l a p q b u=> .regionE l a p q b u
 | .exit id=> .exit id
 | .ret=> .ret
 | .seqm x y=> .seqm x y
theorem wX:∀c,MZ c=c
 | .seq x y=>by simp only[MZ,wX x,wX y,aar,Bool.cond_self]
 | .cond _ x y=>by simp only[MZ,wX x,wX y]
 | .block _ x=>by simp only[MZ,wX x]
 | .loop x=>by simp only[MZ,wX x,aar]
 | .skip| .region _| .regionD .. | .regionE .. | .exit _| .ret| .seqm .. =>rfl
def Lp (body:(Exit->St->Prop)->St->Prop) (Q:Exit->St->Prop) (s:St):Prop:=
 ∃(I:Nat->St->Prop) (c:List Cut),(iR c s λs'=>∃n,I n s')∧∀n s,I n s->body (AD Q λs'=>∃c':List Cut,iR c' s' λs'=>∃m,m<n∧I m s') s
def Md (x y:(Exit->St->Prop)->St->Prop) (Q:Exit->St->Prop) (s:St):Prop:=
 ∃M:St->Prop,x (AD Q λs'=>∃c:List Cut,iR c s' M) s∧∀s',M s'->y Q s'
def aw (P:Program):cq->(Exit->St->Prop)->St->Prop
 | .skip,Q,s=>Q .normal s
 | .region l,Q,s=>K5 P s l (Q .normal)
 | .regionD l o u,Q,s=>∃W,iE P l u.contains W s o (Q .normal)
 | .regionE l a p q b u,Q,s=>∃W,lQ P l u.contains W (p::q::b) s a λt=>iE P l u.contains W t (p::q::b) (Q .normal)∧iE P l u.contains W t (q::p::b) (Q .normal)
 | .seq x y,Q,s=>aw P x (AD Q λs'=>aw P y Q s') s
 |
  .cond c x y,Q,s=>match vx s c with
  | .bl b=>(b=true->aw P x Q s)∧(b=false->aw P y Q s)
  | .gd g (.bl b)=>g=true∧(b=true->aw P x Q s)∧(b=false->aw P y Q s)
  |_=>False
 | .block id x,Q,s=>aw P x (Xr id Q) s
 | .loop x,Q,s=>Lp (λQ s=>aw P x Q s) Q s
 | .exit id,Q,s=>Q (.exit id) s
 | .ret,Q,s=>Q .ret s
 | .seqm x y,Q,s=>Md (λQ s=>aw P x Q s) (λQ s=>aw P y Q s) Q s
theorem yj {p:Nat->Prop} (h:∃n,p n):∃n,p n∧∀m,m<n->¬p m:=by
 obtain⟨n,hn⟩:=h;induction n using Nat.strongRecOn with
 |
  _ n ih=>
  by_cases hex:∃m,m<n∧p m
  ·obtain⟨m,hm,hp⟩:=hex;exact ih m hm hp
  ·exact⟨n,hn,λm hm hp=>hex ⟨m,hm,hp⟩⟩
noncomputable def least (p:Nat->Prop):Nat:=by
 classical exact if h:∃n,p n then Classical.choose (yj h)else 0
theorem CN {p:Nat->Prop} (h:∃n,p n):p (least p)∧∀m,p m->least p≤m:=by
 unfold least;rw[dif_pos h];have:=Classical.choose_spec (yj h);exact⟨this.1,λm hm=>Nat.not_lt.1 λdk=>this.2 m dk hm⟩
theorem Pq (own sp:List Nat):∀(c:Code) {ro:Option Nat} {Γ0:Cx} {w0:World} {ac:cq} {Q:Exit->St->Prop} {s:St} {Γ:Cx} {a:Act} {w:World} {ds:List Deferred},(ro.isSome=true->F1 ac=true)->HK Γ0->EA P Γ0->fL P nt own sp c=some (erase ac)->aw P ac Q s->fX nt ds s Γ a->sq Γ0.heap.size Γ ds->w.heap=Γ.heap->Le Γ0 Γ->WF w0 w->
  c.wpIn (FW ro) 0 P (lift nt Γ0 w0 Q) a w:=by
 have key:∀ {Γ0:Cx} {w0:World} {Γ:Cx} {a:Act} {w:World} {ds:List Deferred} {K:St->Prop},w.heap=Γ.heap->WF w0 w->sq Γ0.heap.size Γ ds->qW nt ds Γ0 Γ a K->∃s' Γ',fX nt ds s' Γ' a∧sq Γ0.heap.size Γ' ds∧w.heap=Γ'.heap∧Le Γ0 Γ'∧WF w0 w∧K s':=by
  intro Γ0 w0 Γ a w ds K b2 b4 bd hg;obtain⟨s',Γ',g1,g2,g3,g4⟩:=hg;exact⟨s',Γ',g1,bd.heap g2,by rw[g2];exact b2,g3,b4,g4⟩
 intro c;induction c with
 |
  skip=>
  intro ro Γ0 w0 ac Q s Γ a w ds hr qR hY ht h hs hd hw hle ua
  simp only[fL,sJ]at ht
  cases ac<;>simp only[erase,reduceCtorEq]at ht
  exact wpIn_skip ⟨ds,s,Γ,hs,hd,hw,hle,ua,h⟩
 |
  exit id=>
  intro ro Γ0 w0 ac Q s Γ a w ds hr qR hY ht h hs hd hw hle ua
  simp only[fL,sJ]at ht
  cases ac<;>simp only[erase,reduceCtorEq,cq.exit.injEq]at ht
  subst ht
  exact wpIn_exit ⟨ds,s,Γ,hs,hd,hw,hle,ua,h⟩
 |
  ret=>
  intro ro Γ0 w0 ac Q s Γ a w ds hr qR hY ht h hs hd hw hle ua
  simp only[fL,sJ]at ht
  cases ac<;>simp only[erase,reduceCtorEq]at ht
  exact wpIn_ret ⟨ds,s,Γ,hs,hd,hw,hle,ua,h⟩
 |
  region id ops draw=>
  intro ro Γ0 w0 ac Q s Γ a w ds hr qR hY ht h hs hd hw hle ua
  have hk:Hy P nt ds Γ w (Q .normal) (lift nt Γ0 w0 Q .normal):=λs' Γ' a' w' b1 b2 b3 b4 b5=>⟨ds,s',Γ',b1,hd.le hs.mem b3,b2,hle.trans b3,ua.trans b4,b5⟩
  have hY':=hY.le hle
  cases draw with
  |
   false=>
   simp only[fL]at ht
   split at ht<;>simp only[sJ,reduceCtorEq]at ht
   rename_i l hl
   cases ac<;>simp only[erase,reduceCtorEq,cq.region.injEq]at ht
   subst ht
   exact FO hl hs hw hY' h hk
  |
   true=>
   simp only[fL]at ht
   split at ht
   ·rename_i l hl
    split at ht
    ·rename_i hm
     split at ht
     ·rename_i df
      simp only[sJ]at ht
      cases ac<;>simp only[erase,reduceCtorEq,cq.region.injEq]at ht
      subst ht
      exact xU hm hl df hs hw hY' h hk
     ·split at ht
      ·split at ht
       ·simp only[sJ]at ht
        rename_i df
        cases ac<;>simp only[erase,reduceCtorEq,cq.regionE.injEq]at ht
        obtain⟨rfl,rfl,rfl,rfl,rfl,rfl⟩:=ht
        exact wW hm hl df hs hw hY' h hk
       ·simp at ht
      ·split at ht
       ·simp only[sJ]at ht
        rename_i df
        cases ac<;>simp only[erase,reduceCtorEq,cq.regionD.injEq]at ht
        obtain⟨rfl,rfl,rfl⟩:=ht
        exact wV hm hl df hs hw hY' h hk
       ·simp at ht
    ·simp at ht
   ·simp at ht
 |
  seq x y ihx ihy=>
  intro ro Γ0 w0 ac Q s Γ a w ds hr qR hY ht h hs hd hw hle ua
  simp only[fL]at ht
  split at ht<;>simp only[sJ,reduceCtorEq]at ht
  rename_i ax ay hx hy
  cases ac<;>simp only[erase,reduceCtorEq,cq.seq.injEq]at ht
  ·obtain⟨rfl,rfl⟩:=ht
   simp only[aw]at h
   simp only[F1,aJ]at hr
   refine wpIn_seq (wpIn_mono (ihx (λe=>(hr e).1) qR hY hx h hs hd hw hle ua) λe a' w' he=> ?_)
   have:=CJ he
   cases e with
   |
    normal=>
    obtain⟨ds',s',Γ',b1,bd,b2,b3,b4,b5⟩:=this
    exact ihy (λe=>(hr e).2) qR hY hy b5 b1 bd b2 b3 b4
   |_=>exact this
  ·obtain⟨rfl,rfl⟩:=ht
   simp only[aw]at h
   simp only[F1,aJ]at hr
   obtain⟨M,h1,h2⟩:=h
   refine wpIn_seq (wpIn_mono (ihx (λe=>(hr e).1) qR hY hx h1 hs hd hw hle ua) λe a' w' he=> ?_)
   have:=CJ he
   cases e with
   |
    normal=>
    obtain⟨ds',s',Γ',b1,bd,b2,b3,b4,c,b5⟩:=this
    obtain⟨s3,Γ3,d1,dd,d2,d3,d4,d5⟩:=key (Γ:=Γ') b2 b4 bd (qe qR c b1 b3 b5)
    exact ihy (λe=>(hr e).2) qR hY hy (h2 _ d5) d1 dd d2 d3 d4
   |_=>exact this
 |
  cond c x y ihx ihy=>
  intro ro Γ0 w0 ac Q s Γ a w ds Oj qR hY ht h hs hd hw hle ua
  simp only[fL]at ht
  split at ht<;>simp only[sJ,reduceCtorEq]at ht
  rename_i c' ax ay hc hx hy
  cases ac<;>simp only[erase,reduceCtorEq,cq.cond.injEq]at ht
  obtain⟨rfl,rfl,rfl⟩:=ht
  simp only[aw]at h
  simp only[F1,aJ]at Oj
  have hr:=Ca hc hs
  split at h
  ·rename_i b hb
   rw[hb]at hr
   simp only[aK]at hr
   have hcv:a.eval c= .bool b:=by generalize a.eval c=v at hr;cases hr;rfl
   exact wpIn_cond_split hcv (λhb=>ihx (λe=>(Oj e).1) qR hY hx (h.1 hb) hs hd hw hle ua) (λhb=>ihy (λe=>(Oj e).2) qR hY hy (h.2 hb) hs hd hw hle ua)
  ·rename_i g b hb
   rw[hb,aK]at hr
   have hr:=hr.1 h.1
   simp only[aK]at hr
   have hcv:a.eval c= .bool b:=by generalize a.eval c=v at hr;cases hr;rfl
   exact wpIn_cond_split hcv (λhb=>ihx (λe=>(Oj e).1) qR hY hx (h.2.1 hb) hs hd hw hle ua) (λhb=>ihy (λe=>(Oj e).2) qR hY hy (h.2.2 hb) hs hd hw hle ua)
  ·exact h.elim
 |
  block id x ih=>
  intro ro Γ0 w0 ac Q s Γ a w ds hr qR hY ht h hs hd hw hle ua
  simp only[fL]at ht
  split at ht<;>simp only[sJ,reduceCtorEq]at ht
  rename_i ax hx
  cases ac<;>simp only[erase,reduceCtorEq,cq.block.injEq]at ht
  obtain⟨rfl,rfl⟩:=ht
  simp only[aw]at h
  exact wpIn_block (wpIn_mono (ih (λe=>by simpa only[F1]using hr e) qR hY hx h hs hd hw hle ua) λe a' w' he=>Pm he)
 |
  loop x ih=>
  intro ro Γ0 w0 ac Q s Γ a w ds Oj qR hY ht h hs hd hw hle ua
  simp only[fL]at ht
  split at ht<;>simp only[sJ,reduceCtorEq]at ht
  rename_i ax hx
  cases ac<;>simp only[erase,reduceCtorEq,cq.loop.injEq]at ht
  subst ht
  simp only[aw]at h
  obtain⟨I,cs,h0,hr⟩:=h
  let J:Act->World->Nat->Prop:=λa w n=>∃ds s Γ,fX nt ds s Γ a∧sq Γ0.heap.size Γ ds∧w.heap=Γ.heap∧Le Γ0 Γ∧WF w0 w∧I n s
  refine wpIn_loop (λa w=>∃n,J a w n) (λa w=>least (J a w)) ?_ ?_
  ·obtain⟨s',Γ',b1,bd,b2,b3,b4,n,b5⟩:=key (Γ:=Γ) hw ua hd (qe qR cs hs hle h0)
   exact⟨n,ds,s',Γ',b1,bd,b2,b3,b4,b5⟩
  ·intro a1 w1 hJ
   obtain⟨⟨ds1,s1,Γ1,b1,bd,b2,b3,b4,b5⟩,wA⟩:=CN hJ
   refine wpIn_mono (ih (λe=>by simpa only[F1]using Oj e) qR hY hx (hr _ _ b5) b1 bd b2 b3 b4) λe a' w' he=> ?_
   have:=CJ he
   cases e with
   |
    normal=>
    obtain⟨ds2,s2,Γ2,c1,cd,c2,c3,c4,DH,c5⟩:=this
    obtain⟨s3,Γ3,d1,dd,d2,d3,d4,m,dk,d5⟩:=key (Γ:=Γ2) c2 c4 cd (qe qR DH c1 c3 c5)
    have hJm:J a' w' m:=⟨ds2,s3,Γ3,d1,dd,d2,d3,d4,d5⟩
    exact⟨⟨m,hJm⟩,JfV ((CN ⟨m,hJm⟩).2 m hJm) dk⟩
   |_=>exact this
 |_=>intro ro Γ0 w0 ac Q s Γ a w ds hr qR hY ht;simp[fL]at ht
end Go.Ab
namespace Go.Ab
variable [cK]
variable {P:Program} {nt:Nat} {ds:List Deferred} {s:St} {Γ Δ Γ0:Cx} {a:Act} {w w0:World}
def EJ (P:Program):ResultVar->Option AK
 | .tmp t=>some (.mv (.t t))
 | .cell t ty=>match lD P ty,gL P ty with|some g,some n=>some (.load g n (.t t))|_,_=>none
structure cZ where
 nt:Nat
 res:List AK
 code:cq
def cZ.er (f:cZ):cZ:=⟨f.nt,f.res,erase f.code⟩
noncomputable def mX (P:Program) (own sp:List Nat) (f:FuncId):Option cZ:=
 match P.funcs[f]?with
 |
  some fn=>if(fn.name== "runtime.NumGoroutine")=false then(match fn.body with
  |
   some c=>match fL P fn.ntmps own sp c,allM (EJ P) fn.results.toList with
   |some ac,some rs=>some ⟨fn.ntmps,rs,ac⟩
   |_,_=>none
  |none=>none)else none
 |none=>none
noncomputable def HQ (P:Program) (own sp:List Nat) (f:FuncId):Option cZ:=
 match mX P own sp f with|some A=>some ⟨A.nt,A.res,MZ A.code⟩|none=>none
theorem aC {own sp:List Nat} {f:FuncId} {A:cZ} (h:HQ P own sp f=some A):mX P own sp f=some A.er:=by
 unfold HQ at h;split at h
 ·rename_i B hB;rw[hB];simp only[sJ]at h;subst h;rw[wX];have h2:=hB;unfold mX at h2;(repeat' split at h2)<;>simp only[sJ,reduceCtorEq]at h2;subst h2;rename_i hc _;simp only[cZ.er,MY _ _ _ hc]
 ·simp at h
abbrev RF (P:Program) (own sp:List Nat) (f:FuncId):= {A:cZ//HQ P own sp f=some A}
def I5 (s:St):List AK->(List PV->Prop)->Prop
 |[],K=>K []
 |k::r,K=>ev true s k λp=>I5 s r λps=>K (p::ps)
def dh:List PV->PV
 |[p]=>p
 |ps=> .tup ps
def PV.flat:PV->Bool
 | .gd _ _| .tup _=>false
 |_=>true
def TE (n:Nat) (res:List AK) (R:PV->List aU->Prop) (s:St):Prop:=
 ∃
  (c:List Cut) (ks:List Nat),iR c s λs'=>I5 s' res λps=>∃bL,(getAll s'.bx ks=some bL∧ks.Nodup∧ks.take n=dM n)∧
  (ps.all PV.flat=true∧af (bT ks) (dh ps)=true∧bL.all (ab (bT ks))=true)∧R (aE (bz ks) (dh ps)) (bL.map (az (bz ks)))
def ends (n:Nat) (res:List AK) (R:PV->List aU->Prop):Exit->St->Prop
 | .ret,s| .normal,s=>TE n res R s
 |_,_=>False
def aj:Nat->List PV->List (Nat×PV)
 |_,[]=>[]
 |i,p::r=>(i,p)::aj (i+1) r
theorem CO:∀(l:List PV) (i k:Nat),get (aj i l) k=if i≤k then l[k-i]?else none
 |[],i,k=>by simp[aj,get]
 |
  p::l,i,k=>by
  simp only[aj,get,CO l (i+1) k]
  by_cases h:i=k
  ·subst h;simp
  ·rw[if_neg h]
   by_cases h2:i≤k
   ·rw[if_pos (by omega),if_pos h2,show k-i=(k-(i+1))+1 by omega,List.getElem?_cons_succ]
   ·rw[if_neg (by omega),if_neg h2]
theorem eY.at:∀ {l:List PV} {vs:List Value} {i:Nat} {p:PV},eY Γ l vs->l[i]? =some p->∃v,vs[i]? =some v∧aK Γ p v
 |[],_,_,_,_,h=>by simp at h
 |p::l,[],_,_,h,_=>by simp[eY]at h
 |p::l,v::vs,0,q,h,hi=>by simp at hi;subst hi;exact⟨v,rfl,h.1⟩
 |p::l,v::vs,i+1,q,h,hi=>by simp at hi;simpa using eY.at h.2 hi
theorem JL {t:TypeId} {v r:Value} (h:(Instr.loadAt t v).run P w= .ok r w):((do loadVar t (←asAddr v)):Sem Value).run P w= .ok r w:=by
 unfold Instr.loadAt at h
 cases v<;>first
  |(rename_i ad;cases ad<;>first|exact h|(simp[Instr.sureAddr,stuck]at h))
  |(simp[Instr.sureAddr,stuck]at h)
theorem aK.aie {p:PV} {v:Value} (h:aK Γ p v) (hf:p.flat=true):gI Γ p v:=by
 cases p<;>simp[PV.flat]at hf<;>first|exact h|(simp[gI])
def HR (tmps:Array Value):ResultVar->Sem Value
 | .tmp t=>pure (tmps.getD t undef)
 | .cell a t=>do loadVar t (←asAddr (tmps.getD a undef))
theorem Ll (hs:fX nt ds s Γ a) (hw:w.heap=Γ.heap):∀ {rs:List ResultVar} {ks:List AK} {K:List PV->Prop},allM (EJ P) rs=some ks->I5 s ks K->
  ∃ps vs,K ps∧(rs.mapM (HR a.tmps)).run P w= .ok vs w∧eY Γ ps vs
 |
  [],ks,K,h,he=>by
  simp only[allM,sJ]at h;subst h
  exact⟨[],[],he,rfl,trivial⟩
 |
  r::rs,ks,K,h,he=>by
  simp only[allM]at h
  split at h
  ·rename_i y l hy hl
   simp only[sJ]at h;subst h
   simp only[I5]at he
   have h1:∃p v,(I5 s l λps=>K (p::ps))∧(HR a.tmps r).run P w= .ok v w∧aK Γ p v:=by
    cases r with
    |
     tmp t=>
     simp only[EJ,sJ]at hy;subst hy
     simp only[ev]at he
     obtain⟨p,hp,hr⟩:=bw (x:= .tmp t) rfl hs rfl he
     exact⟨p,_,hp,rfl,hr⟩
    |
     cell t ty=>
     simp only[EJ]at hy
     split at hy<;>simp only[sJ,reduceCtorEq]at hy
     rename_i g n hg hn;subst hy
     obtain⟨p,v,hp,fN,hr⟩:=Hd (x:= .tmp t) rfl hs hw rfl hg hn he
     exact⟨p,v,hp,JL fN,hr⟩
   obtain⟨p,v,hp,fN,hr⟩:=h1
   obtain⟨ps,vs,hK,anV,cy⟩:=Ll hs hw hl hp
   refine⟨p::ps,v::vs,hK,?_,hr,cy⟩
   rw[List.mapM_cons]
   simp only[bJ,fN,rJ,anV]
   rfl
  ·simp at h
theorem Lm:∀ {ps:List PV} {vs:List Value},eY Γ ps vs->ps.all PV.flat=true->kI Γ ps vs
 |[],[],_,_=>trivial
 |[],_::_,h,_=>by simp[eY]at h
 |_::_,[],h,_=>by simp[eY]at h
 |
  p::ps,v::vs,h,hf=>by
  simp only[JoV,aJ]at hf
  exact⟨h.1.aie hf.1,Lm h.2 hf.2⟩
def aif:List Value->Value
 |[v]=>v
 |vs=> .tuple vs.toArray
theorem JM (fn:Func) (tmps:Array Value) {vs:List Value} (h:(fn.results.toList.mapM (HR tmps)).run P w= .ok vs w):
  (results fn tmps).run P w= .ok (aif vs) w:=by
 have e:results fn tmps=(do
   let vs←fn.results.mapM (HR tmps)
   pure (if h:vs.size=1 then vs[0]else .tuple vs)):=by
  unfold results
  congr 1
 have h2:(fn.results.mapM (HR tmps)).run P w= .ok vs.toArray w:=by
  rw[Array.mapM_eq_mapM_toList,Sem.run_map,h];rfl
 rw[e,bJ,h2];simp only[rJ,JbW];match vs with
 |[]=>rfl
 |[v]=>rfl
 |v::u::vs=>rfl
theorem M0 {fn:Func} {rs:List AK} {fp:List aU} {R:PV->List aU->Prop} (hr:allM (EJ P) fn.results.toList=some rs) (h0:Γ0.bx=av 0 fp) (qR:HK Γ0) (hs:fX nt ds s Γ a) (hw:w.heap=Γ.heap) (hle:Le Γ0 Γ) (h:TE fp.length rs R s):
  ∃v r xp Γ',(results fn a.tmps).run P w= .ok v w∧R r xp∧w.heap=Γ'.heap∧Mem Γ'∧Γ'.bx=av 0 xp∧aK Γ' r v∧Le Γ0 Γ':=by
 obtain⟨c,ks,h⟩:=h;obtain⟨s',Γ1,Em,hh,avn,h⟩:=qe qR c hs hle h;have Fp:w.heap=Γ1.heap:=by rw[hh];exact hw
 obtain⟨ps,vs,h,fN,cy⟩:=Ll Em Fp hr h;obtain⟨bL,⟨hg,hn,S5⟩,⟨hf,hro,hbo⟩,hR⟩:=h;rw[←Em.bx]at hg;have ub:=Cx.HP hg;refine⟨_,_,_,Γ1.out ks bL,JM fn a.tmps fN,hR,Fp,Cx.TA Em.mem hg hn hbo,rfl,?_,Cx.aaq avn h0 hg S5⟩
 have hv:aK Γ1 (dh ps) (aif vs):=by
  have hl:=cy.length;match ps,vs,cy,hl with
  |[],[],_,_=>exact⟨[],rfl,trivial⟩
  |[p],[v],cy,_=>exact cy.1
  |p::q::ps,v::u::vs,cy,_=>exact⟨_,rfl,Lm cy hf⟩
 exact hv.aE ub hro
theorem tc {fn:Func} {rs:List AK} {fp:List aU} {R:PV->List aU->Prop} (hr:allM (EJ P) fn.results.toList=some rs) (h0:Γ0.bx=av 0 fp) (qR:HK Γ0) (h:TE fp.length rs R s):
  ∀
   (Ds:List Nat) {ds:List Deferred} {Γ:Cx} {w:World},fX nt ds s Γ a->w.heap=Γ.heap->Le Γ0 Γ->WF w0 w->Ds.Nodup->(∀D∈Ds,Γ0.heap.size≤D∧Γ.heap[D]? =some (.deferred (some [])))->
   LeavesInM (FW none) 0 P fn a.tmps (λe w'=>∃v r xp Γ',e= .returned v∧R r xp∧w'.heap=Γ'.heap∧Mem Γ'∧Γ'.bx=av 0 xp∧aK Γ' r v∧Le Γ0 Γ'∧WF w0 w')
    (Ds.map λD=> {target:= .collected D,args:= #[]}) .returning w
 |
  [],ds,Γ,w,hs,hw,hle,ua,_,_=>by
  obtain⟨v,r,xp,Γ2,h1,h2,h3⟩:=M0 hr h0 qR hs hw hle h
  exact⟨v,h1,v,r,xp,Γ2,rfl,h2,h3.1,h3.2.1,h3.2.2.1,h3.2.2.2.1,h3.2.2.2.2,ua⟩
 |
  D::Ds,ds,Γ,w,hs,hw,hle,ua,hn,hd=>by
  obtain⟨ZU,hh⟩:=hd D (by simp)
  have hp:Γ.lM D:=⟨_,hh,rfl⟩
  obtain⟨hnm,NW⟩:=JiZ.1 hn
  refine⟨by simp,.inl ⟨D,w.putObj D (.deferred none),rfl,run_takeDeferred (by rw[hw];exact hh),?_⟩⟩
  refine tc hr h0 qR h Ds (hs.obj hp) (OO hw) (FH hle ZU hp) (ua.trans (WF.obj _ _ _)) NW (λD' hD'=> ?_)
  obtain⟨h1,h2⟩:=hd D' (by simp[hD'])
  exact⟨h1,by rw[nO (l:=D) (b:=D') (by rintro rfl;exact hnm hD')];exact h2⟩
theorem EK [eE] {f:FuncId} {A:cZ} {own sp:List Nat} {args:List PV} {fp:List aU} {R:PV->List aU->Prop} (ht:mX P own sp f=some A.er) (hl:args.length≤A.nt)
  (h:aw P A.code (ends fp.length A.res R) ⟨aj 0 args,av 0 fp⟩):
  (∀(vs:Array Value) (w:World),(callFunc f vs).run P w= .ok (.enter f vs) w)∧∀(Γ:Cx) (w:World) (vs:List Value),w.heap=Γ.heap->Mem Γ->Γ.bx=av 0 fp->EA P Γ->eY Γ args vs->
   CallsIn (FW none) 0 P f vs.toArray w (λe w'=>∃v r xp Γ',e= .returned v∧R r xp∧w'.heap=Γ'.heap∧Mem Γ'∧Γ'.bx=av 0 xp∧aK Γ' r v∧Le Γ Γ'∧WF w w'):=by
 unfold mX at ht;split at ht
 case h_2=>simp at ht
 rename_i fn hfn;split at ht
 case isFalse=>simp at ht
 rename_i anW;split at ht
 case h_2=>simp at ht
 rename_i c hb;split at ht
 case h_2=>simp at ht
 rename_i ac rs hac S8;simp only[sJ,cZ.er,cZ.mk.injEq]at ht;obtain⟨hnt,KI,anY⟩:=ht;subst KI anY;refine⟨λvs w=> ?_,λΓ w vs hw hm ly hY cy=> ?_⟩
 ·unfold callFunc;simp only[bJ,run_program,rJ,hfn,anW,fJ,if_false,hb,Option.isNone_some,JbW]
 ·have hlen:=cy.length
  have qR:HK Γ:=by
   intro k blk hk;rw[ly,fw]at hk;split at hk
   ·omega
   ·simp at hk
  refine callsIn_of_wp_marks hfn hb trivial (wpIn_mono (Pq own sp c (ro:=none) (ds:=[]) (by simp) qR hY hac h (Γ:=Γ) (a:= {tmps:=vs.toArray++Array.replicate (fn.ntmps-vs.toArray.size) undef,defers:=[]}) ⟨ly,?_,rfl,?_,hm⟩ .nil hw (Le.refl Γ) (WF.refl w)) ?_)
  ·simp;omega
  ·intro k p hk;rw[CO]at hk;simp only[Nat.zero_le,if_true,Nat.sub_zero]at hk;obtain⟨v,hv,hr⟩:=cy.at hk;have dk:=(iJ.1 hv).1
   have e:(vs.toArray++Array.replicate (fn.ntmps-vs.toArray.size) undef).getD k undef=v:=by
    rw[JbQ,Array.getElem?_append_left (by simpa using dk)];simp[hv]
   simp only;rw[e];exact hr
  ·rintro e a' w' ⟨ds',s',Γ',Bk,⟨Ds,hD1,hD2,hD3⟩,ZV,El,anZ,he⟩;cases e with
   |ret=>show LeavesInM _ _ _ _ _ _ a'.defers _ _;rw[Bk.defers,hD1];exact tc S8 ly qR he Ds Bk ZV El anZ hD2 hD3
   |normal=>show LeavesInM _ _ _ _ _ _ a'.defers _ _;rw[Bk.defers,hD1];exact tc S8 ly qR he Ds Bk ZV El anZ hD2 hD3
   |_=>exact he.elim
theorem ae.intro {f:FuncId} {A:cZ} {own sp:List Nat} {args:List PV} {fp:List aU} {R:PV->List aU->Prop} (ht:mX P own sp f=some A.er) (hl:args.length≤A.nt)
  (h:aw P A.code (ends fp.length A.res R) ⟨aj 0 args,av 0 fp⟩):ae P f args fp R:=
 λΓ w vs h1 h2 h3 h4=> .inl ⟨(EK ht hl h).1 _ _,MF ((EK ht hl h).2 Γ w vs h1 h2 h3 .no h4)⟩
end Go.Ab

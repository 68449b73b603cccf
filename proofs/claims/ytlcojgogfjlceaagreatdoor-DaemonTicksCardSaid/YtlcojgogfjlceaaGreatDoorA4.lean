/- Regions, loops and bodies do what their abstract reading says. No condition. -/
import Derived.Test.YtlcojgogfjlceaaGreatDoorA3
set_option linter.all false
namespace Go.Ab
variable [cL]
variable {P:Program} {nt:Nat} {ds:List Deferred} {s:St} {Γ:Cx} {a:Act} {w:World} [eJ]
structure AO where
 dst:Option Nat
 guard:Option (Nat×Bool)
 mg:Bool
 k:AK
def pE:AK->Bool
 | .alloc _| .box _| .buildSlice .. | .makeSlice .. | .store .. | .append .. | .appendZ .. | .copy .. | .fill .. | .isNil .. | .convB .. | .convL .. | .mkMap .. | .mapGet .. | .mapSet .. =>true
 |_=>false
def mX (P:Program) (s:St) (d:Option Nat) (f:AX) (args:List AX) (K:St->Prop):Prop:=
 vg true s f λpf=>xE true s args λps=>match pf with
  | .fn (.func fid) first cap=>∃ks os,xV P s d fid (first++ps++cap) ks os K
  | .fn (.yield l) [] []=>Jk s d l ps K
  |_=>False
def ql (P:Program) (s:St) (d:Option Nat) (f:AX) (args:List AX) (K:St->Prop):Prop:=
 vg true s f λpf=>xE true s args λps=>match pf with
  | .fn (.func fid) first cap=>∃v,(ah (λ_=>false) (first++ps++cap)=true∧af (λ_=>false) v=true)∧
    ae P fid (first++ps++cap) [] (λr fp=>r=v∧fp=[])∧K (s.put d v)
  |_=>False
def jX (P:Program) (s:St) (o:AO) (K:St->Prop):Prop:=
 match o.k with
 | .call f args=>mX P s o.dst f args K
 | .callq f args=>ql P s o.dst f args K
 |k=>if pE k=true then ex s o.dst k K else ev true s k λp=>K (s.put o.dst p)
def fX (P:Program) (s:St) (o:AO) (K:St->Prop):Prop:=
 match o.guard with
 |none=>jX P s o K
 |
  some (sl,want)=>match(get s.env sl).getD .un with
  | .bl b=>if o.mg=true then ev (b==want) s o.k (λp=>K (s.put o.dst (.gd (b==want) p)))
    else(b=want->jX P s o K)∧(b≠want->K (s.put o.dst .un))
  | .gd g (.bl b)=>if o.mg=true then ev (g&&b==want) s o.k (λp=>K (s.put o.dst (.gd (g&&b==want) p)))
    else(g=true->b=want->jX P s o K)∧((g=true->b≠want)->K (s.put o.dst .un))
  |_=>False
def vO:AK->Bool
 | .mv _| .pick .. | .load .. | .nilCheck _| .un .. | .convI .. | .convS _| .fieldA .. | .s2a .. | .field .. | .extract .. | .len _| .lenS _| .lenC _| .cap _| .mm .. =>true
 | .bin op _ _ _=>match op with| .quo| .rem| .shl| .shr=>false|_=>true
 |_=>false
def yh (ops:Array Oper):Option (Nat×Bool)->Option (Option (Nat×Bool))
 |none=>some none
 |some (j,want)=>match(ops[j]?).bind (·.dst)with|some d=>some (some (d,want))|none=>none
def AD (nt:Nat) (d:Option Nat) (k:AK):Bool:=
 match d,k with
 |some _,.store .. =>false
 |some d,_=>decide (d<nt)
 |none,_=>true
def zm (P:Program) (draw:Bool) (ty:TypeId):AK->AK
 | .call f args=>if draw=true then .callq f args else .call f args
 |
  .mv (.c (.sl 0 [] true))=>(match P.underlying ty with
  |some (.slice e)=> .mv (.c (.sl (P.cellsOf e) [] true))
  |_=> .mv (.c (.sl 0 [] true)))
 |k=>k
def aaL (own:List Nat):Option Nat->Bool
 |some d=>own.contains d
 |none=>true
noncomputable def rM (P:Program) (nt:Nat) (ops:Array Oper) (own sp:List Nat) (draw:Bool) (o:Oper):Option AO:=
 match j7 P (match o.dst with|some d=>own.contains d|none=>false) o.op,yh ops o.guard with
 |some k,some g=>if AD nt o.dst k=true then some ⟨o.dst,g,vO k&& !(match o.dst with|some d=>sp.contains d|none=>false),zm P (draw&& !aaL own o.dst) o.type k⟩else none
 |_,_=>none
theorem AE {own:Bool} {op:Op} {k:AK} (h:j7 P own op=some k) (c:Call):op≠ .defer c:=by
 rintro rfl;simp[j7]at h
theorem Oper.AF {ro:Option Nat} {o:Oper} {own:Bool} {k:AK} (ra:j7 P own o.op=some k) {K:St->Prop} {Kr:Act->World->Prop} {Q:Exit->Act->World->Prop} (h:jT P nt ds o a w Γ K)
  (hk:∀s' Γ' a' w',gm nt ds s' Γ' a'->w'.heap=Γ'.heap->Le Γ Γ'->WF w w'->K s'->Kr a' w'):o.wpIn (FW ro) 0 P a w Kr Q:=by
 obtain⟨nx,v,w',s',Γ',fU,Xu,hs,hh,hle,uu,hK⟩:=h;refine⟨λ_ _=>trivial,?_⟩;rw[Oper.semAt_eq _ _ _ (AE ra),fU];rcases Xu with rfl|⟨rfl,rfl⟩
 ·exact hk _ _ _ _ hs hh hle uu hK
 ·exact hk _ _ _ _ hs hh hle uu hK
theorem Pe {o:Oper} {k:AK} {own:Bool} {K:St->Prop} (hk:j7 P own o.op=some k) (hs:gm nt ds s Γ a) (hw:w.heap=Γ.heap) (hd:AD nt o.dst k=true) (he:ex s o.dst k K):jT P nt ds o a w Γ K:=by
 have Ap:(∀x y z,k≠ .store x y z)->∀j,o.dst=some j->j<nt:=by
  intro cI j hj;rw[hj]at hd;unfold AD at hd;split at hd
  ·exact absurd rfl (cI _ _ _)
  ·rename_i heq _;simp at heq;subst heq;simpa using hd
  ·rename_i heq;simp at heq
 cases nP:o.op with
 |
  alloc t=>
  rw[nP]at hk;simp only[j7]at hk
  split at hk<;>simp only[sJ,reduceCtorEq]at hk
  rename_i z hz;subst hk
  exact ME nP hz hs hw (Ap (by intros;simp)) he
 |
  box t x=>
  rw[nP]at hk;simp only[j7]at hk
  split at hk<;>simp only[sJ,reduceCtorEq]at hk
  rename_i y hy;subst hk
  exact TG nP hy hs hw (Ap (by intros;simp)) he
 |
  buildSlice t n parts=>
  rw[nP]at hk;simp only[j7]at hk
  split at hk
  ·rename_i e ps hu hp
   split at hk
   ·rename_i z sz hz fH
    split at hk<;>simp only[sJ,reduceCtorEq]at hk
    rename_i hc;subst hk
    exact Cn nP hu hp hz fH hc.1 hc.2 hs hw (Ap (by intros;simp)) he
   ·simp at hk
  ·simp at hk
 |
  makeSlice t l c=>
  rw[nP]at hk;simp only[j7]at hk
  split at hk
  ·rename_i e l' c' hu hl hc
   split at hk
   ·rename_i z i hz hi
    split at hk<;>simp only[sJ,reduceCtorEq]at hk
    rename_i j6;subst hk
    exact D9 nP hu hl hc hz hi j6 hs hw (Ap (by intros;simp)) he
   ·simp at hk
  ·simp at hk
 |
  store t x y=>
  rw[nP]at hk;simp only[j7]at hk
  split at hk<;>simp only[sJ,reduceCtorEq]at hk
  rename_i n x' y' hn hx hy;subst hk
  refine MG nP hn hx hy hs hw ?_ he
  cases D4:o.dst with
  |none=>rfl
  |some d=>rw[D4]at hd;simp[AD]at hd
 |
  convert t e x=>
  rw[nP]at hk;simp only[j7]at hk
  split at hk
  ·simp only[sJ]at hk;subst hk;simp[ex]at he
  ·split at hk<;>simp only[sJ,reduceCtorEq]at hk
   subst hk;simp[ex]at he
  ·rename_i e' y h1 h2 hx
   split at hk<;>simp only[sJ,reduceCtorEq]at hk
   rename_i h3;subst hk
   exact MF nP h1 h2 h3 hx hs hw (Ap (by intros;simp)) he
  ·rename_i e0 e' y h1 h2 hx
   split at hk
   ·rename_i hte
    split at hk<;>simp only[sJ,reduceCtorEq]at hk
    rename_i h3;subst hk hte
    exact MQ nP h1 (by rw[h1]at h2;cases h2;exact h3) hx hs hw (Ap (by intros;simp)) he
   ·simp at hk
  ·simp at hk
 |
  makeMap t r=>
  rw[nP]at hk
  cases r with
  |some r=>simp[j7]at hk
  |
   none=>
   simp only[j7]at hk
   split at hk
   ·rename_i k' e hu
    split at hk<;>simp only[sJ,reduceCtorEq]at hk
    subst hk
    exact MP nP hs hw (Ap (by intros;simp)) he
   ·simp at hk
 |
  lookup t m x ok=>
  rw[nP]at hk;simp only[j7]at hk
  split at hk
  ·rename_i k' e m' x' hu hm hx
   split at hk
   ·rename_i ks z h1 hz
    split at hk<;>simp only[sJ,reduceCtorEq]at hk
    rename_i hf;subst hk
    exact Jm nP hu hm hx h1 hz hf hs hw (Ap (by intros;simp)) he
   ·simp at hk
  ·simp at hk
 |
  mapUpdate t m x y=>
  rw[nP]at hk;simp only[j7]at hk
  split at hk
  ·rename_i k' e m' x' y' hu hm hx hy
   split at hk<;>simp only[sJ,reduceCtorEq]at hk
   rename_i ks h1;subst hk
   exact CD (.inl nP) hu hm hx hy h1 hs hw he
  ·simp at hk
 |
  insert t m x y=>
  rw[nP]at hk;simp only[j7]at hk
  split at hk
  ·rename_i k' e m' x' y' hu hm hx hy
   split at hk<;>simp only[sJ,reduceCtorEq]at hk
   rename_i ks h1;subst hk
   exact CD (.inr nP) hu hm hx hy h1 hs hw he
  ·simp at hk
 |
  call c=>
  obtain⟨callee,args,tys⟩:=c
  rw[nP]at hk
  cases callee with
  |
   value f=>
   simp only[j7]at hk
   split at hk<;>simp only[sJ,reduceCtorEq]at hk
   subst hk;simp[ex]at he
  |invoke r m=>simp[j7]at hk
  |
   builtin b=>
   simp only[j7]at hk
   obtain⟨args⟩:=args
   obtain⟨tys⟩:=tys
   simp only at hk
   cases b with
   |
    append=>
    match args,tys,nP,hk with
    |
     [x,y],[t,u],nP,hk=>
     unfold bZ at hk
     simp only at hk
     split at hk
     ·rename_i e d x' y' Xv hu2 hx hy
      split at hk
      ·rename_i i hi
       split at hk
       ·rename_i z hz
        split at hk
        ·rename_i hc
         split at hk
         ·simp only[sJ]at hk;subst hk
          exact Cq nP Xv hu2 (.inl ⟨_,rfl⟩) hi hz hc.1 hc.2.1 hc.2.2 hx hy hs hw (Ap (by intros;simp)) he
         ·split at hk<;>simp only[sJ,reduceCtorEq]at hk
          rename_i h1;subst hk
          exact Cq nP Xv hu2 (.inr rfl) hi hz hc.1 hc.2.1 hc.2.2 hx hy hs hw (Ap (by intros;simp)) he
         ·split at hk<;>simp only[sJ,reduceCtorEq]at hk
          rename_i zz hzz;subst hk
          exact HC nP Xv hu2 hi hz hzz hc.1 hc.2.1 hc.2.2 hx hy hs hw (Ap (by intros;simp)) he
         ·simp at hk
        ·simp at hk
       ·simp at hk
      ·simp at hk
     ·simp at hk
    |[],_,_,hk|[_],_,_,hk|_::_::_::_,_,_,hk|[_,_],[],_,hk|[_,_],[_],_,hk|[_,_],_::_::_::_,_,hk=>simp[bZ]at hk
   |
    clear=>
    match args,tys,nP,hk with
    |
     [x],[t],nP,hk=>
     unfold bZ at hk
     simp only at hk
     split at hk
     ·rename_i e x' Xv hx
      split at hk
      ·rename_i n z hn hz
       split at hk<;>simp only[sJ,reduceCtorEq]at hk
       subst hk
       exact O7 nP Xv hn hz hx hs hw he
      ·simp at hk
     ·simp at hk
    |[],_,_,hk|_::_::_,_,_,hk|[_],[],_,hk|[_],_::_::_,_,hk=>simp[bZ]at hk
   |
    copy=>
    match args,tys,nP,hk with
    |
     [x,y],[t,u],nP,hk=>
     unfold bZ at hk
     simp only at hk
     split at hk
     ·rename_i e x' y' Xv hx hy
      split at hk<;>simp only[sJ,reduceCtorEq]at hk
      rename_i n hn;subst hk
      exact O6 nP Xv hn hx hy hs hw (Ap (by intros;simp)) he
     ·simp at hk
    |[],_,_,hk|[_],_,_,hk|_::_::_::_,_,_,hk|[_,_],[],_,hk|[_,_],[_],_,hk|[_,_],_::_::_::_,_,hk=>simp[bZ]at hk
   |
    len=>
    exfalso
    unfold bZ at hk
    repeat (split at hk<;>(try contradiction))
    all_goals first|(simp only[sJ]at hk;subst hk;simp[ex]at he;done)|(simp at hk;done)|(split at hk<;>first|(simp only[sJ]at hk;subst hk;simp[ex]at he;done)|(simp at hk;done))
   |
    cap=>
    unfold bZ at hk
    split at hk<;>(try contradiction)
    split at hk<;>simp only[sJ,reduceCtorEq]at hk
    subst hk;simp[ex]at he
   |
    min=>
    unfold bZ at hk
    split at hk<;>(try contradiction)
    split at hk<;>simp only[sJ,reduceCtorEq]at hk
    subst hk;simp[ex]at he
   |
    max=>
    unfold bZ at hk
    split at hk<;>(try contradiction)
    split at hk<;>simp only[sJ,reduceCtorEq]at hk
    subst hk;simp[ex]at he
   |_=>unfold bZ at hk;split at hk<;>contradiction
 |
  binOp op t x y yt=>
  by_cases hn:∃ng p,k= .isNil ng p
  ·obtain⟨ng,p,rfl⟩:=hn
   rw[nP]at hk
   exact MJ nP hk hs hw (Ap (by intros;simp)) he
  rw[nP]at hk;simp only[j7]at hk
  exfalso
  repeat (split at hk<;>(try contradiction))
  all_goals first|(simp only[sJ]at hk;subst hk;simp[ex]at he;done)|(simp at hk;done)|(simp only[sJ]at hk;exact hn ⟨_,_,hk.symm⟩)|(split at hk<;>first|(simp only[sJ]at hk;subst hk;simp[ex]at he;done)|(simp at hk;done)|(simp only[sJ]at hk;exact hn ⟨_,_,hk.symm⟩)|(split at hk<;>first|(simp only[sJ]at hk;subst hk;simp[ex]at he;done)|(simp at hk;done)|(simp only[sJ]at hk;exact hn ⟨_,_,hk.symm⟩)|(split at hk<;>first|(simp only[sJ]at hk;subst hk;simp[ex]at he;done)|(simp at hk;done)|(simp only[sJ]at hk;exact hn ⟨_,_,hk.symm⟩))))
 |
  _=>
  exfalso
  rw[nP]at hk
  first
  |(simp only[j7,reduceCtorEq]at hk;done)
  |(simp only[j7]at hk
    repeat (split at hk<;>(try contradiction))
    all_goals first|(simp only[sJ]at hk;subst hk;simp[ex]at he;done)|(simp at hk;done)|(split at hk<;>first|(simp only[sJ]at hk;subst hk;simp[ex]at he;done)|(simp at hk;done)|(split at hk<;>first|(simp only[sJ]at hk;subst hk;simp[ex]at he;done)|(simp at hk;done))))
end Go.Ab
namespace Go.Ab
variable [cL]
variable {P:Program} {nt:Nat} {ds:List Deferred} {s:St} {Γ:Cx} {a:Act} {w:World} [eJ]
theorem aD.toV {p:PV} {v:Value} (h:aD Γ [p] [v]) (ha:p.isAgg=false):aL Γ p v:=by
 cases p<;>simp[PV.isAgg]at ha<;>first|(simp only[aL];done)|(simp only[aL];exact h)|(exact absurd h (by intro h;cases h))
theorem tp:∀ {l:List PV} {vs:List Value},aD Γ l vs->(∀x∈l,x.isAgg=false)->ff Γ l vs
 |[],vs,h,_=>by cases h;trivial
 |
  p::l,vs,h,hn=>by
  obtain⟨cs,us,rfl,h1,h2⟩:=h.lZ
  have hp:=hn p (by simp)
  have hw:p.width=1:=by cases p<;>simp[PV.isAgg]at hp<;>rfl
  have hl:=h1.fS
  rw[hw]at hl
  obtain⟨v,rfl⟩:=JrZ.1 hl
  exact⟨h1.toV hp,tp h2 (λx hx=>hn x (by simp[hx]))⟩
theorem ff.append:∀ {l m:List PV} {vs us:List Value},ff Γ l vs->ff Γ m us->ff Γ (l++m) (vs++us)
 |[],m,[],us,_,h=>h
 |p::l,m,v::vs,us,h,h'=>⟨h.1,ff.append h.2 h'⟩
 |[],m,v::vs,us,h,_=>by simp[ff]at h
 |p::l,m,[],us,h,_=>by simp[ff]at h
theorem ff.aE {f:Nat->Bool} {ρ:Nat->Nat} {Δ:Cx} (hs:zk f ρ Γ Δ):∀ {l:List PV} {vs:List Value},ff Γ l vs->ah f l=true->ff Δ (aR ρ l) vs
 |[],[],_,_=>trivial
 |
  p::l,v::vs,h,hf=>by
  simp only[ah,aJ]at hf
  exact⟨h.1.aE hs hf.1,ff.aE hs h.2 hf.2⟩
 |[],v::vs,h,_=>by simp[ff]at h
 |p::l,[],h,_=>by simp[ff]at h
theorem xc:∀ {ps:List PV} {xs:List Operand},ps.length=xs.length->(∀(i:Nat) p x,ps[i]? =some p->xs[i]? =some x->aL Γ p (a.eval x))->ff Γ ps (xs.map a.eval)
 |[],[],_,_=>trivial
 |p::ps,x::xs,hl,h=>⟨h 0 p x rfl rfl,xc (by simpa using hl) (λi q y h1 h2=>h (i+1) q y h1 h2)⟩
 |[],_::_,hl,_=>by simp at hl
 |_::_,[],hl,_=>by simp at hl
def HD (P:Program) (nt:Nat) (ds:List Deferred) (Γ:Cx) (w:World) (K:St->Prop) (Kr:Act->World->Prop):Prop:=
 ∀s' Γ' a' w',gm nt ds s' Γ' a'->w'.heap=Γ'.heap->Le Γ Γ'->WF w w'->K s'->Kr a' w'
theorem MR {o:Oper} {f:Operand} {args:Array Operand} {tys:Array TypeId} {fid:FuncId} {fs cs:Array Value} (ho:o.op= .call {callee:= .value f,args,argTypes:=tys}) (hf:a.eval f= .func (.func fid) fs cs):
  execOp a.eval o=(do let d←(Pure.pure {target:= .fn (.func fid) cs,args:=fs++args.map a.eval}:Sem Deferred);invoke d.target d.args):=by
 unfold execOp;rw[ho];simp only[resolve,hf,Deferred.ofValue]
theorem Jn {o:Oper} {f:Operand} {args:Array Operand} {tys:Array TypeId} {fid:FuncId} {first cap ps:List PV} (ho:o.op= .call {callee:= .value f,args,argTypes:=tys})
  (hf:aL Γ (.fn (.func fid) first cap) (a.eval f)) (hl:ps.length=args.toList.length) (hp:∀(i:Nat) p x,ps[i]? =some p->args.toList[i]? =some x->aL Γ p (a.eval x)):
  ∃vs:List Value,ff Γ (first++ps++cap) vs∧∀w r,(callFunc fid vs.toArray).run P w=r->(execOp a.eval o).run P w=r:=by
 simp only[aL]at hf;generalize hv:a.eval f=v at hf;cases hf with
 |
  @fn _ _ fs cs _ _ _ h1 h2 h3 h4 _=>
  refine⟨fs++args.toList.map a.eval++cs,((tp h1 h3).append (xc hl hp)).append (tp h2 h4),λw r hc=> ?_⟩
  rw[MR ho hv]
  have e:(fs++args.toList.map a.eval++cs).toArray=(fs.toArray++args.map a.eval)++cs.toArray:=by
   apply Array.ext';simp
  rw[e]at hc
  exact hc
theorem HE {n k:Nat}:cU (dS n) k=k:=by
 unfold cU;split
 ·rename_i h;cases hi:(dS n)[k-KB]?with
  |none=>rfl
  |some j=>simp only[Option.getD_some];have:=(zl.1 hi).2;omega
 ·rfl
theorem Pf {ro:Option Nat} {l:Nat} {f:FuncId} {tmps:Array Value} {as bo:Code} {R:Ending->World->Prop} (h:RoundIn (FW none) 0 P l f tmps as bo w R):RoundIn (FW ro) 0 P l f tmps as bo w R:=h
theorem HF {o:Oper} {f:Operand} {args:Array Operand} {tys:Array TypeId} {f':AX} {bC:List AX} {K:St->Prop} {Kr:Act->World->Prop} {Q:Exit->Act->World->Prop} {ro:Option Nat} (ho:o.op= .call {callee:= .value f,args,argTypes:=tys})
  (hf:gv f=some f') (hx:xO args.toList=some bC) (hs:gm nt ds s Γ a) (hw:w.heap=Γ.heap) (hd:∀j,o.dst=some j->j<nt) (hY:EJ P Γ) (h:mX P s o.dst f' bC K) (hk:HD P nt ds Γ w K Kr):o.wpIn (FW ro) 0 P a w Kr Q:=by
 unfold mX at h;obtain⟨pf,h,OH⟩:=bw hf hs rfl h;obtain⟨ps,h,hl,hp⟩:=xP hs rfl hx h;split at h
 case h_3=>exact h.elim
 case h_2=>
  rename_i l _;obtain⟨bM,R,hg,tf,qZ,GW,hK⟩:=h;obtain⟨Γ0,rec,Xt,h0,aod,OC,hAY⟩:=hY l ps bM R GW;rw[←hs.bx]at hg
  have hev:a.eval f= .func (.yield l) #[] #[]:=by
   simp only[aL]at OH;generalize a.eval f=v at OH;cases OH with
   | @fn _ _ fs cs _ _ _ h1 h2 h3 h4 _=>cases h1;cases h2;rfl
  have fU:(execOp a.eval o).run P w=(Instr.yield l (args.toList.map a.eval).toArray).run P w:=by
   have e:(args.toList.map a.eval).toArray= #[]++args.map a.eval:=by apply Array.ext';simp
   rw[e];unfold execOp;rw[ho];simp only[resolve,hev,Deferred.ofValue];rfl
  have uv:=Cx.sF hg;have hA:ff Γ ps (args.toList.map a.eval):=xc hl hp;have Tk:=hA.aE uv (by rw[uU];exact tf);rw[jG (λ_=>uV)]at Tk;have Sb:Γ.heap[l]? =Γ0.heap[l]? :=by rw[Xt.plain OC aod rfl,aod]
  obtain⟨fn,tmps,as,bo,hy,hR⟩:=hAY (Γ.call (dS eJ.n) bM) w _ hw (Cx.Cu hs.mem hg (tk _) (by rw[uU];exact qZ)) (by simp only[Cx.call];rw[CC (λ_=>uV)]) Tk (Pa h0 Xt hg) Sb;refine⟨λ_ _=>trivial,?_⟩;rw[Oper.semAt_eq _ _ _ (λc=>by rw[ho];simp),fU,hy,Oper.uponIn_round];refine⟨λh=>by simp[Fence.wide]at h,Pf (hR.mono ?_)⟩;rintro e w' ⟨fp,Γ',rfl,hR,hw',wv,aeg,hle,uu⟩;obtain⟨⟨hlen,pS⟩,hKK⟩:=hK fp hR;have hlk:(dS eJ.n++[]).length=eJ.n:=by simp[dS]
  obtain⟨same2,le2,mem2⟩:=Cv hs.mem hg (os:=[]) (by simpa using tk _) (by simp) wv aeg hle (by rw[hlen,hlk]) (by rw[hlen];exact pS);have Bt:=hs.le le2 mem2 (xU:=aI s.bx (dS eJ.n) fp) (by simp only[Cx.back,JgV,hs.bx];rw[CC (λ_=>HE)]);exact hk _ _ _ _ (Bt.put hd (p:= .bl true) (v:= .bool true) (by simp only[aL];exact .bl _ .nil)) (by simp[Cx.back,hw']) le2 uu hKK
 rename_i fid first cap
 obtain⟨ks,os,bM,R,hg,hn,Jc,tf,qZ,hc,hK⟩:=h;obtain⟨vs,hA,fU⟩:=Jn (P:=P) ho OH hl hp;refine⟨λ_ _=>trivial,?_⟩;rw[←hs.bx]at hg Jc;have hnk:ks.Nodup:=(JgJ.1 hn).1;have uv:=Cx.sF hg
 have key:∀e w',(∃v r xD Γ',e=Ending.returned v∧R r xD∧w'.heap=Γ'.heap∧Mem Γ'∧Γ'.bx=av 0 xD∧aL Γ' r v∧Le (Γ.call ks bM) Γ'∧WF w w')->∃v,e= .returned v∧Kr (a.put o.dst v) w':=by
  rintro e w' ⟨v,r,fp,Γ',rfl,hR,hw',wv,aeg,DS,hle,uu⟩;obtain⟨⟨hlen,hrr,pS⟩,hKK⟩:=hK r fp hR;obtain⟨same2,le2,mem2⟩:=Cv hs.mem hg hn Jc wv aeg hle hlen pS;have Bt:=hs.le le2 mem2 (xU:=aI s.bx (ks++os) (fp.map (az (cU (ks++os))))) (by simp[Cx.back,hs.bx]);exact⟨v,rfl,hk _ _ _ _ (Bt.put hd (DS.aE same2 hrr)) (by simp[Cx.back,hw']) le2 uu hKK⟩
 rcases hc (Γ.call ks bM) w vs hw (Cx.Cu hs.mem hg hnk qZ) rfl (hA.aE uv tf)with⟨Bu,y9⟩|⟨v,w',Bu,y9⟩
 ·rw[Oper.semAt_eq _ _ _ (λc=>by rw[ho];simp),fU w _ Bu,Oper.uponIn_enter];refine⟨λh=>by simp[Fence.wide]at h,O8 ?_⟩;refine y9.mono λe w' he=> ?_;obtain⟨v,rfl,h⟩:=key e w' he;exact h
 ·rw[Oper.semAt_eq _ _ _ (λc=>by rw[ho];simp),fU w _ Bu];obtain⟨u,hu,h⟩:=key _ w' y9;cases hu;exact h
theorem sH {ρ:Nat->Nat} {p:PV} (h:af (λ_=>false) p=true):aE ρ p=p:=Cs (f:=λ_=>false) (by simp) p h
theorem re {ρ:Nat->Nat} {l:List PV} (h:ah (λ_=>false) l=true):aR ρ l=l:=oq (f:=λ_=>false) (by simp) l h
mutual
theorem jH {f g:Nat->Bool} (h:∀k,f k=true->g k=true):∀p,af f p=true->af g p=true
 | .st w l,hh=>by simp only[af]at*;exact dt h l hh
 | .ar sz n l,hh=>by simp only[af]at*;exact dt h l hh
 | .tup l,hh=>by simp only[af]at*;exact dt h l hh
 | .sl sz l c,hh=>by simp only[af]at*;exact dt h l hh
 | .fp sz l c,hh=>by simp only[af]at*;exact dt h l hh
 | .fn f x y,hh=>by simp only[af,aJ]at*;exact⟨dt h x hh.1,dt h y hh.2⟩
 | .gd b p,hh=>by simp only[af]at*;exact jH h p hh
 | .ifc b p,hh=>by simp only[af]at*;exact jH h p hh
 | .rs ..,hh=>by simp only[af]at*;exact h _ hh
 | .pt ..,hh=>by simp only[af]at*;exact h _ hh
 | .un,_| .bl _,_| .int ..,_| .str _,_| .np,_| .nf,_| .ni,_| .mp ..,_=>by simp[af]
theorem dt {f g:Nat->Bool} (h:∀k,f k=true->g k=true):∀l,ah f l=true->ah g l=true
 |[],_=>by simp[ah]
 |p::l,hh=>by simp only[ah,aJ]at*;exact⟨jH h p hh.1,dt h l hh.2⟩
end
theorem CE {d:Option Nat} {f:AX} {args:List AX} {K:St->Prop} (h:ql P s d f args K):mX P s d f args K:=by
 unfold ql at h;unfold mX
 have hv:∀ {g:Bool} {x:AX} {K K':PV->Prop},(∀p,K p->K' p)->vg g s x K->vg g s x K':=by
  intro g x K K' hh hv;unfold vg at*;split at hv
  ·exact⟨hv.1,hh _ hv.2⟩
  ·exact hh _ hv
 have hvs:∀ {g:Bool} {xs:List AX} {K K':List PV->Prop},(∀p,K p->K' p)->xE g s xs K->xE g s xs K':=by
  intro g xs;induction xs with
  |nil=>intro K K' hh hv;exact hh _ hv
  |cons x xs ih=>intro K K' hh hq;exact hv (λp hp=>ih (λq hq=>hh _ hq) hp) hq
 refine hv (λpf hq=>hvs (λps hr=> ?_) hq) h;split at hr
 case h_2=>exact hr.elim
 rename_i fid first cap
 obtain⟨v,⟨h1,h2⟩,hc,hK⟩:=hr;refine⟨[],[],[],(λr fp=>r=v∧fp=[]),rfl,by simp,by simp,dt (by simp) _ h1,rfl,?_,?_⟩
 ·rw[re h1];exact hc
 ·rintro r fp ⟨rfl,rfl⟩;refine⟨⟨rfl,jH (by simp) _ h2,rfl⟩,?_⟩;rw[sH h2];exact hK
end Go.Ab
namespace Go.Ab
variable [cL]
variable {P:Program} {nt:Nat} {ds:List Deferred} {s:St} {Γ:Cx} {a:Act} {w:World} [eJ]
def Dt {α:Type} (C:(α->Prop)->Prop):Prop:=∀K,C K->∃p,K p∧∀K':α->Prop,K' p->C K'
theorem Dt.ret {α:Type} (v:α):Dt (λK=>K v):=λ_ h=>⟨v,h,λ_ h=>h⟩
theorem Dt.no {α:Type}:Dt (λ_:α->Prop=>False):=λ_ h=>h.elim
theorem Dt.bind {α β:Type} {C:(α->Prop)->Prop} {D:α->(β->Prop)->Prop} (hc:Dt C) (hd:∀p,Dt (D p)):Dt (λK=>C (λp=>D p K)):=by
 intro K h;obtain⟨p,hp,hk⟩:=hc _ h;obtain⟨q,hq,za⟩:=hd p _ hp;exact⟨q,hq,λK' h'=>hk _ (za _ h')⟩
theorem Dt.and {α:Type} {c:Prop} {C:(α->Prop)->Prop} (hc:Dt C):Dt (λK=>c∧C K):=by
 intro K h;obtain⟨p,hp,hk⟩:=hc _ h.2;exact⟨p,hp,λK' h'=>⟨h.1,hk _ h'⟩⟩
theorem sI (g:Bool) (s:St) (x:AX):Dt (vg g s x):=by
 unfold vg;split
 ·exact Dt.and (Dt.ret _)
 ·exact Dt.ret _
theorem tq (g:Bool) (s:St):∀xs,Dt (xE g s xs)
 |[]=>Dt.ret _
 |
  x::xs=>by
  show Dt λK=>xE g s (x::xs) K
  simp only[xE]
  exact Dt.bind (sI g s x) λp=>Dt.bind (tq g s xs) λps=>Dt.ret _
theorem zn (g:Bool) (s:St):∀xs,Dt (Cf g s xs)
 |[]=>Dt.ret _
 |
  (i,x)::xs=>by
  show Dt λK=>Cf g s ((i,x)::xs) K
  simp only[Cf]
  exact Dt.bind (sI g s x) λp=>Dt.bind (zn g s xs) λps=>Dt.ret _
theorem rf (p:PV):Dt (pC p):=by
 unfold pC;split
 ·exact Dt.ret _
 ·exact Dt.no
theorem HG (mx:Bool):∀l a,Dt (nM mx a l)
 |[],a=>Dt.ret _
 |
  p::r,a=>by
  show Dt λK=>nM mx a (p::r) K
  simp only[nM]
  exact Dt.bind (rf p) λb=>HG mx r _
theorem TK (op:BinOp) (k:IntKind) (a b:Int):Dt (qU op k a b):=by
 cases op<;>first|exact Dt.ret _|exact Dt.and (Dt.ret _)
theorem TL (op:BinOp) (a b:List UInt8):Dt (zc op a b):=by
 cases op<;>first|exact Dt.ret _|exact Dt.and (Dt.ret _)|exact Dt.no
theorem vP (op:BinOp) (b:Bool):Dt (qe op b):=by
 cases op<;>first|exact Dt.ret _|exact Dt.no
theorem TM (s:St) (op:BinOp) (eqs:ET) (p q:PV):Dt (sx s op eqs p q):=by
 show Dt λK=>sx s op eqs p q K;cases eqs<;>simp only[sx]
 case no=>split<;>first|exact Dt.and (TK _ _ _ _)|exact TL _ _ _|exact Dt.no
 case sh x=>exact Dt.and (vP _ _)
 case bl=>split<;>first|exact vP _ _|exact Dt.no
 case fnc=>split<;>first|exact vP _ _|exact Dt.no
 case ptr=>
  split
  ·exact vP _ _
  ·split
   ·exact Dt.and (vP _ _)
   ·exact Dt.no
  ·exact vP _ _
  ·exact Dt.no
def Bj {α β:Type} (C:(α->β->Prop)->Prop):Prop:=∀K,C K->∃p q,K p q∧∀K':α->β->Prop,K' p q->C K'
theorem Bj.ret {α β:Type} (v:α) (u:β):Bj (λK=>K v u):=λ_ h=>⟨v,u,h,λ_ h=>h⟩
theorem Bj.no {α β:Type}:Bj (λ_:α->β->Prop=>False):=λ_ h=>h.elim
theorem Bj.and {α β:Type} {c:Prop} {C:(α->β->Prop)->Prop} (hc:Bj C):Bj (λK=>c∧C K):=by
 intro K h;obtain⟨p,q,hp,hk⟩:=hc _ h.2;exact⟨p,q,hp,λK' h'=>⟨h.1,hk _ h'⟩⟩
theorem Bj.of {α β γ:Type} {C:(α->Prop)->Prop} {D:α->(β->γ->Prop)->Prop} (hc:Dt C) (hd:∀p,Bj (D p)):Bj (λK=>C (λp=>D p K)):=by
 intro K h;obtain⟨p,hp,hk⟩:=hc _ h;obtain⟨q,r,hq,za⟩:=hd p _ hp;exact⟨q,r,hq,λK' h'=>hk _ (za _ h')⟩
theorem Dt.AG {α β γ:Type} {C:(α->β->Prop)->Prop} {D:α->β->(γ->Prop)->Prop} (hc:Bj C) (hd:∀p q,Dt (D p q)):Dt (λK=>C (λp q=>D p q K)):=by
 intro K h;obtain⟨p,q,hp,hk⟩:=hc _ h;obtain⟨r,hq,za⟩:=hd p q _ hp;exact⟨r,hq,λK' h'=>hk _ (za _ h')⟩
theorem qm (s:St) (p:PV):Bj (content s p):=by
 show Bj λK=>content s p K
 cases p<;>simp only[content]<;>first
  |exact Bj.ret _ _|exact Bj.no
  |(split<;>first|exact Bj.and (Bj.ret _ _)|exact Bj.no|(split<;>first|exact Bj.and (Bj.ret _ _)|exact Bj.no))
theorem tt (g:Bool) (s:St) (lo hi:Option AX) (len cap:Nat):Bj (kP g s lo hi len cap):=by
 unfold kP;refine Bj.of (C:=match hi with|none=>λ(J:Nat->Prop)=>J len|some x=>λJ=>vg g s x λp=>pC p λh=>(0≤h∧h≤cap)∧J h.toNat) ?_ λh=> ?_
 ·cases hi with
  |none=>exact Dt.ret _
  |some x=>exact Dt.bind (sI g s x) λp=>Dt.bind (rf p) λh=>Dt.and (Dt.ret _)
 ·refine Bj.of (C:=match lo with|none=>λ(J:Nat->Prop)=>J 0|some x=>λJ=>vg g s x λp=>pC p λl=>(0≤l∧l≤h)∧J l.toNat) ?_ λl=>Bj.ret _ _;cases lo with
  |none=>exact Dt.ret _
  |some x=>exact Dt.bind (sI g s x) λp=>Dt.bind (rf p) λh=>Dt.and (Dt.ret _)
theorem ug (g:Bool) (s:St) (k:AK):Dt (ev g s k):=by
 have V:=sI g s;have I:=rf;show Dt λK=>ev g s k K;cases k with
 |mv x=>exact V x
 |
  pick c a b=>
  simp only[ev]
  refine Dt.bind (V c) λp=> ?_
  split
  ·split<;>first|exact Dt.ret _|exact Dt.and (Dt.ret _)|exact Dt.no
  ·exact Dt.no
 |
  build z parts=>
  simp only[ev]
  refine Dt.bind (zn g s parts) λp=> ?_
  split<;>first|exact Dt.no|(split<;>first|exact Dt.ret _|exact Dt.no)
 |
  load agg w x=>
  simp only[ev]
  refine Dt.bind (V x) λp=> ?_
  split
  ·split
   ·split<;>first|exact Dt.and (Dt.ret _)|exact Dt.no
   ·exact Dt.no
  ·split<;>first|exact Dt.and (Dt.ret _)|exact Dt.no
  ·exact Dt.no
 |
  nilCheck x=>
  simp only[ev]
  refine Dt.bind (V x) λp=> ?_
  split
  ·split<;>first|exact Dt.and (Dt.ret _)|exact Dt.no
  all_goals first|exact Dt.ret _|exact Dt.no
 |bin op eqs x y=>simp only[ev];exact Dt.bind (V x) λp=>Dt.bind (V y) λq=>TM _ _ _ _ _
 |
  un op x=>
  simp only[ev]
  refine Dt.bind (V x) λp=> ?_
  split<;>first|exact Dt.ret _|exact Dt.no
 |convI k x=>simp only[ev];exact Dt.bind (V x) λp=>Dt.bind (I p) λn=>Dt.ret _
 |
  convS x=>
  simp only[ev]
  refine Dt.bind (V x) λp=>Dt.AG (qm s p) λsz l=>Dt.and ?_
  split<;>first|exact Dt.ret _|exact Dt.no
 |mkFunc f first cap=>simp only[ev];exact Dt.bind (tq g s first) λp=>Dt.bind (tq g s cap) λq=>Dt.and (Dt.ret _)
 |
  slice k x lo hi mx=>
  cases k with
  |
   str=>
   simp only[ev]
   refine Dt.bind (V x) λp=> ?_
   split
   ·exact Dt.and (Dt.AG (tt _ _ _ _ _ _) λl h=>Dt.ret _)
   ·exact Dt.no
  |
   sl sz=>
   simp only[ev]
   refine Dt.bind (V x) λp=> ?_
   split
   ·split
    ·exact Dt.AG (tt _ _ _ _ _ _) λl h=>Dt.and (Dt.ret _)
    ·exact Dt.bind (V _) λq=>Dt.bind (I q) λm=>Dt.and (Dt.AG (tt _ _ _ _ _ _) λl h=>Dt.and (Dt.ret _))
   ·split
    ·refine Dt.and ?_
     split
     ·exact Dt.AG (tt _ _ _ _ _ _) λl h=>Dt.ret _
     ·exact Dt.bind (V _) λq=>Dt.bind (I q) λm=>Dt.and (Dt.AG (tt _ _ _ _ _ _) λl h=>Dt.ret _)
    ·exact Dt.no
   ·exact Dt.no
  |
   ar n sz=>
   simp only[ev]
   refine Dt.bind (V x) λp=> ?_
   split
   ·split
    ·exact Dt.and (Dt.and (Dt.AG (tt _ _ _ _ _ _) λl h=>Dt.ret _))
    ·exact Dt.no
   ·split
    ·exact Dt.and (Dt.AG (tt _ _ _ _ _ _) λl h=>Dt.ret _)
    ·exact Dt.no
   ·exact Dt.no
 |
  fieldA i off x=>
  simp only[ev]
  refine Dt.bind (V x) λp=> ?_
  split
  ·split<;>first|exact Dt.and (Dt.ret _)|exact Dt.no
  all_goals first|exact Dt.ret _|exact Dt.no
 |
  s2a n sz x=>
  simp only[ev]
  refine Dt.bind (V x) λp=> ?_
  split
  ·exact Dt.and (Dt.ret _)
  ·split<;>first|exact Dt.and (Dt.ret _)|exact Dt.no
  all_goals first|exact Dt.ret _|exact Dt.no
 |
  field i off agg w x=>
  simp only[ev]
  refine Dt.bind (V x) λp=> ?_
  split
  ·split<;>first|exact Dt.and (Dt.ret _)|exact Dt.no
  ·exact Dt.no
 |
  indexA k x i=>
  cases k with
  |str=>simp only[ev];exact Dt.no
  |
   sl sz=>
   simp only[ev]
   refine Dt.bind (V x) λp=>Dt.bind (V i) λq=>Dt.bind (I q) λj=> ?_
   split
   ·exact Dt.and (Dt.ret _)
   ·split<;>first|exact Dt.and (Dt.ret _)|exact Dt.no
   ·exact Dt.no
  |
   ar n sz=>
   simp only[ev]
   refine Dt.bind (V x) λp=>Dt.bind (V i) λq=>Dt.bind (I q) λj=>Dt.and ?_
   split
   ·split<;>first|exact Dt.and (Dt.ret _)|exact Dt.no
   all_goals first|exact Dt.ret _|exact Dt.no
 |
  index agg n w x i=>
  simp only[ev]
  refine Dt.bind (V x) λp=>Dt.bind (V i) λq=>Dt.bind (I q) λj=> ?_
  split
  ·split<;>first|exact Dt.and (Dt.ret _)|exact Dt.no
  ·exact Dt.no
 |
  indexS x i=>
  simp only[ev]
  refine Dt.bind (V x) λp=>Dt.bind (V i) λq=>Dt.bind (I q) λj=> ?_
  split
  ·split<;>first|exact Dt.and (Dt.ret _)|exact Dt.no
  ·exact Dt.no
 |
  extract i x=>
  simp only[ev]
  split
  ·split<;>first|exact Dt.ret _|exact Dt.no
  ·exact Dt.no
 |
  len x=>
  simp only[ev]
  refine Dt.bind (V x) λp=> ?_
  split
  ·exact Dt.ret _
  ·split<;>first|exact Dt.and (Dt.ret _)|exact Dt.no
  ·exact Dt.no
 |
  cap x=>
  simp only[ev]
  refine Dt.bind (V x) λp=> ?_
  split
  ·split<;>first|exact Dt.and (Dt.ret _)|exact Dt.no
  ·exact Dt.no
 |
  lenS x=>
  simp only[ev]
  refine Dt.bind (V x) λp=> ?_
  split<;>first|exact Dt.ret _|exact Dt.no
 |lenC n=>simp only[ev];exact Dt.ret _
 |
  mm mx xs=>
  simp only[ev]
  refine Dt.bind (tq g s xs) λps=> ?_
  split
  ·exact Dt.bind (HG _ _ _) λn=>Dt.ret _
  ·exact Dt.no
 |_=>simp only[ev];exact Dt.no
end Go.Ab
namespace Go.Ab
variable [cL]
variable {P:Program} {nt:Nat} {ds:List Deferred} {s s':St} {Γ:Cx} {a:Act} {w:World} [eJ]
def AX.reads:AX->List Nat
 | .t n=>[n]
 | .c _=>[]
def axs:List AX->List Nat
 |[]=>[]
 |x::r=>x.reads++axs r
def axo:Option AX->List Nat
 |none=>[]
 |some x=>x.reads
def axp:List (Nat×AX)->List Nat
 |[]=>[]
 |(_,x)::r=>x.reads++axp r
def AK.reads:AK->List Nat
 | .mv x| .load _ _ x| .nilCheck x| .un _ x| .convI _ x| .convS x| .convB x| .convL x| .fieldA _ _ x| .s2a _ _ x| .field _ _ _ _ x| .extract _ x| .len x| .lenS x| .cap x| .box x=>x.reads
 | .pick c a b=>c.reads++a.reads++b.reads
 | .build _ parts| .buildSlice _ _ _ _ parts=>axp parts
 | .bin _ _ x y| .indexA _ x y| .index _ _ _ x y| .indexS x y| .store _ x y| .append _ _ _ x y| .appendZ _ _ _ x y| .copy _ x y| .makeSlice _ _ _ x y=>x.reads++y.reads
 | .mkFunc _ a b=>axs a++axs b
 | .slice _ x lo hi mx=>x.reads++(axo lo++(axo hi++axo mx))
 | .lenC _| .alloc _| .mkMap .. =>[]
 | .mapGet _ _ _ _ m x=>m.reads++x.reads
 | .mapSet _ _ m x y=>m.reads++(x.reads++y.reads)
 | .mm _ xs=>axs xs
 | .call f args| .callq f args=>f.reads++axs args
 | .isNil _ x| .fill _ _ x=>x.reads
def cA (s s':St) (l:List Nat):Prop:=∀n∈l,get s'.env n=get s.env n
theorem cA.left {l m:List Nat} (h:cA s s' (l++m)):cA s s' l:=λn hn=>h n (JaZ.2 (.inl hn))
theorem cA.right {l m:List Nat} (h:cA s s' (l++m)):cA s s' m:=λn hn=>h n (JaZ.2 (.inr hn))
theorem lO {x:AX} (h:cA s s' x.reads):vx s' x=vx s x:=by
 cases x with
 |t n=>simp only[vx];rw[h n (by simp[AX.reads])]
 |c p=>rfl
theorem aH {g:Bool} {x:AX} (h:cA s s' x.reads):vg g s' x=vg g s x:=by
 funext K;unfold vg;rw[lO h]
theorem fK {g:Bool}:∀ {xs:List AX},cA s s' (axs xs)->xE g s' xs=xE g s xs
 |[],_=>rfl
 |
  x::xs,h=>by
  funext K;simp only[xE];rw[aH (x:=x) h.left,fK (xs:=xs) h.right]
theorem nT {g:Bool}:∀ {xs:List (Nat×AX)},cA s s' (axp xs)->Cf g s' xs=Cf g s xs
 |[],_=>rfl
 |
  (i,x)::xs,h=>by
  funext K;simp only[Cf];rw[aH (x:=x) h.left,nT (xs:=xs) h.right]
theorem wS (hb:s'.bx=s.bx) (p:PV):content s' p=content s p:=by
 funext K;cases p<;>simp only[content,hb]
theorem Jo (hb:s'.bx=s.bx) (op:BinOp) (e:ET) (p q:PV):sx s' op e p q=sx s op e p q:=by
 funext K;unfold sx;rw[hb]
theorem CF {g:Bool} {lo hi:Option AX} (h1:cA s s' (axo lo)) (h2:cA s s' (axo hi)) (n c:Nat):kP g s' lo hi n c=kP g s lo hi n c:=by
 funext K;cases lo<;>cases hi<;>simp only[kP]
 ·rw[aH h2]
 ·rw[aH h1]
 ·rw[aH h2];simp only[aH h1]
theorem CG {g:Bool} {k:AK} (hb:s'.bx=s.bx) (h:cA s s' k.reads):ev g s' k=ev g s k:=by
 funext K;cases k with
 |mv x=>simp only[ev];rw[aH h]
 |pick c a b=>simp only[ev];rw[aH h.left.left,lO h.left.right,lO h.right]
 |build z parts=>simp only[ev];rw[nT h]
 |load agg w x=>simp only[ev];rw[aH h,hb]
 |nilCheck x=>simp only[ev];rw[aH h,hb]
 |bin op e x y=>simp only[ev];rw[aH h.left,aH h.right];simp only[Jo hb]
 |un op x=>simp only[ev];rw[aH h]
 |convI k x=>simp only[ev];rw[aH h]
 |convS x=>simp only[ev];rw[aH h];simp only[wS hb]
 |mkFunc f a b=>simp only[ev];rw[fK h.left,fK h.right]
 |
  slice k x lo hi mx=>
  have hx:=aH (g:=g) h.left
  have hl:=λn c=>CF (g:=g) h.right.left h.right.right.left n c
  have hm:=h.right.right.right
  cases k<;>cases mx<;>simp only[ev,hx,hl,hb]
  rw[aH (x:=_) hm]
 |fieldA i off x=>simp only[ev];rw[aH h,hb]
 |s2a n sz x=>simp only[ev];rw[aH h,hb]
 |field i off agg w x=>simp only[ev];rw[aH h]
 |
  indexA k x i=>
  have hx:=aH (g:=g) h.left
  have hi:=aH (g:=g) h.right
  cases k<;>simp only[ev,hx,hi,hb]
 |index agg n w x i=>simp only[ev];rw[aH h.left,aH h.right]
 |indexS x i=>simp only[ev];rw[aH h.left,aH h.right]
 |extract i x=>simp only[ev];rw[lO h]
 |len x=>simp only[ev];rw[aH h,hb]
 |lenS x=>simp only[ev];rw[aH h]
 |cap x=>simp only[ev];rw[aH h,hb]
 |lenC n=>rfl
 |mm mx xs=>simp only[ev];rw[fK h]
 |_=>rfl
def AO.quiet (o:AO):Bool:=
 match o.k with
 | .call .. =>false
 | .callq .. =>true
 | .buildSlice own .. => !own
 |k=> !pE k
def AO.reads (o:AO):List Nat:=(match o.guard with|some (n,_)=>[n]|none=>[])++o.k.reads
theorem Ph {d:Option Nat} {f:AX} {args:List AX} {K:St->Prop} (h:ql P s d f args K):
  ∃v,K (s.put d v)∧∀s',s'.bx=s.bx->cA s s' (AK.callq f args).reads->∀K':St->Prop,K' (s'.put d v)->ql P s' d f args K':=by
 unfold ql at h;obtain⟨pf,h,h1⟩:=sI _ _ _ _ h;obtain⟨ps,h,h2⟩:=tq _ _ _ _ h;split at h
 case h_2=>exact h.elim
 rename_i fid first cap
 obtain⟨v,Bu,y9,hK⟩:=h;refine⟨v,hK,λs' hb ha K' kZ=> ?_⟩;unfold ql;rw[aH ha.left];refine h1 _ ?_;rw[fK ha.right];exact h2 _ ⟨v,Bu,y9,kZ⟩
theorem Pj {d:Option Nat} {sz n:Nat} {z:PV} {parts:List (Nat×AX)} {K:St->Prop} (h:ex s d (.buildSlice false sz z n parts) K):
  ∃v,K (s.put d v)∧∀s',s'.bx=s.bx->cA s s' (AK.buildSlice false sz z n parts).reads->∀K':St->Prop,K' (s'.put d v)->ex s' d (.buildSlice false sz z n parts) K':=by
 simp only[ex]at h;obtain⟨ps,h,h1⟩:=zn _ _ _ _ h;split at h
 case h_2=>exact h.elim
 rename_i l hl;simp only[fJ,if_false]at h;refine⟨_,h,λs' hb ha K' kZ=> ?_⟩;simp only[ex];rw[nT ha];refine h1 _ ?_;simp only[hl,fJ,if_false];exact kZ
theorem Jp {o:AO} {K:St->Prop} (hq:o.quiet=true) (h:jX P s o K):
  ∃v,K (s.put o.dst v)∧∀s',s'.bx=s.bx->cA s s' o.k.reads->∀K':St->Prop,K' (s'.put o.dst v)->jX P s' o K':=by
 obtain⟨dst,guard,mg,k⟩:=o;cases k with
 |call f args=>simp[AO.quiet]at hq
 |callq f args=>exact Ph h
 |
  buildSlice own sz z n parts=>
  simp only[AO.quiet,JiQ]at hq
  subst hq
  simp only[jX,pE,if_true]at h⊢
  exact Pj h
 |
  _=>
  first
  |(simp[AO.quiet,pE]at hq;done)
  |(simp only[jX,pE,fJ,if_false]at h⊢
    obtain⟨v,hK,hv⟩:=ug _ _ _ _ h
    refine⟨v,hK,λs' hb ha K' kZ=> ?_⟩
    rw[CG hb ha]
    exact hv _ kZ)
theorem Jq {o:AO} {K:St->Prop} (hq:o.quiet=true) (h:fX P s o K):
  ∃v,K (s.put o.dst v)∧∀s',s'.bx=s.bx->cA s s' o.reads->∀K':St->Prop,K' (s'.put o.dst v)->fX P s' o K':=by
 unfold fX at h;cases hg:o.guard with
 |
  none=>
  rw[hg]at h
  obtain⟨v,hK,hv⟩:=Jp hq h
  refine⟨v,hK,λs' hb ha K' kZ=> ?_⟩
  unfold fX;rw[hg]
  exact hv s' hb ha.right K' kZ
 |
  some gw=>
  obtain⟨sl,want⟩:=gw
  rw[hg]at h
  simp only at h
  have b9:∀ {s':St},cA s s' o.reads->get s'.env sl=get s.env sl:=λha=>ha sl (by simp[AO.reads,hg])
  split at h
  ·rename_i b hb
   split at h
   ·rename_i hm
    obtain⟨v,hK,hv⟩:=ug _ _ _ _ h
    refine⟨_,hK,λs' lK ha K' kZ=> ?_⟩
    unfold fX;rw[hg];simp only[b9 ha,hb,hm,if_true]
    rw[CG lK ha.right]
    exact hv _ kZ
   ·rename_i hm
    by_cases pU:b=want
    ·obtain⟨v,hK,hv⟩:=Jp hq (h.1 pU)
     refine⟨v,hK,λs' lK ha K' kZ=> ?_⟩
     unfold fX;rw[hg];simp only[b9 ha,hb,hm]
     exact⟨λ_=>hv s' lK ha.right K' kZ,λhn=>absurd pU hn⟩
    ·refine⟨.un,h.2 pU,λs' lK ha K' kZ=> ?_⟩
     unfold fX;rw[hg];simp only[b9 ha,hb,hm]
     exact⟨λhn=>absurd hn pU,λ_=>kZ⟩
  ·rename_i g b hb
   split at h
   ·rename_i hm
    obtain⟨v,hK,hv⟩:=ug _ _ _ _ h
    refine⟨_,hK,λs' lK ha K' kZ=> ?_⟩
    unfold fX;rw[hg];simp only[b9 ha,hb,hm,if_true]
    rw[CG lK ha.right]
    exact hv _ kZ
   ·rename_i hm
    by_cases pU:g=true∧b=want
    ·obtain⟨v,hK,hv⟩:=Jp hq (h.1 pU.1 pU.2)
     refine⟨v,hK,λs' lK ha K' kZ=> ?_⟩
     unfold fX;rw[hg];simp only[b9 ha,hb,hm]
     exact⟨λ_ _=>hv s' lK ha.right K' kZ,λhn=>absurd pU.2 (hn pU.1)⟩
    ·refine⟨.un,h.2 (λh1 h2=>pU ⟨h1,h2⟩),λs' lK ha K' kZ=> ?_⟩
     unfold fX;rw[hg];simp only[b9 ha,hb,hm]
     exact⟨λh1 h2=>absurd ⟨h1,h2⟩ pU,λ_=>kZ⟩
  ·exact h.elim
theorem put_comm {α:Type} {n m:Nat} (h:n≠m) (x y:α):∀l:List (Nat×α),put (put l n x) m y=put (put l m y) n x
 |
  []=>by
  simp only[put]
  by_cases h1:n<m
  ·simp[h,Ne.symm h,show¬m<n by omega,h1]
  ·simp[h,Ne.symm h,show m<n by omega,h1]
 |
  (k,v)::r=>by
  have ih:=put_comm h x y r
  grind [put]
theorem St.put_comm {d e:Option Nat} (h:∀k,d=some k->e≠some k) (v u:PV):(s.put d v).put e u=(s.put e u).put d v:=by
 cases d with
 |none=>rfl
 |
  some d=>
  cases e with
  |none=>rfl
  |
   some e=>
   have:d≠e:=λhh=>h d rfl (by rw[hh])
   simp only[St.put,Ab.put_comm this]
def AO.apart (x y:AO):Bool:=
 (match x.dst with|some d=> !y.reads.contains d&&y.dst !=some d|none=>true)&&
 (match y.dst with|some d=> !x.reads.contains d|none=>true)
theorem cA.put {d:Option Nat} {v:PV} {l:List Nat} (h:∀k,d=some k->k∉l):cA s (s.put d v) l:=by
 intro n hn;cases d with
 |none=>rfl
 |
  some d=>
  have:d≠n:=λe=>h d rfl (e▸hn)
  simp[St.put,bp _ _ _ _ this]
theorem cA.aiC {d:Option Nat} {v:PV} {l:List Nat} (h:∀k,d=some k->k∉l):cA (s.put d v) s l:=λn hn=>((cA.put h) n hn).symm
theorem iv (d:Option Nat) (v:PV):(s.put d v).bx=s.bx:=by cases d<;>rfl
theorem Pk {x y:AO} {K:St->Prop} (hx:x.quiet=true) (hy:y.quiet=true) (eE:x.apart y=true) (h:fX P s x λs1=>fX P s1 y K):fX P s y λs2=>fX P s2 x K:=by
 have h1:∀d,x.dst=some d->d∉y.reads:=λd hd=>by simp[AO.apart,hd]at eE;exact eE.1.1
 have h2:∀d,x.dst=some d->y.dst≠some d:=λd hd=>by simp[AO.apart,hd]at eE;exact eE.1.2
 have h3:∀d,y.dst=some d->d∉x.reads:=λd hd=>by simp[AO.apart,hd]at eE;exact eE.2
 obtain⟨v,h,hv⟩:=Jq hx h;obtain⟨u,h,hu⟩:=Jq hy h;refine hu s (iv _ _).symm (cA.aiC h1) _ ?_;refine hv _ (iv _ _) (cA.put h3) _ ?_;rw[St.put_comm (λk hk he=>h2 k he hk)];exact h
end Go.Ab
namespace Go.Ab
variable [cL]
variable {P:Program} {nt:Nat} {ds:List Deferred} {s s':St} {Γ:Cx} {a:Act} {w:World} [eJ]
theorem tu {ro:Option Nat} {ops:Array Oper} {o:Oper} {i:Nat} {Q:Exit->Act->World->Prop} {K:Act->World->Prop} (hi:ops[i]? =some o) (h1:Region.wanted o (yielded ops a.tmps)=true->o.wpIn (FW ro) 0 P a w K Q) (h2:Region.wanted o (yielded ops a.tmps)=false->K (a.put o.dst undef) w):wpOpIn (FW ro) 0 P ops Q i K a w:=by
 unfold wpOpIn;rw[hi];simp only;cases h:Region.wanted o (yielded ops a.tmps)with
 |true=>simp only[if_true];exact h1 h
 |false=>simp only[fJ,if_false];exact⟨λ_ _=>trivial,h2 h⟩
theorem yi {b:Builtin} {xs:List Operand} {ts:List TypeId} {f:AX} {l:List AX} (h:bZ P b xs ts=some (.call f l)):False:=by
 unfold bZ at h;split at h;all_goals (repeat' (split at h))
 all_goals first|(simp at h;done)|contradiction
theorem xd {b:Builtin} {xs:List Operand} {ts:List TypeId} {f:AX} {l:List AX} (h:bZ P b xs ts=some (.callq f l)):False:=by
 unfold bZ at h;split at h;all_goals (repeat' (split at h))
 all_goals first|(simp at h;done)|contradiction
theorem FR {own:Bool} {op:Op} {f:AX} {l:List AX} (h:j7 P own op=some (.callq f l)):False:=by
 unfold j7 at h;split at h;all_goals first|(exact xd h)|skip
 all_goals (repeat' (split at h))
 all_goals first|(simp at h;done)|contradiction
theorem aL.slz {z z':Nat} {v:Value} (h:aL Γ (.sl z [] true) v):aL Γ (.sl z' [] true) v:=by
 simp only[aL]at h⊢;cases h with
 |
  sl _ _ _ ad aX h1 h2 h3 h4 h5 h6=>
  have:=aD.sl (Γ:=Γ) z' [] true ad aX .nil (by simp) h3 h4 (λh=>absurd rfl h) .nil
  exact this
theorem Pl {o:Oper} {k:AK} {own draw:Bool} {ty:TypeId} {K:PV->Prop} (hk:j7 P own o.op=some k) (hs:gm nt ds s Γ a) (hw:w.heap=Γ.heap) (he:ev true s (zm P draw ty k) K):
  ∃p v,K p∧(execOp a.eval o).run P w= .ok (.value v) w∧aL Γ p v:=by
 unfold zm at he;split at he
 ·split at he<;>simp[ev]at he
 ·split at he
  ·rename_i e _;obtain⟨p,v,rfl,fU,hr⟩:=Ck (K:=λp=>p= .sl 0 [] true) hk hs hw rfl (by simp[ev,vg,vx]);simp only[ev,vg,vx]at he;exact⟨_,v,he,fU,hr.slz⟩
  ·exact Ck hk hs hw rfl he
 ·exact Ck hk hs hw rfl he
theorem Pm {draw:Bool} {ty:TypeId} {k:AK}:pE (zm P draw ty k)=pE k:=by
 unfold zm;split
 ·split<;>rfl
 ·split<;>rfl
 ·rfl
theorem aaM {draw:Bool} {ty:TypeId} {k:AK} (h:pE k=true):zm P draw ty k=k:=by
 unfold zm;split
 ·simp[pE]at h
 ·simp[pE]at h
 ·rfl
theorem zo {ro:Option Nat} {o:Oper} {ao:AO} {ops:Array Oper} {own sp:List Nat} {draw:Bool} {K:St->Prop} {Kr:Act->World->Prop} {Q:Exit->Act->World->Prop} (ht:rM P nt ops own sp draw o=some ao) (hs:gm nt ds s Γ a) (hw:w.heap=Γ.heap)
  (hY:EJ P Γ) (h:jX P s ao K) (hk:HD P nt ds Γ w K Kr):o.wpIn (FW ro) 0 P a w Kr Q:=by
 unfold rM at ht;generalize (draw&& !aaL own o.dst)=dr at ht;split at ht
 case h_2=>simp at ht
 rename_i k g qc hg;split at ht
 case isFalse=>simp at ht
 rename_i hd;simp only[sJ]at ht;by_cases hc:∃f args,k= .call f args
 ·obtain⟨f,args,rfl⟩:=hc
  have h':mX P s o.dst f args K:=by
   rw[←ht]at h;cases dr with
   |true=>simp only[zm,if_true,jX]at h;exact CE h
   |false=>simp only[zm,fJ,if_false,jX]at h;exact h
  have Ap:∀j,o.dst=some j->j<nt:=by
   intro j hj;rw[hj]at hd;simpa[AD]using hd
  --the operation is a call
  obtain⟨f0,args0,aoe,ho,hf0,ha0⟩:∃f0 args0 aoe,o.op= .call {callee:= .value f0,args:=args0,argTypes:=aoe}∧gv f0=some f∧xO args0.toList=some args:=by
   cases nP:o.op with
   |
    call c=>
    obtain⟨callee,args0,tys⟩:=c
    rw[nP]at qc
    cases callee with
    |
     value f0=>
     simp only[j7]at qc
     split at qc<;>simp only[sJ,reduceCtorEq,AK.call.injEq]at qc
     rename_i g0 l0 e1 e2
     exact⟨f0,args0,tys,rfl,by rw[e1,qc.1],by rw[e2,qc.2]⟩
    |invoke r m=>simp[j7]at qc
    |
     builtin b=>
     exfalso
     simp only[j7]at qc
     exact yi qc
   |
    binOp op t x y yt=>
    exfalso
    rw[nP]at qc;simp only[j7]at qc
    repeat (split at qc<;>(try contradiction))
    all_goals first|(simp at qc;done)|(split at qc<;>first|(simp at qc;done)|(split at qc<;>first|(simp at qc;done)|(split at qc<;>first|(simp at qc;done)|(split at qc<;>simp at qc))))
   |
    _=>
    exfalso
    rw[nP]at qc
    first
    |(simp only[j7,reduceCtorEq]at qc;done)
    |(simp only[j7]at qc
      repeat (split at qc<;>(try contradiction))
      all_goals first|(simp at qc;done)|(split at qc<;>first|(simp at qc;done)|(split at qc<;>first|(simp at qc;done)|(split at qc<;>simp at qc))))
  exact HF ho hf0 ha0 hs hw Ap hY h' hk
 ·by_cases hx:pE k=true
  ·have e:jX P s ao K=ex s o.dst k K:=by
    rw[←ht];unfold jX;rw[aaM hx];split
    ·rename_i heq;exact absurd ⟨_,_,heq⟩ hc
    ·rename_i heq;simp only at heq;rw[heq]at hx;simp[pE]at hx
    ·rw[if_pos hx]
   rw[e]at h;exact Oper.AF qc (Pe qc hs hw hd h) hk
  ·have e:jX P s ao K->ev true s (zm P dr o.type k) λp=>K (s.put o.dst p):=by
    rw[←ht];unfold jX;intro h;simp only at h;split at h
    ·rename_i heq;exfalso;unfold zm at heq;split at heq
     ·exact absurd ⟨_,_,rfl⟩ hc
     ·split at heq<;>simp at heq
     ·exact absurd ⟨_,_,heq⟩ hc
    ·rename_i heq;exfalso;unfold zm at heq;split at heq
     ·exact absurd ⟨_,_,rfl⟩ hc
     ·split at heq<;>simp at heq
     ·rw[heq]at qc;exact FR qc
    ·rw[if_neg (by rw[Pm];exact hx)]at h;exact h
   have he:=e h;obtain⟨p,v,hK,fU,hr⟩:=Pl qc hs hw he;refine Oper.AF qc (qh hs (λj hj=> ?_) (Le.refl Γ) hs.mem rfl fU hw (WF.refl w) hr hK) hk;rw[hj]at hd;unfold AD at hd;split at hd
   ·rename_i heq;simp[pE]at hx
   ·rename_i heq _;simp at heq;subst heq;simpa using hd
   ·rename_i heq;simp at heq
theorem Eb:aL Γ .un undef:=by simp[aL]
theorem FT {ops:Array Oper} {j sl:Nat} {want aav:Bool} (h:yh ops (some (j,want))=some (some (sl,aav))):(ops[j]?).bind (·.dst)=some sl∧aav=want:=by
 unfold yh at h;simp only at h;split at h<;>simp at h;rename_i d hd;obtain⟨rfl,rfl⟩:=h;exact⟨hd,rfl⟩
theorem pW {ro:Option Nat} {ops:Array Oper} {i:Nat} {o:Oper} {ao:AO} {own sp:List Nat} {draw:Bool} {K:St->Prop} {Kr:Act->World->Prop} {Q:Exit->Act->World->Prop} (hi:ops[i]? =some o) (ht:rM P nt ops own sp draw o=some ao) (hs:gm nt ds s Γ a) (hw:w.heap=Γ.heap)
  (hY:EJ P Γ) (h:fX P s ao K) (hk:HD P nt ds Γ w K Kr):wpOpIn (FW ro) 0 P ops Q i Kr a w:=by
 have ht0:=ht;unfold rM at ht;generalize (draw&& !aaL own o.dst)=dr at ht;split at ht
 case h_2=>simp at ht
 rename_i k g qc hg;split at ht
 case isFalse=>simp at ht
 rename_i hd;simp only[sJ]at ht;have hkd:ao.k=zm P dr o.type k:=by rw[←ht]
 have D4:ao.dst=o.dst:=by rw[←ht]
 have hgd:ao.guard=g:=by rw[←ht]
 have hmg:ao.mg=true->vO k=true:=by
  rw[←ht];intro hm;simp only[aJ]at hm;exact hm.1
 have KL:∀ {p:PV} {v:Value},(∀x y z,k≠ .store x y z)->aL Γ p v->K (s.put o.dst p)->Kr (a.put o.dst v) w:=by
  intro p v cI hr hK;refine hk _ _ _ _ (hs.put (λj hj=> ?_) hr) hw (Le.refl Γ) (WF.refl w) hK;rw[hj]at hd;unfold AD at hd;split at hd
  ·exact absurd rfl (cI _ _ _)
  ·rename_i heq _;simp at heq;subst heq;simpa using hd
  ·rename_i heq;simp at heq
 have Sn:K (s.put o.dst .un)->Kr (a.put o.dst undef) w:=by
  intro hK;refine hk _ _ _ _ (hs.put (λj hj=> ?_) Eb) hw (Le.refl Γ) (WF.refl w) hK;rw[hj]at hd;unfold AD at hd;split at hd
  ·simp at hd
  ·rename_i heq _;simp at heq;subst heq;simpa using hd
  ·rename_i heq;simp at heq
 unfold fX at h;cases hog:o.guard with
 |
  none=>
  rw[hog]at hg;simp only[yh,sJ]at hg
  rw[hgd,←hg]at h
  refine tu hi (λ_=>zo ht0 hs hw hY h hk) (λhn=> ?_)
  simp[Region.wanted,hog]at hn
 |
  some jw=>
  obtain⟨j,axJ⟩:=jw
  rw[hog]at hg
  obtain⟨sl,want,rfl⟩:∃sl want,g=some (sl,want):=by
   unfold yh at hg;simp only at hg;split at hg<;>simp at hg;exact⟨_,_,hg.symm⟩
  obtain⟨DY,rfl⟩:=FT hg
  have Mm:Region.wanted o (yielded ops a.tmps)=(yielded ops a.tmps j==some want):=by unfold Region.wanted;rw[hog]
  have hy:∀v,a.tmps.getD sl undef=v->yielded ops a.tmps j=(match v with| .bool b=>some b|_=>none):=by
   intro v hv;unfold yielded;rw[DY];simp only[JlX];rw[JbJ]at hv;cases ho:a.tmps[sl]?with
   |none=>rw[ho]at hv;subst hv;rfl
   |some u=>rw[ho]at hv;subst hv;cases u<;>rfl
  rw[hgd]at h
  simp only at h
  have hev:∀ {gg:Bool},ao.mg=true->ev gg s ao.k (λp=>K (s.put ao.dst (.gd gg p)))->(Region.wanted o (yielded ops a.tmps)=gg)->wpOpIn (FW ro) 0 P ops Q i Kr a w:=by
   intro gg hm he hwg;have hmm:vO k=true:=hmg hm;have cI:∀x y z,k≠ .store x y z:=by rintro x y z rfl;simp[vO]at hmm
   rw[hkd,D4]at he;refine tu hi (λh1=> ?_) (λh1=> ?_)
   ·rw[hwg]at h1;subst h1;obtain⟨p,v,hK,fU,hr⟩:=Pl qc hs hw he;refine⟨λ_ _=>trivial,?_⟩;rw[Oper.semAt_eq _ _ _ (AE qc),fU];exact KL cI (p:= .gd true p) (by rw[aL];exact⟨λ_=>hr,by simp⟩) hK
   ·rw[hwg]at h1;subst h1;obtain⟨p,hK,_⟩:=ug _ _ _ _ he;exact KL cI (p:= .gd false p) (by rw[aL];exact⟨by simp,λ_=>rfl⟩) hK
  split at h
  ·rename_i b hb
   have hbv:a.tmps.getD sl undef= .bool b:=by
    cases hgs:get s.env sl with
    |none=>rw[hgs]at hb;simp at hb
    |
     some q=>
     rw[hgs]at hb;simp only[Option.getD_some]at hb;subst hb
     have:=hs.env sl _ hgs
     simp only[aL]at this
     generalize a.tmps.getD sl undef=v at this
     cases this;rfl
   have hyb:yielded ops a.tmps j=some b:=by rw[hy _ hbv]
   split at h
   ·rename_i hm
    exact hev hm h (by rw[Mm,hyb];rfl)
   ·refine tu hi (λh1=> ?_) (λh1=> ?_)
    ·rw[Mm,hyb]at h1
     exact zo ht0 hs hw hY (h.1 (by simpa using h1)) hk
    ·rw[Mm,hyb]at h1
     exact Sn (by rw[←D4];exact h.2 (by simpa using h1))
  ·rename_i gg b hb
   have hbv:(gg=true->a.tmps.getD sl undef= .bool b)∧(gg=false->a.tmps.getD sl undef=undef):=by
    cases hgs:get s.env sl with
    |none=>rw[hgs]at hb;simp at hb
    |
     some q=>
     rw[hgs]at hb;simp only[Option.getD_some]at hb;subst hb
     have:=hs.env sl _ hgs
     rw[aL]at this
     refine⟨λhg=> ?_,this.2⟩
     have:=this.1 hg
     simp only[aL]at this
     generalize a.tmps.getD sl undef=v at this
     cases this;rfl
   have hwg:Region.wanted o (yielded ops a.tmps)=(gg&&b==want):=by
    rw[Mm];cases gg with
    |true=>rw[hy _ (hbv.1 rfl)];rfl
    |false=>rw[hy _ (hbv.2 rfl)];simp[undef]
   split at h
   ·rename_i hm
    exact hev hm h hwg
   ·refine tu hi (λh1=> ?_) (λh1=> ?_)
    ·rw[hwg]at h1
     simp only[aJ,beq_iff_eq]at h1
     exact zo ht0 hs hw hY (h.1 h1.1 h1.2) hk
    ·rw[hwg]at h1
     have h2:=h.2 (λhg pU=>by rw[hg,pU]at h1;simp at h1)
     exact Sn (by rw[←D4];exact h2)
  ·exact h.elim
end Go.Ab
namespace Go.Ab
variable [cL]
variable {P:Program} {nt:Nat} {ds:List Deferred} {s s':St} [eJ]
def AK.free:AK->Bool
 | .mv _| .pick .. | .build .. | .un .. | .convI .. | .mkFunc .. | .field .. | .index .. | .indexS .. | .extract .. | .lenS _| .lenC _| .mm .. =>true
 |_=>false
def AO.free (o:AO):Bool:=o.k.free
def AO.rh (o:AO):Bool:=o.dst.isNone&&(match o.k with| .store .. =>true|_=>false)
theorem FU {g:Bool} {k:AK} {K:PV->Prop} (hf:k.free=true) (h:cA s s' k.reads) (he:ev g s k K):ev g s' k K:=by
 cases k with
 |mv x=>simp only[ev]at he⊢;rw[aH h];exact he
 |pick c a b=>simp only[ev]at he⊢;rw[aH h.left.left,lO h.left.right,lO h.right];exact he
 |build z parts=>simp only[ev]at he⊢;rw[nT h];exact he
 |un op x=>simp only[ev]at he⊢;rw[aH h];exact he
 |convI k x=>simp only[ev]at he⊢;rw[aH h];exact he
 |mkFunc f a b=>simp only[ev]at he⊢;rw[fK h.left];simp only[fK h.right];exact he
 |field i off agg w x=>simp only[ev]at he⊢;rw[aH h];exact he
 |index agg n w x i=>simp only[ev]at he⊢;rw[aH h.left,aH h.right];exact he
 |indexS x i=>simp only[ev]at he⊢;rw[aH h.left,aH h.right];exact he
 |extract i x=>simp only[ev]at he⊢;rw[lO h];exact he
 |lenS x=>simp only[ev]at he⊢;rw[aH h];exact he
 |lenC n=>simp only[ev]at he⊢;exact he
 |mm mx xs=>simp only[ev]at he⊢;rw[fK h];exact he
 |_=>simp[AK.free]at hf
theorem Jr {o:AO} (h:o.free=true):o.quiet=true:=by
 obtain⟨d,g,m,k⟩:=o;cases k<;>simp[AO.free,AK.free]at h<;>rfl
theorem CH {o:AO} {K:St->Prop} (hf:o.free=true) (h:jX P s o K):
  ∃v,K (s.put o.dst v)∧∀s',cA s s' o.k.reads->∀K':St->Prop,K' (s'.put o.dst v)->jX P s' o K':=by
 obtain⟨dst,guard,mg,k⟩:=o
 have e:∀(s:St) K,jX P s ⟨dst,guard,mg,k⟩ K=ev true s k λp=>K (s.put dst p):=by
  intro s K;cases k<;>first|rfl|(simp[AO.free,AK.free]at hf;done)
 rw[e]at h;obtain⟨v,hK,hv⟩:=ug _ _ _ _ h;refine⟨v,hK,λs' ha K' kZ=> ?_⟩;rw[e];exact FU hf ha (hv _ kZ)
def Qf (P:Program) (r:St) (o:AO) (v:PV):Prop:=∀s':St,cA r s' o.reads->∀K':St->Prop,K' (s'.put o.dst v)->fX P s' o K'
theorem HH {o:AO} {K:St->Prop} (hq:o.free=true) (h:fX P s o K):∃v,K (s.put o.dst v)∧Qf P s o v:=by
 unfold fX at h;cases hg:o.guard with
 |
  none=>
  rw[hg]at h
  obtain⟨v,hK,hv⟩:=CH hq h
  refine⟨v,hK,λs' ha K' kZ=> ?_⟩
  unfold fX;rw[hg]
  exact hv s' ha.right K' kZ
 |
  some gw=>
  obtain⟨sl,want⟩:=gw
  rw[hg]at h
  simp only at h
  have b9:∀ {s':St},cA s s' o.reads->get s'.env sl=get s.env sl:=λha=>ha sl (by simp[AO.reads,hg])
  split at h
  ·rename_i b hb
   split at h
   ·rename_i hm
    obtain⟨v,hK,hv⟩:=ug _ _ _ _ h
    refine⟨_,hK,λs' ha K' kZ=> ?_⟩
    unfold fX;rw[hg];simp only[b9 ha,hb,hm,if_true]
    exact FU hq ha.right (hv _ kZ)
   ·rename_i hm
    by_cases pU:b=want
    ·obtain⟨v,hK,hv⟩:=CH hq (h.1 pU)
     refine⟨v,hK,λs' ha K' kZ=> ?_⟩
     unfold fX;rw[hg];simp only[b9 ha,hb,hm]
     exact⟨λ_=>hv s' ha.right K' kZ,λhn=>absurd pU hn⟩
    ·refine⟨.un,h.2 pU,λs' ha K' kZ=> ?_⟩
     unfold fX;rw[hg];simp only[b9 ha,hb,hm]
     exact⟨λhn=>absurd hn pU,λ_=>kZ⟩
  ·rename_i g b hb
   split at h
   ·rename_i hm
    obtain⟨v,hK,hv⟩:=ug _ _ _ _ h
    refine⟨_,hK,λs' ha K' kZ=> ?_⟩
    unfold fX;rw[hg];simp only[b9 ha,hb,hm,if_true]
    exact FU hq ha.right (hv _ kZ)
   ·rename_i hm
    by_cases pU:g=true∧b=want
    ·obtain⟨v,hK,hv⟩:=CH hq (h.1 pU.1 pU.2)
     refine⟨v,hK,λs' ha K' kZ=> ?_⟩
     unfold fX;rw[hg];simp only[b9 ha,hb,hm]
     exact⟨λ_ _=>hv s' ha.right K' kZ,λhn=>absurd pU.2 (hn pU.1)⟩
    ·refine⟨.un,h.2 (λh1 h2=>pU ⟨h1,h2⟩),λs' ha K' kZ=> ?_⟩
     unfold fX;rw[hg];simp only[b9 ha,hb,hm]
     exact⟨λh1 h2=>absurd ⟨h1,h2⟩ pU,λ_=>kZ⟩
  ·exact h.elim
theorem FX {o:AO} {K:St->Prop} (hq:o.rh=true) (h:jX P s o K):
  ∃b,K {s with bx:=b}∧∀s',s'.bx=s.bx->cA s s' o.k.reads->∀K':St->Prop,K' {s' with bx:=b}->jX P s' o K':=by
 obtain⟨dst,guard,mg,k⟩:=o;simp only[AO.rh,aJ]at hq;cases k<;>simp at hq;rename_i n x y;simp only[jX,pE,if_true,ex]at h⊢;obtain⟨p,h,h1⟩:=sI _ _ _ _ h;obtain⟨v,h,h2⟩:=sI _ _ _ _ h;cases p<;>simp only at h
 case pt k pth aO=>
  split at h
  case h_2=>exact h.elim
  rename_i blk hb;split at h
  case h_2=>exact h.elim
  rename_i bn tc;obtain⟨hc,hK⟩:=h;refine⟨_,hK,λs' lK ha K' kZ=> ?_⟩;rw[aH ha.left];refine h1 _ ?_;rw[aH ha.right];refine h2 _ ?_;simp only[lK,hb,tc];exact⟨hc,kZ⟩
theorem zp {o:AO} {K:St->Prop} (hq:o.rh=true) (h:fX P s o K):
  ∃b,K {s with bx:=b}∧∀s',s'.bx=s.bx->cA s s' o.reads->∀K':St->Prop,K' {s' with bx:=b}->fX P s' o K':=by
 have hd:o.dst=none:=by simp[AO.rh]at hq;exact hq.1
 have KL:∀(s:St) p,s.put o.dst p=s:=by intro s p;rw[hd];rfl
 have So:∀(g:Bool) (s:St) K,ev g s o.k K->False:=by
  intro g s K h;obtain⟨dst,guard,mg,k⟩:=o;cases k<;>simp[AO.rh]at hq;simp[ev]at h
 unfold fX at h;cases hg:o.guard with
 |
  none=>
  rw[hg]at h
  obtain⟨b,hK,hv⟩:=FX hq h
  refine⟨b,hK,λs' hb ha K' kZ=> ?_⟩
  unfold fX;rw[hg]
  exact hv s' hb ha.right K' kZ
 |
  some gw=>
  obtain⟨sl,want⟩:=gw
  rw[hg]at h
  simp only at h
  have b9:∀ {s':St},cA s s' o.reads->get s'.env sl=get s.env sl:=λha=>ha sl (by simp[AO.reads,hg])
  split at h
  ·rename_i b hb
   split at h
   ·exact(So _ _ _ h).elim
   ·rename_i hm
    by_cases pU:b=want
    ·obtain⟨v,hK,hv⟩:=FX hq (h.1 pU)
     refine⟨v,hK,λs' lK ha K' kZ=> ?_⟩
     unfold fX;rw[hg];simp only[b9 ha,hb,hm]
     exact⟨λ_=>hv s' lK ha.right K' kZ,λhn=>absurd pU hn⟩
    ·refine⟨s.bx,by have:=h.2 pU;rw[KL]at this;exact this,λs' lK ha K' kZ=> ?_⟩
     unfold fX;rw[hg];simp only[b9 ha,hb,hm]
     exact⟨λhn=>absurd hn pU,λ_=>by rw[KL];rw[←lK]at kZ;exact kZ⟩
  ·rename_i g b hb
   split at h
   ·exact(So _ _ _ h).elim
   ·rename_i hm
    by_cases pU:g=true∧b=want
    ·obtain⟨v,hK,hv⟩:=FX hq (h.1 pU.1 pU.2)
     refine⟨v,hK,λs' lK ha K' kZ=> ?_⟩
     unfold fX;rw[hg];simp only[b9 ha,hb,hm]
     exact⟨λ_ _=>hv s' lK ha.right K' kZ,λhn=>absurd pU.2 (hn pU.1)⟩
    ·refine⟨s.bx,by have:=h.2 (λh1 h2=>pU ⟨h1,h2⟩);rw[KL]at this;exact this,λs' lK ha K' kZ=> ?_⟩
     unfold fX;rw[hg];simp only[b9 ha,hb,hm]
     exact⟨λh1 h2=>absurd ⟨h1,h2⟩ pU,λ_=>by rw[KL];rw[←lK]at kZ;exact kZ⟩
  ·exact h.elim
theorem HI {d:Option Nat} {v:PV} {b:List (Nat×aV)}:({s with bx:=b}:St).put d v= {s.put d v with bx:=b}:=by cases d<;>rfl
theorem cA.bx {l:List Nat} {b:List (Nat×aV)}:cA s {s with bx:=b} l:=λ_ _=>rfl
theorem cA.xU {l:List Nat} {b:List (Nat×aV)}:cA {s with bx:=b} s l:=λ_ _=>rfl
def AO.comm (y x:AO):Bool:=y.apart x&&(y.quiet&&x.quiet||y.free&&x.rh||y.rh&&x.free)
theorem Pn {y x:AO} {K:St->Prop} (h:y.comm x=true) (hh:fX P s y λs1=>fX P s1 x K):fX P s x λs2=>fX P s2 y K:=by
 simp only[AO.comm,aJ,JoQ]at h;obtain⟨eE,h⟩:=h;have h1:∀d,y.dst=some d->d∉x.reads:=λd hd=>by simp[AO.apart,hd]at eE;exact eE.1.1
 have h3:∀d,x.dst=some d->d∉y.reads:=λd hd=>by simp[AO.apart,hd]at eE;exact eE.2
 rcases h with(h|h)|h
 ·exact Pk h.1 h.2 eE hh
 ·obtain⟨v,hh,hv⟩:=HH h.1 hh;obtain⟨b,hh,hb⟩:=zp h.2 hh;refine hb s (iv _ _).symm (cA.aiC h1) _ ?_;refine hv _ cA.bx _ ?_;rw[HI];exact hh
 ·obtain⟨b,hh,hb⟩:=zp h.1 hh;obtain⟨v,hh,hv⟩:=HH h.2 hh;refine hv s cA.xU _ ?_;refine hb _ (iv _ _) (cA.put h3) _ ?_;rw[HI]at hh;exact hh
theorem MS {y x:AO} {K K':St->Prop} (h:y.comm x=true) (hk:∀s,K s->K' s) (hh:fX P s y K):fX P s y K':=by
 simp only[AO.comm,aJ,JoQ]at h;obtain⟨_,h⟩:=h
 have hq:y.quiet=true∨y.rh=true:=by
  rcases h with(h|h)|h
  ·exact .inl h.1
  ·exact .inl (Jr h.1)
  ·exact .inr h.1
 rcases hq with hq|hq
 ·obtain⟨v,h1,h2⟩:=Jq hq hh;exact h2 s rfl (λ_ _=>rfl) _ (hk _ h1)
 ·obtain⟨b,h1,h2⟩:=zp hq hh;exact h2 s rfl (λ_ _=>rfl) _ (hk _ h1)
end Go.Ab
namespace Go.Ab
variable [cL]
variable {P:Program} {nt:Nat} {ds:List Deferred} {s s':St} {Γ:Cx} {a:Act} {w:World} {Q:Exit->Act->World->Prop} [eJ]
def K6 (P:Program) (s:St):List AO->(St->Prop)->Prop
 |[],K=>K s
 |o::r,K=>fX P s o λs'=>K6 P s' r K
def Ou (P:Program) (aos:List AO) (s:St):List Nat->(St->Prop)->Prop
 |[],K=>K s
 |
  i::r,K=>match aos[i]?with
  |some o=>fX P s o λs'=>Ou P aos s' r K
  |none=>False
theorem xe {aos:List AO} {K:St->Prop}:∀(n i:Nat) (s:St),i+n=aos.length->(K6 P s (aos.drop i) K↔Ou P aos s (List.range' i n) K)
 |0,i,s,h=>by simp only[List.range'_zero,Ou];rw[JgX (by omega)];rfl
 |
  n+1,i,s,h=>by
  have dq:i<aos.length:=by omega
  rw[List.range'_succ,List.drop_eq_getElem_cons dq]
  simp only[K6,Ou,gJ dq]
  have:(λs'=>K6 P s' (aos.drop (i+1)) K)=λs'=>Ou P aos s' (List.range' (i+1) n) K:=funext λs'=>propext (xe n (i+1) s' (by omega))
  rw[this]
noncomputable def mY (P:Program) (nt:Nat) (ops:Array Oper) (own sp:List Nat) (draw:Bool):List Oper->Option (List AO)
 |[]=>some []
 |o::r=>match rM P nt ops own sp draw o,mY P nt ops own sp draw r with|some x,some l=>some (x::l)|_,_=>none
theorem qn {ops:Array Oper} {own sp:List Nat} {draw:Bool}:∀ {os:List Oper} {aos:List AO},mY P nt ops own sp draw os=some aos->aos.length=os.length∧∀(i:Nat) o,os[i]? =some o->∃ao,aos[i]? =some ao∧rM P nt ops own sp draw o=some ao
 |[],aos,h=>by simp[mY]at h;subst h;simp
 |
  o::r,aos,h=>by
  simp only[mY]at h
  split at h
  ·rename_i x l hx hl
   simp only[sJ]at h;subst h
   obtain⟨h1,h2⟩:=qn hl
   refine⟨by simp[h1],λi o' hi=> ?_⟩
   cases i with
   |zero=>simp at hi;subst hi;exact⟨x,rfl,hx⟩
   |succ i=>simp at hi;simpa using h2 i o' hi
  ·simp at h
theorem HD.trans {Γ1:Cx} {w1:World} {K:St->Prop} {Kr:Act->World->Prop} (h1:Le Γ Γ1) (h2:WF w w1) (h:HD P nt ds Γ w K Kr):HD P nt ds Γ1 w1 K Kr:=
 λs' Γ' a' w' a1 a2 a3 a4 a5=>h s' Γ' a' w' a1 a2 (h1.trans a3) (h2.trans a4) a5
theorem EN {ro:Option Nat} {ops:Array Oper} {aos:List AO} {own sp:List Nat} {draw:Bool} (nP:∀(i:Nat) o,ops[i]? =some o->∃ao,aos[i]? =some ao∧rM P nt ops own sp draw o=some ao) (hlen:aos.length=ops.size) {K:St->Prop}:
  ∀(l:List Nat) {s:St} {Γ:Cx} {a:Act} {w:World},gm nt ds s Γ a->w.heap=Γ.heap->EJ P Γ->Ou P aos s l K->HD P nt ds Γ w K (Q .normal)->wpOpsIn (FW ro) 0 P ops Q l a w
 |[],s,Γ,a,w,hs,hw,_,h,hk=>hk _ _ _ _ hs hw (Le.refl Γ) (WF.refl w) h
 |
  i::r,s,Γ,a,w,hs,hw,hY,h,hk=>by
  rw[wpOpsIn_cons]
  simp only[Ou]at h
  split at h
  case h_2=>exact h.elim
  rename_i ao Ca
  have hi:i<ops.size:=by rw[←hlen];exact(iJ.1 Ca).1
  obtain⟨ao',h1,h2⟩:=nP i ops[i] (Array.getElem?_eq_getElem hi)
  rw[Ca]at h1;cases h1
  refine pW (Array.getElem?_eq_getElem hi) h2 hs hw hY h ?_
  intro s' Γ' a' w' b1 b2 b3 b4 b5
  exact EN nP hlen r b1 b2 (hY.le b3) b5 (hk.trans b3 b4)
theorem FY {ro:Option Nat} {ops:Array Oper} {aos:List AO} {own sp:List Nat} {id:Nat} (ht:mY P nt ops own sp false ops.toList=some aos) {K:St->Prop} (hs:gm nt ds s Γ a) (hw:w.heap=Γ.heap) (hY:EJ P Γ) (h:K6 P s aos K) (hk:HD P nt ds Γ w K (Q .normal)):
  (Code.region id ops false).wpIn (FW ro) 0 P Q a w:=by
 obtain⟨h1,h2⟩:=qn ht;refine wpIn_region (EN (λi o hi=>h2 i o (by simpa using hi)) (by simpa using h1) _ hs hw hY ?_ hk);rw[JtQ];exact(xe (P:=P) ops.size 0 s (by simpa using h1.symm)).1 (by simpa using h)
inductive TN (ops:Array Oper):Nat->Nat->Prop
 |dir {i:Nat} {o:Oper} {e:Edge}:ops[i]? =some o->e∈o.after->Region.binds .any e=true->TN ops i e.on
 |tr {i j:Nat} {o:Oper} {e:Edge}:ops[i]? =some o->e∈o.after->Region.binds .any e=true->TN ops e.on j->TN ops i j
def FZ (ms:List Nat):List Edge->Nat->Nat
 |[],m=>m
 |e::r,m=>FZ ms r (if Region.binds .any e=true then m|||2^e.on|||ms.getD e.on 0 else m)
def gq:List Oper->List Nat->List Nat
 |[],ms=>ms
 |o::r,ms=>gq r (ms++[FZ ms o.after.toList 0])
theorem AH {ms:List Nat} {B:Nat->Prop}:∀(l:List Edge) (m:Nat),(∀e∈l,Region.binds .any e=true->B e.on∧∀j,(ms.getD e.on 0).testBit j=true->B j)->(∀j,m.testBit j=true->B j)->
  ∀j,(FZ ms l m).testBit j=true->B j
 |[],m,_,hm,j,h=>hm j h
 |
  e::r,m,hl,hm,j,h=>by
  simp only[FZ]at h
  refine AH r _ (λe he=>hl e (by simp[he])) ?_ j h
  intro j hj
  split at hj
  ·rename_i hb
   obtain⟨h1,h2⟩:=hl e (by simp) hb
   rw[Nat.testBit_or,Nat.testBit_or,JoQ,JoQ,Nat.testBit_two_pow]at hj
   rcases hj with(hj|hj)|hj
   ·exact hm j hj
   ·simp only[decide_eq_true_eq]at hj;subst hj;exact h1
   ·exact h2 j hj
  ·exact hm j hj
theorem CI {ops:Array Oper}:∀(l done:List Oper) (ms:List Nat),ops.toList=done++l->ms.length=done.length->(∀(i:Nat) m,ms[i]? =some m->∀j,m.testBit j=true->TN ops i j)->
  ∀(i:Nat) m,(gq l ms)[i]? =some m->∀j,m.testBit j=true->TN ops i j
 |[],_,ms,_,_,h=>h
 |
  o::r,done,ms,hd,hl,h=>by
  refine CI r (done++[o]) _ (by simp[hd]) (by simp[hl]) ?_
  intro i m hi j hj
  rw[List.getElem?_append]at hi
  split at hi
  ·exact h i m hi j hj
  ·rename_i hge
   have hi0:i=ms.length:=by
    have:=(iJ.1 hi).1;simp at this;omega
   subst hi0
   simp at hi
   subst hi
   have ho:ops[ms.length]? =some o:=by
    rw[←Array.getElem?_toList,hd,hl];simp
   refine AH (B:=λj=>TN ops ms.length j) _ 0 (λe he hb=>⟨.dir ho (by simpa using he) hb,λj hj=> .tr ho (by simpa using he) hb ?_⟩) (by simp) j hj
   cases hx:ms[e.on]?with
   |none=>rw[JaV,hx]at hj;simp at hj
   |some m=>rw[JaV,hx]at hj;exact h _ m hx j hj
def AI (ms:List Nat) (i j:Nat):Bool:=(ms.getD i 0).testBit j
theorem CJ {ops:Array Oper} {i j:Nat} (h:AI (gq ops.toList []) i j=true):TN ops i j:=by
 unfold AI at h;cases hx:(gq ops.toList [])[i]?with
 |none=>rw[JaV,hx]at h;simp at h
 |
  some m=>
  rw[JaV,hx]at h
  exact CI ops.toList [] [] (by simp) rfl (by simp) i m hx j h
def K7 (ops:Array Oper) (aos:List AO) (ms:List Nat):Bool:=
 (List.range ops.size).all λi=>match ops[i]?,aos[i]?with
  |some o,some x=>(o.after.all λe=> !Region.binds .any e||decide (e.on<i))&&
    (List.range i).all λj=>AI ms i j||(match aos[j]?with|some y=>y.comm x|none=>false)
  |_,_=>false
def F0 (ops:Array Oper) (aos:List AO):Bool:=K7 ops aos (gq ops.toList [])
def rN (ops:Array Oper) (listed:Array Bool):Prop:=
 ∀(k:Nat) o,ops[k]? =some o->listed.getD k true=true->∀e∈o.after,Region.binds .any e=true->listed.getD e.on false=true
theorem Js {ops:Array Oper} {listed:Array Bool} (hc:rN ops listed) {i j:Nat} (h:TN ops i j):listed.getD i false=true->listed.getD j false=true:=by
 have up:∀i:Nat,listed.getD i false=true->listed.getD i true=true:=by
  intro i hl
  have hi:i<listed.size:=by
   rcases Nat.lt_or_ge i listed.size with h'|h'
   ·exact h'
   ·simp[Array.getElem?_eq_none h']at hl
  simpa[JbJ,Array.getElem?_eq_getElem hi]using hl
 induction h with
 |dir ho he hb=>intro hl;exact hc _ _ ho (up _ hl) _ he hb
 |tr ho he hb _ ih=>intro hl;exact ih (hc _ _ ho (up _ hl) _ he hb)
theorem zq {ops:Array Oper} {listed:Array Bool} (hc:rN ops listed) {i j:Nat} (h:TN ops i j) (hr:i∈Region.ready .any ops listed):listed.getD j false=true:=by
 obtain⟨_,o,ho,cq⟩:=mem_ready.1 hr;cases h with
 |dir ho' he hb=>rw[ho]at ho';cases ho';exact cq _ he hb
 |tr ho' he hb h2=>rw[ho]at ho';cases ho';exact Js hc h2 (cq _ he hb)
theorem EO {aos:List AO} {K:St->Prop} {i:Nat} {x:AO} (hi:aos[i]? =some x) (l2:List Nat):∀(l1:List Nat) (s:St),
  (∀j∈l1,∃y,aos[j]? =some y∧y.comm x=true)->Ou P aos s (l1++i::l2) K->fX P s x λs'=>Ou P aos s' (l1++l2) K
 |[],s,_,h=>by simpa[Ou,hi]using h
 |
  j::l1,s,cq,h=>by
  obtain⟨y,hy,eE⟩:=cq j (by simp)
  simp only[JeZ,Ou,hy]at h⊢
  exact Pn eE (MS eE (λs' h'=>EO hi l2 l1 s' (λk hk=>cq k (by simp[hk])) h') h)
theorem asl {ro:Option Nat} {ops:Array Oper} {aos:List AO} {own sp:List Nat} (nP:∀(i:Nat) o,ops[i]? =some o->∃ao,aos[i]? =some ao∧rM P nt ops own sp true o=some ao) (hlen:aos.length=ops.size) (dh:F0 ops aos=true) {K:St->Prop}:
  ∀
   (n:Nat) (listed:Array Bool) {s:St} {Γ:Cx} {a:Act} {w:World},listed.size=ops.size->rN ops listed->((List.range ops.size).filter λi=> !listed.getD i true).length=n->
   gm nt ds s Γ a->w.heap=Γ.heap->EJ P Γ->Ou P aos s ((List.range ops.size).filter λi=> !listed.getD i true) K->HD P nt ds Γ w K (Q .normal)->wpAnyIn (FW ro) 0 P .any ops Q n listed a w:=by
 simp only[F0,K7,JeX,JiX]at dh;have hoi:=dh
 --what is first is ready
 have KM:∀listed:Array Bool,listed.size=ops.size->Region.ready .any ops listed=[]->((List.range ops.size).filter λi=> !listed.getD i true)=[]:=by
  intro listed fH hr;cases hl:(List.range ops.size).filter λi=> !listed.getD i true with
  |nil=>rfl
  |
   cons i l=>
   exfalso
   have hm:∀j,j∈i::l↔j<ops.size∧listed.getD j true=false:=by intro j;rw[←hl];simp
   have Mn:(i::l).Pairwise (·<·):=by rw[←hl];exact(List.pairwise_lt_range).filter _
   obtain⟨hi,OI⟩:=(hm i).1 (by simp)
   have KN:=hoi i hi
   obtain⟨ao,Ca,_⟩:=nP i ops[i] (Array.getElem?_eq_getElem hi)
   rw[Array.getElem?_eq_getElem hi,Ca]at KN
   simp only[aJ,Array.all_eq_true_iff_forall_mem,JoQ,JiQ,decide_eq_true_eq]at KN
   have:i∈Region.ready .any ops listed:=by
    rw[mem_ready];refine⟨OI,ops[i],Array.getElem?_eq_getElem hi,λe he hb=> ?_⟩;have dq:=(KN.1 e he).resolve_left (by simp[hb]);cases hx:listed.getD e.on false with
    |true=>rfl
    |
     false=>
     have aei:e.on<listed.size:=by omega
     have hu:listed.getD e.on true=false:=by
      simpa[JbJ,Array.getElem?_eq_getElem aei]using hx
     have iD:=(hm e.on).2 ⟨by omega,hu⟩
     rcases cJ.1 iD with h|h
     ·omega
     ·have:=JhZ Mn h;omega
   rw[hr]at this;simp at this
 intro n;induction n with
 |
  zero=>
  intro listed s Γ a w fH hc hn hs hw hY h hk
  have hl:=JmX.1 hn
  rw[hl]at h
  refine⟨?_,hk _ _ _ _ hs hw (Le.refl Γ) (WF.refl w) h⟩
  rw[List.eq_nil_iff_forall_not_mem]
  intro i hi
  have h0:=(mem_ready.1 hi)
  obtain⟨h1,o,ho,_⟩:=h0
  have:i∈(List.range ops.size).filter λi=> !listed.getD i true:=by
   rw[JgW,JiX];exact⟨(Array.getElem?_eq_some_iff.1 ho).1,by rw[h1];rfl⟩
  rw[hl]at this;simp at this
 |
  succ n ih=>
  intro listed s Γ a w fH hc hn hs hw hY h hk
  refine⟨λhr=> ?_,λi hi=> ?_⟩
  ·rw[KM listed fH hr]at hn;simp at hn
  ·obtain⟨OI,o,ho,cq⟩:=mem_ready.1 hi
   have dq:=(Array.getElem?_eq_some_iff.1 ho).1
   obtain⟨ao,Ca,Oi⟩:=nP i o ho
   have iD:i∈(List.range ops.size).filter λi=> !listed.getD i true:=by
    rw[JgW,JiX];exact⟨dq,by rw[OI];rfl⟩
   obtain⟨l1,l2,hl⟩:=List.append_of_mem iD
   have Mn:(l1++i::l2).Pairwise (·<·):=by rw[←hl];exact(List.pairwise_lt_range).filter _
   have He:(l1++i::l2).Nodup:=Mn.imp (λh=>Nat.ne_of_lt h)
   have pB:(List.range ops.size).filter (λj=> !(listed.setIfInBounds i true).getD j true)=l1++l2:=by
    have e:(λj=> !(listed.setIfInBounds i true).getD j true)=λj=>(decide (j≠i))&& !listed.getD j true:=by
     funext j;by_cases G0:i=j
     ·subst G0;simp[JbJ,uJ (by omega:i<listed.size)]
     ·rw[getD_set_ne true G0];simp[Ne.symm G0]
    rw[e,←JkX,hl,JkZ,JpX];simp only[ne_eq,not_true,decide_false,fJ,if_false];have G1:=JgJ.1 He;rw[JfX.2,JfX.2]
    ·intro x hx;simp;rintro rfl;exact(JiZ.1 G1.2.1).1 hx
    ·intro x hx;simp;rintro rfl;exact G1.2.2 x hx x (by simp) rfl
   rw[hl]at h hn
   have aoh:∀j∈l1,j<i:=λj hj=>by
    have:=(JdQ.1 Mn).2.2 j hj i (by simp);exact this
   have avK:∀j∈l1,listed.getD j true=false:=λj hj=>by
    have:j∈(List.range ops.size).filter λi=> !listed.getD i true:=by rw[hl];simp[hj]
    simpa using(JgW.1 this).2
   have KN:=hoi i dq
   rw[ho,Ca]at KN
   simp only[aJ,JeX,JiX,JoQ]at KN
   have hf:=EO (P:=P) (K:=K) Ca l2 l1 s (λj hj=>by
    have Ez:=KN.2 j (aoh j hj);rcases Ez with hb|hb
    ·have:=zq hc (CJ hb) hi;have hx:=avK j hj;have Bx:j<listed.size:=by have:=aoh j hj;omega
     simp[JbJ,Array.getElem?_eq_getElem Bx]at this hx;rw[this]at hx;simp at hx
    ·split at hb
     ·rename_i y hy;exact⟨y,hy,hb⟩
     ·simp at hb) h
   refine pW ho Oi hs hw hY hf ?_
   intro s' Γ' a' w' b1 b2 b3 b4 b5
   refine ih (listed.setIfInBounds i true) (by simp[fH]) ?_ (by rw[pB];simp at hn⊢;omega) b1 b2 (hY.le b3) (by rw[pB];exact b5) (hk.trans b3 b4)
   intro k ok Aq qR e he hb
   by_cases GZ:i=k
   ·subst GZ;rw[ho]at Aq;cases Aq;exact getD_set_true (cq e he hb)
   ·rw[getD_set_ne true GZ]at qR;exact getD_set_true (hc k ok Aq qR e he hb)
theorem yj {ro:Option Nat} {ops:Array Oper} {aos:List AO} {own sp:List Nat} {id:Nat} (hm:P.follows .mixedOrders=true) (ht:mY P nt ops own sp true ops.toList=some aos) (dh:F0 ops aos=true) {K:St->Prop} (hs:gm nt ds s Γ a) (hw:w.heap=Γ.heap) (hY:EJ P Γ) (h:K6 P s aos K) (hk:HD P nt ds Γ w K (Q .normal)):
  (Code.region id ops true).wpIn (FW ro) 0 P Q a w:=by
 obtain⟨h1,h2⟩:=qn ht
 have e:((List.range ops.size).filter λi=> !(Array.replicate ops.size false).getD i true)=List.range ops.size:=by
  rw[JfX];intro i hi;rw[JiX]at hi;simp[JbJ,hi]
 refine wpIn_region_any hm (asl (s:=s) (Γ:=Γ) (K:=K) (λi o hi=>h2 i o (by simpa using hi)) (by simpa using h1) dh _ _ (by simp) ?_ (by rw[e];simp) hs hw hY ?_ ?_)
 ·intro k o hko hl;have:=(Array.getElem?_eq_some_iff.1 hko).1;simp[JbJ,this]at hl
 ·rw[e,JtQ];exact(xe (P:=P) ops.size 0 s (by simpa using h1.symm)).1 (by simpa using h)
 ·intro s' Γ' a' w' b1 b2 b3 b4 b5;exact hk s' Γ' a' w' b1 b2 b3 ⟨b4.os,b4.tape,b4.output⟩ b5
end Go.Ab
namespace Go.Ab
variable [cL]
variable {P:Program} {nt:Nat} {ds:List Deferred} {s:St} {Γ Δ:Cx} {a:Act} {w:World}
mutual
def iQ (k sz:Nat) (l0:List PV):PV->PV
 | .rs k' p off len aO bP c=>if k'=k then(if aO=l0.length∧p=[]∧bP=sz∧off+len≤l0.length then .sl sz ((l0.drop off).take len) (decide (c= .clip))else .un)else .rs k' p off len aO bP c
 | .pt k' p aO=>if k'=k then(if aO=l0.length then .fp sz l0 p else .un)else .pt k' p aO
 | .st w l=> .st w (jh k sz l0 l)
 | .ar z n l=> .ar z n (jh k sz l0 l)
 | .tup l=> .tup (jh k sz l0 l)
 | .sl z l c=> .sl z (jh k sz l0 l) c
 | .fp z l p=> .fp z (jh k sz l0 l) p
 | .fn f x y=> .fn f (jh k sz l0 x) (jh k sz l0 y)
 | .gd b p=> .gd b (iQ k sz l0 p)
 | .ifc t p=> .ifc t (iQ k sz l0 p)
 |p=>p
def jh (k sz:Nat) (l0:List PV):List PV->List PV
 |[]=>[]
 |p::l=>iQ k sz l0 p::jh k sz l0 l
end
def Bk (k sz:Nat) (l0:List PV):aV->aV
 | .box v=> .box (iQ k sz l0 v)
 | .arr z l=> .arr z (jh k sz l0 l)
 | .map b ks vs l=> .map b ks vs l
variable {k sz:Nat} {l0:List PV}
theorem vQ (p:PV):(iQ k sz l0 p).width=p.width:=by
 cases p<;>simp only[iQ]<;>(try split)<;>(try split)<;>simp[PV.width]
theorem nV (p:PV):(iQ k sz l0 p).isAgg=p.isAgg:=by
 cases p<;>simp only[iQ]<;>(try split)<;>(try split)<;>simp[PV.isAgg]
theorem ox (l:List PV):(jh k sz l0 l).length=l.length:=by induction l<;>simp[jh, *]
theorem sK {l:List PV} {q:PV} (h:q∈jh k sz l0 l):∃p∈l,q=iQ k sz l0 p:=by
 induction l with
 |nil=>simp[jh]at h
 |
  cons x l ih=>
  simp only[jh,cJ]at h
  rcases h with h|h
  ·exact⟨x,by simp,h⟩
  ·obtain⟨p,hp,e⟩:=ih h;exact⟨p,by simp[hp],e⟩
theorem yk (b:aV):(Bk k sz l0 b).aO=b.aO:=by cases b<;>simp[Bk,aV.aO,ox]
mutual
theorem F1:∀p,af (λj=>decide (j≠k)) p=true->iQ k sz l0 p=p
 | .rs k' _ _ _ _ _ _,hp=>by simp only[af,decide_eq_true_eq]at hp;simp[iQ,hp]
 | .pt k' _ _,hp=>by simp only[af,decide_eq_true_eq]at hp;simp[iQ,hp]
 | .st _ l,hp=>by simp only[af]at hp;simp[iQ,pF l hp]
 | .ar _ _ l,hp=>by simp only[af]at hp;simp[iQ,pF l hp]
 | .tup l,hp=>by simp only[af]at hp;simp[iQ,pF l hp]
 | .sl _ l _,hp=>by simp only[af]at hp;simp[iQ,pF l hp]
 | .fp _ l _,hp=>by simp only[af]at hp;simp[iQ,pF l hp]
 | .fn _ x y,hp=>by simp only[af,aJ]at hp;simp[iQ,pF x hp.1,pF y hp.2]
 | .gd _ p,hp=>by simp only[af]at hp;simp[iQ,F1 p hp]
 | .ifc _ p,hp=>by simp only[af]at hp;simp[iQ,F1 p hp]
 | .un,_=>by simp[iQ]
 | .bl _,_=>by simp[iQ]
 | .int _ _,_=>by simp[iQ]
 | .str _,_=>by simp[iQ]
 | .np,_=>by simp[iQ]
 | .nf,_=>by simp[iQ]
 | .ni,_=>by simp[iQ]
 | .mp ..,_=>by simp[iQ]
theorem pF:∀l,ah (λj=>decide (j≠k)) l=true->jh k sz l0 l=l
 |[],_=>rfl
 |p::l,hp=>by simp only[ah,aJ]at hp;simp[jh,F1 p hp.1,pF l hp.2]
end
structure Frz (Γ Δ:Cx) (k sz:Nat) (l0:List PV):Prop where
 heap:Δ.heap=Γ.heap
 own:∀b,b<Γ.heap.size->¬Γ.own b->¬Δ.own b
 ref:∀k' blk,k'≠k->get Γ.bx k'=some blk->∃bn,get Δ.bx k'=some bn∧bn.aO=blk.aO∧Δ.ι k'=Γ.ι k'
 here:∀blk,get Γ.bx k=some blk->blk= .arr sz l0
 wd:∀x∈l0,x.width=sz
 cells:∀b,Γ.ι k=some b->b<Γ.heap.size∧¬Δ.own b∧∃c e cs rest,Γ.heap[b]? =some (.cells c e (0,0))∧c.toList=cs++rest∧aD Δ l0 cs
theorem aD.iQ (hf:Frz Γ Δ k sz l0) {l:List PV} {cs:List Value} (h:aD Γ l cs):aD Δ (jh k sz l0 l) cs:=by
 induction h with
 |nil=>exact .nil
 |un h hr ih=>exact .un h ih
 |bl x hr ih=>exact .bl x ih
 |int k n hr ih=>exact .int k n ih
 |str l s h hr ih=>exact .str l s h ih
 |st w l hl hw hr ihl ih=>exact .st w _ ihl hw ih
 |
  ar z n l hl hn hw hr ihl ih=>
  refine .ar z n _ ihl (by rw[ox];exact hn) (λx hx=> ?_) ih
  obtain⟨p,hp,rfl⟩:=sK hx
  rw[vQ];exact hw p hp
 |
  sl z l clip ad aX hl hw hc hk hb hr ihl ih=>
  have:=aD.sl (Γ:=Δ) z (jh k sz l0 l) clip ad aX ihl (λx hx=>by obtain⟨p,hp,rfl⟩:=sK hx;rw[vQ];exact hw p hp) (by rw[ox];exact hc) (by rw[ox];exact hk)
   (λcI=>by
    obtain⟨b,o,h1,h2,h3,h4⟩:=hb (by intro h;subst h;simp[jh]at cI);exact⟨b,o,h1,by rw[hf.heap];exact h2,hf.own b h2 h3,by rw[hf.heap];exact h4⟩) ih
  rw[ox]at this
  exact this
 |
  rs k' p off len aO bP c v blk hg h1 hv hr ih=>
  simp only[jh,Ab.iQ]
  by_cases hk:k'=k
  ·rw[if_pos hk]
   subst hk
   have lG:=hf.here blk hg.1
   subst lG
   split
   ·rename_i hc
    obtain⟨ht,hp,fH,hle⟩:=hc
    subst hp fH
    obtain⟨ad,aX,rfl,Tp⟩:=hv (by simpa[aV.aO]using ht)
    have hlen:((l0.drop off).take len).length=len:=by simp;omega
    unfold ia at Tp
    cases hι:Γ.ι k' with
    |
     none=>
     rw[hι]at Tp
     obtain⟨rfl,rfl,_⟩:=Tp
     have:=aD.sl (Γ:=Δ) bP ((l0.drop off).take 0) (decide (c= .clip)) ad 0 (cs:=[]) (by simpa using aD.nil) (by simp) (by simp) (by simp) (by simp) ih
     simpa using this
    |
     some b=>
     rw[hι]at Tp
     obtain⟨hlr,had,rD,_⟩:=Tp
     obtain⟨Sm,A9,cc,e,cs,rest,hh,D2,Hd⟩:=hf.cells b hι
     have qZ:=(Hd.XL hf.wd off (by omega)).Hq (λx hx=>hf.wd x (JdJ hx)) len (by simp;omega)
     have Oj:cs.length=l0.length*bP:=by rw[Hd.length,bf hf.wd]
     have:=aD.sl (Γ:=Δ) bP ((l0.drop off).take len) (decide (c= .clip)) ad aX qZ (λx hx=>hf.wd x (JdJ (JbX hx))) (by rw[hlen];exact hlr) (by rw[hlen];intro e;exact pv.clip rD (of_decide_eq_true e))
      (λcI=>by
       have axL:len≠0:=by rintro rfl;simp at cI
       refine⟨b,off*bP,?_,by rw[hf.heap];exact Sm,A9,λi x hi=> ?_⟩
       ·rcases had with h|h
        ·omega
        ·simpa[bK]using h
       ·rw[List.getElem?_take]at hi;split at hi
        ·rw[List.getElem?_drop]at hi;simp only[cell,hf.heap,hh];rw[←Array.getElem?_toList,D2];have dq:=(iJ.1 hi).1;rw[List.getElem?_append_left dq];exact hi
        ·simp at hi) ih
     rw[hlen]at this
     exact this
   ·exact .un h1 ih
  ·rw[if_neg hk]
   obtain⟨bn,g1,g2,g3⟩:=hf.ref k' blk hk hg.1
   refine .rs k' p off len aO bP c v bn ⟨g1,by rw[g2];exact hg.2⟩ h1 (λht=> ?_) ih
   obtain⟨ad,aX,e1,e2⟩:=hv (by rw[ht,g2])
   exact⟨ad,aX,e1,e2.aE g3 hf.heap⟩
 |np hr ih=>exact .np ih
 |
  pt k' p aO v blk hg h1 hv hr ih=>
  simp only[jh,Ab.iQ]
  by_cases hk:k'=k
  ·rw[if_pos hk]
   subst hk
   have lG:=hf.here blk hg.1
   subst lG
   split
   ·rename_i ht
    obtain⟨b,hι,rfl⟩:=hv (by simpa[aV.aO]using ht)
    obtain⟨Sm,A9,cc,e,cs,rest,hh,D2,Hd⟩:=hf.cells b hι
    have:=aD.fp (Γ:=Δ) sz l0 p b 0 Hd hf.wd ⟨by rw[hf.heap];exact Sm,A9⟩ (λi x hi=>by
     simp only[cell,hf.heap,hh];rw[←Array.getElem?_toList,D2,JhQ];have dq:=(iJ.1 hi).1;rw[List.getElem?_append_left dq];exact hi) ih
    simpa using this
   ·exact .un h1 ih
  ·rw[if_neg hk]
   obtain⟨bn,g1,g2,g3⟩:=hf.ref k' blk hk hg.1
   refine .pt k' p aO v bn ⟨g1,by rw[g2];exact hg.2⟩ h1 (λht=> ?_) ih
   obtain⟨b,e1,e2⟩:=hv (by rw[ht,g2])
   exact⟨b,by rw[g3,e1],e2⟩
 |
  fp z l p b o hl hw hm hc hr ihl ih=>
  exact .fp z _ p b o ihl (λx hx=>by obtain⟨p,hp,rfl⟩:=sK hx;rw[vQ];exact hw p hp) ⟨by rw[hf.heap];exact hm.1,hf.own b hm.1 hm.2⟩ (by rw[hf.heap];exact hc) ih
 |
  fn g first cap h1 h2 h3 h4 hr i1 i2 ih=>
  exact .fn g _ _ i1 i2 (λx hx=>by obtain⟨p,hp,rfl⟩:=sK hx;rw[nV];exact h3 p hp) (λx hx=>by obtain⟨p,hp,rfl⟩:=sK hx;rw[nV];exact h4 p hp) ih
 |nf hr ih=>exact .nf ih
 |
  ifc t v h1 h2 hr i1 ih=>
  simp only[jh]at i1
  exact .ifc t _ i1 (by rw[nV];exact h2) ih
 |ni hr ih=>exact .ni ih
 |mp k b hr ih=>exact .mp k b ih
theorem aD.CK (hf:Frz Γ Δ k sz l0) {p:PV} {cs:List Value} (h:aD Γ [p] cs):aD Δ [Ab.iQ k sz l0 p] cs:=by
 have:=h.iQ hf;simpa only[jh]using this
theorem aD.aiD {p:PV} {v:Value} (h:aD Γ [p] [v]) (ha:p.isAgg=false):gP Γ p v:=by
 cases p<;>simp[PV.isAgg]at ha<;>first|(simp only[gP];done)|(simp only[gP];exact h)
theorem gP.iQ (hf:Frz Γ Δ k sz l0) {p:PV} {v:Value} (h:gP Γ p v):gP Δ (Ab.iQ k sz l0 p) v:=by
 cases p
 case un=>trivial
 case st w l=>obtain⟨cs,h1,h2⟩:=h;exact⟨cs,h1,h2.CK hf⟩
 case ar z n l=>obtain⟨cs,h1,h2⟩:=h;exact⟨cs,h1,h2.CK hf⟩
 case rs=>exact(aD.CK hf h).aiD (by rw[nV];rfl)
 case pt=>exact(aD.CK hf h).aiD (by rw[nV];rfl)
 all_goals exact aD.CK hf h
theorem aL.iQ (hf:Frz Γ Δ k sz l0):∀ {p:PV} {v:Value},aL Γ p v->aL Δ (Ab.iQ k sz l0 p) v:=by
 have h2:∀ {l:List PV} {vs:List Value},kO Γ l vs->kO Δ (jh k sz l0 l) vs:=by
  intro l;induction l with
  |nil=>intro vs h;cases vs<;>simp_all [kO,jh]
  |
   cons p l ih=>
   intro vs h
   cases vs with
   |nil=>simp[kO]at h
   |cons v vs=>simp only[kO,jh]at h⊢;exact⟨h.1.iQ hf,ih h.2⟩
 intro p;induction p using PV.rec (motive_2:=λ_=>True)with
 |gd b p ih=>intro v h;simp only[Ab.iQ];rw[aL]at h⊢;exact⟨λhb=>ih (h.1 hb),h.2⟩
 |tup l=>intro v h;simp only[aL,Ab.iQ]at h⊢;obtain⟨vs,e,h⟩:=h;exact⟨vs,e,h2 h⟩
 |un=>intro v h;simp[aL,Ab.iQ]
 |st w l=>intro v h;obtain⟨cs,e,h⟩:=h;exact⟨cs,e,h.CK hf⟩
 |ar z n l=>intro v h;obtain⟨cs,e,h⟩:=h;exact⟨cs,e,h.CK hf⟩
 |nil=>trivial
 |cons=>trivial
 |rs=>intro v h;exact(aD.CK hf h).toV (by rw[nV];rfl)
 |pt=>intro v h;exact(aD.CK hf h).toV (by rw[nV];rfl)
 |_=>intro v h;exact aD.CK hf h
theorem aV.xM.iQ (hf:Frz Γ Δ k sz l0) {blk:aV} {ob:Option Nat} (h:blk.xM Γ ob):(Bk k sz l0 blk).xM Δ ob:=by
 cases blk with
 |
  box v=>
  obtain⟨b,c,e,h1,h2,h3⟩:=h
  exact⟨b,c,e,h1,by rw[hf.heap];exact h2,h3.CK hf⟩
 |
  arr z l=>
  obtain⟨h1,h2,h3⟩:=h
  refine⟨λx hx=>by obtain⟨p,hp,rfl⟩:=sK hx;rw[vQ];exact h1 p hp,h2,?_⟩
  cases ob with
  |none=>trivial
  |
   some b=>
   obtain⟨c,e,cs,rest,h4,h5,h6,h7⟩:=h3
   exact⟨c,e,cs,rest,by rw[hf.heap];exact h4,h5,h6.iQ hf,h7⟩
 |
  map b ks vs l=>
  obtain⟨h1,h2⟩:=h
  exact⟨h1,by rw[hf.heap];exact h2⟩
end Go.Ab
namespace Go.Ab
variable [cL]
variable {P:Program} {nt:Nat} {ds:List Deferred} {s:St} {Γ Δ Γ0:Cx} {a:Act} {w:World} {k sz:Nat} {l0:List PV}
def del {α:Type}:List (Nat×α)->Nat->List (Nat×α)
 |[],_=>[]
 |(j,v)::r,k=>if j=k then del r k else(j,v)::del r k
def ma {α:Type} (f:α->α):List (Nat×α)->List (Nat×α)
 |[]=>[]
 |(j,v)::r=>(j,f v)::ma f r
def oy {α:Type} (sl:List Nat):List (Nat×α)->List (Nat×α)
 |[]=>[]
 |(j,v)::r=>if sl.contains j=true then(j,v)::oy sl r else oy sl r
theorem mZ {α:Type} (l:List (Nat×α)) (k j:Nat):get (del l k) j=if j=k then none else get l j:=by
 induction l with
 |nil=>simp[del,get]
 |
  cons x r ih=>
  obtain⟨i,v⟩:=x
  simp only[del]
  split
  ·rename_i h;subst h;rw[ih];simp only[get];split
   ·rfl
   ·rename_i h2;rw[if_neg (λe=>h2 e.symm)]
  ·simp only[get,ih]
   split
   ·rename_i h h2;subst h2;rw[if_neg h]
   ·rfl
theorem jy {α:Type} (f:α->α) (l:List (Nat×α)) (j:Nat):get (ma f l) j=(get l j).map f:=by
 induction l with
 |nil=>rfl
 |cons x r ih=>obtain⟨i,v⟩:=x;simp only[ma,get,ih];split<;>rfl
theorem MT {α:Type} (sl:List Nat) (l:List (Nat×α)) (j:Nat) {v:α} (h:get (oy sl l) j=some v):get l j=some v:=by
 induction l with
 |nil=>simp[oy,get]at h
 |
  cons x r ih=>
  obtain⟨i,u⟩:=x
  simp only[oy]at h
  split at h
  ·simp only[get]at h⊢
   split
   ·rename_i h2;rw[if_pos h2]at h;exact h
   ·rename_i h2;rw[if_neg h2]at h;exact ih h
  ·rename_i hc
   have h3:=ih h
   simp only[get]
   split
   ·rename_i h2;subst h2
    exfalso
    have:∀r:List (Nat×α),get (oy sl r) i=none:=by
     intro r;induction r with
     |nil=>rfl
     |
      cons y r ih2=>
      obtain⟨m,q⟩:=y
      simp only[oy]
      split
      ·rename_i h4
       simp only[get]
       rw[if_neg (by rintro rfl;exact hc h4)];exact ih2
      ·exact ih2
    rw[this]at h;simp at h
   ·exact h3
def HK (Γ:Cx):Prop:=∀k blk,get Γ.bx k=some blk->KB≤k
def ri (nt:Nat) (ds:List Deferred) (Γ0 Γ:Cx) (a:Act) (K:St->Prop):Prop:=∃s' Γ',gm nt ds s' Γ' a∧Γ'.heap=Γ.heap∧Le Γ0 Γ'∧K s'
theorem yl (hm:Mem Γ) (f:aV->aV) (hft:∀b,(f b).aO=b.aO):zk (λj=>decide (j≠k)) id Γ {Γ with bx:=ma f (del Γ.bx k)} where
 heap:=rfl
 own b _ hn:=by
  rintro(⟨j,blk,h1,h2⟩|h)
  ·simp only[jy,mZ]at h1;split at h1
   ·simp at h1
   ·obtain⟨b0,g1,_⟩:=mJ.1 h1;exact hn (.inl ⟨j,b0,g1,h2⟩)
  ·exact hn (.inr h)
 ref j blk hj hb:=by
  simp only[decide_eq_true_eq]at hj;exact⟨f blk,by simp[jy,mZ,hj,hb],hft _,rfl⟩
theorem CL {f:Nat->Bool} {l:List PV} (h:ah f l=true):aR id l=l:=oq (f:=f) (λ_ _=>rfl) l h
theorem BE {f:Nat->Bool} {p:PV} (h:af f p=true):aE id p=p:=Cs (f:=f) (λ_ _=>rfl) p h
theorem Po (hle:Le Γ0 Γ) (ra:HK Γ0) (hkb:k<KB) (f:aV->aV) (hft:∀b,(f b).aO=b.aO):Le Γ0 {Γ with bx:=ma f (del Γ.bx k)} where
 heap:=hle.heap
 gn b hb h:=by
  obtain⟨j,blk,h1,h2⟩:=h;simp only[jy,mZ]at h1;split at h1
  ·simp at h1
  ·obtain⟨b0,g1,_⟩:=mJ.1 h1;exact hle.gn b hb ⟨j,b0,g1,h2⟩
 bX:=hle.bX
 size:=hle.size
 ref j blk hj:=by
  obtain⟨bn,h1,h2,h3⟩:=hle.ref j blk hj;have:=ra j blk hj;have cI:j≠k:=by omega
  exact⟨f bn,by simp[jy,mZ,cI,h1],by rw[hft];exact h2,λht=>h3 (by rw[←ht,hft])⟩
theorem Jt (hm:Mem Γ) (hg:get Γ.bx k=some (.arr sz l0)) (hr:ah (λj=>decide (j≠k)) l0=true):Frz Γ {Γ with bx:=ma (Bk k sz l0) (del Γ.bx k)} k sz l0 where
 heap:=rfl
 own:=(yl hm _ yk).own
 ref j blk hj hb:=by
  obtain⟨b',h1,h2,h3⟩:=(yl (k:=k) hm _ (yk (k:=k) (sz:=sz) (l0:=l0))).ref j blk (by simpa using hj) hb;exact⟨b',h1,h2,h3⟩
 here blk hb:=by rw[hg]at hb;exact(Option.some.inj hb).symm
 wd:=(hm.blk k _ hg).1
 cells b hb:=by
  have h:=hm.blk k _ hg;obtain⟨h1,h2,h3⟩:=h;rw[hb]at h3;obtain⟨c,e,cs,rest,h4,h5,h6,_⟩:=h3;refine⟨bN h4,?_,c,e,cs,rest,h4,h5,?_⟩
  ·rintro(⟨j,blk,g1,g2⟩|g)
   ·simp only[jy,mZ]at g1;split at g1
    ·simp at g1
    ·rename_i cI;obtain⟨b0,g3,_⟩:=mJ.1 g1;exact cI (hm.inj j k b (by simp[g3]) (by simp[hg]) g2 hb)
   ·exact hm.apart b ⟨k,_,hg,hb⟩ g
  ·have:=h6.aE (yl (k:=k) hm _ (yk (k:=k) (sz:=sz) (l0:=l0))) hr;rwa [CL hr]at this
theorem BF (hm:Mem Γ) (f:aV->aV) (hf:∀j blk,j≠k->get Γ.bx j=some blk->(f blk).xM {Γ with bx:=ma f (del Γ.bx k)} (Γ.ι j)):Mem {Γ with bx:=ma f (del Γ.bx k)} where
 blk j blk hb:=by
  simp only[jy,mZ]at hb;split at hb
  ·simp at hb
  ·rename_i cI;obtain⟨b0,g1,rfl⟩:=mJ.1 hb;exact hf j b0 cI g1
 inj i j b hi hj h1 h2:=by
  have:∀x,(get (ma f (del Γ.bx k)) x).isSome=true->(get Γ.bx x).isSome=true:=by
   intro x hx;simp only[jy,mZ]at hx;split at hx
   ·simp at hx
   ·simpa using hx
  exact hm.inj i j b (this i hi) (this j hj) h1 h2
 bX:=hm.bX
 apart b h hp:=by
  refine hm.apart b ?_ hp;obtain⟨j,blk,h1,h2⟩:=h;simp only[jy,mZ]at h1;split at h1
  ·simp at h1
  ·obtain⟨b0,g1,_⟩:=mJ.1 h1;exact⟨j,b0,g1,h2⟩
 xN b cs h:=by
  obtain⟨h1,h2⟩:=hm.xN b cs h;refine⟨λhb=>h1 ?_,h2⟩;obtain⟨j,blk,h1,h2⟩:=hb;simp only[jy,mZ]at h1;split at h1
  ·simp at h1
  ·obtain⟨b0,g1,_⟩:=mJ.1 h1;exact⟨j,b0,g1,h2⟩
def fz1 (k:Nat) (s:St) (K:St->Prop):Prop:=
 match get s.bx k with
 |some (.arr sz l)=>(ah (λj=>decide (j≠k)) l=true∧k<KB)∧K {env:=ma (iQ k sz l) s.env,bx:=ma (Bk k sz l) (del s.bx k)}
 |_=>False
theorem MU {K:St->Prop} (hs:gm nt ds s Γ a) (hle:Le Γ0 Γ) (ra:HK Γ0) (h:fz1 k s K):ri nt ds Γ0 Γ a K:=by
 unfold fz1 at h;split at h
 ·rename_i sz l hg;obtain⟨⟨hr,hkb⟩,hK⟩:=h;rw[←hs.bx]at hg;have hf:=Jt hs.mem hg hr;refine⟨_,{Γ with bx:=ma (Bk k sz l) (del Γ.bx k)},⟨by simp[hs.bx],hs.size,hs.defers,λj p hj=> ?_,BF hs.mem _ (λj blk cI hb=>(hs.mem.blk j blk hb).iQ hf)⟩,rfl,Po hle ra hkb _ yk,hK⟩;simp only[jy]at hj;obtain⟨q,g1,rfl⟩:=mJ.1 hj;exact(hs.env j q g1).iQ hf
 ·exact h.elim
def bt (f:Nat->Bool):List (Nat×PV)->Bool
 |[]=>true
 |(_,p)::r=>af f p&&bt f r
def b8 (f:Nat->Bool):List (Nat×aV)->Bool
 |[]=>true
 |(_,b)::r=>ab f b&&b8 f r
theorem AJ {f:Nat->Bool}:∀ {l:List (Nat×PV)} {j:Nat} {p:PV},bt f l=true->get l j=some p->af f p=true
 |[],_,_,_,h=>by simp[get]at h
 |
  (i,q)::r,j,p,hr,h=>by
  simp only[bt,aJ]at hr
  simp only[get]at h
  split at h
  ·cases h;exact hr.1
  ·exact AJ hr.2 h
theorem CM {f:Nat->Bool}:∀ {l:List (Nat×aV)} {j:Nat} {p:aV},b8 f l=true->get l j=some p->ab f p=true
 |[],_,_,_,h=>by simp[get]at h
 |
  (i,q)::r,j,p,hr,h=>by
  simp only[b8,aJ]at hr
  simp only[get]at h
  split at h
  ·cases h;exact hr.1
  ·exact CM hr.2 h
theorem K8 {α:Type}:∀l:List (Nat×α),ma id l=l
 |[]=>rfl
 |(j,v)::r=>by simp[ma,K8 r]
def dr1 (k:Nat) (s:St) (K:St->Prop):Prop:=
 (bt (λj=>decide (j≠k)) s.env=true∧b8 (λj=>decide (j≠k)) (del s.bx k)=true∧k<KB)∧K {s with bx:=del s.bx k}
theorem Pp {f:Nat->Bool} {b:aV} (h:ab f b=true):az id b=b:=by
 cases b with
 |box v=>simp only[az,BE (f:=f) h]
 |arr sz l=>simp only[az,CL (f:=f) h]
 |map b ks vs l=>rfl
theorem MV {K:St->Prop} (hs:gm nt ds s Γ a) (hle:Le Γ0 Γ) (ra:HK Γ0) (h:dr1 k s K):ri nt ds Γ0 Γ a K:=by
 obtain⟨⟨h1,h2,h3⟩,hK⟩:=h;have uv:=yl (k:=k) hs.mem id (λ_=>rfl);refine⟨_,{Γ with bx:=ma id (del Γ.bx k)},⟨by simp[hs.bx,K8],hs.size,hs.defers,λj p hj=> ?_,BF hs.mem _ (λj blk cI hb=> ?_)⟩,rfl,Po hle ra h3 _ (λ_=>rfl),hK⟩
 ·have hr:=AJ h1 hj;have:=(hs.env j p hj).aE uv hr;rwa [BE hr]at this
 ·have hr:ab (λj=>decide (j≠k)) blk=true:=by
   refine CM (j:=j) h2 ?_;rw[mZ,if_neg cI,←hs.bx];exact hb
  have:=(hs.mem.blk j blk hb).aE uv hr;rwa [Pp hr]at this
theorem Ju {K:St->Prop} {sl:List Nat} (hs:gm nt ds s Γ a) (hle:Le Γ0 Γ) (h:K {s with env:=oy sl s.env}):ri nt ds Γ0 Γ a K:=
 ⟨{s with env:=oy sl s.env},Γ,⟨hs.bx,hs.size,hs.defers,λj p hj=>hs.env j p (MT sl _ _ hj),hs.mem⟩,rfl,hle,h⟩
def vt1 (n k sz:Nat) (s:St) (K:St->Prop):Prop:=
 match get s.env n with
 |some (.sl _ [] true)=>(get s.bx k=none∧0<sz)∧K {env:=put s.env n (.rs k [] 0 0 0 sz .tip),bx:=put s.bx k (.arr sz [])}
 |_=>False
theorem MW {n:Nat} {K:St->Prop} (hs:gm nt ds s Γ a) (hle:Le Γ0 Γ) (h:vt1 n k sz s K):ri nt ds Γ0 Γ a K:=by
 unfold vt1 at h;split at h
 ·rename_i z hg;obtain⟨⟨gS,fH⟩,hK⟩:=h;rw[←hs.bx]at gS;have hl:=vN Γ (.arr sz []) gS;have hm:=Cl hs.mem gS (blk:= .arr sz []) ⟨by simp,fH,trivial⟩;refine⟨_,Γ.mK k (.arr sz []),⟨by simp[Cx.mK,hs.bx],hs.size,hs.defers,λj p hj=> ?_,hm⟩,rfl,hle.trans hl,hK⟩;simp only[eF]at hj;split at hj
  ·rename_i hnj;subst hnj;simp only[sJ]at hj;subst hj;have h0:=hs.env n _ hg;simp only[aL]at h0⊢;generalize a.tmps.getD n undef=v at h0;cases h0 with
   |
    @sl _ _ cs _ _ _ ad aX h1 h2 h3 h4 h5 h6=>
    have hr0:aX=0:=h4 rfl
    subst hr0
    refine .rs k [] 0 0 0 sz .tip _ (.arr sz []) ⟨by simp[Cx.mK,bG],by simp[aV.aO]⟩ rfl (λ_=>⟨ad,0,rfl,?_⟩) .nil
    unfold ia
    simp[Cx.mK,pv]
  ·exact(hs.env j p hj).mono hl
 ·exact h.elim
mutual
theorem rj:∀p:PV,af (λ_=>true) p=true
 | .st _ l| .ar _ _ l| .tup l| .sl _ l _| .fp _ l _=>by simp only[af];exact nc l
 | .fn _ x y=>by simp only[af,nc x,nc y,Bool.and_self]
 | .gd _ p| .ifc _ p=>by simp only[af];exact rj p
 | .rs .. | .pt .. | .un| .bl _| .int .. | .str _| .np| .nf| .ni| .mp .. =>by simp only[af]
theorem nc:∀l:List PV,ah (λ_=>true) l=true
 |[]=>rfl
 |p::l=>by simp only[ah,rj p,nc l,Bool.and_self]
end
theorem ym (b:aV):ab (λ_=>true) b=true:=by cases b<;>simp[ab,rj,nc]
def CN (k k':Nat) (j:Nat):Nat:=if j=k then k' else j
def mv1 (k k':Nat) (s:St) (K:St->Prop):Prop:=
 match get s.bx k with
 |some b=>(get s.bx k'=none∧k<KB∧k'<KB∧k≠k')∧K {env:=ma (aE (CN k k')) s.env,bx:=put (ma (az (CN k k')) (del s.bx k)) k' (az (CN k k') b)}
 |none=>False
def Cx.mv (Γ:Cx) (k k':Nat) (b:aV):Cx:=
 {heap:=Γ.heap,ι:=λj=>if j=k' then Γ.ι k else Γ.ι j,bx:=put (ma (az (CN k k')) (del Γ.bx k)) k' (az (CN k k') b),bX:=Γ.bX}
theorem zt {k k':Nat} {b:aV} (cI:k≠k') (j:Nat):get (Γ.mv k k' b).bx j=if j=k' then some (az (CN k k') b)else if j=k then none else(get Γ.bx j).map (az (CN k k')):=by
 simp only[Cx.mv,eF,jy,mZ];by_cases h:k'=j
 ·subst h;simp
 ·have h':¬j=k':=λe=>h e.symm;rw[if_neg h,if_neg h'];by_cases h2:j=k
  ·simp[h2]
  ·simp[h2]
theorem BG {k k':Nat} {b:aV} (hg:get Γ.bx k=some b) (cI:k≠k') {x:Nat} (h:(Γ.mv k k' b).gn x):Γ.gn x:=by
 obtain⟨j,blk,h1,h2⟩:=h;rw[zt cI]at h1;simp only[Cx.mv]at h2;by_cases hj:j=k'
 ·rw[if_pos hj]at h2;exact⟨k,b,hg,h2⟩
 ·rw[if_neg hj]at h1 h2;by_cases Ez:j=k
  ·rw[if_pos Ez]at h1;cases h1
  ·rw[if_neg Ez]at h1;obtain⟨b0,g1,_⟩:=mJ.1 h1;exact⟨j,b0,g1,h2⟩
theorem F2 {k k':Nat} {b:aV} (hg:get Γ.bx k=some b) (hf:get Γ.bx k'=none) (cI:k≠k'):zk (λ_=>true) (CN k k') Γ (Γ.mv k k' b) where
 heap:=rfl
 own x _ hn:=by
  rintro(h|h)
  ·exact hn (.inl (BG hg cI h))
  ·exact hn (.inr h)
 ref j blk _ hb:=by
  by_cases hj:j=k
  ·subst hj;rw[hg]at hb;cases hb;exact⟨az (CN j k') b,by rw[zt cI];simp[CN],jx _ _,by simp[CN,Cx.mv]⟩
  ·have Ez:j≠k':=by rintro rfl;rw[hf]at hb;cases hb
   exact⟨az (CN k k') blk,by rw[zt cI];simp[CN,hj,Ez,hb],jx _ _,by simp[CN,Cx.mv,hj,Ez]⟩
theorem aaO (hm:Mem Γ) {k k':Nat} {b:aV} (hg:get Γ.bx k=some b) (hf:get Γ.bx k'=none) (cI:k≠k'):Mem (Γ.mv k k' b) where
 blk j blk hb:=by
  rw[zt cI]at hb;by_cases hj:j=k'
  ·rw[if_pos hj]at hb;cases hb;have:=(hm.blk k b hg).aE (F2 hg hf cI) (ym b);simpa[Cx.mv,hj]using this
  ·rw[if_neg hj]at hb;by_cases Ez:j=k
   ·rw[if_pos Ez]at hb;cases hb
   ·rw[if_neg Ez]at hb;obtain⟨b0,g1,rfl⟩:=mJ.1 hb;have:=(hm.blk j b0 g1).aE (F2 hg hf cI) (ym b0);have hι:(Γ.mv k k' b).ι j=Γ.ι j:=by simp[Cx.mv,hj]
    rw[hι];exact this
 inj i j x hi hj h1 h2:=by
  have back:∀y,(get (Γ.mv k k' b).bx y).isSome=true->(Γ.mv k k' b).ι y=some x->(get Γ.bx (if y=k' then k else y)).isSome=true∧Γ.ι (if y=k' then k else y)=some x∧(y≠k'->y≠k):=by
   intro y hy hx;rw[zt cI]at hy;simp only[Cx.mv]at hx;by_cases Tq:y=k'
   ·rw[if_pos Tq]at hx⊢;exact⟨by simp[hg],hx,λh=>absurd Tq h⟩
   ·rw[if_neg Tq]at hx hy⊢;by_cases hy2:y=k
    ·rw[if_pos hy2]at hy;cases hy
    ·rw[if_neg hy2]at hy;exact⟨by simpa using hy,hx,λ_=>hy2⟩
  obtain⟨a1,a2,a3⟩:=back i hi h1;obtain⟨c1,c2,c3⟩:=back j hj h2;have:=hm.inj _ _ x a1 c1 a2 c2;by_cases fV:i=k'
  ·by_cases y5:j=k'
   ·rw[fV,y5]
   ·rw[if_pos fV,if_neg y5]at this;exact absurd this.symm (c3 y5)
  ·by_cases y5:j=k'
   ·rw[if_neg fV,if_pos y5]at this;exact absurd this (a3 fV)
   ·rw[if_neg fV,if_neg y5]at this;exact this
 bX:=hm.bX
 apart x h hp:=hm.apart x (BG hg cI h) hp
 xN x cs h:=by
  obtain⟨h1,h2⟩:=hm.xN x cs h;exact⟨λhb=>h1 (BG hg cI hb),h2⟩
theorem MX {k k':Nat} {K:St->Prop} (hs:gm nt ds s Γ a) (hle:Le Γ0 Γ) (ra:HK Γ0) (h:mv1 k k' s K):ri nt ds Γ0 Γ a K:=by
 unfold mv1 at h;split at h
 ·rename_i b hg;obtain⟨⟨hf,hkb,azF,cI⟩,hK⟩:=h;rw[←hs.bx]at hg hf;refine⟨_,Γ.mv k k' b,⟨by simp[Cx.mv,hs.bx],hs.size,hs.defers,λj p hj=> ?_,aaO hs.mem hg hf cI⟩,rfl,?_,hK⟩
  ·simp only[jy]at hj;obtain⟨q,g1,rfl⟩:=mJ.1 hj;exact(hs.env j q g1).aE (F2 hg hf cI) (rj q)
  ·refine⟨hle.heap,λx hx h=>hle.gn x hx (BG hg cI h),hle.bX,hle.size,λj blk hj=> ?_⟩;obtain⟨bn,h1,h2,h3⟩:=hle.ref j blk hj;have y5:=ra j blk hj;have hj1:j≠k:=by omega
   have Ez:j≠k':=by omega
   refine⟨az (CN k k') bn,by rw[zt cI];simp[hj1,Ez,h1],by rw[jx];exact h2,λht=> ?_⟩;rw[jx]at ht;obtain⟨g1,g2⟩:=h3 ht;exact⟨by simp only[Cx.mv];rw[if_neg Ez];exact g1,g2⟩
 ·exact h.elim
def G5 (sz:Nat):PV:= .st sz (List.replicate sz .un)
@[simp] theorem ae0 (sz:Nat):(G5 sz).width=sz:=rfl
theorem HJ:∀ {vs:List Value},(∀v∈vs,eK v=true)->aD Γ (List.replicate vs.length .un) vs
 |[],_=> .nil
 |v::vs,h=> .un (h v (by simp)) (HJ λx hx=>h x (by simp[hx]))
theorem EP {sz:Nat}:∀ {j:Nat} {vs:List Value},vs.length=j*sz->(∀v∈vs,eK v=true)->aD Γ (List.replicate j (G5 sz)) vs
 |
  0,vs,h,_=>by
  have:vs=[]:=JdV (by simpa using h)
  subst this;exact .nil
 |
  j+1,vs,h,h1=>by
  rw[JgQ,Nat.one_mul]at h
  have hl:(vs.take sz).length=sz:=by rw[lJ];omega
  have hr:=aD.st (Γ:=Γ) sz (List.replicate sz .un) (by have:=HJ (Γ:=Γ) (vs:=vs.take sz) (λv hv=>h1 v (JbX hv));rwa [hl]at this) hl
   (EP (sz:=sz) (j:=j) (vs:=vs.drop sz) (by rw[JbV];omega) (λv hv=>h1 v (JdJ hv)))
  rw[JcQ]at hr
  exact hr
def mt1 (n:Nat) (s:St) (K:St->Prop):Prop:=
 match get s.env n with
 |
  some (.rs k [] 0 len aO sz .tip)=>(match get s.bx k with
  |some (.arr bP l)=>(bP=sz∧aO=l.length)∧∀c j:Nat,(c=l.length+j∨(c=0∧j=0∧len=0))->
    K {env:=put s.env n (.rs k [] 0 len (l.length+j) sz (.full c)),bx:=put s.bx k (.arr sz (l++List.replicate j (G5 sz)))}
  |_=>False)
 |_=>False
theorem Pq {l l':List PV} {b:Nat} (hm:Mem Γ) (hg:get Γ.bx k=some (.arr sz l)) (hb:Γ.ι k=some b) (ht:l.length≤l'.length)
  (hr:Le Γ {Γ with bx:=put Γ.bx k (.arr sz l')}->(aV.arr sz l').xM {Γ with bx:=put Γ.bx k (.arr sz l')} (some b)):
  Le Γ {Γ with bx:=put Γ.bx k (.arr sz l')}∧Mem {Γ with bx:=put Γ.bx k (.arr sz l')}:=by
 have b9:∀j,get (put Γ.bx k (.arr sz l')) j=if k=j then some (.arr sz l')else get Γ.bx j:=λj=>eF _ _ _ _
 have jW:∀j,(get (put Γ.bx k (.arr sz l')) j).isSome=true->(get Γ.bx j).isSome=true:=by
  intro j hj;rw[b9]at hj;split at hj
  ·rename_i e;subst e;simp[hg]
  ·exact hj
 have hl:Le Γ {Γ with bx:=put Γ.bx k (.arr sz l')}:=by
  refine⟨λ_ _ _=>rfl,λb hb hm=> ?_,rfl,JaQ _,λj blk hj=> ?_⟩
  ·obtain⟨j,blk,h1,h2⟩:=hm;have:=jW j (by rw[h1];rfl);obtain⟨b0,h3⟩:=JaW.1 this;exact⟨j,b0,h3,h2⟩
  ·by_cases e:k=j
   ·subst e;rw[hg]at hj;cases hj;exact⟨.arr sz l',by rw[b9,if_pos rfl],by simpa[aV.aO]using ht,λ_=>⟨rfl,λb hb cs e hh=>⟨cs,hh,rfl⟩⟩⟩
   ·exact⟨blk,by rw[b9,if_neg e];exact hj,JaQ _,λ_=>⟨rfl,λb hb cs e hh=>⟨cs,hh,rfl⟩⟩⟩
 refine⟨hl,λj blk hj=> ?_,λi j b hi hj h1 h2=>hm.inj i j b (jW i hi) (jW j hj) h1 h2,hm.bX,λb hb hp=>hm.apart b ?_ hp,hm.ll hl⟩
 ·rw[b9]at hj;split at hj
  ·rename_i e;subst e;cases hj;have:=hr hl;rw[←hb]at this;exact this
  ·exact(hm.blk j blk hj).mono hl (λb hb=>rfl)
 ·obtain⟨j,blk,h1,h2⟩:=hb;have:=jW j (by rw[h1];rfl);obtain⟨b0,h3⟩:=JaW.1 this;exact⟨j,b0,h3,h2⟩
theorem MY {n:Nat} {K:St->Prop} (hs:gm nt ds s Γ a) (hle:Le Γ0 Γ) (h:mt1 n s K):ri nt ds Γ0 Γ a K:=by
 unfold mt1 at h;split at h
 case h_2=>exact h.elim
 rename_i k len aO sz he;split at h
 case h_2=>exact h.elim
 rename_i bP l hg;obtain⟨⟨rfl,rfl⟩,hK⟩:=h;have lI:=hg;rw[←hs.bx]at lI;obtain⟨ad,aX,hv,dh⟩:=(hs.env n _ he).rs lI rfl;obtain⟨nJ,j6,lG⟩:=hs.mem.blk k _ lI;have azH:=dh;unfold ia at dh;cases hι:Γ.ι k with
 |
  none=>
  rw[hι]at dh
  obtain⟨rfl,rfl,_⟩:=dh
  have hK:=hK 0 0 (.inr ⟨rfl,rfl,rfl⟩)
  rw[List.replicate_zero,JgV,JnQ]at hK
  have lh:=mW lI
  have q1:=hs.le (qi lh) (Co hs.mem lh) (xU:=put s.bx k (.arr bP l)) (by rw[hs.bx])
  refine⟨{env:=put s.env n (.rs k [] 0 0 l.length bP (.full 0)),bx:=put s.bx k (.arr bP l)},{Γ with bx:=put Γ.bx k (.arr bP l)},⟨q1.bx,q1.size,q1.defers,λj p hj=> ?_,q1.mem⟩,rfl,hle.trans (qi lh),hK⟩
  simp only[eF]at hj
  split at hj
  ·rename_i e;subst e;cases hj
   rw[hv]
   simp only[aL]
   refine .rs k [] 0 0 l.length bP _ _ (.arr bP l) ⟨by rw[lh];exact lI,by simp[aV.aO]⟩ rfl (λ_=>⟨ad,0,rfl,?_⟩) .nil
   unfold ia
   rw[show({Γ with bx:=put Γ.bx k (.arr bP l)}:Cx).ι k=none from hι]
   exact⟨rfl,rfl,rfl⟩
  ·exact q1.env j p hj
 |
  some b=>
  rw[hι]at dh lG
  obtain⟨o1,o2,_,o4⟩:=dh
  obtain⟨_,Mj,e0,q1,q2⟩:=o4 rfl
  obtain⟨c,ce,cs,rest,h7,h8,h9,Jb⟩:=lG
  rw[q1]at h7
  simp only[sJ,Obj.cells.injEq]at h7
  obtain⟨rfl,rfl,_⟩:=h7
  have rD:cs.length=l.length*bP:=by rw[h9.length,bf nJ]
  have Sj:Mj.size=cs.length+rest.length:=by rw[←JbZ,h8];simp
  rw[JhQ]at q2
  have hlr:l.length≤aX:=by
   refine Nat.le_of_not_lt λdq=> ?_;have:aX*bP<l.length*bP:=Nat.mul_lt_mul_of_pos_right dq j6;omega
  obtain⟨j,rfl⟩:∃j,aX=l.length+j:=⟨aX-l.length,by omega⟩
  have Hd:rest.length=j*bP:=by rw[JgQ]at q2;omega
  have hK:=hK (l.length+j) j (.inl rfl)
  have Fw:(l++List.replicate j (G5 bP)).length=l.length+j:=by simp
  obtain⟨g1,g2⟩:=Pq (l':=l++List.replicate j (G5 bP)) hs.mem lI hι (by rw[Fw];omega) (λhl=>
   ⟨λx hx=>(JaZ.1 hx).elim (nJ x) (λhx=>by rw[(JqV.1 hx).2];rfl),j6,Mj,e0,cs++rest,[],q1,by rw[JgV];exact h8,(h9.mono hl).append (EP Hd Jb),by simp⟩)
  have t1:=hs.le g1 g2 (xU:=put s.bx k (.arr bP (l++List.replicate j (G5 bP)))) (by rw[hs.bx])
  refine⟨{env:=put s.env n (.rs k [] 0 len (l.length+j) bP (.full (l.length+j))),bx:=put s.bx k (.arr bP (l++List.replicate j (G5 bP)))},_,⟨t1.bx,t1.size,t1.defers,λi p hj=> ?_,g2⟩,rfl,hle.trans g1,hK⟩
  simp only[eF]at hj
  split at hj
  ·rename_i e;subst e;cases hj
   rw[hv]
   simp only[aL]
   refine .rs k [] 0 len _ bP _ _ (.arr bP (l++List.replicate j (G5 bP))) ⟨by simp[bG],by simp[aV.aO]⟩ rfl (λ_=>⟨ad,_,rfl,?_⟩) .nil
   unfold ia
   rw[show({Γ with bx:=put Γ.bx k (.arr bP (l++List.replicate j (G5 bP)))}:Cx).ι k=some b from hι]
   exact⟨o1,o2,rfl,λhc=>by cases hc⟩
  ·exact t1.env i p hj
inductive Cut
 |fz (k:Nat)
 |dr (k:Nat)
 |keep (sl:List Nat)
 |vt (n k sz:Nat)
 |wk (n:Nat)
 |wb (k:Nat)
 |vb (b:Nat) (p:List Step) (k sz:Nat)
 |mv (k k':Nat)
 |mt (n:Nat)
 |es (k:Nat) (l:List PV)
 |ba (n k:Nat)
def wk1 (n:Nat) (s:St) (K:St->Prop):Prop:=
 match get s.env n with
 |some p=>K {s with env:=put s.env n (wk p)}
 |none=>False
theorem MZ {n:Nat} {K:St->Prop} (hs:gm nt ds s Γ a) (hle:Le Γ0 Γ) (h:wk1 n s K):ri nt ds Γ0 Γ a K:=by
 unfold wk1 at h;split at h
 ·rename_i p hp;refine⟨{s with env:=put s.env n (Ab.wk p)},Γ,⟨hs.bx,hs.size,hs.defers,λj q hj=> ?_,hs.mem⟩,rfl,hle,h⟩;simp only[eF]at hj;split at hj
  ·rename_i hnj;subst hnj;cases hj;exact(hs.env _ p hp).wk
  ·exact hs.env j q hj
 ·exact h.elim
def wb1 (k:Nat) (s:St) (K:St->Prop):Prop:=
 match get s.bx k with
 |some (.box v)=>K {s with bx:=put s.bx k (.box (wk v))}
 |_=>False
theorem M0 {K:St->Prop} (hs:gm nt ds s Γ a) (hle:Le Γ0 Γ) (h:wb1 k s K):ri nt ds Γ0 Γ a K:=by
 unfold wb1 at h;split at h
 ·rename_i v hg;rw[←hs.bx]at hg;have b9:∀j,get (put Γ.bx k (.box (Ab.wk v))) j=if k=j then some (.box (Ab.wk v))else get Γ.bx j:=λj=>eF _ _ _ _
  have jW:∀j,(get (put Γ.bx k (.box (Ab.wk v))) j).isSome=true->(get Γ.bx j).isSome=true:=by
   intro j hj;rw[b9]at hj;split at hj
   ·rename_i e;subst e;simp[hg]
   ·exact hj
  have hl:Le Γ {Γ with bx:=put Γ.bx k (.box (Ab.wk v))}:=by
   refine⟨λ_ _ _=>rfl,λb hb hm=> ?_,rfl,JaQ _,λj blk hj=> ?_⟩
   ·obtain⟨j,blk,h1,h2⟩:=hm;have:=jW j (by rw[h1];rfl);obtain⟨b0,h3⟩:=JaW.1 this;exact⟨j,b0,h3,h2⟩
   ·by_cases e:k=j
    ·subst e;rw[hg]at hj;cases hj;exact⟨.box (Ab.wk v),by rw[b9,if_pos rfl],JaQ _,λ_=>⟨rfl,λb hb cs e hh=>⟨cs,hh,rfl⟩⟩⟩
    ·exact⟨blk,by rw[b9,if_neg e];exact hj,JaQ _,λ_=>⟨rfl,λb hb cs e hh=>⟨cs,hh,rfl⟩⟩⟩
  have hm:Mem {Γ with bx:=put Γ.bx k (.box (Ab.wk v))}:=by
   refine⟨λj blk hj=> ?_,λi j b hi hj h1 h2=>hs.mem.inj i j b (jW i hi) (jW j hj) h1 h2,hs.mem.bX,λb hb hp=>hs.mem.apart b ?_ hp,hs.mem.ll hl⟩
   ·rw[b9]at hj;split at hj
    ·rename_i e;subst e;cases hj;obtain⟨b,c,e,h1,h2,h3⟩:=hs.mem.blk _ _ hg;exact⟨b,c,e,h1,h2,h3.wk.mono hl⟩
    ·exact(hs.mem.blk j blk hj).mono hl (λb hb=>rfl)
   ·obtain⟨j,blk,h1,h2⟩:=hb;have:=jW j (by rw[h1];rfl);obtain⟨b0,h3⟩:=JaW.1 this;exact⟨j,b0,h3,h2⟩
  exact⟨{s with bx:=put s.bx k (.box (Ab.wk v))},_,⟨by simp[hs.bx],hs.size,hs.defers,λj q hj=>(hs.env j q hj).mono hl,hm⟩,rfl,hle.trans hl,h⟩
 ·exact h.elim
def vb1 (b:Nat) (p:List Step) (k sz:Nat) (s:St) (K:St->Prop):Prop:=
 match get s.bx b with
 |
  some (.box v)=>(match aM v p,bT v p (.rs k [] 0 0 0 sz .tip)with
  |some (.sl _ [] true),some v'=>(get s.bx k=none∧0<sz)∧K {s with bx:=put (put s.bx k (.arr sz [])) b (.box v')}
  |_,_=>False)
 |_=>False
theorem Pr {v v':PV} (hm:Mem Γ) (hg:get Γ.bx k=some (.box v)) (hv:∀cs,aD Γ [v] cs->aD Γ [v'] cs):
  Le Γ {Γ with bx:=put Γ.bx k (.box v')}∧Mem {Γ with bx:=put Γ.bx k (.box v')}:=by
 have b9:∀j,get (put Γ.bx k (.box v')) j=if k=j then some (.box v')else get Γ.bx j:=λj=>eF _ _ _ _
 have jW:∀j,(get (put Γ.bx k (.box v')) j).isSome=true->(get Γ.bx j).isSome=true:=by
  intro j hj;rw[b9]at hj;split at hj
  ·rename_i e;subst e;simp[hg]
  ·exact hj
 have hl:Le Γ {Γ with bx:=put Γ.bx k (.box v')}:=by
  refine⟨λ_ _ _=>rfl,λb hb hm=> ?_,rfl,JaQ _,λj blk hj=> ?_⟩
  ·obtain⟨j,blk,h1,h2⟩:=hm;have:=jW j (by rw[h1];rfl);obtain⟨b0,h3⟩:=JaW.1 this;exact⟨j,b0,h3,h2⟩
  ·by_cases e:k=j
   ·subst e;rw[hg]at hj;cases hj;exact⟨.box v',by rw[b9,if_pos rfl],JaQ _,λ_=>⟨rfl,λb hb cs e hh=>⟨cs,hh,rfl⟩⟩⟩
   ·exact⟨blk,by rw[b9,if_neg e];exact hj,JaQ _,λ_=>⟨rfl,λb hb cs e hh=>⟨cs,hh,rfl⟩⟩⟩
 refine⟨hl,λj blk hj=> ?_,λi j b hi hj h1 h2=>hm.inj i j b (jW i hi) (jW j hj) h1 h2,hm.bX,λb hb hp=>hm.apart b ?_ hp,hm.ll hl⟩
 ·rw[b9]at hj;split at hj
  ·rename_i e;subst e;cases hj;obtain⟨b,c,e,h1,h2,h3⟩:=hm.blk _ _ hg;exact⟨b,c,e,h1,h2,(hv _ h3).mono hl⟩
  ·exact(hm.blk j blk hj).mono hl (λb hb=>rfl)
 ·obtain⟨j,blk,h1,h2⟩:=hb;have:=jW j (by rw[h1];rfl);obtain⟨b0,h3⟩:=JaW.1 this;exact⟨j,b0,h3,h2⟩
theorem M1 {b:Nat} {p:List Step} {K:St->Prop} (hs:gm nt ds s Γ a) (hle:Le Γ0 Γ) (h:vb1 b p k sz s K):ri nt ds Γ0 Γ a K:=by
 unfold vb1 at h;split at h
 case h_2=>exact h.elim
 rename_i v hg;split at h
 case h_2=>exact h.elim
 rename_i z v' KE GW;obtain⟨⟨gS,fH⟩,hK⟩:=h;rw[←hs.bx]at gS hg;have hl:=vN Γ (.arr sz []) gS;have hm:=Cl hs.mem gS (blk:= .arr sz []) ⟨by simp,fH,trivial⟩;have hbk:b≠k:=by rintro rfl;rw[hg]at gS;simp at gS
 have hg2:get (Γ.mK k (.arr sz [])).bx b=some (.box v):=by
  simp only[Cx.mK];rw[bp _ _ _ _ (λh=>hbk h.symm)];exact hg
 obtain⟨h1,h2⟩:=Pr (v':=v') hm hg2 (by
  intro cs hc;obtain⟨KG,hr⟩:=sv p hc KE;have hw:(PV.sl z [] true).width=1:=rfl;rw[hw]at KG hr
  obtain⟨x,hx⟩:∃x,(cs.drop (bK p)).take 1=[x]:=by
   have hlen:((cs.drop (bK p)).take 1).length=1:=by rw[lJ,JbV];omega
   exact JrZ.1 hlen
  rw[hx]at hr
  have Tp:aD (Γ.mK k (.arr sz [])) [.rs k [] 0 0 0 sz .tip] [x]:=by
   cases hr with
   |
    @sl _ _ cs _ _ _ ad aX h1 h2 h3 h4 h5 h6=>
    have hr0:aX=0:=h4 rfl
    subst hr0
    refine .rs k [] 0 0 0 sz .tip _ (.arr sz []) ⟨by simp[Cx.mK,bG],by simp[aV.aO]⟩ rfl (λ_=>⟨ad,0,rfl,?_⟩) .nil
    unfold ia
    simp[Cx.mK,pv]
  obtain⟨g1,g2,g3⟩:=Ce Tp p hc GW
  have e:bm cs (bK p) [x]=cs:=by
   unfold bm;rw[←hx,lJ,JbV,JdW (by omega),JeJ];rw[←JiW,JcQ,JcQ]
  rwa [e]at g3)
 refine⟨{s with bx:=put (put s.bx k (.arr sz [])) b (.box v')},_,⟨by simp[Cx.mK,hs.bx],hs.size,hs.defers,λj q hj=>((hs.env j q hj).mono hl).mono h1,h2⟩,rfl,(hle.trans hl).trans h1,hK⟩
inductive y6:List PV->List PV->Prop
 |nil:y6 [] []
 |same {p:PV} {l m:List PV}:y6 l m->y6 (p::l) (p::m)
 |emp {a b:Nat} {c:Bool} {l m:List PV}:y6 l m->y6 (.sl a [] c::l) (.sl b [] c::m)
 |st {w:Nat} {x y l m:List PV}:y6 x y->y6 l m->y6 (.st w x::l) (.st w y::m)
theorem y6.refl:∀l:List PV,y6 l l
 |[]=> .nil
 |_::l=> .same (y6.refl l)
theorem y6.len {l m:List PV} (h:y6 l m):l.length=m.length:=by
 induction h with
 |nil=>rfl
 |same _ ih=>simp[ih]
 |emp _ ih=>simp[ih]
 |st _ _ _ ih=>simp[ih]
theorem y6.width {sz:Nat} {l m:List PV} (h:y6 l m):(∀x∈l,x.width=sz)->∀x∈m,x.width=sz:=by
 induction h with
 |nil=>intro h x hx;cases hx
 |
  same _ ih=>
  intro h x hx
  rcases cJ.1 hx with rfl|hx
  ·exact h _ (by simp)
  ·exact ih (λy hy=>h y (by simp[hy])) x hx
 |
  emp _ ih=>
  intro h x hx
  rcases cJ.1 hx with rfl|hx
  ·have:=h _ (JrJ);simpa[PV.width]using this
  ·exact ih (λy hy=>h y (by simp[hy])) x hx
 |
  st _ _ _ ih=>
  intro h x hx
  rcases cJ.1 hx with rfl|hx
  ·have:=h _ (JrJ);simpa[PV.width]using this
  ·exact ih (λy hy=>h y (by simp[hy])) x hx
theorem y6.rep {Γ:Cx} {l m:List PV} (h:y6 l m):∀ {cs:List Value},aD Γ l cs->aD Γ m cs:=by
 induction h with
 |nil=>intro cs h;exact h
 |
  @same p l m _ ih=>
  intro cs h
  obtain⟨c1,c2,rfl,h1,h2⟩:=aD.split (ps:=[p]) (qs:=l) h
  exact h1.cons (ih h2)
 |
  @emp a b c l m _ ih=>
  intro cs h
  obtain⟨c1,c2,rfl,h1,h2⟩:=aD.split (ps:=[.sl a [] c]) (qs:=l) h
  refine aD.cons ?_ (ih h2)
  cases h1 with
  |sl _ _ _ ad aX g1 g2 g3 g4 g5 g6=>exact aD.sl _ _ _ ad aX g1 (by simp) g3 g4 g5 g6
 |
  @st w x y l m _ _ ihx ih=>
  intro cs h
  obtain⟨c1,c2,rfl,h1,h2⟩:=aD.split (ps:=[.st w x]) (qs:=l) h
  refine aD.cons ?_ (ih h2)
  cases h1 with
  |st _ _ g1 g2 g3=>exact aD.st _ _ (ihx g1) g2 g3
theorem Ps {sz:Nat} {l m:List PV} (hm:Mem Γ) (hg:get Γ.bx k=some (.arr sz l)) (hv:y6 l m):
  Le Γ {Γ with bx:=put Γ.bx k (.arr sz m)}∧Mem {Γ with bx:=put Γ.bx k (.arr sz m)}:=by
 have b9:∀j,get (put Γ.bx k (.arr sz m)) j=if k=j then some (.arr sz m)else get Γ.bx j:=λj=>eF _ _ _ _
 have jW:∀j,(get (put Γ.bx k (.arr sz m)) j).isSome=true->(get Γ.bx j).isSome=true:=by
  intro j hj;rw[b9]at hj;split at hj
  ·rename_i e;subst e;simp[hg]
  ·exact hj
 have hl:Le Γ {Γ with bx:=put Γ.bx k (.arr sz m)}:=by
  refine⟨λ_ _ _=>rfl,λb hb hm=> ?_,rfl,JaQ _,λj blk hj=> ?_⟩
  ·obtain⟨j,blk,h1,h2⟩:=hm;have:=jW j (by rw[h1];rfl);obtain⟨b0,h3⟩:=JaW.1 this;exact⟨j,b0,h3,h2⟩
  ·by_cases e:k=j
   ·subst e;rw[hg]at hj;cases hj;exact⟨.arr sz m,by rw[b9,if_pos rfl],by simp[aV.aO,hv.len],λ_=>⟨rfl,λb hb cs e hh=>⟨cs,hh,rfl⟩⟩⟩
   ·exact⟨blk,by rw[b9,if_neg e];exact hj,JaQ _,λ_=>⟨rfl,λb hb cs e hh=>⟨cs,hh,rfl⟩⟩⟩
 refine⟨hl,λj blk hj=> ?_,λi j b hi hj h1 h2=>hm.inj i j b (jW i hi) (jW j hj) h1 h2,hm.bX,λb hb hp=>hm.apart b ?_ hp,hm.ll hl⟩
 ·rw[b9]at hj;split at hj
  ·rename_i e;subst e;cases hj;obtain⟨w1,w2,w3⟩:=hm.blk _ _ hg;refine aV.xM.mono hl (λb hb=>rfl) (blk:= .arr sz m) (ob:=Γ.ι k) ⟨hv.width w1,w2,?_⟩;cases hi:Γ.ι k with
   |none=>trivial
   |
    some b=>
    rw[hi]at w3
    obtain⟨c,e,cs,rest,g1,g2,g3,g4⟩:=w3
    exact⟨c,e,cs,rest,g1,g2,hv.rep g3,g4⟩
  ·exact(hm.blk j blk hj).mono hl (λb hb=>rfl)
 ·obtain⟨j,blk,h1,h2⟩:=hb;have:=jW j (by rw[h1];rfl);obtain⟨b0,h3⟩:=JaW.1 this;exact⟨j,b0,h3,h2⟩
def es1 (k:Nat) (m:List PV) (s:St) (K:St->Prop):Prop:=
 match get s.bx k with
 |some (.arr sz l)=>y6 l m∧K {s with bx:=put s.bx k (.arr sz m)}
 |_=>False
theorem M3 {m:List PV} {K:St->Prop} (hs:gm nt ds s Γ a) (hle:Le Γ0 Γ) (h:es1 k m s K):ri nt ds Γ0 Γ a K:=by
 unfold es1 at h;split at h
 ·rename_i sz l hg;rw[←hs.bx]at hg;obtain⟨h1,h2⟩:=Ps hs.mem hg h.1;exact⟨{s with bx:=put s.bx k (.arr sz m)},_,⟨by simp[hs.bx],hs.size,hs.defers,λj q hj=>(hs.env j q hj).mono h1,h2⟩,rfl,hle.trans h1,h.2⟩
 ·exact h.elim
def ba1 (n k:Nat) (s:St) (K:St->Prop):Prop:=
 match get s.bx k with
 |some (.box v)=>(get s.env n=some (.pt k [] 0)∧0<v.width)∧K {env:=put s.env n (.pt k [.i 0 v.width] 1),bx:=put s.bx k (.arr v.width [v])}
 |_=>False
theorem M4 {n:Nat} {K:St->Prop} (hs:gm nt ds s Γ a) (hle:Le Γ0 Γ) (h:ba1 n k s K):ri nt ds Γ0 Γ a K:=by
 unfold ba1 at h;split at h
 ·rename_i v hg;obtain⟨⟨he,hw⟩,hK⟩:=h;rw[←hs.bx]at hg;have hm:=hs.mem;have b9:∀j,get (put Γ.bx k (.arr v.width [v])) j=if k=j then some (.arr v.width [v])else get Γ.bx j:=λj=>eF _ _ _ _
  have jW:∀j,(get (put Γ.bx k (.arr v.width [v])) j).isSome=true->(get Γ.bx j).isSome=true:=by
   intro j hj;rw[b9]at hj;split at hj
   ·rename_i e;subst e;simp[hg]
   ·exact hj
  have hl:Le Γ {Γ with bx:=put Γ.bx k (.arr v.width [v])}:=by
   refine⟨λ_ _ _=>rfl,λb hb hm=> ?_,rfl,JaQ _,λj blk hj=> ?_⟩
   ·obtain⟨j,blk,h1,h2⟩:=hm;have:=jW j (by rw[h1];rfl);obtain⟨b0,h3⟩:=JaW.1 this;exact⟨j,b0,h3,h2⟩
   ·by_cases e:k=j
    ·subst e;rw[hg]at hj;cases hj;exact⟨.arr v.width [v],by rw[b9,if_pos rfl],by simp[aV.aO],λht=>by simp[aV.aO]at ht⟩
    ·exact⟨blk,by rw[b9,if_neg e];exact hj,JaQ _,λ_=>⟨rfl,λb hb cs e hh=>⟨cs,hh,rfl⟩⟩⟩
  have wv:Mem {Γ with bx:=put Γ.bx k (.arr v.width [v])}:=by
   refine⟨λj blk hj=> ?_,λi j b hi hj h1 h2=>hm.inj i j b (jW i hi) (jW j hj) h1 h2,hm.bX,λb hb hp=>hm.apart b ?_ hp,hm.ll hl⟩
   ·rw[b9]at hj;split at hj
    ·rename_i e;subst e;cases hj;obtain⟨b,c,e,h1,h2,h3⟩:=hm.blk _ _ hg;show aV.xM _ (Γ.ι k) _;rw[h1];exact⟨by simp,hw,c,e,c.toList,[],h2,by simp,h3.mono hl,by simp⟩
    ·exact(hm.blk j blk hj).mono hl (λb hb=>rfl)
   ·obtain⟨j,blk,h1,h2⟩:=hb;have:=jW j (by rw[h1];rfl);obtain⟨b0,h3⟩:=JaW.1 this;exact⟨j,b0,h3,h2⟩
  refine⟨_,_,⟨by simp[hs.bx],hs.size,hs.defers,λj q hj=> ?_,wv⟩,rfl,hle.trans hl,hK⟩;simp only[eF]at hj;split at hj
  ·rename_i e;subst e;cases hj;obtain⟨b,h1,h2⟩:=(hs.env _ _ he).pt hg (by simp[aV.aO]);simp only[aL];exact .pt k _ 1 _ (.arr v.width [v]) ⟨by rw[b9,if_pos rfl],by simp[aV.aO]⟩ (by rw[h2];rfl) (λ_=>⟨b,h1,by rw[h2];simp[bK]⟩) .nil
  ·exact(hs.env j q hj).mono hl
 ·exact h.elim
def gU:Cut->St->(St->Prop)->Prop
 | .fz k,s,K=>fz1 k s K
 | .dr k,s,K=>dr1 k s K
 | .keep sl,s,K=>K {s with env:=oy sl s.env}
 | .vt n k sz,s,K=>vt1 n k sz s K
 | .wk n,s,K=>wk1 n s K
 | .wb k,s,K=>wb1 k s K
 | .vb b p k sz,s,K=>vb1 b p k sz s K
 | .mv k k',s,K=>mv1 k k' s K
 | .mt n,s,K=>mt1 n s K
 | .es k l,s,K=>es1 k l s K
 | .ba n k,s,K=>ba1 n k s K
def iR:List Cut->St->(St->Prop)->Prop
 |[],s,K=>K s
 |c::r,s,K=>gU c s λs'=>iR r s' K
theorem qo {K:St->Prop} (ra:HK Γ0):∀(c:List Cut) {s:St} {Γ:Cx},gm nt ds s Γ a->Le Γ0 Γ->iR c s K->ri nt ds Γ0 Γ a K
 |[],s,Γ,hs,hle,h=>⟨s,Γ,hs,rfl,hle,h⟩
 |
  c::r,s,Γ,hs,hle,h=>by
  have:ri nt ds Γ0 Γ a λs'=>iR r s' K:=by
   cases c with
   |fz k=>exact MU hs hle ra h
   |dr k=>exact MV hs hle ra h
   |keep sl=>exact Ju hs hle h
   |vt n k sz=>exact MW hs hle h
   |wk n=>exact MZ hs hle h
   |wb k=>exact M0 hs hle h
   |vb b p k sz=>exact M1 hs hle h
   |mv k k'=>exact MX hs hle ra h
   |mt n=>exact MY hs hle h
   |es k l=>exact M3 hs hle h
   |ba n k=>exact M4 hs hle h
  obtain⟨s',Γ',h1,h2,h3,h4⟩:=this
  obtain⟨s2,Γ2,g1,g2,g3,g4⟩:=qo ra r h1 h3 h4
  exact⟨s2,Γ2,g1,by rw[g2,h2],g3,g4⟩
end Go.Ab
namespace Go.Ab
variable [cL]
variable {P:Program} {nt:Nat} {ds:List Deferred} {s s':St} {Γ:Cx} {a:Act} {w:World} {Q:Exit->Act->World->Prop} [eJ]
def HL:aV:= .map 0 (.i .u8) (.i .u8) []
def Sub (b c:List (Nat×aV)):Prop:=∀k blk,get b k=some blk->get c k=some blk∨blk=HL∧∃v,get c k=some (.box v)
theorem Sub.refl (b:List (Nat×aV)):Sub b b:=λ_ _ h=> .inl h
theorem Sub.trans {a b c:List (Nat×aV)} (h:Sub a b) (h':Sub b c):Sub a c:=by
 intro k blk hk;rcases h k blk hk with h1|⟨h1,v,h2⟩
 ·exact h' k blk h1
 ·rcases h' k _ h2 with h3|⟨h3,_⟩
  ·exact .inr ⟨h1,v,h3⟩
  ·simp[HL]at h3
theorem HM (hb:Sub s.bx s'.bx) {p:PV} {K:Nat->List PV->Prop} (h:content s p K):content s' p K:=by
 cases p<;>simp only[content]at h⊢<;>first|exact h|skip
 rename_i k p off len aO sz c;cases hg:get s.bx k with
 |none=>rw[hg]at h;exact h.elim
 |
  some b=>
  rw[hg]at h
  rcases hb k b hg with h1|⟨rfl,v1,h1⟩
  ·rw[h1];exact h
  ·rw[h1];simp only[HL]at h⊢<;>exact h
theorem Pt (hb:Sub s.bx s'.bx) {op:BinOp} {e:ET} {p q:PV} {K:PV->Prop} (h:sx s op e p q K):sx s' op e p q K:=by
 cases e<;>simp only[sx]at h⊢<;>first|exact h|skip
 cases p<;>cases q<;>simp only at h⊢<;>first|exact h|skip
 rename_i k _ _;cases hg:get s.bx k with
 |none=>rw[hg]at h;exact h.elim
 |
  some b=>
  rw[hg]at h
  rcases hb k b hg with h1|⟨rfl,v1,h1⟩
  ·rw[h1];exact h
  ·rw[h1];simp only[HL,aV.aO]at h⊢<;>exact h
theorem bE {g:Bool} {x:AX} {K K':PV->Prop} (hk:vg g s x K) (h:∀p,K p->K' p):vg g s x K':=by
 obtain⟨p,h1,h2⟩:=sI g s x K hk;exact h2 K' (h p h1)
theorem qp {p:PV} {K K':Int->Prop} (hk:pC p K) (h:∀n,K n->K' n):pC p K':=by
 obtain⟨n,h1,h2⟩:=rf p K hk;exact h2 K' (h n h1)
theorem Jv {g:Bool} {k:AK} {K:PV->Prop} (hb:Sub s.bx s'.bx) (h:cA s s' k.reads) (he:ev g s k K):ev g s' k K:=by
 cases k with
 |mv x=>simp only[ev]at he⊢;rw[aH h];exact he
 |pick c a b=>simp only[ev]at he⊢;rw[aH h.left.left,lO h.left.right,lO h.right];exact he
 |build z parts=>simp only[ev]at he⊢;rw[nT h];exact he
 |
  load agg w x=>
  simp only[ev]at he⊢;rw[aH h]
  refine bE he λp hp=> ?_
  cases p<;>simp only at hp⊢<;>first|exact hp|skip
  rename_i k _ _
  cases hg:get s.bx k with
  |none=>rw[hg]at hp;exact hp.elim
  |
   some b=>
   rw[hg]at hp
   rcases hb k b hg with h1|⟨rfl,v1,h1⟩
   ·rw[h1];exact hp
   ·rw[h1];simp only[HL,oU]at hp⊢<;>exact hp
 |
  nilCheck x=>
  simp only[ev]at he⊢;rw[aH h]
  refine bE he λp hp=> ?_
  cases p<;>first|exact hp|(rename_i f _ _;cases f<;>exact hp)|skip
  rename_i k _ _
  simp only at hp⊢
  cases hg:get s.bx k with
  |none=>rw[hg]at hp;exact hp.elim
  |
   some b=>
   rw[hg]at hp
   rcases hb k b hg with h1|⟨rfl,v1,h1⟩
   ·rw[h1];exact hp
   ·rw[h1];simp only[HL,aV.aO]at hp⊢<;>exact hp
 |bin op e x y=>simp only[ev]at he⊢;rw[aH h.left];refine bE he λp hp=> ?_;rw[aH h.right];exact bE hp λq hq=>Pt hb hq
 |un op x=>simp only[ev]at he⊢;rw[aH h];exact he
 |convI k x=>simp only[ev]at he⊢;rw[aH h];exact he
 |convS x=>simp only[ev]at he⊢;rw[aH h];exact bE he λp hp=>HM hb hp
 |mkFunc f a b=>simp only[ev]at he⊢;rw[fK h.left];simp only[fK h.right];exact he
 |
  slice k x lo hi mx=>
  have hx:=aH (g:=g) h.left
  have hl:=λn c=>CF (g:=g) h.right.left h.right.right.left n c
  have hm:=h.right.right.right
  cases k with
  |str=>simp only[ev,hx,hl]at he⊢;exact he
  |
   sl sz=>
   simp only[ev,hx,hl]at he⊢
   refine bE he λp hp=> ?_
   cases p<;>simp only at hp⊢<;>first|exact hp|skip
   ·cases mx with
    |none=>exact hp
    |some m=>simp only at hp⊢;rw[aH (x:=m) hm];exact hp
   ·rename_i k _ _ _ _ _ _
    cases hg:get s.bx k with
    |none=>rw[hg]at hp;exact hp.elim
    |
     some b=>
     rw[hg]at hp
     rcases hb k b hg with h1|⟨rfl,v1,h1⟩
     ·rw[h1]
      cases mx with
      |none=>exact hp
      |some m=>simp only at hp⊢;rw[aH (x:=m) hm];exact hp
     ·rw[h1];simp only[HL,aV.aO]at hp⊢
      cases mx with
      |none=>exact hp
      |some m=>simp only at hp⊢;rw[aH (x:=m) hm];exact hp
  |
   ar n sz=>
   simp only[ev,hx,hl]at he⊢
   refine bE he λp hp=> ?_
   cases p<;>simp only at hp⊢<;>first|exact hp|skip
   rename_i k _ _
   cases hg:get s.bx k with
   |none=>rw[hg]at hp;exact hp.elim
   |
    some b=>
    rw[hg]at hp
    rcases hb k b hg with h1|⟨rfl,v1,h1⟩
    ·rw[h1];exact hp
    ·rw[h1];simp only[HL,aV.aO]at hp⊢<;>exact hp
 |
  fieldA i off x=>
  simp only[ev]at he⊢;rw[aH h]
  refine bE he λp hp=> ?_
  cases p<;>simp only at hp⊢<;>first|exact hp|skip
  rename_i k _ _
  cases hg:get s.bx k with
  |none=>rw[hg]at hp;exact hp.elim
  |
   some b=>
   rw[hg]at hp
   rcases hb k b hg with h1|⟨rfl,v1,h1⟩
   ·rw[h1];exact hp
   ·rw[h1];simp only[HL,aV.aO]at hp⊢<;>exact hp
 |
  s2a n sz x=>
  simp only[ev]at he⊢;rw[aH h]
  refine bE he λp hp=> ?_
  cases p<;>simp only at hp⊢<;>first|exact hp|skip
  rename_i k _ _ _ _ _ _
  cases hg:get s.bx k with
  |none=>rw[hg]at hp;exact hp.elim
  |
   some b=>
   rw[hg]at hp
   rcases hb k b hg with h1|⟨rfl,v1,h1⟩
   ·rw[h1];exact hp
   ·rw[h1];simp only[HL,aV.aO]at hp⊢<;>exact hp
 |field i off agg w x=>simp only[ev]at he⊢;rw[aH h];exact he
 |
  indexA k x i=>
  have hx:=aH (g:=g) h.left
  have hi:=aH (g:=g) h.right
  cases k with
  |str=>simp only[ev]at he
  |
   sl sz=>
   simp only[ev,hx,hi]at he⊢
   refine bE he λp hp=>bE hp λq hq=>qp hq λj hj=> ?_
   cases p<;>simp only at hj⊢<;>first|exact hj|skip
   rename_i k _ _ _ _ _ _
   cases hg:get s.bx k with
   |none=>rw[hg]at hj;exact hj.elim
   |
    some b=>
    rw[hg]at hj
    rcases hb k b hg with h1|⟨rfl,v1,h1⟩
    ·rw[h1];exact hj
    ·rw[h1];simp only[HL,aV.aO]at hj⊢<;>exact hj
  |
   ar n sz=>
   simp only[ev,hx,hi]at he⊢
   refine bE he λp hp=>bE hp λq hq=>qp hq λj hj=>⟨hj.1,?_⟩
   have hj:=hj.2
   cases p<;>simp only at hj⊢<;>first|exact hj|skip
   rename_i k _ _ _
   cases hg:get s.bx k with
   |none=>rw[hg]at hj;exact hj.elim
   |
    some b=>
    rw[hg]at hj
    rcases hb k b hg with h1|⟨rfl,v1,h1⟩
    ·rw[h1];exact hj
    ·rw[h1];simp only[HL,aV.aO]at hj⊢<;>exact hj
 |index agg n w x i=>simp only[ev]at he⊢;rw[aH h.left,aH h.right];exact he
 |indexS x i=>simp only[ev]at he⊢;rw[aH h.left,aH h.right];exact he
 |extract i x=>simp only[ev]at he⊢;rw[lO h];exact he
 |
  len x=>
  simp only[ev]at he⊢;rw[aH h]
  refine bE he λp hp=> ?_
  cases p<;>simp only at hp⊢<;>first|exact hp|skip
  rename_i k _ _ _ _ _ _
  cases hg:get s.bx k with
  |none=>rw[hg]at hp;exact hp.elim
  |
   some b=>
   rw[hg]at hp
   rcases hb k b hg with h1|⟨rfl,v1,h1⟩
   ·rw[h1];exact hp
   ·rw[h1];simp only[HL,aV.aO]at hp⊢<;>exact hp
 |
  cap x=>
  simp only[ev]at he⊢;rw[aH h]
  refine bE he λp hp=> ?_
  split at hp
  ·rename_i k p off len aO sz n
   cases hg:get s.bx k with
   |none=>rw[hg]at hp;exact hp.elim
   |
    some b=>
    rw[hg]at hp
    rcases hb k b hg with h1|⟨rfl,v1,h1⟩
    ·rw[h1];exact hp
    ·rw[h1];simp only[HL,aV.aO]at hp⊢<;>exact hp
  ·exact hp.elim
 |lenS x=>simp only[ev]at he⊢;rw[aH h];exact he
 |lenC n=>simp only[ev]at he⊢;exact he
 |mm mx xs=>simp only[ev]at he⊢;rw[fK h];exact he
 |_=>simp only[ev]at he
def Qv (P:Program) (r:St) (o:AO) (v:PV):Prop:=∀s':St,Sub r.bx s'.bx->cA r s' o.reads->∀K':St->Prop,K' (s'.put o.dst v)->fX P s' o K'
theorem F3 {o:AO} {K:St->Prop} (hq:o.quiet=true) (h:jX P s o K):
  ∃v,K (s.put o.dst v)∧∀s',Sub s.bx s'.bx->cA s s' o.k.reads->∀K':St->Prop,K' (s'.put o.dst v)->jX P s' o K':=by
 obtain⟨dst,guard,mg,k⟩:=o;cases k with
 |call f args=>simp[AO.quiet]at hq
 |
  callq f args=>
  simp only[jX]at h⊢
  unfold ql at h
  obtain⟨pf,h,h1⟩:=sI _ _ _ _ h
  obtain⟨ps,h,h2⟩:=tq _ _ _ _ h
  split at h
  case h_2=>exact h.elim
  rename_i fid first cap
  obtain⟨v,Bu,y9,hK⟩:=h
  refine⟨v,hK,λs' hb ha K' kZ=> ?_⟩
  unfold ql
  rw[aH ha.left]
  refine h1 _ ?_
  rw[fK ha.right]
  exact h2 _ ⟨v,Bu,y9,kZ⟩
 |
  buildSlice own sz z n parts=>
  simp only[AO.quiet,JiQ]at hq
  subst hq
  simp only[jX,pE,if_true]at h⊢
  simp only[ex]at h
  obtain⟨ps,h,h1⟩:=zn _ _ _ _ h
  split at h
  case h_2=>exact h.elim
  rename_i l hl
  simp only[fJ,if_false]at h
  refine⟨_,h,λs' hb ha K' kZ=> ?_⟩
  simp only[ex]
  rw[nT ha]
  refine h1 _ ?_
  simp only[hl,fJ,if_false]
  exact kZ
 |
  _=>
  first
  |(simp[AO.quiet,pE]at hq;done)
  |(simp only[jX,pE,fJ,if_false]at h⊢
    obtain⟨v,hK,hv⟩:=ug _ _ _ _ h
    refine⟨v,hK,λs' hb ha K' kZ=> ?_⟩
    exact Jv hb ha (hv _ kZ))
theorem vR {o:AO} {K:St->Prop} (hq:o.quiet=true) (h:fX P s o K):∃v,K (s.put o.dst v)∧Qv P s o v:=by
 unfold fX at h;cases hg:o.guard with
 |
  none=>
  rw[hg]at h
  obtain⟨v,hK,hv⟩:=F3 hq h
  refine⟨v,hK,λs' hb ha K' kZ=> ?_⟩
  unfold fX;rw[hg]
  exact hv s' hb ha.right K' kZ
 |
  some gw=>
  obtain⟨sl,want⟩:=gw
  rw[hg]at h
  simp only at h
  have b9:∀ {s':St},cA s s' o.reads->get s'.env sl=get s.env sl:=λha=>ha sl (by simp[AO.reads,hg])
  split at h
  ·rename_i b hb
   split at h
   ·rename_i hm
    obtain⟨v,hK,hv⟩:=ug _ _ _ _ h
    refine⟨_,hK,λs' lK ha K' kZ=> ?_⟩
    unfold fX;rw[hg];simp only[b9 ha,hb,hm,if_true]
    exact Jv lK ha.right (hv _ kZ)
   ·rename_i hm
    by_cases pU:b=want
    ·obtain⟨v,hK,hv⟩:=F3 hq (h.1 pU)
     refine⟨v,hK,λs' lK ha K' kZ=> ?_⟩
     unfold fX;rw[hg];simp only[b9 ha,hb,hm]
     exact⟨λ_=>hv s' lK ha.right K' kZ,λhn=>absurd pU hn⟩
    ·refine⟨.un,h.2 pU,λs' lK ha K' kZ=> ?_⟩
     unfold fX;rw[hg];simp only[b9 ha,hb,hm]
     exact⟨λhn=>absurd hn pU,λ_=>kZ⟩
  ·rename_i g b hb
   split at h
   ·rename_i hm
    obtain⟨v,hK,hv⟩:=ug _ _ _ _ h
    refine⟨_,hK,λs' lK ha K' kZ=> ?_⟩
    unfold fX;rw[hg];simp only[b9 ha,hb,hm,if_true]
    exact Jv lK ha.right (hv _ kZ)
   ·rename_i hm
    by_cases pU:g=true∧b=want
    ·obtain⟨v,hK,hv⟩:=F3 hq (h.1 pU.1 pU.2)
     refine⟨v,hK,λs' lK ha K' kZ=> ?_⟩
     unfold fX;rw[hg];simp only[b9 ha,hb,hm]
     exact⟨λ_ _=>hv s' lK ha.right K' kZ,λhn=>absurd pU.2 (hn pU.1)⟩
    ·refine⟨.un,h.2 (λh1 h2=>pU ⟨h1,h2⟩),λs' lK ha K' kZ=> ?_⟩
     unfold fX;rw[hg];simp only[b9 ha,hb,hm]
     exact⟨λh1 h2=>absurd ⟨h1,h2⟩ pU,λ_=>kZ⟩
  ·exact h.elim
end Go.Ab
namespace Go.Ab
variable [cL]
variable {P:Program} {nt:Nat} {ds:List Deferred} {s s':St} [eJ]
def uh (d:Option Nat) (s t:St):Prop:=∀n,d≠some n->get t.env n=get s.env n
theorem gX {k:Nat} {v:PV} {b:List (Nat×aV)}:uh (some k) s {env:=put s.env k v,bx:=b}:=by
 intro n hn;rw[bp];intro e;exact hn (by rw[e])
theorem kh {d:Option Nat} {v:PV} {b:List (Nat×aV)}:uh d s ({s with bx:=b}.put d v):=by
 cases d with
 |none=>intro n _;rfl
 |some k=>exact gX
theorem HN {d:Option Nat} {b:List (Nat×aV)}:uh d s {s with bx:=b}:=λ_ _=>rfl
theorem nj {e k:Nat} {u v:PV} {b:List (Nat×aV)} (h:k≠e):({env:=put (put s.env e u) k v,bx:=b}:St)=St.put {env:=put s.env k v,bx:=b} (some e) u:=by
 simp only[St.put];rw[Ab.put_comm (Ne.symm h)]
theorem qq {e:Nat} {d:Option Nat} {u v:PV} {b:List (Nat×aV)} (h:d≠some e):St.put {s.put (some e) u with bx:=b} d v=St.put (St.put {s with bx:=b} d v) (some e) u:=by
 cases d with
 |none=>rfl
 |
  some k=>
  have:k≠e:=λh'=>h (by rw[h'])
  simp only[St.put];rw[Ab.put_comm (Ne.symm this)]
theorem AL {e:Nat} {u:PV} {p:PV}:content (s.put (some e) u) p=content s p:=wS rfl p
theorem K9 {e:Nat} {u:PV} {str:Bool} {sz:Nat} {q:PV} {K:List PV->Prop}:src (s.put (some e) u) str sz q K=src s str sz q K:=by
 unfold src;simp only[AL]
theorem yn {e:Nat} {u:PV} {d:Option Nat} {sz bytes:Nat} {p:PV} {ys:List PV} {K:St->Prop} (hd:d≠some e) (h:fW (s.put (some e) u) d sz bytes p ys K):
  fW s d sz bytes p ys λt=>K (t.put (some e) u)∧uh d s t:=by
 cases d with
 |none=>exact h.elim
 |
  some k=>
  have hk:k≠e:=λh'=>hd (by rw[h'])
  unfold fW at h⊢
  simp only at h⊢
  split at h
  ·refine⟨h.1,?_,gX⟩
   rw[←nj hk];exact h.2
  ·have lK:(s.put (some e) u).bx=s.bx:=rfl
   rw[lK]at h
   split at h
   ·refine⟨h.1,?_,gX⟩
    rw[←nj hk];exact h.2
   ·exact h.elim
  ·have lK:(s.put (some e) u).bx=s.bx:=rfl
   rw[lK]at h
   split at h
   ·refine⟨h.1,λhle=>⟨?_,gX⟩,λdq=>⟨?_,gX⟩⟩
    ·rw[←nj hk];exact h.2.1 hle
    ·rw[←nj hk];exact h.2.2 dq
   ·exact h.elim
  ·rw[AL]at h
   obtain⟨bP,l,h,h2⟩:∃bP l,_∧_:=by
    have:=h;exact qm _ _ _ this
   exact h2 _ ⟨h.1,by rw[←nj hk];exact h.2,gX⟩
  ·exact h.elim
theorem Jw {e:Nat} {u:PV} {d:Option Nat} {sz bytes:Nat} {z p:PV} {m:Int} {K:St->Prop} (hd:d≠some e) (h:qf (s.put (some e) u) d sz bytes z p m K):
  qf s d sz bytes z p m λt=>K (t.put (some e) u)∧uh d s t:=by
 cases d with
 |none=>exact h.elim
 |
  some k=>
  have hk:k≠e:=λh'=>hd (by rw[h'])
  unfold qf at h⊢
  simp only at h⊢
  split at h
  ·have lK:(s.put (some e) u).bx=s.bx:=rfl
   rw[lK]at h
   split at h
   ·refine⟨h.1,?_,gX⟩
    rw[←nj hk];exact h.2
   ·exact h.elim
  ·exact h.elim
theorem xf {e:Nat} {u:PV} {d:Option Nat} {sz:Nat} {p:PV} {ys:List PV} {K:St->Prop} (hd:d≠some e) (h:ke (s.put (some e) u) d sz p ys K):
  ke s d sz p ys λt=>K (t.put (some e) u)∧uh d s t:=by
 have lK:(s.put (some e) u).bx=s.bx:=rfl;cases p<;>simp only[ke]at h⊢<;>first|exact h|skip
 rename_i k pth off len aO bP c;rw[lK]at h;split at h
 ·refine⟨h.1,?_,kh⟩;rw[←qq hd];exact h.2
 ·rename_i v hv;split at h
  ·rename_i sz'' n l hg;split at h
   ·rename_i v' hs;refine⟨h.1,?_,kh⟩;rw[←qq hd];exact h.2
   ·exact h.elim
  ·exact h.elim
 ·exact h.elim
theorem Pu {e:Nat} {u:PV} {d:Option Nat} {k:AK} {K:St->Prop} (hd:d≠some e) (hr:e∉k.reads) (h:ex (s.put (some e) u) d k K):
  ex s d k λt=>K (t.put (some e) u)∧uh d s t:=by
 have ag:cA s (s.put (some e) u) k.reads:=cA.put (λj hj=>by cases hj;exact hr);have lK:(s.put (some e) u).bx=s.bx:=rfl;cases k with
 |
  alloc z=>
  cases d with
  |none=>exact h.elim
  |
   some k=>
   have hk:k≠e:=λh'=>hd (by rw[h'])
   simp only[ex]at h⊢
   refine⟨h.1,?_,gX⟩
   rw[←nj hk];exact h.2
 |
  box x=>
  cases d with
  |none=>exact h.elim
  |
   some k=>
   have hk:k≠e:=λh'=>hd (by rw[h'])
   simp only[ex]at h⊢
   rw[aH ag]at h
   refine bE h λp hp=>⟨hp.1,?_,gX⟩
   rw[←nj hk];exact hp.2
 |
  buildSlice own sz z n parts=>
  simp only[ex]at h⊢
  rw[nT ag]at h
  obtain⟨ps,h,h1⟩:=zn _ _ _ _ h
  refine h1 _ ?_
  split at h
  ·split at h
   ·cases d with
    |none=>exact h.elim
    |
     some k=>
     have hk:k≠e:=λh'=>hd (by rw[h'])
     rename_i l hl ho
     simp only[hl,if_true]
     refine⟨h.1,?_,gX⟩
     rw[←nj hk];exact h.2
   ·rename_i l hl ho
    simp only[if_neg ho]
    refine⟨?_,kh (b:=s.bx)⟩
    have:=qq (s:=s) (b:=s.bx) (u:=u) (v:= .sl sz l true) hd
    exact this▸h
  ·exact h.elim
 |
  makeSlice sz bytes z len cap=>
  cases d with
  |
   none=>
   simp only[ex]at h
   obtain⟨p,h,_⟩:=sI _ _ _ _ h
   obtain⟨l,h,_⟩:=rf _ _ h
   obtain⟨q,h,_⟩:=sI _ _ _ _ h
   obtain⟨c,h,_⟩:=rf _ _ h
   exact h.elim
  |
   some k=>
   have hk:k≠e:=λh'=>hd (by rw[h'])
   simp only[ex]at h⊢
   rw[aH ag.left]at h
   refine bE h λp hp=>qp hp λl hl=> ?_
   rw[aH ag.right]at hl
   refine bE hl λq hq=>qp hq λc hc=>⟨hc.1,?_,gX⟩
   rw[←nj hk];exact hc.2
 |
  store n x y=>
  simp only[ex]at h⊢
  rw[aH ag.left]at h
  refine bE h λp hp=> ?_
  rw[aH ag.right]at hp
  refine bE hp λv hv=> ?_
  cases p<;>simp only at hv⊢
  rename_i k pth aO
  rw[lK]at hv
  split at hv
  ·split at hv
   ·exact⟨hv.1,hv.2,HN⟩
   ·exact hv.elim
  ·exact hv.elim
 |
  isNil ng x=>
  simp only[ex]at h⊢
  rw[aH ag]at h
  refine bE h λp hp=> ?_
  cases p<;>simp only at hp⊢
  ·intro b hb
   refine⟨?_,kh (b:=s.bx)⟩
   have:=qq (s:=s) (b:=s.bx) (u:=u) (v:= .bl (b !=ng)) hd
   exact this▸hp b hb
  ·rename_i k _ _ _ _ _ _
   rw[lK]at hp
   split at hp
   ·refine⟨hp.1,λb hb=>⟨?_,kh (b:=s.bx)⟩⟩
    have:=qq (s:=s) (b:=s.bx) (u:=u) (v:= .bl (b !=ng)) hd
    exact this▸hp.2 b hb
   ·exact hp.elim
 |
  appendZ sz bytes z x y=>
  simp only[ex]at h⊢
  rw[aH ag.left]at h
  refine bE h λp hp=> ?_
  rw[aH ag.right]at hp
  refine bE hp λq hq=>qp hq λm hm=>Jw hd hm
 |
  append sz bytes str x y=>
  simp only[ex]at h⊢
  rw[aH ag.left]at h
  refine bE h λp hp=> ?_
  rw[aH ag.right]at hp
  refine bE hp λq hq=> ?_
  rw[K9]at hq
  unfold src at hq⊢
  split at hq
  ·rename_i hs
   simp only[hs,if_true]
   cases q<;>simp only at hq⊢
   exact⟨hq.1,yn hd hq.2⟩
  ·rename_i hs
   simp only[hs]
   obtain⟨z,l,hq,h2⟩:=qm _ _ _ hq
   exact h2 _ ⟨hq.1,yn hd hq.2⟩
 |
  copy sz x y=>
  simp only[ex]at h⊢
  rw[aH ag.left]at h
  refine bE h λp hp=> ?_
  rw[aH ag.right]at hp
  refine bE hp λq hq=> ?_
  have avN:∀str,src (s.put (some e) u) str sz q (λys=>ke (s.put (some e) u) d sz p ys K)->src s str sz q (λys=>ke s d sz p ys λt=>K (t.put (some e) u)∧uh d s t):=by
   intro str hq;rw[K9]at hq;unfold src at hq⊢;split at hq
   ·rename_i hs;simp only[hs,if_true];cases q<;>simp only at hq⊢;exact⟨hq.1,xf hd hq.2⟩
   ·rename_i hs;simp only[hs];obtain⟨z,l,hq,h2⟩:=qm _ _ _ hq;exact h2 _ ⟨hq.1,xf hd hq.2⟩
  cases q<;>exact avN _ hq
 |
  fill sz z x=>
  simp only[ex]at h⊢
  rw[aH ag]at h
  refine bE h λp hp=> ?_
  obtain⟨h1,h2⟩:=hp
  subst h1
  refine⟨rfl,?_⟩
  cases p<;>simp only at h2⊢<;>first|exact h2.elim|skip
  exact xf hd h2
 |
  mkMap ks vs=>
  cases d with
  |none=>exact h.elim
  |
   some k=>
   have hk:k≠e:=λh'=>hd (by rw[h'])
   simp only[ex]at h⊢
   refine⟨h.1,λb=>⟨?_,gX⟩⟩
   rw[←nj hk];exact h.2 b
 |
  mapGet ks vs z ok m x=>
  simp only[ex]at h⊢
  rw[aH ag.left]at h
  refine bE h λpm hp=> ?_
  rw[aH ag.right]at hp
  refine bE hp λp hq=> ?_
  cases pm<;>simp only at hq⊢<;>first|exact hq.elim|skip
  rw[lK]at hq
  split at hq
  ·rename_i b' BZ D3 l hg
   refine⟨hq.1,?_,kh (b:=s.bx)⟩
   have:=qq (s:=s) (b:=s.bx) (u:=u) (v:=if ok=true then .tup [(Ax p l).getD z,.bl (Ax p l).isSome]else(Ax p l).getD z) hd
   exact this▸hq.2
  ·exact hq.elim
 |
  mapSet ks vs m x y=>
  simp only[ex]at h⊢
  rw[aH ag.left]at h
  refine bE h λpm hp=> ?_
  rw[aH ag.right.left]at hp
  refine bE hp λp hq=> ?_
  rw[aH ag.right.right]at hq
  refine bE hq λv hv=> ?_
  cases pm<;>simp only at hv⊢<;>first|exact hv.elim|skip
  rw[lK]at hv
  split at hv
  ·exact⟨hv.1,hv.2,HN⟩
  ·exact hv.elim
 |
  convL x=>
  simp only[ex]at h⊢
  rw[aH ag]at h
  refine bE h λp hp=> ?_
  cases p<;>simp only at hp⊢<;>first|exact hp.elim|skip
  rename_i k pth off len aO sz c
  rw[lK]at hp
  split at hp
  ·rename_i bP l hg
   refine⟨hp.1,?_,kh (b:=put s.bx k (.arr 1 (l++[.int .u8 0])))⟩
   have:=qq (s:=s) (b:=put s.bx k (.arr 1 (l++[.int .u8 0]))) (u:=u) (v:= .sl 1 l false) hd
   exact this▸hp.2
  ·exact hp.elim
 |
  convB x=>
  simp only[ex]at h⊢
  rw[aH ag]at h
  refine bE h λp hp=> ?_
  cases p<;>simp only at hp⊢<;>first|exact hp.elim|skip
  rename_i bs
  refine⟨?_,kh (b:=s.bx)⟩
  have:=qq (s:=s) (b:=s.bx) (u:=u) (v:= .sl 1 (bs.map u8) false) hd
  exact this▸hp
 |_=>exact h.elim
theorem HO {e:Nat} {u:PV} {d:Option Nat} {f:AX} {args:List AX} {K:St->Prop} (hd:d≠some e) (hr:e∉(AK.call f args).reads) (h:mX P (s.put (some e) u) d f args K):
  mX P s d f args λt=>K (t.put (some e) u)∧uh d s t:=by
 have ag:cA s (s.put (some e) u) (AK.call f args).reads:=cA.put (λj hj=>by cases hj;exact hr);unfold mX at h⊢;rw[aH ag.left]at h;refine bE h λpf hpf=> ?_;rw[fK ag.right]at hpf;obtain⟨ps,hp,h2⟩:=tq _ _ _ _ hpf;refine h2 _ ?_;split at hp
 ·obtain⟨ks,os,bM,R,a1,a2,a3,a4,a5,a6,a7⟩:=hp;refine⟨ks,os,bM,R,a1,a2,a3,a4,a5,a6,λr fp hR=>⟨(a7 r fp hR).1,?_,kh⟩⟩;rw[←qq hd];exact(a7 r fp hR).2
 ·obtain⟨bM,R,a1,a2,a3,a4,a5⟩:=hp;refine⟨bM,R,a1,a2,a3,a4,λfp hR=>⟨(a5 fp hR).1,?_,kh⟩⟩;rw[←qq hd];exact(a5 fp hR).2
 ·exact hp.elim
end Go.Ab
namespace Go.Ab
variable [cL]
variable {P:Program} {s:St} [eJ]
theorem BH {g:Bool} {k:AK} {K K':PV->Prop} (h:∀p,K p->K' p) (hk:ev g s k K):ev g s k K':=by
 obtain⟨p,h1,h2⟩:=ug g s k K hk;exact h2 K' (h p h1)
theorem fb {g:Bool} {x:AX} {K K':PV->Prop} (h:∀p,K p->K' p) (hk:vg g s x K):vg g s x K':=by
 obtain⟨p,h1,h2⟩:=sI g s x K hk;exact h2 K' (h p h1)
theorem HP {g:Bool} {xs:List AX} {K K':List PV->Prop} (h:∀p,K p->K' p) (hk:xE g s xs K):xE g s xs K':=by
 obtain⟨p,h1,h2⟩:=tq g s xs K hk;exact h2 K' (h p h1)
theorem Pv {g:Bool} {xs:List (Nat×AX)} {K K':List (Nat×PV)->Prop} (h:∀p,K p->K' p) (hk:Cf g s xs K):Cf g s xs K':=by
 obtain⟨p,h1,h2⟩:=zn g s xs K hk;exact h2 K' (h p h1)
theorem zu {p:PV} {K K':Int->Prop} (h:∀p,K p->K' p) (hk:pC p K):pC p K':=by
 obtain⟨p,h1,h2⟩:=rf p K hk;exact h2 K' (h p h1)
theorem yo {p:PV} {K K':Nat->List PV->Prop} (h:∀a b,K a b->K' a b) (hk:content s p K):content s p K':=by
 obtain⟨a,b,h1,h2⟩:=qm s p K hk;exact h2 K' (h a b h1)
theorem CO {str:Bool} {sz:Nat} {q:PV} {K K':List PV->Prop} (h:∀p,K p->K' p) (hk:src s str sz q K):src s str sz q K':=by
 unfold src at hk⊢;split at hk
 ·rename_i hs;rw[if_pos hs];split at hk
  ·exact⟨hk.1,h _ hk.2⟩
  ·exact hk.elim
 ·rename_i hs;rw[if_neg hs];exact yo (λa b Sp=>⟨Sp.1,h _ Sp.2⟩) hk
theorem Ec {d:Option Nat} {sz b:Nat} {p:PV} {ys:List PV} {K K':St->Prop} (h:∀p,K p->K' p) (hk:fW s d sz b p ys K):fW s d sz b p ys K':=by
 unfold fW at hk⊢;split at hk
 ·exact hk.elim
 ·split at hk
  ·exact⟨hk.1,h _ hk.2⟩
  ·split at hk
   ·exact⟨hk.1,h _ hk.2⟩
   ·exact hk.elim
  ·split at hk
   ·exact⟨hk.1,λhle=>h _ (hk.2.1 hle),λdq=>h _ (hk.2.2 dq)⟩
   ·exact hk.elim
  ·exact yo (λa b Sp=>⟨Sp.1,h _ Sp.2⟩) hk
  ·exact hk.elim
theorem HQ {d:Option Nat} {sz b:Nat} {z p:PV} {m:Int} {K K':St->Prop} (h:∀p,K p->K' p) (hk:qf s d sz b z p m K):qf s d sz b z p m K':=by
 unfold qf at hk⊢;split at hk
 ·exact hk.elim
 ·split at hk
  ·split at hk
   ·exact⟨hk.1,h _ hk.2⟩
   ·exact hk.elim
  ·exact hk.elim
theorem uY {d:Option Nat} {sz:Nat} {p:PV} {ys:List PV} {K K':St->Prop} (h:∀p,K p->K' p) (hk:ke s d sz p ys K):ke s d sz p ys K':=by
 unfold ke at hk⊢;split at hk
 ·split at hk
  ·exact⟨hk.1,h _ hk.2⟩
  ·split at hk
   ·split at hk
    ·exact⟨hk.1,h _ hk.2⟩
    ·exact hk.elim
   ·exact hk.elim
  ·exact hk.elim
 ·exact hk.elim
theorem TO {d:Option Nat} {k:AK} {K K':St->Prop} (h:∀p,K p->K' p) (hk:ex s d k K):ex s d k K':=by
 cases k with
 |alloc z=>simp only[ex]at hk⊢;split at hk;exact⟨hk.1,h _ hk.2⟩;exact hk.elim
 |box x=>simp only[ex]at hk⊢;split at hk;exact fb (λp hp=>⟨hp.1,h _ hp.2⟩) hk;exact hk.elim
 |
  buildSlice own sz z n parts=>
  simp only[ex]at hk⊢
  refine Pv (λps hp=> ?_) hk
  split at hp
  ·split at hp
   ·rename_i ho;rw[if_pos ho]
    split at hp
    ·exact⟨hp.1,h _ hp.2⟩
    ·exact hp.elim
   ·rename_i ho;rw[if_neg ho];exact h _ hp
  ·exact hp.elim
 |
  makeSlice sz b z l c=>
  simp only[ex]at hk⊢
  refine fb (λp hp=>zu (λn hn=>fb (λq hq=>zu (λm hm=> ?_) hq) hn) hp) hk
  split at hm
  ·exact⟨hm.1,h _ hm.2⟩
  ·exact hm.elim
 |
  store n x y=>
  simp only[ex]at hk⊢
  refine fb (λp hp=>fb (λv hv=> ?_) hp) hk
  split at hv
  ·split at hv
   ·split at hv
    ·exact⟨hv.1,h _ hv.2⟩
    ·exact hv.elim
   ·exact hv.elim
  ·exact hv.elim
 |
  isNil ng x=>
  simp only[ex]at hk⊢
  refine fb (λp hp=> ?_) hk
  split at hp
  ·exact λb hb=>h _ (hp b hb)
  ·split at hp
   ·exact⟨hp.1,λb hb=>h _ (hp.2 b hb)⟩
   ·exact hp.elim
  ·exact hp.elim
 |
  append sz b str x y=>
  simp only[ex]at hk⊢
  exact fb (λp hp=>fb (λq hq=>CO (λys hy=>Ec h hy) hq) hp) hk
 |
  copy sz x y=>
  simp only[ex]at hk⊢
  refine fb (λp hp=>fb (λq hq=> ?_) hp) hk
  split at hq
  ·exact CO (λys hy=>uY h hy) hq
  ·exact CO (λys hy=>uY h hy) hq
 |
  appendZ sz b z x y=>
  simp only[ex]at hk⊢
  exact fb (λp hp=>fb (λq hq=>zu (λm hm=>HQ h hm) hq) hp) hk
 |
  fill sz z x=>
  simp only[ex]at hk⊢
  refine fb (λp hp=> ?_) hk
  obtain⟨h1,h2⟩:=hp
  refine⟨h1,?_⟩
  cases p<;>simp only at h2⊢<;>first|exact h2.elim|exact uY h h2
 |mkMap ks vs=>simp only[ex]at hk⊢;split at hk;exact⟨hk.1,λb=>h _ (hk.2 b)⟩;exact hk.elim
 |
  mapGet ks vs z ok m x=>
  simp only[ex]at hk⊢
  refine fb (λpm hp=>fb (λp hq=> ?_) hp) hk
  cases pm<;>simp only at hq⊢<;>first|exact hq.elim|skip
  split at hq
  ·exact⟨hq.1,h _ hq.2⟩
  ·exact hq.elim
 |
  mapSet ks vs m x y=>
  simp only[ex]at hk⊢
  refine fb (λpm hp=>fb (λp hq=>fb (λv hv=> ?_) hq) hp) hk
  cases pm<;>simp only at hv⊢<;>first|exact hv.elim|skip
  split at hv
  ·exact⟨hv.1,h _ hv.2⟩
  ·exact hv.elim
 |
  convL x=>
  simp only[ex]at hk⊢
  refine fb (λp hp=> ?_) hk
  cases p<;>simp only at hp⊢<;>first|exact hp.elim|skip
  split at hp
  ·exact⟨hp.1,h _ hp.2⟩
  ·exact hp.elim
 |
  convB x=>
  simp only[ex]at hk⊢
  refine fb (λp hp=> ?_) hk
  cases p<;>simp only at hp⊢<;>first|exact hp.elim|exact h _ hp
 |_=>simp only[ex]at hk
theorem Jx {d:Option Nat} {f:FuncId} {l:List PV} {ks os:List Nat} {K K':St->Prop} (h:∀p,K p->K' p) (hk:xV P s d f l ks os K):xV P s d f l ks os K':=by
 obtain⟨b,R,h1,h2,h3,h4,h5,h6,h7⟩:=hk;exact⟨b,R,h1,h2,h3,h4,h5,h6,λr fp hr=>⟨(h7 r fp hr).1,h _ (h7 r fp hr).2⟩⟩
theorem Jy {d:Option Nat} {f:AX} {l:List AX} {K K':St->Prop} (h:∀p,K p->K' p) (hk:mX P s d f l K):mX P s d f l K':=by
 unfold mX at hk⊢;refine fb (λpf hf=>HP (λps hp=> ?_) hf) hk;split at hp
 ·obtain⟨ks,os,hc⟩:=hp;exact⟨ks,os,Jx h hc⟩
 ·obtain⟨bM,R,a1,a2,a3,a4,a5⟩:=hp;exact⟨bM,R,a1,a2,a3,a4,λfp hR=>⟨(a5 fp hR).1,h _ (a5 fp hR).2⟩⟩
 ·exact hp.elim
theorem Jz {d:Option Nat} {f:AX} {l:List AX} {K K':St->Prop} (h:∀p,K p->K' p) (hk:ql P s d f l K):ql P s d f l K':=by
 unfold ql at hk⊢;refine fb (λpf hf=>HP (λps hp=> ?_) hf) hk;split at hp
 ·obtain⟨v,h1,h2,h3⟩:=hp;exact⟨v,h1,h2,h _ h3⟩
 ·exact hp.elim
theorem CP {o:AO} {K K':St->Prop} (h:∀p,K p->K' p) (hk:jX P s o K):jX P s o K':=by
 unfold jX at hk⊢;split at hk
 ·exact Jy h hk
 ·exact Jz h hk
 ·split at hk
  ·rename_i he;rw[if_pos he];exact TO h hk
  ·rename_i he;rw[if_neg he];exact BH (λp hp=>h _ hp) hk
theorem bU {o:AO} {K K':St->Prop} (h:∀p,K p->K' p) (hk:fX P s o K):fX P s o K':=by
 unfold fX at hk⊢;split at hk
 ·exact CP h hk
 ·split at hk
  ·split at hk
   ·rename_i hm;rw[if_pos hm];exact BH (λp hp=>h _ hp) hk
   ·rename_i hm;rw[if_neg hm];exact⟨λe=>CP h (hk.1 e),λe=>h _ (hk.2 e)⟩
  ·split at hk
   ·rename_i hm;rw[if_pos hm];exact BH (λp hp=>h _ hp) hk
   ·rename_i hm;rw[if_neg hm];exact⟨λe e'=>CP h (hk.1 e e'),λe=>h _ (hk.2 e)⟩
  ·exact hk.elim
end Go.Ab
namespace Go.Ab
variable [cL]
variable {P:Program} {nt:Nat} {ds:List Deferred} {s s':St} [eJ]
def AO.dY:AO->Option Nat
 |⟨some k,none,_,.alloc _⟩=>some k
 |⟨some k,none,_,.makeSlice _ b _ (.c (.int _ l)) (.c (.int _ c))⟩=>if 0≤l∧l≤c∧c*b≤281474976710656∧c≤9223372036854775807 then some k else none
 |_=>none
def AO.alq (y:AO):Bool:=y.guard.isNone&&((match y.k with| .call .. =>true|_=>false)||y.dY.isSome)
def rO (k:Nat) (z:PV×aV) (s:St):St:= {env:=put s.env k z.1,bx:=put s.bx k z.2}
theorem Pw {k:Nat} {z:PV×aV} {l:List Nat} (h:k∉l):cA s (rO k z s) l:=by
 intro n hn;simp only[rO];rw[bp];rintro rfl;exact h hn
theorem vS {k:Nat} {b:aV}:∀ {ks:List Nat} {bx:List (Nat×aV)} {l:List aV},get bx k=none->getAll bx ks=some l->getAll (put bx k b) ks=some l
 |[],bx,l,_,h=>h
 |
  x::ks,bx,l,hn,h=>by
  simp only[getAll]at h⊢
  split at h
  ·rename_i u v hu hv
   have cI:k≠x:=by rintro rfl;rw[hn]at hu;simp at hu
   rw[bp _ _ _ _ cI,hu,vS hn hv]
   exact h
  ·simp at h
theorem zx {k:Nat} {b:aV}:∀ {ks:List Nat} {bx:List (Nat×aV)} {l:List aV},k∉ks->aI (put bx k b) ks l=put (aI bx ks l) k b
 |[],bx,l,_=>by cases l<;>rfl
 |x::ks,bx,[],_=>rfl
 |
  x::ks,bx,y::l,h=>by
  simp only[aI]
  rw[Ab.put_comm (n:=k) (m:=x) (by rintro rfl;simp at h),zx (λh'=>h (by simp[h']))]
theorem tv {k:Nat}:∀ {ks:List Nat} {bx:List (Nat×aV)} {l:List aV},get bx k=none->getAll bx ks=some l->k∉ks
 |[],_,_,_,_=>by simp
 |
  x::ks,bx,l,hn,h=>by
  simp only[getAll]at h
  split at h
  ·rename_i u v hu hv
   intro hm
   rcases cJ.1 hm with rfl|hm
   ·rw[hn]at hu;simp at hu
   ·exact tv hn hv hm
  ·simp at h
theorem XN {k:Nat} {z:PV×aV} {d:Option Nat} {v:PV} {b:List (Nat×aV)} (hd:d≠some k):St.put {env:=put s.env k z.1,bx:=put b k z.2} d v=rO k z (St.put {s with bx:=b} d v):=by
 cases d with
 |none=>rfl
 |
  some j=>
  have:j≠k:=λh=>hd (by rw[h])
  simp only[St.put,rO]
  rw[Ab.put_comm (Ne.symm this)]
theorem Px {d:Option Nat} {f:FuncId} {args:List PV} {ks os:List Nat} {k:Nat} {z:PV×aV} {K:St->Prop} (hd:d≠some k) (hn:get s.bx k=none) (h:xV P s d f args ks os λt=>get t.bx k=none∧K (rO k z t)):∃os',xV P (rO k z s) d f args ks os' K:=by
 obtain⟨bM,R,a1,a2,a3,a4,a5,a6,a7⟩:=h;have hk:=tv hn a1;by_cases hR:∃r fp,R r fp
 ·obtain⟨r0,fp0,hR0⟩:=hR
  have hko:k∉os:=by
   intro hm;obtain⟨⟨b1,_,_⟩,b2,_⟩:=a7 r0 fp0 hR0;have e:({s with bx:=aI s.bx (ks++os) (fp0.map (az (cU (ks++os))))}.put d (aE (cU (ks++os)) r0)).bx=aI s.bx (ks++os) (fp0.map (az (cU (ks++os)))):=by cases d<;>rfl
   rw[e,xa k a2 (by simpa using b1)]at b2;cases hi:idx (ks++os) k with
   |none=>exact Hr hi (by simp[hm])
   |
    some i=>
    rw[hi]at b2
    have:=(iJ.1 (ot hi)).1
    simp at b2
    omega
  refine⟨os,bM,R,vS hn a1,a2,λo ho=> ?_,a4,a5,a6,λr fp hr=>⟨(a7 r fp hr).1,?_⟩⟩
  ·simp only[rO];rw[bp]
   ·exact a3 o ho
   ·rintro rfl;exact hko ho
  ·have:=(a7 r fp hr).2.2;simp only[rO]at this⊢;rw[zx (by simp[hk,hko]),XN hd];exact this
 ·exact⟨[],bM,R,vS hn a1,by simpa using(JgJ.1 a2).1,by simp,a4,a5,a6,λr fp hr=>absurd ⟨r,fp,hr⟩ hR⟩
theorem Py {d:Option Nat} {f:AX} {args:List AX} {k:Nat} {z:PV×aV} {K:St->Prop} (hd:d≠some k) (hn:get s.bx k=none) (hr:k∉(AK.call f args).reads) (h:mX P s d f args λt=>get t.bx k=none∧K (rO k z t)):mX P (rO k z s) d f args K:=by
 have ag:cA s (rO k z s) (AK.call f args).reads:=Pw hr;unfold mX at h⊢;rw[aH ag.left];refine bE h λpf hpf=> ?_;rw[fK ag.right];obtain⟨ps,hp,h2⟩:=tq _ _ _ _ hpf;refine h2 _ ?_;split at hp
 ·obtain⟨ks,os,hc⟩:=hp;obtain⟨os',GU⟩:=Px hd hn hc;exact⟨ks,os',GU⟩
 ·obtain⟨bM,R,a1,a2,a3,a4,a5⟩:=hp;have hk:=tv hn a1;refine⟨bM,R,vS hn a1,a2,a3,a4,λfp hR=>⟨(a5 fp hR).1,?_⟩⟩;have:=(a5 fp hR).2.2;simp only[rO]at this⊢;rw[zx hk,XN hd];exact this
 ·exact hp.elim
theorem qu {x:AO} {k:Nat} (hx:x.dY=some k):∃z,x.dst=some k∧∀(s:St) (K:St->Prop),fX P s x K↔(get s.bx k=none∧K (rO k z s)):=by
 unfold AO.dY at hx;split at hx
 ·rename_i k' mg z;simp only[sJ]at hx;subst hx;exact⟨(.pt k' [] 0,.box z),rfl,λs K=>Iff.rfl⟩
 ·rename_i k' mg sz b z kl l kc c;split at hx
  ·rename_i hc;simp only[sJ]at hx;subst hx;refine⟨(.rs k' [] 0 l.toNat l.toNat sz .tip,.arr sz (List.replicate l.toNat z)),rfl,λs K=> ?_⟩;have e:fX P s ⟨some k',none,mg,.makeSlice sz b z (.c (.int kl l)) (.c (.int kc c))⟩ K↔((get s.bx k'=none∧0≤l∧l≤c∧c*b≤281474976710656∧c≤9223372036854775807)∧K (rO k' (.rs k' [] 0 l.toNat l.toNat sz .tip,.arr sz (List.replicate l.toNat z)) s)):=Iff.rfl;rw[e];exact⟨λh=>⟨h.1.1,h.2⟩,λh=>⟨⟨h.1,hc⟩,h.2⟩⟩
  ·simp at hx
 ·simp at hx
theorem JA {y:AO} {k:Nat} {z:PV×aV} {K:St->Prop} (hy:y.alq=true) (hd:y.dst≠some k) (hr:k∉y.reads) (hn:get s.bx k=none) (h:fX P s y λt=>get t.bx k=none∧K (rO k z t)):fX P (rO k z s) y K:=by
 unfold AO.alq at hy;simp only[aJ]at hy;cases lY:y.dY with
 |
  some j=>
  obtain⟨z',DY,hw⟩:=qu (P:=P) lY
  have y5:j≠k:=λh=>hd (by rw[DY,h])
  have h:get s.bx j=none∧get (rO j z' s).bx k=none∧K (rO k z (rO j z' s)):=(hw _ _).1 h
  refine(hw _ _).2 ⟨by simp only[rO];rw[bp _ _ _ _ (Ne.symm y5)];exact h.1,?_⟩
  have e:rO j z' (rO k z s)=rO k z (rO j z' s):=by
   simp only[rO];rw[Ab.put_comm (Ne.symm y5),Ab.put_comm (Ne.symm y5)]
  rw[e];exact h.2.2
 |
  none=>
  obtain⟨dst,guard,mg,ak⟩:=y
  rw[lY]at hy
  cases guard with
  |some g=>simp at hy
  |
   none=>
   cases ak with
   |call f args=>exact Py hd hn (λh=>hr (by simp[AO.reads,h])) h
   |_=>simp at hy
end Go.Ab
namespace Go.Ab
variable [cL]
variable {P:Program} {nt:Nat} {ds:List Deferred} {s s':St} [eJ]
def JB:List Nat->Bool
 |a::b::_=>a==b
 |_=>false
def yp (W:List Nat) (k:Nat) (b:aV):aV:=match b with| .box v=>if JB W=true∧W.contains k=true then HL else .box v|b=>b
def St.less (s:St) (W:List Nat):St:= {s with bx:=(s.bx.filter λp=>JB W|| !W.contains p.1).map λp=>(p.1,yp W p.1 p.2)}
def Fr (W:List Nat) (s t:St):Prop:=∀k b,(JB W|| !W.contains k)=true->get s.bx k=some b->∃b',get t.bx k=some b'∧yp W k b'=yp W k b
theorem get_filter {c:Nat->Bool} (k:Nat):∀l:List (Nat×aV),get (l.filter λp=>c p.1) k=if c k=true then get l k else none
 |[]=>by simp[get]
 |
  (n,v)::r=>by
  have ih:=get_filter (c:=c) k r
  by_cases hn:c n=true
  ·rw[JmZ (by simpa using hn)]
   simp only[get,ih]
   by_cases hk:n=k
   ·subst hk;rw[if_pos rfl,if_pos hn,if_pos rfl]
   ·rw[if_neg hk,if_neg hk]
  ·rw[List.filter_cons_of_neg (by simpa using hn),ih]
   by_cases hk:n=k
   ·subst hk;rw[if_neg hn,if_neg hn]
   ·simp only[get,if_neg hk]
theorem La {W:List Nat} (k:Nat):∀l:List (Nat×aV),get (l.map λp=>(p.1,yp W p.1 p.2)) k=(get l k).map (yp W k)
 |[]=>rfl
 |
  (n,v)::r=>by
  simp only[JdX,get]
  by_cases hk:n=k
  ·subst hk;simp
  ·rw[if_neg hk,if_neg hk];exact La k r
theorem CQ {W:List Nat} (k:Nat):get (s.less W).bx k=if(JB W|| !W.contains k)=true then(get s.bx k).map (yp W k)else none:=by
 simp only[St.less,La];rw[get_filter (c:=λn=>JB W|| !W.contains n)];split<;>rfl
theorem Pz (W:List Nat):Sub (s.less W).bx s.bx:=by
 intro k b h;rw[CQ]at h;split at h
 ·cases hg:get s.bx k with
  |none=>rw[hg]at h;simp at h
  |
   some c=>
   rw[hg]at h
   simp only[JjJ,sJ]at h
   cases c with
   |
    box v=>
    simp only[yp]at h
    split at h
    ·exact .inr ⟨h.symm,v,rfl⟩
    ·exact .inl (by rw[h])
   |arr sz l=>exact .inl (by rw[←h];rfl)
   |map b ks vs l=>exact .inl (by rw[←h];rfl)
 ·simp at h
theorem BI {W:List Nat} (h:Fr W s s'):Sub (s.less W).bx (s'.less W).bx:=by
 intro k b hk;rw[CQ]at hk;split at hk
 ·rename_i hw;cases hg:get s.bx k with
  |none=>rw[hg]at hk;simp at hk
  |
   some c=>
   obtain⟨b',h1,h2⟩:=h k c hw hg
   rw[hg]at hk
   left
   rw[CQ,if_pos hw,h1,JjJ,h2]
   exact hk
 ·simp at hk
theorem PA {W:List Nat} {d:Option Nat} {v:PV}:(s.put d v).less W=(s.less W).put d v:=by cases d<;>rfl
theorem zy {W:List Nat} {d:Option Nat} {v:PV}:({((s.less W).put d v)with bx:=s.bx}:St)=s.put d v:=by cases d<;>rfl
def jj (P:Program) (W:List Nat) (f:Bool) (s:St) (o:AO) (K:St->Prop):Prop:=
 if o.quiet=true then(if f=true then fX P (s.less W) o (λt=>K {t with bx:=s.bx})else fX P s o K)else fX P s o (λt=>(f=true->Fr W s t)∧K t)
def dZ (aos:List AO) (s:St) (l:List Nat):Bool:=l.all λi=>match aos[i]?with|some o=>(match o.dY with|some k=>(get s.bx k).isNone|none=>true)|none=>true
def iF (P:Program) (aos:List AO) (fl:Nat->Bool) (W:List Nat) (s:St):List Nat->(St->Prop)->Prop
 |[],K=>K s
 |
  i::r,K=>match aos[i]?with
  |some o=>dZ aos s (i::r)=true∧jj P W (fl i) s o λt=>iF P aos fl W t r K
  |none=>False
theorem zC {aos:List AO} {fl:Nat->Bool} {W:List Nat} {K:St->Prop}:∀ {l:List Nat} {s:St},iF P aos fl W s l K->dZ aos s l=true
 |[],s,_=>rfl
 |
  i::r,s,h=>by
  simp only[iF]at h
  split at h
  ·exact h.1
  ·exact h.elim
theorem ki {aos:List AO} {s s':St} (h:s'.bx=s.bx) (l:List Nat):dZ aos s' l=dZ aos s l:=by unfold dZ;rw[h]
theorem bQ {aos:List AO} {s:St} {i:Nat} {l:List Nat}:dZ aos s (i::l)=(dZ aos s [i]&&dZ aos s l):=by simp[dZ]
theorem nW {aos:List AO} {s:St} {l m:List Nat}:dZ aos s (l++m)=(dZ aos s l&&dZ aos s m):=by simp[dZ]
theorem Lb {aos:List AO} {s:St} {i j:Nat} {l m:List Nat} (h:dZ aos s (j::(l++i::m))=true):dZ aos s [j]=true∧dZ aos s l=true∧dZ aos s [i]=true∧dZ aos s m=true:=by
 rw[bQ (l:=l++i::m),nW,bQ (l:=m)]at h;simpa only[aJ]using h
theorem Lc {aos:List AO} {s:St} {j:Nat} {l m:List Nat} (h1:dZ aos s [j]=true) (h2:dZ aos s l=true) (h3:dZ aos s m=true):dZ aos s (j::(l++m))=true:=by
 rw[bQ (l:=l++m),nW,h1,h2,h3];rfl
theorem sL {aos:List AO} {s:St} {i:Nat} {x:AO} {k:Nat} (hi:aos[i]? =some x) (hx:x.dY=some k):dZ aos s [i]=true↔get s.bx k=none:=by simp[dZ,hi,hx]
theorem kQ {aos:List AO} {s:St} {i:Nat} {x:AO} (hi:aos[i]? =some x) (hx:x.dY=none):dZ aos s [i]=true:=by simp[dZ,hi,hx]
theorem eL {x:AO} (hx:x.quiet=true):x.dY=none:=by
 cases h:x.dY with
 |none=>rfl
 |
  some k=>
  exfalso
  unfold AO.dY at h
  split at h
  ·simp[AO.quiet,pE]at hx
  ·simp[AO.quiet,pE]at hx
  ·simp at h
def qv (W:List Nat) (f:Bool) (s:St):St:=if f=true then s.less W else s
theorem kR {W:List Nat} {f:Bool} {o:AO} {K:St->Prop} (hq:o.quiet=true) (h:jj P W f s o K):∃v,K (s.put o.dst v)∧Qv P (qv W f s) o v:=by
 unfold jj at h;rw[if_pos hq]at h;cases f with
 |
  true=>
  simp only[if_true]at h
  obtain⟨v,h1,h2⟩:=vR hq h
  rw[zy]at h1
  exact⟨v,h1,h2⟩
 |
  false=>
  simp only[fJ,if_false]at h
  obtain⟨v,h1,h2⟩:=vR hq h
  exact⟨v,h1,h2⟩
theorem sM {W:List Nat} {f:Bool} {o:AO} {v:PV} {r:St} {K:St->Prop} (hq:o.quiet=true) (h:Qv P r o v) (hs:Sub r.bx (qv W f s).bx) (ha:cA r s o.reads) (hk:K (s.put o.dst v)):jj P W f s o K:=by
 unfold jj;rw[if_pos hq];cases f with
 |
  true=>
  simp only[if_true]
  refine h _ hs ha _ ?_
  show K {((s.less W).put o.dst v)with bx:=s.bx}
  rw[zy];exact hk
 |
  false=>
  simp only[fJ,if_false]
  exact h _ hs ha _ hk
theorem HR {W:List Nat} {f:Bool}:Sub (qv W f s).bx s.bx:=by
 unfold qv;split
 ·exact Pz W
 ·exact Sub.refl _
theorem HS {W:List Nat} {f:Bool} {d:Option Nat} {v:PV}:(qv W f (s.put d v)).bx=(qv W f s).bx:=by
 unfold qv;split
 ·rw[PA,iv]
 ·rw[iv]
theorem uZ {W:List Nat} {f:Bool}:(qv W f s).env=s.env:=by unfold qv;split<;>rfl
theorem vT {W:List Nat} {f:Bool} {l:List Nat} (h:cA s s' l):cA (qv W f s) s' l:=by
 intro n hn;rw[uZ];exact h n hn
def AK.iS:AK->Bool
 | .mv _| .extract _ _| .mm _ _| .un _ _| .convI _ _| .field _ _ _ _ _| .build _ _=>true
 | .bin _ e _ _=>match e with| .ptr=>false|_=>true
 |_=>false
def AO.iS (o:AO):Bool:=o.guard.isNone&&o.k.iS
theorem PC {b:List (Nat×aV)} (x:AX):vx {s with bx:=b} x=vx s x:=by cases x<;>rfl
theorem F4 {b:List (Nat×aV)} {g:Bool} (x:AX):vg g {s with bx:=b} x=vg g s x:=by
 funext K;unfold vg;rw[PC]
theorem Ld {b:List (Nat×aV)} {g:Bool}:∀(l:List AX),xE g {s with bx:=b} l=xE g s l
 |[]=>rfl
 |x::l=>by funext K;simp only[xE,F4,Ld l]
theorem Lf {b:List (Nat×aV)} {g:Bool}:∀(l:List (Nat×AX)),Cf g {s with bx:=b} l=Cf g s l
 |[]=>rfl
 |(n,x)::l=>by funext K;simp only[Cf,F4,Lf l]
theorem PD {b:List (Nat×aV)} {o:BinOp} {e:ET} (he:(match e with| .ptr=>false|_=>true)=true) (p q:PV):sx {s with bx:=b} o e p q=sx s o e p q:=by
 funext K;cases e<;>first|rfl|simp at he
theorem aaP {b:List (Nat×aV)} {g:Bool} {k:AK} (hk:k.iS=true) (K:PV->Prop):ev g {s with bx:=b} k K=ev g s k K:=by
 cases k<;>first|(simp[AK.iS]at hk;done)|skip
 case bin o e x y=>
  simp only[ev,F4];simp only[AK.iS]at hk;have:=λp q=>PD (s:=s) (b:=b) (o:=o) hk p q;simp only[this]
 all_goals simp only[ev,F4,Ld,Lf,PC]
theorem HT {k:AK} (h:k.iS=true):pE k=false:=by
 cases k<;>first|rfl|simp[AK.iS]at h
theorem AM {r:St} {o:AO} {v:PV} (hf:o.iS=true) (hv:Qv P r o v) (s':St) (ha:cA r s' o.reads) (K':St->Prop) (hk:K' (s'.put o.dst v)):fX P s' o K':=by
 have h:=hv {s' with bx:=r.bx} (Sub.refl _) ha (λt=>K' {t with bx:=s'.bx}) (by
  have e:({(({s' with bx:=r.bx}:St).put o.dst v)with bx:=s'.bx}:St)=s'.put o.dst v:=by cases o.dst<;>rfl
  show K' _;rw[e];exact hk)
 obtain⟨dst,guard,mg,k⟩:=o;have e:∀p,({(({s' with bx:=r.bx}:St).put dst p)with bx:=s'.bx}:St)=s'.put dst p:=by intro p;cases dst<;>rfl
 simp only[AO.iS,aJ,Option.isNone_iff_eq_none]at hf;obtain⟨hg,Sf⟩:=hf;subst hg;have hx:=HT Sf;cases k<;>first|(simp[AK.iS]at Sf;done)|skip
 all_goals
  simp only[fX,jX,hx,fJ,if_false,aaP Sf,e]at h⊢
  exact h
theorem zF {W:List Nat} {f:Bool} {o:AO} {v:PV} {r:St} {K:St->Prop} (hq:o.quiet=true) (hf:o.iS=true) (h:Qv P r o v) (ha:cA r s o.reads) (hk:K (s.put o.dst v)):jj P W f s o K:=by
 unfold jj;rw[if_pos hq];cases f with
 |
  true=>
  simp only[if_true]
  refine AM hf h (s.less W) (λn hn=>ha n hn) _ ?_
  show K {((s.less W).put o.dst v)with bx:=s.bx}
  rw[zy];exact hk
 |
  false=>
  simp only[fJ,if_false]
  exact AM hf h _ ha _ hk
def gV (aos:List AO) (fl:Nat->Bool) (j i:Nat):Bool:=match aos[j]?,aos[i]?with
 |some y,some x=>y.quiet&&y.dst.isSome&&y.apart x&&(x.quiet||y.iS||(x.dY.isSome||fl j&&fl i))|| !y.quiet&&y.alq&&(match x.dY with|some k=>y.dst !=some k&& !y.reads.contains k|none=>false)
 |_,_=>false
def qw (aos:List AO) (j i:Nat):Bool:=match aos[j]?,aos[i]?with
 |some y,some x=>(match y.dY,x.dY with|some a,some b=>a !=b|_,_=>true)
 |_,_=>true
theorem JC {aos:List AO} {fl:Nat->Bool} {W:List Nat} {K:St->Prop} {i:Nat} {x:AO} (hi:aos[i]? =some x) (hx:x.quiet=true) (l2:List Nat):∀(l1:List Nat) (s:St),
  (∀j∈l1,gV aos fl j i=true)->iF P aos fl W s (l1++i::l2) K->∃v,iF P aos fl W (s.put x.dst v) (l1++l2) K∧Qv P s x v
 |
  [],s,_,h=>by
  simp only[JkW,iF,hi]at h
  obtain⟨v,h1,h2⟩:=kR hx h.2
  exact⟨v,h1,λs' hb ha K' hk=>h2 s' (HR.trans hb) (vT ha) K' hk⟩
 |
  j::l1,s,cq,h=>by
  have hp:=cq j (by simp)
  unfold gV at hp
  cases hy:aos[j]?with
  |none=>rw[hy]at hp;simp at hp
  |
   some y=>
   rw[hy,hi]at hp
   simp only[eL hx,Bool.and_false,Bool.or_false,aJ]at hp
   obtain⟨⟨⟨qS,_⟩,eE⟩,_⟩:=hp
   have h1:∀d,y.dst=some d->d∉x.reads:=λd hd=>by simp[AO.apart,hd]at eE;exact eE.1.1
   have h2:∀d,y.dst=some d->x.dst≠some d:=λd hd=>by simp[AO.apart,hd]at eE;exact eE.1.2
   have h3:∀d,x.dst=some d->d∉y.reads:=λd hd=>by simp[AO.apart,hd]at eE;exact eE.2
   simp only[JeZ,iF,hy]at h⊢
   obtain⟨pS,h⟩:=h
   obtain⟨v,h,hv⟩:=kR qS h
   obtain⟨u,h,hu⟩:=JC hi hx l2 l1 _ (λk hk=>cq k (by simp[hk])) h
   refine⟨u,⟨?_,sM qS hv (by rw[HS];exact Sub.refl _) (vT (cA.put h3)) ?_⟩,?_⟩
   ·have pS:=Lb pS
    rw[ki (iv _ _)]
    exact Lc pS.1 pS.2.1 pS.2.2.2
   ·rw[St.put_comm (λk hk he=>h2 k he hk)];exact h
   ·intro s' hb ha K' hk
    refine hu s' (by rw[iv];exact hb) (λn hn=> ?_) K' hk
    rw[ha n hn]
    exact((cA.put h1) n hn).symm
theorem zG {o:AO} {e:Nat} {u:PV} {K:St->Prop} (hq:o.quiet=false) (hd:o.dst≠some e) (hr:e∉o.k.reads) (h:jX P (s.put (some e) u) o K):jX P s o λt=>K (t.put (some e) u)∧uh o.dst s t:=by
 obtain⟨dst,guard,mg,k⟩:=o;cases k with
 |call f args=>exact HO hd hr h
 |callq f args=>simp[AO.quiet]at hq
 |
  _=>
  first
  |(simp[AO.quiet,pE]at hq;done)
  |(simp only[jX,pE,if_true]at h⊢;exact Pu hd hr h)
theorem pX {o:AO} {e:Nat} {u:PV} {K:St->Prop} (hq:o.quiet=false) (hd:o.dst≠some e) (hr:e∉o.reads) (h:fX P (s.put (some e) u) o K):fX P s o λt=>K (t.put (some e) u)∧uh o.dst s t:=by
 have hrk:e∉o.k.reads:=λh=>hr (by simp[AO.reads,h])
 have OI:K ((s.put (some e) u).put o.dst .un)->K ((s.put o.dst .un).put (some e) u)∧uh o.dst s (s.put o.dst .un):=by
  intro hk;refine⟨?_,kh (b:=s.bx)⟩;have:=qq (s:=s) (b:=s.bx) (u:=u) (v:= .un) hd;exact this▸hk
 have So:∀(g:Bool) (s:St) K,ev g s o.k K->False:=by
  intro g s K h;obtain⟨dst,guard,mg,k⟩:=o;cases k<;>first|(simp[AO.quiet,pE]at hq;done)|(simp[ev]at h;done)
 unfold fX at h⊢;cases hg:o.guard with
 |
  none=>
  rw[hg]at h
  exact zG hq hd hrk h
 |
  some gw=>
  obtain⟨sl,want⟩:=gw
  rw[hg]at h
  have EA:get (s.put (some e) u).env sl=get s.env sl:=by
   simp only[St.put];rw[bp];rintro rfl;exact hr (by simp[AO.reads,hg])
  simp only[EA]at h⊢
  split at h
  ·split at h
   ·exact(So _ _ _ h).elim
   ·rename_i hm
    rw[if_neg hm]
    exact⟨λe1=>zG hq hd hrk (h.1 e1),λe1=>OI (h.2 e1)⟩
  ·split at h
   ·exact(So _ _ _ h).elim
   ·rename_i hm
    rw[if_neg hm]
    exact⟨λe1 e2=>zG hq hd hrk (h.1 e1 e2),λe1=>OI (h.2 e1)⟩
  ·exact h.elim
theorem yq {aos:List AO} {k:Nat} {z:PV×aV} {i:Nat} {x:AO} (hi:aos[i]? =some x) (hx:x.dY=some k) {l:List Nat} (cI:∀j∈l,qw aos j i=true) (h:dZ aos s l=true):dZ aos (rO k z s) l=true:=by
 simp only[dZ,JeX]at h⊢;intro j hj;have h1:=h j hj;have h2:=cI j hj;unfold qw at h2;rw[hi]at h2;split
 ·rename_i y hy;rw[hy]at h1 h2;simp only at h1 h2⊢;split
  ·rename_i b hb;rw[hb]at h1 h2;rw[hx]at h2;simp only[bne_iff_ne,ne_eq]at h1 h2⊢;simp only[rO];rw[bp _ _ _ _ (λh=>h2 h.symm)];exact h1
  ·rfl
 ·rfl
theorem ER {W:List Nat} {k:Nat} {z:PV×aV} (hn:get s.bx k=none):Fr W s (rO k z s):=by
 intro j b _ hb;refine⟨b,?_,rfl⟩;simp only[rO];rw[bp]
 ·exact hb
 ·rintro rfl;rw[hn]at hb;simp at hb
theorem JD {W:List Nat} {k:Nat} {z:PV×aV} {t:St} (h:Fr W s t):Fr W (rO k z s) (rO k z t):=by
 intro j b hw hb;simp only[rO,eF]at hb⊢;split
 ·rename_i e;rw[if_pos e]at hb;exact⟨b,hb,rfl⟩
 ·rename_i e;rw[if_neg e]at hb;exact h j b hw hb
theorem F5 {W:List Nat} {f g:Bool} {y x:AO} {k e:Nat} {v:PV} {R:St->Prop} (qS:y.quiet=true) (hk:x.dY=some k) (he:y.dst=some e) (h2:x.dst≠some e) (h3:∀d,x.dst=some d->d∉y.reads) (hn:get s.bx k=none) (hv:Qv P (qv W f s) y v)
  (ih:fX P (s.put (some e) v) x λt=>(g=true->Fr W (s.put (some e) v) t)∧R t):fX P s x λt=>(g=true->Fr W s t)∧R (t.put (some e) v)∧jj P W f t y R:=by
 obtain⟨z,DY,lY⟩:=qu (P:=P) hk;obtain⟨_,_,hR⟩:=(lY _ _).1 ih;have hek:k≠e:=λh=>h2 (by rw[DY,h])
 have ec:rO k z (s.put (some e) v)=(rO k z s).put (some e) v:=by
  simp only[rO,St.put];rw[Ab.put_comm hek]
 rw[ec]at hR;refine(lY s _).2 ⟨hn,λ_=>ER hn,hR,sM (r:=qv W f s) qS hv ?_ (λn Of=> ?_) (by rw[he];exact hR)⟩
 ·cases f with
  |true=>simpa[qv]using BI (ER (W:=W) (z:=z) hn)
  |
   false=>
   intro j b hj
   simp only[qv,fJ,if_false]at hj⊢
   refine .inl ?_
   simp only[rO]
   rw[bp]
   ·exact hj
   ·rintro rfl;rw[hn]at hj;simp at hj
 ·rw[uZ];simp only[rO];rw[bp];rintro rfl;exact h3 _ DY Of
theorem zI {aos:List AO} {fl:Nat->Bool} {W:List Nat} {K:St->Prop} {i:Nat} {x:AO} (hi:aos[i]? =some x) (hx:x.quiet=false) (l2:List Nat):∀(l1:List Nat) (s:St),
  (∀j∈l1,gV aos fl j i=true)->(∀j∈l1++l2,qw aos j i=true)->iF P aos fl W s (l1++i::l2) K->fX P s x λt=>(fl i=true->Fr W s t)∧iF P aos fl W t (l1++l2) K
 |
  [],s,_,_,h=>by
  simp only[JkW,iF,hi]at h
  have h:=h.2
  unfold jj at h
  rw[if_neg (by rw[hx];simp)]at h
  exact h
 |
  j::l1,s,cq,cI,h=>by
  have hp:=cq j (by simp)
  unfold gV at hp
  cases hy:aos[j]?with
  |none=>rw[hy]at hp;simp at hp
  |
   some y=>
   rw[hy,hi]at hp
   simp only[JeZ,iF,hy]at h⊢
   obtain⟨pS,h⟩:=h
   have pS:=Lb pS
   rcases JiV.1 hp with hp|hp
   ·simp only[aJ,hx,Bool.false_or]at hp
    obtain⟨⟨⟨qS,Fu⟩,eE⟩,IZ⟩:=hp
    obtain⟨e,he⟩:=JaW.1 Fu
    have h1:e∉x.reads:=by simp[AO.apart,he]at eE;exact eE.1.1
    have h2:x.dst≠some e:=by simp[AO.apart,he]at eE;exact eE.1.2
    have h3:∀d,x.dst=some d->d∉y.reads:=λd hd=>by simp[AO.apart,hd]at eE;exact eE.2
    rcases JiV.1 IZ with Xw|IZ
    ·obtain⟨v,h,hv⟩:=kR qS h
     have ih:=zI hi hx l2 l1 _ (λk hk=>cq k (by simp[hk])) (λk hk=>cI k (by simp only[JeZ,cJ];exact .inr hk)) h
     rw[he]at ih
     refine bU (λt ht=> ?_) (pX hx h2 h1 ih)
     obtain⟨⟨hf,hk⟩,vL⟩:=ht
     refine⟨λKF=>λk b hw hb=>hf KF k b hw hb,?_,zF (r:=qv W (fl j) s) qS Xw hv (λn hn=> ?_) (by rw[he];exact hk)⟩
     ·rw[bQ,kQ hy (eL qS),JjZ]
      have:=zC hk
      rwa [ki (iv _ _)]at this
     ·rw[uZ];exact vL n (λhd=>h3 n hd hn)
    ·rcases JiV.1 IZ with hia|IZ
     ·obtain⟨k,hk⟩:=JaW.1 hia
      obtain⟨v,h,hv⟩:=kR qS h
      have ih:=zI hi hx l2 l1 _ (λk hk=>cq k (by simp[hk])) (λk hk=>cI k (by simp only[JeZ,cJ];exact .inr hk)) h
      rw[he]at ih
      refine bU (λt ht=> ?_) (F5 qS hk he h2 h3 ((sL hi hk).1 pS.2.2.1) hv ih)
      refine⟨ht.1,?_,ht.2.2⟩
      rw[bQ,kQ hy (eL qS),JjZ]
      have:=zC ht.2.1
      rw[ki (iv _ _)]at this
      exact this
     ·obtain⟨hfl,KF⟩:=JmJ.1 IZ
      rw[hfl]at h⊢
      obtain⟨v,h,hv⟩:=kR qS h
      have ih:=zI hi hx l2 l1 _ (λk hk=>cq k (by simp[hk])) (λk hk=>cI k (by simp only[JeZ,cJ];exact .inr hk)) h
      rw[he]at ih
      refine bU (λt ht=> ?_) (pX hx h2 h1 ih)
      obtain⟨⟨hf,hk⟩,vL⟩:=ht
      have hf':Fr W s t:=λk b hw hb=>hf KF k b hw hb
      refine⟨λ_=>hf',?_,sM (r:=s.less W) qS (by simpa[qv]using hv) (by simpa[qv]using BI hf') (λn hn=> ?_) (by rw[he];exact hk)⟩
      ·rw[bQ,kQ hy (eL qS),JjZ]
       have:=zC hk
       rwa [ki (iv _ _)]at this
      ·exact vL n (λhd=>h3 n hd hn)
   ·simp only[aJ,JiQ]at hp
    obtain⟨⟨qS,hya⟩,hp⟩:=hp
    split at hp
    case h_2=>simp at hp
    rename_i k hk
    simp only[aJ,bne_iff_ne,ne_eq,JiQ,List.contains_eq_mem,decide_eq_false_iff_not]at hp
    obtain⟨z,DY,lY⟩:=qu (P:=P) hk
    have hn:get s.bx k=none:=(sL hi hk).1 pS.2.2.1
    unfold jj at h
    rw[if_neg (by rw[qS];simp)]at h
    have h':fX P s y λt=>get t.bx k=none∧(λt'=>(fl j=true->Fr W (rO k z s) t')∧iF P aos fl W t' (l1++l2) K) (rO k z t):=by
     refine bU (λt ht=> ?_) h;obtain⟨hf,ht⟩:=ht;have ih:=zI hi hx l2 l1 _ (λk hk=>cq k (by simp[hk])) (λk hk=>cI k (by simp only[JeZ,cJ];exact .inr hk)) ht;obtain⟨i1,_,i3⟩:=(lY t _).1 ih;exact⟨i1,λe=>JD (hf e),i3⟩
    refine(lY s _).2 ⟨hn,λ_=>ER hn,?_,?_⟩
    ·refine yq hi hk (λm hm=>cI m (by simpa using hm)) ?_
     exact Lc pS.1 pS.2.1 pS.2.2.2
    ·unfold jj
     rw[if_neg (by rw[qS];simp)]
     exact JA hya hp.1 hp.2 hn h'
end Go.Ab
namespace Go.Ab
variable [cL]
variable {P:Program} {nt:Nat} {ds:List Deferred} {s s':St} {Γ:Cx} {a:Act} {w:World} {Q:Exit->Act->World->Prop} [eJ]
def vU (ops:Array Oper):List Nat->List Nat->Bool
 |_,[]=>true
 |done,i::r=>(match ops[i]?with|some o=>(o.after.all λe=> !Region.binds .any e||done.contains e.on)|none=>false)&&vU ops (i::done) r
def tw (ms:List Nat) (aos:List AO) (fl:Nat->Bool):List Nat->Bool
 |[]=>true
 |j::r=>(r.all λi=>j !=i&&qw aos j i&&(AI ms i j||gV aos fl j i))&&tw ms aos fl r
def yr (ops:Array Oper) (aos:List AO) (ord us:List Nat):Bool:=
 vU ops [] ord&&tw (gq ops.toList []) aos us.contains ord&&ord.length==ops.size&&(ord.all λi=>decide (i<ops.size))&&(List.range ops.size).all λi=>ord.contains i
theorem tz {ops:Array Oper}:∀(p:List Nat) (done:List Nat) {i:Nat} {q:List Nat},vU ops done (p++i::q)=true->∀o,ops[i]? =some o->∀e∈o.after,Region.binds .any e=true->e.on∈done∨e.on∈p
 |
  [],done,i,q,h,o,ho,e,he,hb=>by
  simp only[JkW,vU,ho,aJ,Array.all_eq_true_iff_forall_mem]at h
  have:=h.1 e he
  simp[hb]at this
  exact .inl this
 |
  x::p,done,i,q,h,o,ho,e,he,hb=>by
  simp only[JeZ,vU,aJ]at h
  rcases tz p (x::done) h.2 o ho e he hb with h1|h1
  ·rcases cJ.1 h1 with h2|h2
   ·exact .inr (by simp[h2])
   ·exact .inl h2
  ·exact .inr (by simp[h1])
theorem tA {ms:List Nat} {aos:List AO} {fl:Nat->Bool}:∀ {l:List Nat},tw ms aos fl l=true->l.Pairwise λj i=>(j≠i∧qw aos j i=true)∧(AI ms i j=true∨gV aos fl j i=true)
 |[],_=> .nil
 |
  j::r,h=>by
  simp only[tw,aJ,JeX]at h
  refine .cons (λi hi=> ?_) (tA h.2)
  have:=h.1 i hi
  simpa using this
theorem my {aos:List AO} {i j:Nat} (h:qw aos i j=true):qw aos j i=true:=by
 unfold qw at*;cases h1:aos[i]? <;>cases h2:aos[j]? <;>simp only[h1,h2]at h⊢;rename_i x y;cases h3:x.dY<;>cases h4:y.dY<;>simp only[h3,h4,bne_iff_ne]at h⊢;exact λe=>h e.symm
def rk (ops:Array Oper) (ord:List Nat):Bool:=
 vU ops [] ord&&ord.length==ops.size&&(ord.all λi=>decide (i<ops.size))&&(List.range ops.size).all λi=>ord.contains i
def rl (ops:Array Oper) (aos:List AO) (fl:Nat->Bool) (j i:Nat):Prop:=(j≠i∧qw aos j i=true)∧(AI (gq ops.toList []) i j=true∨gV aos fl j i=true)
theorem aiE {ro:Option Nat} {ops:Array Oper} {aos:List AO} {own sp:List Nat} {ord us:List Nat} {W:List Nat} (nP:∀(i:Nat) o,ops[i]? =some o->∃ao,aos[i]? =some ao∧rM P nt ops own sp true o=some ao) (dh:rk ops ord=true) {K:St->Prop}:
  ∀
   (n:Nat) (listed:Array Bool) {s:St} {Γ:Cx} {a:Act} {w:World},listed.size=ops.size->rN ops listed->(ord.filter λi=> !listed.getD i true).Pairwise (rl ops aos us.contains)->(ord.filter λi=> !listed.getD i true).length=n->
   gm nt ds s Γ a->w.heap=Γ.heap->EJ P Γ->iF P aos us.contains W s (ord.filter λi=> !listed.getD i true) K->HD P nt ds Γ w K (Q .normal)->wpAnyIn (FW ro) 0 P .any ops Q n listed a w:=by
 simp only[rk,aJ,JeX,decide_eq_true_eq,JiX]at dh;obtain⟨⟨⟨hE,_⟩,dq⟩,cq⟩:=dh
 have KM:∀listed:Array Bool,listed.size=ops.size->Region.ready .any ops listed=[]->(ord.filter λi=> !listed.getD i true)=[]:=by
  intro listed fH hr;cases hl:ord.filter λi=> !listed.getD i true with
  |nil=>rfl
  |
   cons i l=>
   exfalso
   obtain⟨p,q,KO,hp,hi,_⟩:=List.filter_eq_cons_iff.1 hl
   have hio:i<ops.size:=dq i (by rw[KO];simp)
   have:i∈Region.ready .any ops listed:=by
    rw[mem_ready];refine⟨by simpa using hi,ops[i],Array.getElem?_eq_getElem hio,λe he hb=> ?_⟩;rw[KO]at hE;rcases tz p [] hE _ (Array.getElem?_eq_getElem hio) e he hb with h1|h1
    ·simp at h1
    ·have h2:=hp _ h1;have h3:e.on<listed.size:=by rw[fH];exact dq _ (by rw[KO];simp[h1])
     simp[JbJ,Array.getElem?_eq_getElem h3]at h2⊢;exact h2
   rw[hr]at this;simp at this
 intro n;induction n with
 |
  zero=>
  intro listed s Γ a w fH hc _ hn hs hw hY h hk
  have hl:=JmX.1 hn
  rw[hl]at h
  refine⟨?_,hk _ _ _ _ hs hw (Le.refl Γ) (WF.refl w) h⟩
  rw[List.eq_nil_iff_forall_not_mem]
  intro i hi
  obtain⟨h1,o,ho,_⟩:=mem_ready.1 hi
  have:i∈ord.filter λi=> !listed.getD i true:=by
   rw[JgW];exact⟨by simpa using cq i (Array.getElem?_eq_some_iff.1 ho).1,by rw[h1];rfl⟩
  rw[hl]at this;simp at this
 |
  succ n ih=>
  intro listed s Γ a w fH hc hPw hn hs hw hY h hk
  refine⟨λhr=> ?_,λi hi=> ?_⟩
  ·rw[KM listed fH hr]at hn;simp at hn
  ·obtain⟨OI,o,ho,I0⟩:=mem_ready.1 hi
   have Xx:=(Array.getElem?_eq_some_iff.1 ho).1
   obtain⟨ao,Ca,Oi⟩:=nP i o ho
   have iD:i∈ord.filter λi=> !listed.getD i true:=by
    rw[JgW];exact⟨by simpa using cq i Xx,by rw[OI];rfl⟩
   obtain⟨l1,l2,hl⟩:=List.append_of_mem iD
   have KP:(l1++i::l2).Pairwise λj i=>(j≠i∧qw aos j i=true)∧(AI (gq ops.toList []) i j=true∨gV aos us.contains j i=true):=by rw[←hl];exact hPw
   have He:(l1++i::l2).Nodup:=KP.imp (λh=>h.1.1)
   have pB:ord.filter (λj=> !(listed.setIfInBounds i true).getD j true)=l1++l2:=by
    have e:(λj=> !(listed.setIfInBounds i true).getD j true)=λj=>(decide (j≠i))&& !listed.getD j true:=by
     funext j;by_cases G0:i=j
     ·subst G0;simp[JbJ,uJ (by omega:i<listed.size)]
     ·rw[getD_set_ne true G0];simp[Ne.symm G0]
    rw[e,←JkX,hl,JkZ,JpX];simp only[ne_eq,not_true,decide_false,fJ,if_false];have G1:=JgJ.1 He;rw[JfX.2,JfX.2]
    ·intro x hx;simp;rintro rfl;exact(JiZ.1 G1.2.1).1 hx
    ·intro x hx;simp;rintro rfl;exact G1.2.2 x hx x (by simp) rfl
   rw[hl]at h hn
   have uw:∀j∈l1,gV aos us.contains j i=true:=by
    intro j hj;have h1:=(JdQ.1 KP).2.2 j hj i (by simp);rcases h1.2 with hb|hb
    ·exfalso;have hjm:j∈ord.filter λi=> !listed.getD i true:=by rw[hl];simp[hj]
     obtain⟨hjo,Xy⟩:=JgW.1 hjm;have:=zq hc (CJ hb) hi;have Bx:j<listed.size:=by rw[fH];exact dq j hjo
     simp[JbJ,Array.getElem?_eq_getElem Bx]at this Xy;rw[this]at Xy;simp at Xy
    ·exact hb
   have cI:∀j∈l1++l2,qw aos j i=true:=by
    intro j hj;rcases JaZ.1 hj with hj|hj
    ·exact((JdQ.1 KP).2.2 j hj i (by simp)).1.2
    ·have h1:=(JhZ (JdQ.1 KP).2.1 hj).1.2;exact my h1
   have hf:fX P s ao λt=>iF P aos us.contains W t (l1++l2) K:=by
    cases hx:ao.quiet with
    |
     true=>
     obtain⟨v,h1,h2⟩:=JC Ca hx l2 l1 s uw h
     exact h2 s (Sub.refl _) (λ_ _=>rfl) _ h1
    |false=>exact bU (λt ht=>ht.2) (zI Ca hx l2 l1 s uw cI h)
   refine pW ho Oi hs hw hY hf ?_
   intro s' Γ' a' w' b1 b2 b3 b4 b5
   refine ih (listed.setIfInBounds i true) (by simp[fH]) ?_ (by rw[pB];exact KP.sublist (List.Sublist.append (List.Sublist.refl l1) (List.sublist_cons_self i l2))) (by rw[pB];simp at hn⊢;omega) b1 b2 (hY.le b3) (by rw[pB];exact b5) (hk.trans b3 b4)
   intro k ok Aq qR e he hb
   by_cases GZ:i=k
   ·subst GZ;rw[ho]at Aq;cases Aq;exact getD_set_true (I0 e he hb)
   ·rw[getD_set_ne true GZ]at qR;exact getD_set_true (hc k ok Aq qR e he hb)
theorem PE {ops:Array Oper} {aos:List AO} {ord us:List Nat} (h:yr ops aos ord us=true):rk ops ord=true:=by
 simp only[yr,rk,aJ]at h⊢;exact⟨⟨⟨h.1.1.1.1,h.1.1.2⟩,h.1.2⟩,h.2⟩
theorem xg {ro:Option Nat} {ops:Array Oper} {aos:List AO} {own sp:List Nat} {ord us:List Nat} {id:Nat} (hm:P.follows .mixedOrders=true) (ht:mY P nt ops own sp true ops.toList=some aos) (dh:yr ops aos ord us=true) {K:St->Prop} (hs:gm nt ds s Γ a) (hw:w.heap=Γ.heap)
  (hY:EJ P Γ) (h:∃W,iF P aos us.contains W s ord K) (hk:HD P nt ds Γ w K (Q .normal)):(Code.region id ops true).wpIn (FW ro) 0 P Q a w:=by
 obtain⟨W,h⟩:=h;obtain⟨h1,h2⟩:=qn ht;have Xz:=dh;simp only[yr,aJ,JeX,decide_eq_true_eq,JiX,beq_iff_eq]at Xz
 have e:(ord.filter λi=> !(Array.replicate ops.size false).getD i true)=ord:=by
  rw[JfX];intro i hi;have:=Xz.1.2 i hi;simp[JbJ,this]
 refine wpIn_region_any hm (aiE (s:=s) (Γ:=Γ) (K:=K) (W:=W) (λi o hi=>h2 i o (by simpa using hi)) (PE dh) _ _ (by simp) ?_ (by rw[e];exact tA Xz.1.1.1.2) (by rw[e];exact Xz.1.1.2) hs hw hY (by rw[e];exact h) ?_)
 ·intro k o hko hl;have:=(Array.getElem?_eq_some_iff.1 hko).1;simp[JbJ,this]at hl
 ·intro s' Γ' a' w' b1 b2 b3 b4 b5;exact hk s' Γ' a' w' b1 b2 b3 ⟨b4.os,b4.tape,b4.output⟩ b5
def PF (ops:Array Oper) (done:List Nat) (i:Nat):Bool:= !done.contains i&&match ops[i]?with|some o=>o.after.all λe=> !Region.binds .any e||done.contains e.on|none=>false
def rR (aos:List AO) (i:Nat):Bool:=match aos[i]?with|some x=>x.quiet|none=>false
def aaQ (ops:Array Oper) (aos:List AO):Nat->List Nat->List Nat
 |0,done=>done.reverse
 |
  n+1,done=>match(List.range ops.size).find? (λi=>PF ops done i&&rR aos i)with
  |some i=>aaQ ops aos n (i::done)
  |
   none=>match(List.range ops.size).find? (PF ops done)with
   |some i=>aaQ ops aos n (i::done)
   |none=>done.reverse
def soB (aos:List AO) (i:Nat):Bool:=match aos[i]?with|some x=>x.iS|none=>false
def early (ms:List Nat) (aos:List AO):List Nat->List Nat
 |[]=>[]
 |j::r=>if(rR aos j&& !soB aos j&&r.any λi=> !rR aos i&& !AI ms i j)=true then j::early ms aos r else early ms aos r
def zJ (ops:Array Oper) (aos:List AO):List Nat:=aaQ ops aos ops.size []
def PG (ms:List Nat) (aos:List AO):List Nat->List Nat->List Nat
 |_,[]=>[]
 |done,i::r=>if(!rR aos i&&done.any λj=>rR aos j&& !soB aos j&& !AI ms i j)=true then i::PG ms aos (i::done) r else PG ms aos (i::done) r
def Lg (ops:Array Oper) (aos:List AO):List Nat:=early (gq ops.toList []) aos (zJ ops aos)++PG (gq ops.toList []) aos [] (zJ ops aos)
end Go.Ab
namespace Go.Ab
variable [cL]
variable {P:Program} {nt:Nat} {ds:List Deferred} {s:St} {Γ Γ0:Cx} {a:Act} {w w0:World}
def Cx.out (Γ:Cx) (ks:List Nat) (bM:List aV):Cx:=
 {
  heap:=Γ.heap,ι:=λk=>if KB≤k then(match ks[k-KB]?with|some j=>Γ.ι j|none=>none)else none,
  bx:=av 0 (bM.map (az (bz ks))),bX:=Γ.bX}
theorem Cx.yu {ks:List Nat} {bM:List aV} (hg:getAll Γ.bx ks=some bM) {b:Nat}:(Γ.out ks bM).gn b↔∃(i:Nat) (k:Nat),ks[i]? =some k∧Γ.ι k=some b:=Cx.mw (Γ:=Γ) hg
theorem Cx.HU {ks:List Nat} {bM:List aV} (hg:getAll Γ.bx ks=some bM):zk (bR ks) (bz ks) Γ (Γ.out ks bM) where
 heap:=rfl
 own b hb hn:=by
  rintro(h|h)
  ·obtain⟨i,k,h1,h2⟩:=(Cx.yu hg).1 h;obtain⟨_,b9⟩:=dH hg;obtain⟨b',g1,_⟩:=b9 _ _ h1;exact hn (.inl ⟨k,b',g1,h2⟩)
  ·exact hn (.inr h)
 ref:=(Cx.sF hg).ref
theorem Cx.TP (hm:Mem Γ) {ks:List Nat} {bM:List aV} (hg:getAll Γ.bx ks=some bM) (hn:ks.Nodup) (dh:bM.all (ab (bR ks))=true):Mem (Γ.out ks bM) where
 blk k blk hk:=by
  obtain⟨hl,b9⟩:=dH hg;simp only[Cx.out,fE]at hk;split at hk
  ·rename_i hle;rw[List.getElem?_map,mJ]at hk;obtain⟨b0,uf,rfl⟩:=hk;have hi:=(iJ.1 uf).1;obtain⟨j,hj⟩:∃j,ks[k-KB]? =some j:=⟨_,gJ (by omega)⟩
   obtain⟨b1,g1,g2⟩:=b9 _ _ hj;simp only[Nat.sub_zero]at uf;rw[uf]at g2;cases g2;have:=(hm.blk j b0 g1).aE (Cx.HU hg) (JeX.1 dh b0 (JeQ uf));have e:(Γ.out ks bM).ι k=Γ.ι j:=by simp only[Cx.out];rw[if_pos (by omega),hj]
   rw[e];exact this
  ·simp at hk
 inj:=(Cx.Cu hm hg hn dh).inj
 bX:=hm.bX
 apart b h hp:=by
  obtain⟨i,k,h1,h2⟩:=(Cx.yu hg).1 h;obtain⟨_,b9⟩:=dH hg;obtain⟨b',g1,_⟩:=b9 _ _ h1;exact hm.apart b ⟨k,b',g1,h2⟩ hp
 xN b cs h:=by
  obtain⟨h1,h2⟩:=hm.xN b cs h;refine⟨λhb=>h1 ?_,h2⟩;obtain⟨i,k,g1,g2⟩:=(Cx.yu hg).1 hb;obtain⟨b',g3,_⟩:=(dH hg).2 i k g1;exact⟨k,b',g3,g2⟩
theorem Cx.aaR {ks:List Nat} {bM fp:List aV} (hle:Le Γ0 Γ) (h0:Γ0.bx=av 0 fp) (hg:getAll Γ.bx ks=some bM) (Tm:ks.take fp.length=dS fp.length):Le Γ0 (Γ.out ks bM) where
 heap:=hle.heap
 gn b hb h:=by
  obtain⟨i,k,h1,h2⟩:=(Cx.yu hg).1 h;obtain⟨_,b9⟩:=dH hg;obtain⟨b',g1,_⟩:=b9 _ _ h1;exact hle.gn b hb ⟨k,b',g1,h2⟩
 bX:=hle.bX
 size:=hle.size
 ref k blk hk:=by
  obtain⟨bn,h1,h2,h3⟩:=hle.ref k blk hk;rw[h0,fE]at hk;split at hk
  ·rename_i hkb;have hi:=(iJ.1 hk).1
   have e:ks[k-KB]? =some k:=by
    have:(ks.take fp.length)[k-KB]? =some k:=by
     rw[Tm,dS,List.getElem?_map,List.getElem?_range (by omega)];simp;omega
    rw[List.getElem?_take]at this;split at this
    ·exact this
    ·simp at this
   obtain⟨hl,b9⟩:=dH hg;obtain⟨b1,g1,g2⟩:=b9 _ _ e;rw[h1]at g1;cases g1;refine⟨az (bz ks) bn,?_,by rw[jx];exact h2,λht=> ?_⟩
   ·simp only[Cx.out,fE];rw[if_pos (by omega),List.getElem?_map,show k-KB-0=k-KB by omega,g2];rfl
   ·rw[jx]at ht;obtain⟨h4,h5⟩:=h3 ht;exact⟨by simp only[Cx.out];rw[if_pos (by omega),e];exact h4,h5⟩
  ·simp at hk
def AN (Q:Exit->St->Prop) (K:St->Prop):Exit->St->Prop
 | .normal,s=>K s
 |e,s=>Q e s
def XO (id:Nat) (Q:Exit->St->Prop):Exit->St->Prop
 | .exit id',s=>if id'=id then Q .normal s else Q (.exit id') s
 |e,s=>Q e s
def lift (nt:Nat) (Γ0:Cx) (w0:World) (Q:Exit->St->Prop):Exit->Act->World->Prop:=
 λe a w=>∃ds s Γ,gm nt ds s Γ a∧sG Γ0.heap.size Γ ds∧w.heap=Γ.heap∧Le Γ0 Γ∧WF w0 w∧Q e s
theorem CR {Q:Exit->St->Prop} {K:St->Prop} {e:Exit} (h:lift nt Γ0 w0 (AN Q K) e a w):Exit.then (lift nt Γ0 w0 (λ_=>K) .normal) (lift nt Γ0 w0 Q) e a w:=by
 cases e<;>exact h
theorem PH {Q:Exit->St->Prop} {id:Nat} {e:Exit} (h:lift nt Γ0 w0 (XO id Q) e a w):Exit.inBlock id (lift nt Γ0 w0 Q) e a w:=by
 cases e with
 |
  exit id'=>
  obtain⟨ds,s,Γ,h1,hd,h2,h3,h4,h5⟩:=h
  simp only[Exit.inBlock,XO]at h5⊢
  split at h5
  ·rename_i hid;rw[if_pos hid];exact⟨ds,s,Γ,h1,hd,h2,h3,h4,h5⟩
  ·rename_i hid;rw[if_neg hid];exact⟨ds,s,Γ,h1,hd,h2,h3,h4,h5⟩
 |_=>exact h
theorem ff.length:∀ {l:List PV} {vs:List Value},ff Γ l vs->vs.length=l.length
 |[],[],_=>rfl
 |[],_::_,h=>by simp[ff]at h
 |_::_,[],h=>by simp[ff]at h
 |_::_,_::_,h=>by simp[ff.length h.2]
theorem ff.mono {Γ':Cx} (hle:Le Γ Γ'):∀ {l:List PV} {vs:List Value},ff Γ l vs->ff Γ' l vs
 |[],[],_=>trivial
 |p::l,v::vs,h=>⟨h.1.mono hle,h.2.mono hle⟩
 |[],_::_,h=>h.elim
 |_::_,[],h=>h.elim
end Go.Ab
namespace Go.Ab
variable [cL]
variable {P:Program} {nt:Nat} {ds:List Deferred} {s s':St} [eJ]
def mb (P:Program) (aos:List AO) (fl:Nat->Bool) (W E:List Nat) (s:St):List Nat->(St->Prop)->Prop
 |[],K=>dZ aos s E=true∧K s
 |
  i::r,K=>match aos[i]?with
  |some o=>dZ aos s (i::(r++E))=true∧jj P W (fl i) s o λt=>mb P aos fl W E t r K
  |none=>False
theorem pY {aos:List AO} {fl:Nat->Bool} {W E:List Nat} {K:St->Prop}:∀ {l:List Nat} {s:St},mb P aos fl W E s l K->dZ aos s (l++E)=true
 |[],s,h=>by simpa using h.1
 |
  i::r,s,h=>by
  simp only[mb]at h
  split at h
  ·simpa using h.1
  ·exact h.elim
theorem Lh {aos:List AO} {fl:Nat->Bool} {W E:List Nat} {K:St->Prop} {i:Nat} {x:AO} (hi:aos[i]? =some x) (hx:x.quiet=true) (l2:List Nat):∀(l1:List Nat) (s:St),
  (∀j∈l1,gV aos fl j i=true)->mb P aos fl W E s (l1++i::l2) K->∃v,mb P aos fl W E (s.put x.dst v) (l1++l2) K∧Qv P s x v
 |
  [],s,_,h=>by
  simp only[JkW,mb,hi]at h
  obtain⟨v,h1,h2⟩:=kR hx h.2
  exact⟨v,h1,λs' hb ha K' hk=>h2 s' (HR.trans hb) (vT ha) K' hk⟩
 |
  j::l1,s,cq,h=>by
  have hp:=cq j (by simp)
  unfold gV at hp
  cases hy:aos[j]?with
  |none=>rw[hy]at hp;simp at hp
  |
   some y=>
   rw[hy,hi]at hp
   simp only[eL hx,Bool.and_false,Bool.or_false,aJ]at hp
   obtain⟨⟨⟨qS,_⟩,eE⟩,_⟩:=hp
   have h1:∀d,y.dst=some d->d∉x.reads:=λd hd=>by simp[AO.apart,hd]at eE;exact eE.1.1
   have h2:∀d,y.dst=some d->x.dst≠some d:=λd hd=>by simp[AO.apart,hd]at eE;exact eE.1.2
   have h3:∀d,x.dst=some d->d∉y.reads:=λd hd=>by simp[AO.apart,hd]at eE;exact eE.2
   simp only[JeZ,mb,hy,JeJ]at h⊢
   obtain⟨pS,h⟩:=h
   obtain⟨v,h,hv⟩:=kR qS h
   obtain⟨u,h,hu⟩:=Lh hi hx l2 l1 _ (λk hk=>cq k (by simp[hk])) h
   refine⟨u,⟨?_,sM qS hv (by rw[HS];exact Sub.refl _) (vT (cA.put h3)) ?_⟩,?_⟩
   ·have pS:=Lb pS
    rw[ki (iv _ _)]
    exact Lc pS.1 pS.2.1 pS.2.2.2
   ·rw[St.put_comm (λk hk he=>h2 k he hk)];exact h
   ·intro s' hb ha K' hk
    refine hu s' (by rw[iv];exact hb) (λn hn=> ?_) K' hk
    rw[ha n hn]
    exact((cA.put h1) n hn).symm
theorem yv {aos:List AO} {fl:Nat->Bool} {W E:List Nat} {K:St->Prop} {i:Nat} {x:AO} (hi:aos[i]? =some x) (hx:x.quiet=false) (l2:List Nat):∀(l1:List Nat) (s:St),
  (∀j∈l1,gV aos fl j i=true)->(∀j∈l1++(l2++E),qw aos j i=true)->mb P aos fl W E s (l1++i::l2) K->fX P s x λt=>(fl i=true->Fr W s t)∧mb P aos fl W E t (l1++l2) K
 |
  [],s,_,_,h=>by
  simp only[JkW,mb,hi]at h
  have h:=h.2
  unfold jj at h
  rw[if_neg (by rw[hx];simp)]at h
  exact h
 |
  j::l1,s,cq,cI,h=>by
  have hp:=cq j (by simp)
  unfold gV at hp
  cases hy:aos[j]?with
  |none=>rw[hy]at hp;simp at hp
  |
   some y=>
   rw[hy,hi]at hp
   simp only[JeZ,mb,hy,JeJ]at h⊢
   obtain⟨pS,h⟩:=h
   have pS:=Lb pS
   rcases JiV.1 hp with hp|hp
   ·simp only[aJ,hx,Bool.false_or]at hp
    obtain⟨⟨⟨qS,Fu⟩,eE⟩,IZ⟩:=hp
    obtain⟨e,he⟩:=JaW.1 Fu
    have h1:e∉x.reads:=by simp[AO.apart,he]at eE;exact eE.1.1
    have h2:x.dst≠some e:=by simp[AO.apart,he]at eE;exact eE.1.2
    have h3:∀d,x.dst=some d->d∉y.reads:=λd hd=>by simp[AO.apart,hd]at eE;exact eE.2
    rcases JiV.1 IZ with Xw|IZ
    ·obtain⟨v,h,hv⟩:=kR qS h
     have ih:=yv hi hx l2 l1 _ (λk hk=>cq k (by simp[hk])) (λk hk=>cI k (by simp only[JeZ,cJ];exact .inr hk)) h
     rw[he]at ih
     refine bU (λt ht=> ?_) (pX hx h2 h1 ih)
     obtain⟨⟨hf,hk⟩,vL⟩:=ht
     refine⟨λKF=>λk b hw hb=>hf KF k b hw hb,?_,zF (r:=qv W (fl j) s) qS Xw hv (λn hn=> ?_) (by rw[he];exact hk)⟩
     ·rw[bQ,kQ hy (eL qS),JjZ]
      have:=pY hk
      rw[ki (iv _ _),JeJ]at this
      exact this
     ·rw[uZ];exact vL n (λhd=>h3 n hd hn)
    ·rcases JiV.1 IZ with hia|IZ
     ·obtain⟨k,hk⟩:=JaW.1 hia
      obtain⟨v,h,hv⟩:=kR qS h
      have ih:=yv hi hx l2 l1 _ (λk hk=>cq k (by simp[hk])) (λk hk=>cI k (by simp only[JeZ,cJ];exact .inr hk)) h
      rw[he]at ih
      refine bU (λt ht=> ?_) (F5 qS hk he h2 h3 ((sL hi hk).1 pS.2.2.1) hv ih)
      refine⟨ht.1,?_,ht.2.2⟩
      rw[bQ,kQ hy (eL qS),JjZ]
      have:=pY ht.2.1
      rw[ki (iv _ _),JeJ]at this
      exact this
     ·obtain⟨hfl,KF⟩:=JmJ.1 IZ
      rw[hfl]at h⊢
      obtain⟨v,h,hv⟩:=kR qS h
      have ih:=yv hi hx l2 l1 _ (λk hk=>cq k (by simp[hk])) (λk hk=>cI k (by simp only[JeZ,cJ];exact .inr hk)) h
      rw[he]at ih
      refine bU (λt ht=> ?_) (pX hx h2 h1 ih)
      obtain⟨⟨hf,hk⟩,vL⟩:=ht
      have hf':Fr W s t:=λk b hw hb=>hf KF k b hw hb
      refine⟨λ_=>hf',?_,sM (r:=s.less W) qS (by simpa[qv]using hv) (by simpa[qv]using BI hf') (λn hn=> ?_) (by rw[he];exact hk)⟩
      ·rw[bQ,kQ hy (eL qS),JjZ]
       have:=pY hk
       rw[ki (iv _ _),JeJ]at this
       exact this
      ·exact vL n (λhd=>h3 n hd hn)
   ·simp only[aJ,JiQ]at hp
    obtain⟨⟨qS,hya⟩,hp⟩:=hp
    split at hp
    case h_2=>simp at hp
    rename_i k hk
    simp only[aJ,bne_iff_ne,ne_eq,JiQ,List.contains_eq_mem,decide_eq_false_iff_not]at hp
    obtain⟨z,DY,lY⟩:=qu (P:=P) hk
    have hn:get s.bx k=none:=(sL hi hk).1 pS.2.2.1
    unfold jj at h
    rw[if_neg (by rw[qS];simp)]at h
    have h':fX P s y λt=>get t.bx k=none∧(λt'=>(fl j=true->Fr W (rO k z s) t')∧mb P aos fl W E t' (l1++l2) K) (rO k z t):=by
     refine bU (λt ht=> ?_) h;obtain⟨hf,ht⟩:=ht;have ih:=yv hi hx l2 l1 _ (λk hk=>cq k (by simp[hk])) (λk hk=>cI k (by simp only[JeZ,cJ];exact .inr hk)) ht;obtain⟨i1,_,i3⟩:=(lY t _).1 ih;exact⟨i1,λe=>JD (hf e),i3⟩
    refine(lY s _).2 ⟨hn,λ_=>ER hn,?_,?_⟩
    ·refine yq hi hk (λm hm=>cI m (by simpa using hm)) ?_
     exact Lc pS.1 pS.2.1 pS.2.2.2
    ·unfold jj
     rw[if_neg (by rw[qS];simp)]
     exact JA hya hp.1 hp.2 hn h'
theorem AP {W:List Nat} {f:Bool} {o:AO} {K K':St->Prop} (h:∀t,K t->K' t) (hk:jj P W f s o K):jj P W f s o K':=by
 unfold jj at hk⊢;split at hk
 ·rename_i hq;rw[if_pos hq];split at hk
  ·rename_i hf;rw[if_pos hf];exact bU (λt ht=>h _ ht) hk
  ·rename_i hf;rw[if_neg hf];exact bU h hk
 ·rename_i hq;rw[if_neg hq];exact bU (λt ht=>⟨ht.1,h t ht.2⟩) hk
theorem JE {aos:List AO} {s:St} {p q:Nat} {l:List Nat}:dZ aos s (q::p::l)=dZ aos s (p::q::l):=by
 have h1:=bQ (aos:=aos) (s:=s) (i:=q) (l:=p::l);have h2:=bQ (aos:=aos) (s:=s) (i:=p) (l:=l);have h3:=bQ (aos:=aos) (s:=s) (i:=p) (l:=q::l);have h4:=bQ (aos:=aos) (s:=s) (i:=q) (l:=l);rw[h1,h2,h3,h4];exact Bool.and_left_comm _ _ _
theorem CS {aos:List AO} {fl:Nat->Bool} {W E E':List Nat} {K:St->Prop} (hE:∀s,dZ aos s E'=dZ aos s E):∀ {l:List Nat} {s:St},mb P aos fl W E s l (λt=>iF P aos fl W t E' K)->iF P aos fl W s (l++E') K
 |[],s,h=>h.2
 |
  i::r,s,h=>by
  simp only[mb]at h
  simp only[JeZ,iF]
  cases ho:aos[i]?with
  |none=>rw[ho]at h;exact h.elim
  |
   some o=>
   rw[ho]at h
   simp only at h⊢
   refine⟨?_,AP (λt ht=>CS hE ht) h.2⟩
   have:=h.1
   rw[bQ,nW]at this⊢
   rw[hE];exact this
end Go.Ab
namespace Go.Ab
variable [cL]
variable {P:Program} {nt:Nat} {ds:List Deferred} {s s':St} {Γ:Cx} {a:Act} {w:World} {Q:Exit->Act->World->Prop} [eJ]
theorem CT {listed:Array Bool} {ord l1 l2:List Nat} {i:Nat} (hi:i<listed.size) (hl:(ord.filter λi=> !listed.getD i true)=l1++i::l2) (He:(l1++i::l2).Nodup):ord.filter (λj=> !(listed.setIfInBounds i true).getD j true)=l1++l2:=by
 have e:(λj=> !(listed.setIfInBounds i true).getD j true)=λj=>(decide (j≠i))&& !listed.getD j true:=by
  funext j;by_cases G0:i=j
  ·subst G0;simp[JbJ,uJ hi]
  ·rw[getD_set_ne true G0];simp[Ne.symm G0]
 rw[e,←JkX,hl,JkZ,JpX];simp only[ne_eq,not_true,decide_false,fJ,if_false];have G1:=JgJ.1 He;rw[JfX.2,JfX.2]
 ·intro x hx;simp;rintro rfl;exact(JiZ.1 G1.2.1).1 hx
 ·intro x hx;simp;rintro rfl;exact G1.2.2 x hx x (by simp) rfl
theorem JF {aos:List AO} {us:List Nat} {W:List Nat} {i:Nat} {ao:AO} {l1 l2:List Nat} {K:St->Prop} (Ca:aos[i]? =some ao) (uw:∀j∈l1,gV aos us.contains j i=true) (cI:∀j∈l1++l2,qw aos j i=true)
  (h:iF P aos us.contains W s (l1++i::l2) K):fX P s ao λt=>iF P aos us.contains W t (l1++l2) K:=by
 cases hx:ao.quiet with
 |
  true=>
  obtain⟨v,h1,h2⟩:=JC Ca hx l2 l1 s uw h
  exact h2 s (Sub.refl _) (λ_ _=>rfl) _ h1
 |false=>exact bU (λt ht=>ht.2) (zI Ca hx l2 l1 s uw cI h)
theorem TQ {aos:List AO} {us:List Nat} {W E:List Nat} {i:Nat} {ao:AO} {l1 l2:List Nat} {K:St->Prop} (Ca:aos[i]? =some ao) (uw:∀j∈l1,gV aos us.contains j i=true) (cI:∀j∈l1++(l2++E),qw aos j i=true)
  (h:mb P aos us.contains W E s (l1++i::l2) K):fX P s ao λt=>mb P aos us.contains W E t (l1++l2) K:=by
 cases hx:ao.quiet with
 |
  true=>
  obtain⟨v,h1,h2⟩:=Lh Ca hx l2 l1 s uw h
  exact h2 s (Sub.refl _) (λ_ _=>rfl) _ h1
 |false=>exact bU (λt ht=>ht.2) (yv Ca hx l2 l1 s uw cI h)
theorem JG {ops:Array Oper} {listed:Array Bool} {i:Nat} {o:Oper} (hc:rN ops listed) (ho:ops[i]? =some o) (I0:∀e∈o.after,Region.binds .any e=true->listed.getD e.on false=true):rN ops (listed.setIfInBounds i true):=by
 intro k ok Aq qR e he hb;by_cases GZ:i=k
 ·subst GZ;rw[ho]at Aq;cases Aq;exact getD_set_true (I0 e he hb)
 ·rw[getD_set_ne true GZ]at qR;exact getD_set_true (hc k ok Aq qR e he hb)
theorem TR {ops:Array Oper} {listed:Array Bool} {i j:Nat} (fH:listed.size=ops.size) (hc:rN ops listed) (hi:i∈Region.ready .any ops listed) (hj:j<ops.size) (hb:AI (gq ops.toList []) i j=true) (Xy:(!listed.getD j true)=true):False:=by
 have:=zq hc (CJ hb) hi;have Bx:j<listed.size:=by rw[fH];exact hj
 simp[JbJ,Array.getElem?_eq_getElem Bx]at this Xy;rw[this]at Xy;simp at Xy
theorem Li {ops:Array Oper} {ord:List Nat} (h:rk ops ord=true):(∀i∈ord,i<ops.size)∧∀i,i<ops.size->i∈ord:=by
 simp only[rk,aJ,JeX,decide_eq_true_eq,JiX]at h;exact⟨h.1.2,λi hi=>by simpa using h.2 i hi⟩
theorem JH {ops:Array Oper} {ord:List Nat} (dh:rk ops ord=true):∀listed:Array Bool,listed.size=ops.size->Region.ready .any ops listed=[]->(ord.filter λi=> !listed.getD i true)=[]:=by
 simp only[rk,aJ,JeX,decide_eq_true_eq,JiX]at dh;obtain⟨⟨⟨hE,_⟩,dq⟩,cq⟩:=dh;intro listed fH hr;cases hl:ord.filter λi=> !listed.getD i true with
 |nil=>rfl
 |
  cons i l=>
  exfalso
  obtain⟨p,q,KO,hp,hi,_⟩:=List.filter_eq_cons_iff.1 hl
  have hio:i<ops.size:=dq i (by rw[KO];simp)
  have:i∈Region.ready .any ops listed:=by
   rw[mem_ready];refine⟨by simpa using hi,ops[i],Array.getElem?_eq_getElem hio,λe he hb=> ?_⟩;rw[KO]at hE;rcases tz p [] hE _ (Array.getElem?_eq_getElem hio) e he hb with h1|h1
   ·simp at h1
   ·have h2:=hp _ h1;have h3:e.on<listed.size:=by rw[fH];exact dq _ (by rw[KO];simp[h1])
    simp[JbJ,Array.getElem?_eq_getElem h3]at h2⊢;exact h2
  rw[hr]at this;simp at this
theorem yw {aos:List AO} {fl:Nat->Bool} {W E:List Nat}:∀ {l:List Nat} {s:St} {K K':St->Prop},(∀p,K p->K' p)->mb P aos fl W E s l K->mb P aos fl W E s l K'
 |[],s,K,K',h,hk=>⟨hk.1,h _ hk.2⟩
 |
  i::l,s,K,K',h,hk=>by
  simp only[mb]at hk⊢
  split at hk
  ·exact⟨hk.1,AP (λt ht=>yw h ht) hk.2⟩
  ·exact hk.elim
theorem JI {l m:List Nat} {p q:Nat} (h:(l++p::q::m).Nodup):(l++q::p::m).Nodup:=by
 refine(List.Perm.nodup_iff (List.Perm.append_left l (List.Perm.swap q p m))).1 h
theorem ES {ops:Array Oper} {aos:List AO} {fl:Nat->Bool} {l:List Nat} (h:tw (gq ops.toList []) aos fl l=true):l.Pairwise (rl ops aos fl):=tA h
theorem u5 {aos:List AO} {fl:Nat->Bool} {W E E':List Nat} {K K':St->Prop} {i k:Nat} {x:AO} (hi:aos[i]? =some x) (hk:x.dY=some k) (hx:x.quiet=false) (hE:∀s,dZ aos s E=true->get s.bx k=none∧dZ aos s E'=true) (hnE:∀j∈E',qw aos j i=true) (hK:∀s,K s->fX P s x K'):∀(l1:List Nat) (s:St),
  (∀j∈l1,gV aos fl j i=true)->(∀j∈l1,qw aos j i=true)->mb P aos fl W E s l1 K->fX P s x λt=>(fl i=true->Fr W s t)∧mb P aos fl W E' t l1 K'
 |
  [],s,_,_,h=>by
  obtain⟨z,DY,lY⟩:=qu (P:=P) hk
  obtain⟨hn,hf⟩:=hE s h.1
  exact(lY s _).2 ⟨hn,λ_=>ER hn,yq hi hk hnE hf,((lY s _).1 (hK s h.2)).2⟩
 |
  j::l1,s,cq,cI,h=>by
  have hp:=cq j (by simp)
  unfold gV at hp
  cases hy:aos[j]?with
  |none=>rw[hy]at hp;simp at hp
  |
   some y=>
   rw[hy,hi]at hp
   simp only[mb,hy]at h⊢
   obtain⟨pS,h⟩:=h
   rw[bQ,nW,aJ,aJ]at pS
   obtain⟨Tn,To,hf3⟩:=pS
   obtain⟨hn,hfE⟩:=hE s hf3
   rcases JiV.1 hp with hp|hp
   ·simp only[aJ,hx,Bool.false_or]at hp
    obtain⟨⟨⟨qS,Fu⟩,eE⟩,IZ⟩:=hp
    obtain⟨e,he⟩:=JaW.1 Fu
    have h1:e∉x.reads:=by simp[AO.apart,he]at eE;exact eE.1.1
    have h2:x.dst≠some e:=by simp[AO.apart,he]at eE;exact eE.1.2
    have h3:∀d,x.dst=some d->d∉y.reads:=λd hd=>by simp[AO.apart,hd]at eE;exact eE.2
    rcases JiV.1 IZ with Xw|IZ
    ·obtain⟨v,h,hv⟩:=kR qS h
     have ih:=u5 hi hk hx hE hnE hK l1 _ (λk hk=>cq k (by simp[hk])) (λk hk=>cI k (by simp[hk])) h
     rw[he]at ih
     refine bU (λt ht=> ?_) (pX hx h2 h1 ih)
     obtain⟨⟨hf,hk⟩,vL⟩:=ht
     refine⟨λKF=>λk b hw hb=>hf KF k b hw hb,?_,zF (r:=qv W (fl j) s) qS Xw hv (λn hn=> ?_) (by rw[he];exact hk)⟩
     ·rw[bQ,kQ hy (eL qS),JjZ]
      have:=pY hk
      rw[ki (iv _ _)]at this
      exact this
     ·rw[uZ];exact vL n (λhd=>h3 n hd hn)
    ·rcases JiV.1 IZ with hia|IZ
     ·obtain⟨v,h,hv⟩:=kR qS h
      have ih:=u5 hi hk hx hE hnE hK l1 _ (λk hk=>cq k (by simp[hk])) (λk hk=>cI k (by simp[hk])) h
      rw[he]at ih
      refine bU (λt ht=> ?_) (F5 qS hk he h2 h3 hn hv ih)
      refine⟨ht.1,?_,ht.2.2⟩
      rw[bQ,kQ hy (eL qS),JjZ]
      have:=pY ht.2.1
      rw[ki (iv _ _)]at this
      exact this
     ·obtain⟨hfl,KF⟩:=JmJ.1 IZ
      rw[hfl]at h⊢
      obtain⟨v,h,hv⟩:=kR qS h
      have ih:=u5 hi hk hx hE hnE hK l1 _ (λk hk=>cq k (by simp[hk])) (λk hk=>cI k (by simp[hk])) h
      rw[he]at ih
      refine bU (λt ht=> ?_) (pX hx h2 h1 ih)
      obtain⟨⟨hf,hk⟩,vL⟩:=ht
      have hf':Fr W s t:=λk b hw hb=>hf KF k b hw hb
      refine⟨λ_=>hf',?_,sM (r:=s.less W) qS (by simpa[qv]using hv) (by simpa[qv]using BI hf') (λn hn=> ?_) (by rw[he];exact hk)⟩
      ·rw[bQ,kQ hy (eL qS),JjZ]
       have:=pY hk
       rw[ki (iv _ _)]at this
       exact this
      ·exact vL n (λhd=>h3 n hd hn)
   ·simp only[aJ,JiQ]at hp
    obtain⟨⟨qS,hya⟩,hp⟩:=hp
    rw[hk]at hp
    simp only[aJ,bne_iff_ne,ne_eq,JiQ,List.contains_eq_mem,decide_eq_false_iff_not]at hp
    obtain⟨z,DY,lY⟩:=qu (P:=P) hk
    unfold jj at h
    rw[if_neg (by rw[qS];simp)]at h
    have h':fX P s y λt=>get t.bx k=none∧(λt'=>(fl j=true->Fr W (rO k z s) t')∧mb P aos fl W E' t' l1 K') (rO k z t):=by
     refine bU (λt ht=> ?_) h;obtain⟨hf,ht⟩:=ht;have ih:=u5 hi hk hx hE hnE hK l1 _ (λk hk=>cq k (by simp[hk])) (λk hk=>cI k (by simp[hk])) ht;obtain⟨i1,_,i3⟩:=(lY t _).1 ih;exact⟨i1,λe=>JD (hf e),i3⟩
    refine(lY s _).2 ⟨hn,λ_=>ER hn,?_,?_⟩
    ·refine yq hi hk (λm hm=> ?_) ?_
     ·rcases cJ.1 hm with rfl|hm
      ·exact cI _ (by simp)
      ·rcases JaZ.1 hm with hm|hm
       ·exact cI m (by simp[hm])
       ·exact hnE m hm
     ·rw[bQ,nW,Tn,To,hfE];rfl
    ·unfold jj
     rw[if_neg (by rw[qS];simp)]
     exact JA hya hp.1 hp.2 hn h'
def CU (aos:List AO) (i:Nat):Bool:=match aos[i]?with|some o=>o.dY.isSome|none=>false
def F6 (ops:Array Oper) (aos:List AO) (pre:List Nat) (p q:Nat) (suf us:List Nat):Bool:=
 rk ops (pre++p::q::suf)&&rk ops (pre++q::p::suf)&&tw (gq ops.toList []) aos us.contains (pre++p::suf)&&tw (gq ops.toList []) aos us.contains (pre++q::suf)&&p !=q&&qw aos p q&&suf.all λi=>AI (gq ops.toList []) i p||(AI (gq ops.toList []) i q||CU aos i)
theorem aiG {ro:Option Nat} {ops:Array Oper} {aos:List AO} {own sp:List Nat} {pre suf us:List Nat} {p q:Nat} {W:List Nat} (nP:∀(i:Nat) o,ops[i]? =some o->∃ao,aos[i]? =some ao∧rM P nt ops own sp true o=some ao)
  (ael:rk ops (pre++p::q::suf)=true) (Aq:rk ops (pre++q::p::suf)=true) (Fx:(pre++p::suf).Pairwise (rl ops aos us.contains)) (B9:(pre++q::suf).Pairwise (rl ops aos us.contains)) (Ol:p≠q) (lY:qw aos p q=true) (avP:∀i∈suf,AI (gq ops.toList []) i p=true∨AI (gq ops.toList []) i q=true∨CU aos i=true) {K:St->Prop}:
  ∀
   (n:Nat) (listed:Array Bool) {s:St} {Γ:Cx} {a:Act} {w:World},listed.size=ops.size->rN ops listed->(!listed.getD p true)=true->(!listed.getD q true)=true->(pre.filter λi=> !listed.getD i true).length+(suf.filter λi=> !listed.getD i true).length=n->
   gm nt ds s Γ a->w.heap=Γ.heap->EJ P Γ->mb P aos us.contains W (p::q::suf.filter λi=> !listed.getD i true) s (pre.filter λi=> !listed.getD i true) (λt=>iF P aos us.contains W t (p::q::suf.filter λi=> !listed.getD i true) K∧iF P aos us.contains W t (q::p::suf.filter λi=> !listed.getD i true) K)->HD P nt ds Γ w K (Q .normal)->wpAnyIn (FW ro) 0 P .any ops Q (n+1+1) listed a w:=by
 obtain⟨dq,cq⟩:=Li ael
 have oz:(pre++p::q::suf).Nodup:=by
  have a1:=Fx.imp (λh=>h.1.1);have a2:=B9.imp (λh=>h.1.1);obtain⟨b1,b2,b3⟩:=JdQ.1 a1;obtain⟨c1,c2,c3⟩:=JdQ.1 a2;refine JdQ.2 ⟨b1,.cons (λx hx=> ?_) c2,λx hx y hy=> ?_⟩
  ·rcases cJ.1 hx with rfl|hx
   ·exact Ol
   ·exact JhZ b2 hx
  ·rcases cJ.1 hy with rfl|hy
   ·exact b3 x hx _ (by simp)
   ·exact c3 x hx y hy
 have Ew:p∉suf:=λh=>(JiZ.1 (JgJ.1 oz).2.1).1 (by simp[h]);have hqs:q∉suf:=λh=>(JiZ.1 (JiZ.1 (JgJ.1 oz).2.1).2).1 h;have Bb:p∉pre:=λh=>(JgJ.1 oz).2.2 _ h p (by simp) rfl;have hqp:q∉pre:=λh=>(JgJ.1 oz).2.2 _ h q (by simp) rfl;have aol:∀i∈pre,i∉suf:=λi h h'=>(JgJ.1 oz).2.2 _ h i (by simp[h']) rfl
 --what is not listed yet,in both orders
 have hE1:∀listed:Array Bool,(!listed.getD p true)=true->(!listed.getD q true)=true->((pre++p::q::suf).filter λi=> !listed.getD i true)=(pre.filter λi=> !listed.getD i true)++p::q::suf.filter λi=> !listed.getD i true:=by
  intro listed h h';rw[JkZ,JmZ (by exact h),JmZ (by exact h')]
 have hE2:∀listed:Array Bool,(!listed.getD p true)=true->(!listed.getD q true)=true->((pre++q::p::suf).filter λi=> !listed.getD i true)=(pre.filter λi=> !listed.getD i true)++q::p::suf.filter λi=> !listed.getD i true:=by
  intro listed h h';rw[JkZ,JmZ (by exact h'),JmZ (by exact h)]
 --one step
 have stepP:∀ {n:Nat},(∀m,m+1=n->∀(listed:Array Bool) {s:St} {Γ:Cx} {a:Act} {w:World},listed.size=ops.size->rN ops listed->(!listed.getD p true)=true->(!listed.getD q true)=true->(pre.filter λi=> !listed.getD i true).length+(suf.filter λi=> !listed.getD i true).length=m->
   gm nt ds s Γ a->w.heap=Γ.heap->EJ P Γ->mb P aos us.contains W (p::q::suf.filter λi=> !listed.getD i true) s (pre.filter λi=> !listed.getD i true) (λt=>iF P aos us.contains W t (p::q::suf.filter λi=> !listed.getD i true) K∧iF P aos us.contains W t (q::p::suf.filter λi=> !listed.getD i true) K)->HD P nt ds Γ w K (Q .normal)->wpAnyIn (FW ro) 0 P .any ops Q (m+1+1) listed a w)->
  ∀
   {listed:Array Bool} {s:St} {Γ:Cx} {a:Act} {w:World},listed.size=ops.size->rN ops listed->(!listed.getD p true)=true->(!listed.getD q true)=true->(pre.filter λi=> !listed.getD i true).length+(suf.filter λi=> !listed.getD i true).length=n->
   gm nt ds s Γ a->w.heap=Γ.heap->EJ P Γ->mb P aos us.contains W (p::q::suf.filter λi=> !listed.getD i true) s (pre.filter λi=> !listed.getD i true) (λt=>iF P aos us.contains W t (p::q::suf.filter λi=> !listed.getD i true) K∧iF P aos us.contains W t (q::p::suf.filter λi=> !listed.getD i true) K)->HD P nt ds Γ w K (Q .normal)->wpAnyIn (FW ro) 0 P .any ops Q (n+1+1) listed a w:=by
  intro n IH listed s Γ a w fH hc Tr Ts hn hs hw hY h hk
  refine⟨λhr=> ?_,λi hi=> ?_⟩
  ·exfalso
   have:=JH ael listed fH hr
   rw[hE1 listed Tr Ts]at this;simp at this
  ·obtain⟨OI,o,ho,I0⟩:=mem_ready.1 hi
   have Xx:=(Array.getElem?_eq_some_iff.1 ho).1
   have Sq:i<listed.size:=by rw[fH];exact Xx
   obtain⟨ao,Ca,Oi⟩:=nP i o ho
   have KQ:=hE1 listed Tr Ts
   have Bc:=hE2 listed Tr Ts
   have aem:=JG hc ho I0
   have aen:(listed.setIfInBounds i true).size=ops.size:=by simp[fH]
   have XA:(pre.filter λi=> !listed.getD i true).Sublist pre:=List.filter_sublist
   have hSs:(suf.filter λi=> !listed.getD i true).Sublist suf:=List.filter_sublist
   have hFu:∀j∈(pre.filter λi=> !listed.getD i true),(!listed.getD j true)=true:=λj hj=>(JgW.1 hj).2
   have hSu:∀j∈(suf.filter λi=> !listed.getD i true),(!listed.getD j true)=true:=λj hj=>(JgW.1 hj).2
   have aom:((pre.filter λi=> !listed.getD i true)++p::q::suf.filter λi=> !listed.getD i true).Nodup:=by rw[←KQ];exact oz.sublist List.filter_sublist
   have Ar:∀j,j∈pre++p::q::suf->(!listed.getD j true)=true->AI (gq ops.toList []) i j=true->False:=λj hj Xy hb=>TR fH hc hi (dq j hj) hb Xy
   have iD:i∈(pre.filter λi=> !listed.getD i true)++p::q::suf.filter λi=> !listed.getD i true:=by
    rw[←KQ,JgW];exact⟨cq i Xx,by rw[OI];rfl⟩
   have hpF:∀ {j x:Nat} {r:List Nat},j∈(pre.filter λi=> !listed.getD i true)->(pre++x::r).Pairwise (rl ops aos us.contains)->rl ops aos us.contains j x:=λhj hp=>(JdQ.1 hp).2.2 _ (XA.subset hj) _ (by simp)
   --p or q:what comes then stands in one order
   have aon:∀(q':Nat),rk ops (pre++i::q'::suf)=true->((pre++i::q'::suf).filter λi=> !listed.getD i true)=(pre.filter λi=> !listed.getD i true)++i::q'::(suf.filter λi=> !listed.getD i true)->(pre++i::suf).Pairwise (rl ops aos us.contains)->(pre++q'::suf).Pairwise (rl ops aos us.contains)->qw aos q' i=true->((pre.filter λi=> !listed.getD i true)++i::q'::(suf.filter λi=> !listed.getD i true)).Nodup->
     iF P aos us.contains W s ((pre.filter λi=> !listed.getD i true)++i::q'::(suf.filter λi=> !listed.getD i true)) K->wpOpIn (FW ro) 0 P ops Q i (wpAnyIn (FW ro) 0 P .any ops Q (n+1) (listed.setIfInBounds i true)) a w:=by
    intro q' ok hfl G2 avR XB He h
    have pB:=CT Sq hfl He
    have uw:∀j∈(pre.filter λi=> !listed.getD i true),gV aos us.contains j i=true:=by
     intro j hj;rcases(hpF hj G2).2 with hb|hb
     ·exact(Ar j (List.mem_append_left _ (XA.subset hj)) (hFu j hj) hb).elim
     ·exact hb
    have cI:∀j∈(pre.filter λi=> !listed.getD i true)++(q'::suf.filter λi=> !listed.getD i true),qw aos j i=true:=by
     intro j hj;rcases JaZ.1 hj with hj|hj
     ·exact(hpF hj G2).1.2
     ·rcases cJ.1 hj with rfl|hj
      ·exact XB
      ·exact my (JhZ (JdQ.1 G2).2.1 (hSs.subset hj)).1.2
    refine pW ho Oi hs hw hY (JF Ca uw cI h) ?_
    intro s' Γ' a' w' b1 b2 b3 b4 b5
    refine aiE (W:=W) (us:=us) nP ok (n+1) (listed.setIfInBounds i true) aen aem ?_ ?_ b1 b2 (hY.le b3) ?_ (hk.trans b3 b4)
    ·rw[pB];exact avR.sublist (List.Sublist.append XA (hSs.cons_cons _))
    ·rw[pB,JaJ];simp only[JcX];omega
    ·rw[pB];exact b5
   have aoo:=JgJ.1 aom
   rcases JaZ.1 iD with hiF|hiE
   ·--one of those ahead of both
    obtain⟨l1,l2,hl⟩:=List.append_of_mem hiF
    have He:(l1++i::l2).Nodup:=by rw[←hl];exact aoo.1
    have pB:=CT Sq hl He
    have hip:i∈pre:=XA.subset hiF
    have hrS:(suf.filter λj=> !(listed.setIfInBounds i true).getD j true)=suf.filter λj=> !listed.getD j true:=by
     refine List.filter_congr λj hj=> ?_;rw[getD_set_ne true (by rintro rfl;exact aol _ hip hj)]
    have KP:(pre.filter λi=> !listed.getD i true).Pairwise (rl ops aos us.contains):=(JdQ.1 Fx).1.sublist XA
    rw[hl]at KP
    have uw:∀j∈l1,gV aos us.contains j i=true:=by
     intro j hj;have hjF:j∈pre.filter λi=> !listed.getD i true:=by rw[hl];simp[hj]
     rcases((JdQ.1 KP).2.2 j hj i (by simp)).2 with hb|hb
     ·exact(Ar j (List.mem_append_left _ (XA.subset hjF)) (hFu j hjF) hb).elim
     ·exact hb
    have cI:∀j∈l1++(l2++p::q::suf.filter λi=> !listed.getD i true),qw aos j i=true:=by
     intro j hj;rcases JaZ.1 hj with hj|hj
     ·exact((JdQ.1 KP).2.2 j hj i (by simp)).1.2
     ·rcases JaZ.1 hj with hj|hj
      ·exact my (JhZ (JdQ.1 KP).2.1 hj).1.2
      ·rcases cJ.1 hj with rfl|hj
       ·exact my (hpF hiF Fx).1.2
       ·rcases cJ.1 hj with rfl|hj
        ·exact my (hpF hiF B9).1.2
        ·exact my ((JdQ.1 Fx).2.2 _ (XA.subset hiF) _ (by simp[hSs.subset hj])).1.2
    rw[hl]at h hn
    refine pW ho Oi hs hw hY (TQ Ca uw cI h) ?_
    intro s' Γ' a' w' b1 b2 b3 b4 b5
    have aep:i≠p:=by rintro rfl;exact Bb hip
    have aeq:i≠q:=by rintro rfl;exact hqp hip
    change wpAnyIn (FW ro) 0 P .any ops Q (n+1) _ _ _
    obtain⟨m,rfl⟩:∃m,n=m+1:=⟨n-1,by simp only[JaJ,JcX]at hn;omega⟩
    refine IH m rfl (listed.setIfInBounds i true) aen aem (by rw[getD_set_ne true aep];exact Tr) (by rw[getD_set_ne true aeq];exact Ts) (by rw[pB,hrS];simp only[JaJ,JcX]at hn⊢;omega) b1 b2 (hY.le b3) (by rw[pB,hrS];exact b5) (hk.trans b3 b4)
   ·rcases cJ.1 hiE with rfl|hiE
    ·refine aon q ael KQ Fx B9 (my lY) aom ?_
     exact CS (λ_=>rfl) (yw (λt ht=>ht.1) h)
    ·rcases cJ.1 hiE with rfl|hiE
     ·refine aon p Aq Bc B9 Fx lY (by rw[←Bc];exact(List.Nodup.sublist List.filter_sublist (JI oz))) ?_
      exact CS (λ_=>JE) (yw (λt ht=>ht.2) h)
     ·--something made,that waits for neither
      have his:i∈suf:=hSs.subset hiE
      have hnp:¬AI (gq ops.toList []) i p=true:=λhb=>Ar p (by simp) Tr hb
      have hnq:¬AI (gq ops.toList []) i q=true:=λhb=>Ar q (by simp) Ts hb
      have hia:CU aos i=true:=by
       rcases avP i his with hb|hb|hb
       ·exact absurd hb hnp
       ·exact absurd hb hnq
       ·exact hb
      simp only[CU,Ca]at hia
      obtain⟨k,hka⟩:=JaW.1 hia
      have hxq:ao.quiet=false:=by
       cases hxx:ao.quiet with
       |false=>rfl
       |true=>rw[eL hxx]at hka;cases hka
      obtain⟨S1,S2,hl⟩:=List.append_of_mem hiE
      have He:(S1++i::S2).Nodup:=by rw[←hl];exact(JiZ.1 (JiZ.1 aoo.2.1).2).2
      have pB:=CT Sq hl He
      have hrF:(pre.filter λj=> !(listed.setIfInBounds i true).getD j true)=pre.filter λj=> !listed.getD j true:=by
       refine List.filter_congr λj hj=> ?_;rw[getD_set_ne true (by rintro rfl;exact aol _ hj his)]
      have hR1:=(JdQ.1 Fx)
      have hR2:=(JdQ.1 B9)
      have rP:rl ops aos us.contains p i:=JhZ hR1.2.1 his
      have rQ:rl ops aos us.contains q i:=JhZ hR2.2.1 his
      have oP:gV aos us.contains p i=true:=rP.2.resolve_left hnp
      have oQ:gV aos us.contains q i=true:=rQ.2.resolve_left hnq
      have aes:(suf.filter λi=> !listed.getD i true).Pairwise (rl ops aos us.contains):=(JjQ.1 hR1.2.1).2.sublist hSs
      rw[hl]at aes
      have rS:∀j∈S1,rl ops aos us.contains j i:=λj hj=>(JdQ.1 aes).2.2 j hj i (by simp)
      have rS2:∀j∈S2,qw aos j i=true:=λj hj=>my (JhZ (JdQ.1 aes).2.1 hj).1.2
      have oS:∀j∈S1,gV aos us.contains j i=true:=by
       intro j hj;have hjS:j∈suf.filter λi=> !listed.getD i true:=by rw[hl];simp[hj]
       rcases(rS j hj).2 with hb|hb
       ·exact(Ar j (by simp[hSs.subset hjS]) (hSu j hjS) hb).elim
       ·exact hb
      have oF:∀j∈(pre.filter λi=> !listed.getD i true),rl ops aos us.contains j i:=λj hj=>hR1.2.2 _ (XA.subset hj) _ (by simp[his])
      have aet:∀j∈p::q::(S1++S2),qw aos j i=true:=by
       intro j hj;rcases cJ.1 hj with rfl|hj
       ·exact rP.1.2
       ·rcases cJ.1 hj with rfl|hj
        ·exact rQ.1.2
        ·rcases JaZ.1 hj with hj|hj
         ·exact(rS j hj).1.2
         ·exact rS2 j hj
      rw[hl]at h hn
      have hgo:=u5 (P:=P) (E':=p::q::(S1++S2)) (K':=λt=>iF P aos us.contains W t (p::q::(S1++S2)) K∧iF P aos us.contains W t (q::p::(S1++S2)) K) Ca hka hxq ?_ aet ?_ _ s (λj hj=> ?_) (λj hj=>(oF j hj).1.2) h
      ·refine pW ho Oi hs hw hY (bU (λt ht=>ht.2) hgo) ?_
       intro s' Γ' a' w' b1 b2 b3 b4 b5
       have aep:i≠p:=by rintro rfl;exact Ew his
       have aeq:i≠q:=by rintro rfl;exact hqs his
       change wpAnyIn (FW ro) 0 P .any ops Q (n+1) _ _ _
       obtain⟨m,rfl⟩:∃m,n=m+1:=⟨n-1,by simp only[JaJ,JcX]at hn;omega⟩
       refine IH m rfl (listed.setIfInBounds i true) aen aem (by rw[getD_set_ne true aep];exact Tr) (by rw[getD_set_ne true aeq];exact Ts) (by rw[pB,hrF];simp only[JaJ,JcX]at hn⊢;omega) b1 b2 (hY.le b3) (by rw[pB,hrF];exact b5) (hk.trans b3 b4)
      ·intro s hf
       rw[bQ,bQ (l:=S1++i::S2),nW,bQ (l:=S2)]at hf
       simp only[aJ]at hf
       refine⟨(sL Ca hka).1 hf.2.2.2.1,?_⟩
       rw[bQ,bQ (l:=S1++S2),nW,hf.1,hf.2.1,hf.2.2.1,hf.2.2.2.2];rfl
      ·intro s hs
       obtain⟨z,DY,lY⟩:=qu (P:=P) hka
       have f1:=JF (s:=s) (l1:=p::q::S1) (l2:=S2) Ca (λj hj=>by
        rcases cJ.1 hj with rfl|hj
        ·exact oP
        ·rcases cJ.1 hj with rfl|hj
         ·exact oQ
         ·exact oS j hj) (by simpa using aet) hs.1
       have f2:=JF (s:=s) (l1:=q::p::S1) (l2:=S2) Ca (λj hj=>by
        rcases cJ.1 hj with rfl|hj
        ·exact oQ
        ·rcases cJ.1 hj with rfl|hj
         ·exact oP
         ·exact oS j hj) (λj hj=>aet j (by simp at hj⊢;rcases hj with h|h|h|h<;>simp[h])) hs.2
       exact(lY s _).2 ⟨((lY s _).1 f1).1,((lY s _).1 f1).2,((lY s _).1 f2).2⟩
      ·rcases(oF j hj).2 with hb|hb
       ·exact(Ar j (List.mem_append_left _ (XA.subset hj)) (hFu j hj) hb).elim
       ·exact hb
 intro n;induction n with
 |
  zero=>
  intro listed s Γ a w fH hc Tr Ts hn hs hw hY h hk
  exact stepP (λ_ Of=>absurd Of (by omega)) fH hc Tr Ts hn hs hw hY h hk
 |
  succ n ih=>
  intro listed s Γ a w fH hc Tr Ts hn hs hw hY h hk
  exact stepP (λm hm=>by
                obtain rfl:m=n:=by omega
                exact ih) fH hc Tr Ts hn hs hw hY h hk
theorem xh {ro:Option Nat} {ops:Array Oper} {aos:List AO} {own sp:List Nat} {pre suf us:List Nat} {p q:Nat} {id:Nat} (hm:P.follows .mixedOrders=true) (ht:mY P nt ops own sp true ops.toList=some aos) (dh:F6 ops aos pre p q suf us=true) {K:St->Prop} (hs:gm nt ds s Γ a) (hw:w.heap=Γ.heap)
  (hY:EJ P Γ) (h:∃W,mb P aos us.contains W (p::q::suf) s pre (λt=>iF P aos us.contains W t (p::q::suf) K∧iF P aos us.contains W t (q::p::suf) K)) (hk:HD P nt ds Γ w K (Q .normal)):(Code.region id ops true).wpIn (FW ro) 0 P Q a w:=by
 obtain⟨W,h⟩:=h;obtain⟨h1,h2⟩:=qn ht;simp only[F6,aJ,bne_iff_ne,ne_eq,JeX,JoQ]at dh;obtain⟨⟨⟨⟨⟨⟨k1,k2⟩,k3⟩,k4⟩,k5⟩,k6⟩,k7⟩:=dh;obtain⟨dq,cq⟩:=Li k1
 have hg:∀i∈pre++p::q::suf,(!(Array.replicate ops.size false).getD i true)=true:=by
  intro i hi;have:=dq i hi;simp[JbJ,this]
 have e:(pre.filter λi=> !(Array.replicate ops.size false).getD i true)=pre:=by
  rw[JfX];intro i hi;exact hg i (by simp[hi])
 have e':(suf.filter λi=> !(Array.replicate ops.size false).getD i true)=suf:=by
  rw[JfX];intro i hi;exact hg i (by simp[hi])
 have hlen:ops.size=pre.length+suf.length+1+1:=by
  simp only[rk,aJ,beq_iff_eq]at k1;have:=k1.1.1.2;simp at this;omega
 have hgo:=aiG (P:=P) (nt:=nt) (ds:=ds) (ro:=ro) (Q:=Q) (s:=s) (Γ:=Γ) (a:=a) (w:= {w with drawn:=w.drawn+1}) (K:=K) (W:=W) (λi o hi=>h2 i o (by simpa using hi)) k1 k2 (ES k3) (ES k4) k5 k6 k7 (pre.length+suf.length) (Array.replicate ops.size false) (by simp) ?_ (hg p (by simp)) (hg q (by simp)) (by rw[e,e']) hs hw hY (by rw[e,e'];exact h) ?_
 ·rw[←hlen]at hgo;exact wpIn_region_any hm hgo
 ·intro k o hko hl;have:=(Array.getElem?_eq_some_iff.1 hko).1;simp[JbJ,this]at hl
 ·intro s' Γ' a' w' b1 b2 b3 b4 b5;exact hk s' Γ' a' w' b1 b2 b3 ⟨b4.os,b4.tape,b4.output⟩ b5
def PI (ops:Array Oper) (aos:List AO) (p q i:Nat):Bool:=CU aos i&&(List.range ops.size).all λj=> !AI (gq ops.toList []) j i||(AI (gq ops.toList []) j p||AI (gq ops.toList []) j q)
def F7 (ms:List Nat) (aos:List AO):List Nat->List Nat
 |[]=>[]
 |j::r=>if(rR aos j&& !soB aos j&&r.any λi=> !rR aos i&&(!CU aos i&& !AI ms i j))=true then j::F7 ms aos r else F7 ms aos r
def TS (ms:List Nat) (aos:List AO):List Nat->List Nat->List Nat
 |_,[]=>[]
 |done,i::r=>if(!rR aos i&&(!CU aos i&&done.any λj=>rR aos j&& !soB aos j&& !AI ms i j))=true then i::TS ms aos (i::done) r else TS ms aos (i::done) r
def Lj (ops:Array Oper) (aos:List AO) (p q:Nat):List Nat:=(zJ ops aos).filter λi=> !(i==p||i==q||(AI (gq ops.toList []) i p||(AI (gq ops.toList []) i q||PI ops aos p q i)))
def Lk (ops:Array Oper) (aos:List AO) (p q:Nat):List Nat:=(zJ ops aos).filter λi=> !(i==p||i==q)&&(AI (gq ops.toList []) i p||(AI (gq ops.toList []) i q||PI ops aos p q i))
def PJ (ops:Array Oper) (aos:List AO) (p q:Nat):List Nat:=
 let l:=Lj ops aos p q++p::Lk ops aos p q
 let m:=Lj ops aos p q++q::Lk ops aos p q
 F7 (gq ops.toList []) aos l++TS (gq ops.toList []) aos [] l++F7 (gq ops.toList []) aos m++TS (gq ops.toList []) aos [] m
def aiH (own:List Nat):Option (Nat×Nat):=match own.find? (λn=>decide (1000000≤n))with|some n=>some ((n-1000000)/1000,(n-1000000)%1000)|none=>none
def asn (own:List Nat) (aos:List AO):Option (Nat×Nat):=match aiH own with|some (p,q)=>if(!soB aos p&& !rR aos q)=true then some (p,q)else none|none=>none
end Go.Ab
namespace Go.Ab
variable [cL]
variable {P:Program} {nt:Nat} {ds:List Deferred} {s:St} {Γ Δ Γ0:Cx} {a:Act} {w w0:World} [eJ]
inductive b7
 |skip
 |region (l:List AO)
 |regionD (l:List AO) (ord us:List Nat)
 |regionE (l:List AO) (pre:List Nat) (p q:Nat) (suf us:List Nat)
 |seq (x y:b7)
 |cond (c:AX) (x y:b7)
 |block (id:Nat) (x:b7)
 |loop (x:b7)
 |exit (id:Nat)
 |ret
 |seqm (x y:b7)
def erase:b7->b7
 | .seq x y| .seqm x y=> .seq (erase x) (erase y)
 | .cond c x y=> .cond c (erase x) (erase y)
 | .block id x=> .block id (erase x)
 | .loop x=> .loop (erase x)
 | .skip=> .skip
 | .region l=> .region l
 | .regionD l o u=> .regionD l o u
 | .regionE l a p q b u=> .regionE l a p q b u
 | .exit id=> .exit id
 | .ret=> .ret
def yx:b7->Bool
 | .seq x y| .seqm x y| .cond _ x y=>yx x&&yx y
 | .block _ x| .loop x=>yx x
 |_=>true
theorem xi:∀c:b7,yx (erase c)=yx c
 | .seq x y| .seqm x y| .cond _ x y=>by simp[erase,yx,xi x,xi y]
 | .block _ x| .loop x=>by simp[erase,yx,xi x]
 | .skip| .region _| .regionD .. | .regionE .. | .exit _| .ret=>by simp[erase,yx]
noncomputable def fT (P:Program) (nt:Nat) (own sp:List Nat):Code->Option b7
 | .skip=>some .skip
 | .region _ ops false=>match mY P nt ops own sp false ops.toList with|some l=>some (.region l)|none=>none
 | .region _ ops true=>match mY P nt ops own sp true ops.toList with|some l=>if P.follows .mixedOrders=true then(if F0 ops l=true then some (.region l)else match asn own l with|some (p,q)=>(if F6 ops l (Lj ops l p q) p q (Lk ops l p q) (PJ ops l p q)=true then some (.regionE l (Lj ops l p q) p q (Lk ops l p q) (PJ ops l p q))else none)|none=>if yr ops l (zJ ops l) (Lg ops l)=true then some (.regionD l (zJ ops l) (Lg ops l))else none)else none|none=>none
 | .seq x y=>match fT P nt own sp x,fT P nt own sp y with|some x,some y=>some (.seq x y)|_,_=>none
 | .cond c x y=>match gv c,fT P nt own sp x,fT P nt own sp y with|some c,some x,some y=>some (.cond c x y)|_,_,_=>none
 | .block id x=>match fT P nt own sp x with|some x=>some (.block id x)|none=>none
 | .loop x=>match fT P nt own sp x with|some x=>some (.loop x)|none=>none
 | .exit id=>some (.exit id)
 | .ret=>some .ret
 |_=>none
theorem M5 (own sp:List Nat):∀(c:Code) {ac:b7},fT P nt own sp c=some ac->erase ac=ac:=by
 intro c;induction c with
 |
  seq x y ihx ihy=>
  intro ac h
  simp only[fT]at h
  split at h<;>simp only[sJ,reduceCtorEq]at h
  subst h
  rename_i hx hy
  simp only[erase,ihx hx,ihy hy]
 |
  cond c x y ihx ihy=>
  intro ac h
  simp only[fT]at h
  split at h<;>simp only[sJ,reduceCtorEq]at h
  subst h
  rename_i hx hy
  simp only[erase,ihx hx,ihy hy]
 |
  block id x ih=>
  intro ac h
  simp only[fT]at h
  split at h<;>simp only[sJ,reduceCtorEq]at h
  subst h
  rename_i hx
  simp only[erase,ih hx]
 |
  loop x ih=>
  intro ac h
  simp only[fT]at h
  split at h<;>simp only[sJ,reduceCtorEq]at h
  subst h
  rename_i hx
  simp only[erase,ih hx]
 |
  region id ops d=>
  intro ac h
  cases d<;>simp only[fT]at h<;>(repeat' split at h)<;>simp only[sJ,reduceCtorEq]at h<;>subst h<;>rfl
 |_=>intro ac h;simp only[fT,sJ,reduceCtorEq]at h;try(subst h;rfl)
structure LkF where
 f:b7->b7
 h:∀c,f c=c
theorem PK:Nonempty LkF:=⟨⟨id,λ_=>rfl⟩⟩
noncomputable abbrev lk:b7->b7:=(Classical.choice PK).f
theorem aaS (c:b7):lk c=c:=(Classical.choice PK).h c
def Ll:b7->Bool
 | .loop _=>true
 | .seq x y| .cond _ x y=>Ll x||Ll y
 | .block _ x=>Ll x
 |_=>false
def aaT:b7->Bool
 | .skip| .exit _| .ret=>true
 | .seq x y=>aaT x&&aaT y
 |_=>false
noncomputable def M6:b7->b7
 | .seq x y=> .seq (M6 x) (bif Ll x&& !aaT y then lk (M6 y)else M6 y)
 | .cond c x y=> .cond c (M6 x) (M6 y)
 | .block id x=> .block id (M6 x)
 | .loop x=> .loop (lk (M6 x))
 | .skip=> .skip
 | .region l=> .region l
 | .regionD l o u=> .regionD l o u
 | .regionE l a p q b u=> .regionE l a p q b u
 | .exit id=> .exit id
 | .ret=> .ret
 | .seqm x y=> .seqm x y
theorem xj:∀c,M6 c=c
 | .seq x y=>by simp only[M6,xj x,xj y,aaS,Bool.cond_self]
 | .cond _ x y=>by simp only[M6,xj x,xj y]
 | .block _ x=>by simp only[M6,xj x]
 | .loop x=>by simp only[M6,xj x,aaS]
 | .skip| .region _| .regionD .. | .regionE .. | .exit _| .ret| .seqm .. =>rfl
def Lp (body:(Exit->St->Prop)->St->Prop) (Q:Exit->St->Prop) (s:St):Prop:=
 ∃(I:Nat->St->Prop) (c:List Cut),(iR c s λs'=>∃n,I n s')∧∀n s,I n s->body (AN Q λs'=>∃c':List Cut,iR c' s' λs'=>∃m,m<n∧I m s') s
def Md (x y:(Exit->St->Prop)->St->Prop) (Q:Exit->St->Prop) (s:St):Prop:=
 ∃M:St->Prop,x (AN Q λs'=>∃c:List Cut,iR c s' M) s∧∀s',M s'->y Q s'
def aw (P:Program):b7->(Exit->St->Prop)->St->Prop
 | .skip,Q,s=>Q .normal s
 | .region l,Q,s=>K6 P s l (Q .normal)
 | .regionD l o u,Q,s=>∃W,iF P l u.contains W s o (Q .normal)
 | .regionE l a p q b u,Q,s=>∃W,mb P l u.contains W (p::q::b) s a λt=>iF P l u.contains W t (p::q::b) (Q .normal)∧iF P l u.contains W t (q::p::b) (Q .normal)
 | .seq x y,Q,s=>aw P x (AN Q λs'=>aw P y Q s') s
 |
  .cond c x y,Q,s=>match vx s c with
  | .bl b=>(b=true->aw P x Q s)∧(b=false->aw P y Q s)
  | .gd g (.bl b)=>g=true∧(b=true->aw P x Q s)∧(b=false->aw P y Q s)
  |_=>False
 | .block id x,Q,s=>aw P x (XO id Q) s
 | .loop x,Q,s=>Lp (λQ s=>aw P x Q s) Q s
 | .exit id,Q,s=>Q (.exit id) s
 | .ret,Q,s=>Q .ret s
 | .seqm x y,Q,s=>Md (λQ s=>aw P x Q s) (λQ s=>aw P y Q s) Q s
theorem yy {p:Nat->Prop} (h:∃n,p n):∃n,p n∧∀m,m<n->¬p m:=by
 obtain⟨n,hn⟩:=h;induction n using Nat.strongRecOn with
 |
  _ n ih=>
  by_cases hex:∃m,m<n∧p m
  ·obtain⟨m,hm,hp⟩:=hex;exact ih m hm hp
  ·exact⟨n,hn,λm hm hp=>hex ⟨m,hm,hp⟩⟩
noncomputable def least (p:Nat->Prop):Nat:=by
 classical exact if h:∃n,p n then Classical.choose (yy h)else 0
theorem CV {p:Nat->Prop} (h:∃n,p n):p (least p)∧∀m,p m->least p≤m:=by
 unfold least;rw[dif_pos h];have:=Classical.choose_spec (yy h);exact⟨this.1,λm hm=>Nat.not_lt.1 λdq=>this.2 m dq hm⟩
theorem PL (own sp:List Nat):∀(c:Code) {ro:Option Nat} {Γ0:Cx} {w0:World} {ac:b7} {Q:Exit->St->Prop} {s:St} {Γ:Cx} {a:Act} {w:World} {ds:List Deferred},(ro.isSome=true->yx ac=true)->HK Γ0->EJ P Γ0->fT P nt own sp c=some (erase ac)->aw P ac Q s->gm nt ds s Γ a->sG Γ0.heap.size Γ ds->w.heap=Γ.heap->Le Γ0 Γ->WF w0 w->
  c.wpIn (FW ro) 0 P (lift nt Γ0 w0 Q) a w:=by
 have key:∀ {Γ0:Cx} {w0:World} {Γ:Cx} {a:Act} {w:World} {ds:List Deferred} {K:St->Prop},w.heap=Γ.heap->WF w0 w->sG Γ0.heap.size Γ ds->ri nt ds Γ0 Γ a K->∃s' Γ',gm nt ds s' Γ' a∧sG Γ0.heap.size Γ' ds∧w.heap=Γ'.heap∧Le Γ0 Γ'∧WF w0 w∧K s':=by
  intro Γ0 w0 Γ a w ds K b2 b4 bd hg;obtain⟨s',Γ',g1,g2,g3,g4⟩:=hg;exact⟨s',Γ',g1,bd.heap g2,by rw[g2];exact b2,g3,b4,g4⟩
 intro c;induction c with
 |
  skip=>
  intro ro Γ0 w0 ac Q s Γ a w ds hr ra hY ht h hs hd hw hle uu
  simp only[fT,sJ]at ht
  cases ac<;>simp only[erase,reduceCtorEq]at ht
  exact wpIn_skip ⟨ds,s,Γ,hs,hd,hw,hle,uu,h⟩
 |
  exit id=>
  intro ro Γ0 w0 ac Q s Γ a w ds hr ra hY ht h hs hd hw hle uu
  simp only[fT,sJ]at ht
  cases ac<;>simp only[erase,reduceCtorEq,b7.exit.injEq]at ht
  subst ht
  exact wpIn_exit ⟨ds,s,Γ,hs,hd,hw,hle,uu,h⟩
 |
  ret=>
  intro ro Γ0 w0 ac Q s Γ a w ds hr ra hY ht h hs hd hw hle uu
  simp only[fT,sJ]at ht
  cases ac<;>simp only[erase,reduceCtorEq]at ht
  exact wpIn_ret ⟨ds,s,Γ,hs,hd,hw,hle,uu,h⟩
 |
  region id ops draw=>
  intro ro Γ0 w0 ac Q s Γ a w ds hr ra hY ht h hs hd hw hle uu
  have hk:HD P nt ds Γ w (Q .normal) (lift nt Γ0 w0 Q .normal):=λs' Γ' a' w' b1 b2 b3 b4 b5=>⟨ds,s',Γ',b1,hd.le hs.mem b3,b2,hle.trans b3,uu.trans b4,b5⟩
  have hY':=hY.le hle
  cases draw with
  |
   false=>
   simp only[fT]at ht
   split at ht<;>simp only[sJ,reduceCtorEq]at ht
   rename_i l hl
   cases ac<;>simp only[erase,reduceCtorEq,b7.region.injEq]at ht
   subst ht
   exact FY hl hs hw hY' h hk
  |
   true=>
   simp only[fT]at ht
   split at ht
   ·rename_i l hl
    split at ht
    ·rename_i hm
     split at ht
     ·rename_i dh
      simp only[sJ]at ht
      cases ac<;>simp only[erase,reduceCtorEq,b7.region.injEq]at ht
      subst ht
      exact yj hm hl dh hs hw hY' h hk
     ·split at ht
      ·split at ht
       ·simp only[sJ]at ht
        rename_i dh
        cases ac<;>simp only[erase,reduceCtorEq,b7.regionE.injEq]at ht
        obtain⟨rfl,rfl,rfl,rfl,rfl,rfl⟩:=ht
        exact xh hm hl dh hs hw hY' h hk
       ·simp at ht
      ·split at ht
       ·simp only[sJ]at ht
        rename_i dh
        cases ac<;>simp only[erase,reduceCtorEq,b7.regionD.injEq]at ht
        obtain⟨rfl,rfl,rfl⟩:=ht
        exact xg hm hl dh hs hw hY' h hk
       ·simp at ht
    ·simp at ht
   ·simp at ht
 |
  seq x y ihx ihy=>
  intro ro Γ0 w0 ac Q s Γ a w ds hr ra hY ht h hs hd hw hle uu
  simp only[fT]at ht
  split at ht<;>simp only[sJ,reduceCtorEq]at ht
  rename_i ax ay hx hy
  cases ac<;>simp only[erase,reduceCtorEq,b7.seq.injEq]at ht
  ·obtain⟨rfl,rfl⟩:=ht
   simp only[aw]at h
   simp only[yx,aJ]at hr
   refine wpIn_seq (wpIn_mono (ihx (λe=>(hr e).1) ra hY hx h hs hd hw hle uu) λe a' w' he=> ?_)
   have:=CR he
   cases e with
   |
    normal=>
    obtain⟨ds',s',Γ',b1,bd,b2,b3,b4,b5⟩:=this
    exact ihy (λe=>(hr e).2) ra hY hy b5 b1 bd b2 b3 b4
   |_=>exact this
  ·obtain⟨rfl,rfl⟩:=ht
   simp only[aw]at h
   simp only[yx,aJ]at hr
   obtain⟨M,h1,h2⟩:=h
   refine wpIn_seq (wpIn_mono (ihx (λe=>(hr e).1) ra hY hx h1 hs hd hw hle uu) λe a' w' he=> ?_)
   have:=CR he
   cases e with
   |
    normal=>
    obtain⟨ds',s',Γ',b1,bd,b2,b3,b4,c,b5⟩:=this
    obtain⟨s3,Γ3,d1,dd,d2,d3,d4,d5⟩:=key (Γ:=Γ') b2 b4 bd (qo ra c b1 b3 b5)
    exact ihy (λe=>(hr e).2) ra hY hy (h2 _ d5) d1 dd d2 d3 d4
   |_=>exact this
 |
  cond c x y ihx ihy=>
  intro ro Γ0 w0 ac Q s Γ a w ds OH ra hY ht h hs hd hw hle uu
  simp only[fT]at ht
  split at ht<;>simp only[sJ,reduceCtorEq]at ht
  rename_i c' ax ay hc hx hy
  cases ac<;>simp only[erase,reduceCtorEq,b7.cond.injEq]at ht
  obtain⟨rfl,rfl,rfl⟩:=ht
  simp only[aw]at h
  simp only[yx,aJ]at OH
  have hr:=Ch hc hs
  split at h
  ·rename_i b hb
   rw[hb]at hr
   simp only[aL]at hr
   have hcv:a.eval c= .bool b:=by generalize a.eval c=v at hr;cases hr;rfl
   exact wpIn_cond_split hcv (λhb=>ihx (λe=>(OH e).1) ra hY hx (h.1 hb) hs hd hw hle uu) (λhb=>ihy (λe=>(OH e).2) ra hY hy (h.2 hb) hs hd hw hle uu)
  ·rename_i g b hb
   rw[hb,aL]at hr
   have hr:=hr.1 h.1
   simp only[aL]at hr
   have hcv:a.eval c= .bool b:=by generalize a.eval c=v at hr;cases hr;rfl
   exact wpIn_cond_split hcv (λhb=>ihx (λe=>(OH e).1) ra hY hx (h.2.1 hb) hs hd hw hle uu) (λhb=>ihy (λe=>(OH e).2) ra hY hy (h.2.2 hb) hs hd hw hle uu)
  ·exact h.elim
 |
  block id x ih=>
  intro ro Γ0 w0 ac Q s Γ a w ds hr ra hY ht h hs hd hw hle uu
  simp only[fT]at ht
  split at ht<;>simp only[sJ,reduceCtorEq]at ht
  rename_i ax hx
  cases ac<;>simp only[erase,reduceCtorEq,b7.block.injEq]at ht
  obtain⟨rfl,rfl⟩:=ht
  simp only[aw]at h
  exact wpIn_block (wpIn_mono (ih (λe=>by simpa only[yx]using hr e) ra hY hx h hs hd hw hle uu) λe a' w' he=>PH he)
 |
  loop x ih=>
  intro ro Γ0 w0 ac Q s Γ a w ds OH ra hY ht h hs hd hw hle uu
  simp only[fT]at ht
  split at ht<;>simp only[sJ,reduceCtorEq]at ht
  rename_i ax hx
  cases ac<;>simp only[erase,reduceCtorEq,b7.loop.injEq]at ht
  subst ht
  simp only[aw]at h
  obtain⟨I,cs,h0,hr⟩:=h
  let J:Act->World->Nat->Prop:=λa w n=>∃ds s Γ,gm nt ds s Γ a∧sG Γ0.heap.size Γ ds∧w.heap=Γ.heap∧Le Γ0 Γ∧WF w0 w∧I n s
  refine wpIn_loop (λa w=>∃n,J a w n) (λa w=>least (J a w)) ?_ ?_
  ·obtain⟨s',Γ',b1,bd,b2,b3,b4,n,b5⟩:=key (Γ:=Γ) hw uu hd (qo ra cs hs hle h0)
   exact⟨n,ds,s',Γ',b1,bd,b2,b3,b4,b5⟩
  ·intro a1 w1 hJ
   obtain⟨⟨ds1,s1,Γ1,b1,bd,b2,b3,b4,b5⟩,wN⟩:=CV hJ
   refine wpIn_mono (ih (λe=>by simpa only[yx]using OH e) ra hY hx (hr _ _ b5) b1 bd b2 b3 b4) λe a' w' he=> ?_
   have:=CR he
   cases e with
   |
    normal=>
    obtain⟨ds2,s2,Γ2,c1,cd,c2,c3,c4,DQ,c5⟩:=this
    obtain⟨s3,Γ3,d1,dd,d2,d3,d4,m,dq,d5⟩:=key (Γ:=Γ2) c2 c4 cd (qo ra DQ c1 c3 c5)
    have hJm:J a' w' m:=⟨ds2,s3,Γ3,d1,dd,d2,d3,d4,d5⟩
    exact⟨⟨m,hJm⟩,JfV ((CV ⟨m,hJm⟩).2 m hJm) dq⟩
   |_=>exact this
 |_=>intro ro Γ0 w0 ac Q s Γ a w ds hr ra hY ht;simp[fT]at ht
end Go.Ab
namespace Go.Ab
variable [cL]
variable {P:Program} {nt:Nat} {ds:List Deferred} {s:St} {Γ Δ Γ0:Cx} {a:Act} {w w0:World}
def EU (P:Program):ResultVar->Option AK
 | .tmp t=>some (.mv (.t t))
 | .cell t ty=>match lM P ty,gT P ty with|some g,some n=>some (.load g n (.t t))|_,_=>none
structure cM where
 nt:Nat
 res:List AK
 code:b7
def cM.er (f:cM):cM:=⟨f.nt,f.res,erase f.code⟩
noncomputable def nk (P:Program) (own sp:List Nat) (f:FuncId):Option cM:=
 match P.funcs[f]?with
 |
  some fn=>if(fn.name== "runtime.NumGoroutine")=false then(match fn.body with
  |
   some c=>match fT P fn.ntmps own sp c,allM (EU P) fn.results.toList with
   |some ac,some rs=>some ⟨fn.ntmps,rs,ac⟩
   |_,_=>none
  |none=>none)else none
 |none=>none
noncomputable def HV (P:Program) (own sp:List Nat) (f:FuncId):Option cM:=
 match nk P own sp f with|some A=>some ⟨A.nt,A.res,M6 A.code⟩|none=>none
theorem aC {own sp:List Nat} {f:FuncId} {A:cM} (h:HV P own sp f=some A):nk P own sp f=some A.er:=by
 unfold HV at h;split at h
 ·rename_i B hB;rw[hB];simp only[sJ]at h;subst h;rw[xj];have h2:=hB;unfold nk at h2;(repeat' split at h2)<;>simp only[sJ,reduceCtorEq]at h2;subst h2;rename_i hc _;simp only[cM.er,M5 _ _ _ hc]
 ·simp at h
abbrev RF (P:Program) (own sp:List Nat) (f:FuncId):= {A:cM//HV P own sp f=some A}
def I6 (s:St):List AK->(List PV->Prop)->Prop
 |[],K=>K []
 |k::r,K=>ev true s k λp=>I6 s r λps=>K (p::ps)
def dj:List PV->PV
 |[p]=>p
 |ps=> .tup ps
def PV.flat:PV->Bool
 | .gd _ _| .tup _=>false
 |_=>true
def TT (n:Nat) (res:List AK) (R:PV->List aV->Prop) (s:St):Prop:=
 ∃
  (c:List Cut) (ks:List Nat),iR c s λs'=>I6 s' res λps=>∃bM,(getAll s'.bx ks=some bM∧ks.Nodup∧ks.take n=dS n)∧
  (ps.all PV.flat=true∧af (bR ks) (dj ps)=true∧bM.all (ab (bR ks))=true)∧R (aE (bz ks) (dj ps)) (bM.map (az (bz ks)))
def ends (n:Nat) (res:List AK) (R:PV->List aV->Prop):Exit->St->Prop
 | .ret,s| .normal,s=>TT n res R s
 |_,_=>False
def aj:Nat->List PV->List (Nat×PV)
 |_,[]=>[]
 |i,p::r=>(i,p)::aj (i+1) r
theorem CW:∀(l:List PV) (i k:Nat),get (aj i l) k=if i≤k then l[k-i]?else none
 |[],i,k=>by simp[aj,get]
 |
  p::l,i,k=>by
  simp only[aj,get,CW l (i+1) k]
  by_cases h:i=k
  ·subst h;simp
  ·rw[if_neg h]
   by_cases h2:i≤k
   ·rw[if_pos (by omega),if_pos h2,show k-i=(k-(i+1))+1 by omega,List.getElem?_cons_succ]
   ·rw[if_neg (by omega),if_neg h2]
theorem ff.at:∀ {l:List PV} {vs:List Value} {i:Nat} {p:PV},ff Γ l vs->l[i]? =some p->∃v,vs[i]? =some v∧aL Γ p v
 |[],_,_,_,_,h=>by simp at h
 |p::l,[],_,_,h,_=>by simp[ff]at h
 |p::l,v::vs,0,q,h,hi=>by simp at hi;subst hi;exact⟨v,rfl,h.1⟩
 |p::l,v::vs,i+1,q,h,hi=>by simp at hi;simpa using ff.at h.2 hi
theorem JJ {t:TypeId} {v r:Value} (h:(Instr.loadAt t v).run P w= .ok r w):((do loadVar t (←asAddr v)):Sem Value).run P w= .ok r w:=by
 unfold Instr.loadAt at h
 cases v<;>first
  |(rename_i ad;cases ad<;>first|exact h|(simp[Instr.sureAddr,stuck]at h))
  |(simp[Instr.sureAddr,stuck]at h)
theorem aL.aiI {p:PV} {v:Value} (h:aL Γ p v) (hf:p.flat=true):gP Γ p v:=by
 cases p<;>simp[PV.flat]at hf<;>first|exact h|(simp[gP])
def HW (tmps:Array Value):ResultVar->Sem Value
 | .tmp t=>pure (tmps.getD t undef)
 | .cell a t=>do loadVar t (←asAddr (tmps.getD a undef))
theorem Lm (hs:gm nt ds s Γ a) (hw:w.heap=Γ.heap):∀ {rs:List ResultVar} {ks:List AK} {K:List PV->Prop},allM (EU P) rs=some ks->I6 s ks K->
  ∃ps vs,K ps∧(rs.mapM (HW a.tmps)).run P w= .ok vs w∧ff Γ ps vs
 |
  [],ks,K,h,he=>by
  simp only[allM,sJ]at h;subst h
  exact⟨[],[],he,rfl,trivial⟩
 |
  r::rs,ks,K,h,he=>by
  simp only[allM]at h
  split at h
  ·rename_i y l hy hl
   simp only[sJ]at h;subst h
   simp only[I6]at he
   have h1:∃p v,(I6 s l λps=>K (p::ps))∧(HW a.tmps r).run P w= .ok v w∧aL Γ p v:=by
    cases r with
    |
     tmp t=>
     simp only[EU,sJ]at hy;subst hy
     simp only[ev]at he
     obtain⟨p,hp,hr⟩:=bw (x:= .tmp t) rfl hs rfl he
     exact⟨p,_,hp,rfl,hr⟩
    |
     cell t ty=>
     simp only[EU]at hy
     split at hy<;>simp only[sJ,reduceCtorEq]at hy
     rename_i g n hg hn;subst hy
     obtain⟨p,v,hp,fU,hr⟩:=Hi (x:= .tmp t) rfl hs hw rfl hg hn he
     exact⟨p,v,hp,JJ fU,hr⟩
   obtain⟨p,v,hp,fU,hr⟩:=h1
   obtain⟨ps,vs,hK,aor,cq⟩:=Lm hs hw hl hp
   refine⟨p::ps,v::vs,hK,?_,hr,cq⟩
   rw[List.mapM_cons]
   simp only[bJ,fU,rJ,aor]
   rfl
  ·simp at h
theorem Ln:∀ {ps:List PV} {vs:List Value},ff Γ ps vs->ps.all PV.flat=true->kO Γ ps vs
 |[],[],_,_=>trivial
 |[],_::_,h,_=>by simp[ff]at h
 |_::_,[],h,_=>by simp[ff]at h
 |
  p::ps,v::vs,h,hf=>by
  simp only[JoZ,aJ]at hf
  exact⟨h.1.aiI hf.1,Ln h.2 hf.2⟩
def aiJ:List Value->Value
 |[v]=>v
 |vs=> .tuple vs.toArray
theorem JK (fn:Func) (tmps:Array Value) {vs:List Value} (h:(fn.results.toList.mapM (HW tmps)).run P w= .ok vs w):
  (results fn tmps).run P w= .ok (aiJ vs) w:=by
 have e:results fn tmps=(do
   let vs←fn.results.mapM (HW tmps)
   pure (if h:vs.size=1 then vs[0]else .tuple vs)):=by
  unfold results
  congr 1
 have h2:(fn.results.mapM (HW tmps)).run P w= .ok vs.toArray w:=by
  rw[Array.mapM_eq_mapM_toList,Sem.run_map,h];rfl
 rw[e,bJ,h2];simp only[rJ,JbW];match vs with
 |[]=>rfl
 |[v]=>rfl
 |v::u::vs=>rfl
theorem M7 {fn:Func} {rs:List AK} {fp:List aV} {R:PV->List aV->Prop} (hr:allM (EU P) fn.results.toList=some rs) (h0:Γ0.bx=av 0 fp) (ra:HK Γ0) (hs:gm nt ds s Γ a) (hw:w.heap=Γ.heap) (hle:Le Γ0 Γ) (h:TT fp.length rs R s):
  ∃v r xD Γ',(results fn a.tmps).run P w= .ok v w∧R r xD∧w.heap=Γ'.heap∧Mem Γ'∧Γ'.bx=av 0 xD∧aL Γ' r v∧Le Γ0 Γ':=by
 obtain⟨c,ks,h⟩:=h;obtain⟨s',Γ1,Ev,hh,avV,h⟩:=qo ra c hs hle h;have Fx:w.heap=Γ1.heap:=by rw[hh];exact hw
 obtain⟨ps,vs,h,fU,cq⟩:=Lm Ev Fx hr h;obtain⟨bM,⟨hg,hn,Tm⟩,⟨hf,hro,hbo⟩,hR⟩:=h;rw[←Ev.bx]at hg;have uv:=Cx.HU hg;refine⟨_,_,_,Γ1.out ks bM,JK fn a.tmps fU,hR,Fx,Cx.TP Ev.mem hg hn hbo,rfl,?_,Cx.aaR avV h0 hg Tm⟩
 have hv:aL Γ1 (dj ps) (aiJ vs):=by
  have hl:=cq.length;match ps,vs,cq,hl with
  |[],[],_,_=>exact⟨[],rfl,trivial⟩
  |[p],[v],cq,_=>exact cq.1
  |p::q::ps,v::u::vs,cq,_=>exact⟨_,rfl,Ln cq hf⟩
 exact hv.aE uv hro
theorem tB {fn:Func} {rs:List AK} {fp:List aV} {R:PV->List aV->Prop} (hr:allM (EU P) fn.results.toList=some rs) (h0:Γ0.bx=av 0 fp) (ra:HK Γ0) (h:TT fp.length rs R s):
  ∀
   (Ds:List Nat) {ds:List Deferred} {Γ:Cx} {w:World},gm nt ds s Γ a->w.heap=Γ.heap->Le Γ0 Γ->WF w0 w->Ds.Nodup->(∀D∈Ds,Γ0.heap.size≤D∧Γ.heap[D]? =some (.deferred (some [])))->
   LeavesInM (FW none) 0 P fn a.tmps (λe w'=>∃v r xD Γ',e= .returned v∧R r xD∧w'.heap=Γ'.heap∧Mem Γ'∧Γ'.bx=av 0 xD∧aL Γ' r v∧Le Γ0 Γ'∧WF w0 w')
    (Ds.map λD=> {target:= .collected D,args:= #[]}) .returning w
 |
  [],ds,Γ,w,hs,hw,hle,uu,_,_=>by
  obtain⟨v,r,xD,Γ2,h1,h2,h3⟩:=M7 hr h0 ra hs hw hle h
  exact⟨v,h1,v,r,xD,Γ2,rfl,h2,h3.1,h3.2.1,h3.2.2.1,h3.2.2.2.1,h3.2.2.2.2,uu⟩
 |
  D::Ds,ds,Γ,w,hs,hw,hle,uu,hn,hd=>by
  obtain⟨hlo,hh⟩:=hd D (by simp)
  have hp:Γ.jk D:=⟨_,hh,rfl⟩
  obtain⟨hnm,Of⟩:=JiZ.1 hn
  refine⟨by simp,.inl ⟨D,w.putObj D (.deferred none),rfl,run_takeDeferred (by rw[hw];exact hh),?_⟩⟩
  refine tB hr h0 ra h Ds (hs.obj hp) (O9 hw) (FO hle hlo hp) (uu.trans (WF.obj _ _ _)) Of (λD' hD'=> ?_)
  obtain⟨h1,h2⟩:=hd D' (by simp[hD'])
  exact⟨h1,by rw[jF (l:=D) (b:=D') (by rintro rfl;exact hnm hD')];exact h2⟩
theorem EV [eJ] {f:FuncId} {A:cM} {own sp:List Nat} {args:List PV} {fp:List aV} {R:PV->List aV->Prop} (ht:nk P own sp f=some A.er) (hl:args.length≤A.nt)
  (h:aw P A.code (ends fp.length A.res R) ⟨aj 0 args,av 0 fp⟩):
  (∀(vs:Array Value) (w:World),(callFunc f vs).run P w= .ok (.enter f vs) w)∧∀(Γ:Cx) (w:World) (vs:List Value),w.heap=Γ.heap->Mem Γ->Γ.bx=av 0 fp->EJ P Γ->ff Γ args vs->
   CallsIn (FW none) 0 P f vs.toArray w (λe w'=>∃v r xD Γ',e= .returned v∧R r xD∧w'.heap=Γ'.heap∧Mem Γ'∧Γ'.bx=av 0 xD∧aL Γ' r v∧Le Γ Γ'∧WF w w'):=by
 unfold nk at ht;split at ht
 case h_2=>simp at ht
 rename_i fn hfn;split at ht
 case isFalse=>simp at ht
 rename_i aot;split at ht
 case h_2=>simp at ht
 rename_i c hb;split at ht
 case h_2=>simp at ht
 rename_i ac rs hac Tp;simp only[sJ,cM.er,cM.mk.injEq]at ht;obtain⟨hnt,KJ,aov⟩:=ht;subst KJ aov;refine⟨λvs w=> ?_,λΓ w vs hw hm lK hY cq=> ?_⟩
 ·unfold callFunc;simp only[bJ,run_program,rJ,hfn,aot,fJ,if_false,hb,Option.isNone_some,JbW]
 ·have hlen:=cq.length
  have ra:HK Γ:=by
   intro k blk hk;rw[lK,fE]at hk;split at hk
   ·omega
   ·simp at hk
  refine callsIn_of_wp_marks hfn hb trivial (wpIn_mono (PL own sp c (ro:=none) (ds:=[]) (by simp) ra hY hac h (Γ:=Γ) (a:= {tmps:=vs.toArray++Array.replicate (fn.ntmps-vs.toArray.size) undef,defers:=[]}) ⟨lK,?_,rfl,?_,hm⟩ .nil hw (Le.refl Γ) (WF.refl w)) ?_)
  ·simp;omega
  ·intro k p hk;rw[CW]at hk;simp only[Nat.zero_le,if_true,Nat.sub_zero]at hk;obtain⟨v,hv,hr⟩:=cq.at hk;have dq:=(iJ.1 hv).1
   have e:(vs.toArray++Array.replicate (fn.ntmps-vs.toArray.size) undef).getD k undef=v:=by
    rw[JbJ,Array.getElem?_append_left (by simpa using dq)];simp[hv]
   simp only;rw[e];exact hr
  ·rintro e a' w' ⟨ds',s',Γ',Bt,⟨Ds,hD1,hD2,hD3⟩,hw',Eu,aow,he⟩;cases e with
   |ret=>show LeavesInM _ _ _ _ _ _ a'.defers _ _;rw[Bt.defers,hD1];exact tB Tp lK ra he Ds Bt hw' Eu aow hD2 hD3
   |normal=>show LeavesInM _ _ _ _ _ _ a'.defers _ _;rw[Bt.defers,hD1];exact tB Tp lK ra he Ds Bt hw' Eu aow hD2 hD3
   |_=>exact he.elim
theorem ae.intro {f:FuncId} {A:cM} {own sp:List Nat} {args:List PV} {fp:List aV} {R:PV->List aV->Prop} (ht:nk P own sp f=some A.er) (hl:args.length≤A.nt)
  (h:aw P A.code (ends fp.length A.res R) ⟨aj 0 args,av 0 fp⟩):ae P f args fp R:=
 λΓ w vs h1 h2 h3 h4=> .inl ⟨(EV ht hl h).1 _ _,MK ((EV ht hl h).2 Γ w vs h1 h2 h3 .no h4)⟩
end Go.Ab

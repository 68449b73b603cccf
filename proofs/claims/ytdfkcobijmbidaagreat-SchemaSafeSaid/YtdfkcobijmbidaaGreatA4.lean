/- Regions, loops and bodies do what their abstract reading says. No condition. -/
import Derived.Test.YtdfkcobijmbidaaGreatA3
set_option linter.all false
namespace Go.Ab
variable [eg]
variable {P:Program} {nt:Nat} {ds:List Deferred} {s:St} {Γ:Cx} {a:Act} {w:World} [iE]
structure AO where
 dst:Option Nat
 guard:Option (Nat×Bool)
 mg:Bool
 k:AK
def nA:AK->Bool
 | .alloc _| .box _| .buildSlice .. | .makeSlice .. | .store .. | .append .. | .appendZ .. | .copy .. | .fill .. | .isNil .. | .convB .. | .convL .. | .mkMap .. | .mapGet .. | .mapSet .. =>true
 |_=>false
def kF (P:Program) (s:St) (d:Option Nat) (f:AX) (args:List AX) (K:St->Prop):Prop:=
 vg true s f λpf=>s8 true s args λps=>match pf with
  | .fn (.func fid) first cap=>∃ks os,sM P s d fid (first++ps++cap) ks os K
  | .fn (.yield l) [] []=>Gu s d l ps K
  |_=>False
def mI (P:Program) (s:St) (d:Option Nat) (f:AX) (args:List AX) (K:St->Prop):Prop:=
 vg true s f λpf=>s8 true s args λps=>match pf with
  | .fn (.func fid) first cap=>∃v,(ae (λ_=>false) (first++ps++cap)=true∧ab (λ_=>false) v=true)∧
    ah P fid (first++ps++cap) [] (λr fp=>r=v∧fp=[])∧K (s.put d v)
  |_=>False
def kG (P:Program) (s:St) (o:AO) (K:St->Prop):Prop:=
 match o.k with
 | .call f args=>kF P s o.dst f args K
 | .callq f args=>mI P s o.dst f args K
 |k=>if nA k=true then ex s o.dst k K else ev true s k λp=>K (s.put o.dst p)
def im (P:Program) (s:St) (o:AO) (K:St->Prop):Prop:=
 match o.guard with
 |none=>kG P s o K
 |
  some (sl,want)=>match (get s.env sl).getD .un with
  | .bl b=>if o.mg=true then ev (b==want) s o.k (λp=>K (s.put o.dst (.gd (b==want) p)))
    else(b=want->kG P s o K)∧(b≠want->K (s.put o.dst .un))
  | .gd g (.bl b)=>if o.mg=true then ev (g&&b==want) s o.k (λp=>K (s.put o.dst (.gd (g&&b==want) p)))
    else(g=true->b=want->kG P s o K)∧((g=true->b≠want)->K (s.put o.dst .un))
  |_=>False
def pG:AK->Bool
 | .mv _| .pick .. | .load .. | .nilCheck _| .un .. | .convI .. | .convS _| .fieldA .. | .s2a .. | .field .. | .extract .. | .len _| .lenS _| .lenC _| .cap _| .mm .. =>true
 | .bin op _ _ _=>match op with| .quo| .rem| .shl| .shr=>false|_=>true
 |_=>false
def rW (ops:Array Oper):Option (Nat×Bool)->Option (Option (Nat×Bool))
 |none=>some none
 |some (j,want)=>match (ops[j]?).bind (·.dst)with|some d=>some (some (d,want))|none=>none
def uk (nt:Nat) (d:Option Nat) (k:AK):Bool:=
 match d,k with
 |some _,.store .. =>false
 |some d,_=>decide (d<nt)
 |none,_=>true
def um (P:Program) (draw:Bool) (ty:TypeId):AK->AK
 | .call f args=>if draw=true then .callq f args else .call f args
 |
  .mv (.c (.sl 0 [] true))=>(match P.underlying ty with
  |some (.slice e)=> .mv (.c (.sl (P.cellsOf e) [] true))
  |_=> .mv (.c (.sl 0 [] true)))
 |k=>k
def PX (own:List Nat):Option Nat->Bool
 |some d=>own.contains d
 |none=>true
noncomputable def mT (P:Program) (nt:Nat) (ops:Array Oper) (own sp:List Nat) (draw:Bool) (o:Oper):Option AO:=
 match kK P (match o.dst with|some d=>own.contains d|none=>false) o.op,rW ops o.guard with
 |some k,some g=>if uk nt o.dst k=true then some ⟨o.dst,g,pG k&& !(match o.dst with|some d=>sp.contains d|none=>false),um P (draw&& !PX own o.dst) o.type k⟩else none
 |_,_=>none
theorem xd {own:Bool} {op:Op} {k:AK} (h:kK P own op=some k) (c:Call):op≠ .defer c:=by
 rintro rfl;simp[kK]at h
theorem Oper.xe {ro:Option Nat} {o:Oper} {own:Bool} {k:AK} (mS:kK P own o.op=some k) {K:St->Prop} {Kr:Act->World->Prop} {Q:Exit->Act->World->Prop} (h:kS P nt ds o a w Γ K)
  (hk:∀s' Γ' a' w',hU nt ds s' Γ' a'->w'.heap=Γ'.heap->Le Γ Γ'->WF w w'->K s'->Kr a' w'):o.wpIn (FW ro) 0 P a w Kr Q:=by
 obtain⟨nx,v,w',s',Γ',iN,YY,hs,hh,hle,oT,hK⟩:=h
 refine⟨λ_ _=>trivial,?_⟩
 rw[Oper.semAt_eq _ _ _ (xd mS),iN]
 rcases YY with rfl|⟨rfl,rfl⟩
 ·exact hk _ _ _ _ hs hh hle oT hK
 ·exact hk _ _ _ _ hs hh hle oT hK
theorem LA {o:Oper} {k:AK} {own:Bool} {K:St->Prop} (hk:kK P own o.op=some k) (hs:hU nt ds s Γ a) (hw:w.heap=Γ.heap) (hd:uk nt o.dst k=true) (he:ex s o.dst k K):kS P nt ds o a w Γ K:=by
 have F2:(∀x y z,k≠ .store x y z)->∀j,o.dst=some j->j<nt:=by
  intro fc j hj
  rw[hj]at hd
  unfold uk at hd
  split at hd
  ·exact absurd rfl (fc _ _ _)
  ·rename_i heq _;simp at heq;subst heq;simpa using hd
  ·rename_i heq;simp at heq
 cases m9:o.op with
 |
  alloc t=>
  rw[m9]at hk;simp only[kK]at hk
  split at hk<;>simp only[sJ,reduceCtorEq]at hk
  rename_i z hz;subst hk
  exact Js m9 hz hs hw (F2 (by intros;simp)) he
 |
  box t x=>
  rw[m9]at hk;simp only[kK]at hk
  split at hk<;>simp only[sJ,reduceCtorEq]at hk
  rename_i y hy;subst hk
  exact PR m9 hy hs hw (F2 (by intros;simp)) he
 |
  buildSlice t n parts=>
  rw[m9]at hk;simp only[kK]at hk
  split at hk
  ·rename_i e ps hu hp
   split at hk
   ·rename_i z sz hz iu
    split at hk<;>simp only[sJ,reduceCtorEq]at hk
    rename_i hc;subst hk
    exact y8 m9 hu hp hz iu hc.1 hc.2 hs hw (F2 (by intros;simp)) he
   ·simp at hk
  ·simp at hk
 |
  makeSlice t l c=>
  rw[m9]at hk;simp only[kK]at hk
  split at hk
  ·rename_i e l' c' hu hl hc
   split at hk
   ·rename_i z i hz hi
    split at hk<;>simp only[sJ,reduceCtorEq]at hk
    rename_i j1;subst hk
    exact Be m9 hu hl hc hz hi j1 hs hw (F2 (by intros;simp)) he
   ·simp at hk
  ·simp at hk
 |
  store t x y=>
  rw[m9]at hk;simp only[kK]at hk
  split at hk<;>simp only[sJ,reduceCtorEq]at hk
  rename_i n x' y' hn hx hy;subst hk
  refine Ju m9 hn hx hy hs hw ?_ he
  cases Lc:o.dst with
  |none=>rfl
  |some d=>rw[Lc]at hd;simp[uk]at hd
 |
  convert t e x=>
  rw[m9]at hk;simp only[kK]at hk
  split at hk
  ·simp only[sJ]at hk;subst hk;simp[ex]at he
  ·split at hk<;>simp only[sJ,reduceCtorEq]at hk
   subst hk;simp[ex]at he
  ·rename_i e' y h1 h2 hx
   split at hk<;>simp only[sJ,reduceCtorEq]at hk
   rename_i h3;subst hk
   exact Jt m9 h1 h2 h3 hx hs hw (F2 (by intros;simp)) he
  ·rename_i e0 e' y h1 h2 hx
   split at hk
   ·rename_i hte
    split at hk<;>simp only[sJ,reduceCtorEq]at hk
    rename_i h3;subst hk hte
    exact JA m9 h1 (by rw[h1]at h2;cases h2;exact h3) hx hs hw (F2 (by intros;simp)) he
   ·simp at hk
  ·simp at hk
 |makeMap t r=>rw[m9]at hk;simp[kK]at hk
 |lookup t m x ok=>rw[m9]at hk;simp[kK]at hk
 |mapUpdate t m x y=>rw[m9]at hk;simp[kK]at hk
 |
  call c=>
  obtain⟨callee,args,tys⟩:=c
  rw[m9]at hk
  cases callee with
  |
   value f=>
   simp only[kK]at hk
   split at hk<;>simp only[sJ,reduceCtorEq]at hk
   subst hk;simp[ex]at he
  |invoke r m=>simp[kK]at hk
  |
   builtin b=>
   simp only[kK]at hk
   obtain⟨args⟩:=args
   obtain⟨tys⟩:=tys
   simp only at hk
   cases b with
   |
    append=>
    match args,tys,m9,hk with
    |
     [x,y],[t,u],m9,hk=>
     unfold dh at hk
     simp only at hk
     split at hk
     ·rename_i e d x' y' YZ YP hx hy
      split at hk
      ·rename_i i hi
       split at hk
       ·rename_i z hz
        split at hk
        ·rename_i hc
         split at hk
         ·simp only[sJ]at hk;subst hk
          exact zb m9 YZ YP (.inl ⟨_,rfl⟩) hi hz hc.1 hc.2.1 hc.2.2 hx hy hs hw (F2 (by intros;simp)) he
         ·split at hk<;>simp only[sJ,reduceCtorEq]at hk
          rename_i h1;subst hk
          exact zb m9 YZ YP (.inr rfl) hi hz hc.1 hc.2.1 hc.2.2 hx hy hs hw (F2 (by intros;simp)) he
         ·split at hk<;>simp only[sJ,reduceCtorEq]at hk
          rename_i zz hzz;subst hk
          exact En m9 YZ YP hi hz hzz hc.1 hc.2.1 hc.2.2 hx hy hs hw (F2 (by intros;simp)) he
         ·simp at hk
        ·simp at hk
       ·simp at hk
      ·simp at hk
     ·simp at hk
    |[],_,_,hk|[_],_,_,hk|_::_::_::_,_,_,hk|[_,_],[],_,hk|[_,_],[_],_,hk|[_,_],_::_::_::_,_,hk=>simp[dh]at hk
   |
    clear=>
    match args,tys,m9,hk with
    |
     [x],[t],m9,hk=>
     unfold dh at hk
     simp only at hk
     split at hk
     ·rename_i e x' YZ hx
      split at hk
      ·rename_i n z hn hz
       split at hk<;>simp only[sJ,reduceCtorEq]at hk
       subst hk
       exact Lv m9 YZ hn hz hx hs hw he
      ·simp at hk
     ·simp at hk
    |[],_,_,hk|_::_::_,_,_,hk|[_],[],_,hk|[_],_::_::_,_,hk=>simp[dh]at hk
   |
    copy=>
    match args,tys,m9,hk with
    |
     [x,y],[t,u],m9,hk=>
     unfold dh at hk
     simp only at hk
     split at hk
     ·rename_i e x' y' YZ hx hy
      split at hk<;>simp only[sJ,reduceCtorEq]at hk
      rename_i n hn;subst hk
      exact Lu m9 YZ hn hx hy hs hw (F2 (by intros;simp)) he
     ·simp at hk
    |[],_,_,hk|[_],_,_,hk|_::_::_::_,_,_,hk|[_,_],[],_,hk|[_,_],[_],_,hk|[_,_],_::_::_::_,_,hk=>simp[dh]at hk
   |
    len=>
    exfalso
    unfold dh at hk
    repeat (split at hk<;>(try contradiction))
    all_goals first|(simp only[sJ]at hk;subst hk;simp[ex]at he;done)|(simp at hk;done)|(split at hk<;>first|(simp only[sJ]at hk;subst hk;simp[ex]at he;done)|(simp at hk;done))
   |
    cap=>
    unfold dh at hk
    split at hk<;>(try contradiction)
    split at hk<;>simp only[sJ,reduceCtorEq]at hk
    subst hk;simp[ex]at he
   |
    min=>
    unfold dh at hk
    split at hk<;>(try contradiction)
    split at hk<;>simp only[sJ,reduceCtorEq]at hk
    subst hk;simp[ex]at he
   |
    max=>
    unfold dh at hk
    split at hk<;>(try contradiction)
    split at hk<;>simp only[sJ,reduceCtorEq]at hk
    subst hk;simp[ex]at he
   |_=>unfold dh at hk;split at hk<;>contradiction
 |
  binOp op t x y yt=>
  by_cases hn:∃ng p,k= .isNil ng p
  ·obtain⟨ng,p,rfl⟩:=hn
   rw[m9]at hk
   exact Jx m9 hk hs hw (F2 (by intros;simp)) he
  rw[m9]at hk;simp only[kK]at hk
  exfalso
  repeat (split at hk<;>(try contradiction))
  all_goals first|(simp only[sJ]at hk;subst hk;simp[ex]at he;done)|(simp at hk;done)|(simp only[sJ]at hk;exact hn ⟨_,_,hk.symm⟩)|(split at hk<;>first|(simp only[sJ]at hk;subst hk;simp[ex]at he;done)|(simp at hk;done)|(simp only[sJ]at hk;exact hn ⟨_,_,hk.symm⟩)|(split at hk<;>first|(simp only[sJ]at hk;subst hk;simp[ex]at he;done)|(simp at hk;done)|(simp only[sJ]at hk;exact hn ⟨_,_,hk.symm⟩)|(split at hk<;>first|(simp only[sJ]at hk;subst hk;simp[ex]at he;done)|(simp at hk;done)|(simp only[sJ]at hk;exact hn ⟨_,_,hk.symm⟩))))
 |
  _=>
  exfalso
  rw[m9]at hk
  first
  |(simp only[kK,reduceCtorEq]at hk;done)
  |(simp only[kK]at hk
    repeat (split at hk<;>(try contradiction))
    all_goals first|(simp only[sJ]at hk;subst hk;simp[ex]at he;done)|(simp at hk;done)|(split at hk<;>first|(simp only[sJ]at hk;subst hk;simp[ex]at he;done)|(simp at hk;done)|(split at hk<;>first|(simp only[sJ]at hk;subst hk;simp[ex]at he;done)|(simp at hk;done))))
end Go.Ab
namespace Go.Ab
variable [eg]
variable {P:Program} {nt:Nat} {ds:List Deferred} {s:St} {Γ:Cx} {a:Act} {w:World} [iE]
theorem aD.toV {p:PV} {v:Value} (h:aD Γ [p] [v]) (ha:p.isAgg=false):aN Γ p v:=by
 cases p<;>simp[PV.isAgg]at ha<;>first|(simp only[aN];done)|(simp only[aN];exact h)|(exact absurd h (by intro h;cases h))
theorem nB:∀ {l:List PV} {vs:List Value},aD Γ l vs->(∀x∈l,x.isAgg=false)->gK Γ l vs
 |[],vs,h,_=>by cases h;trivial
 |
  p::l,vs,h,hn=>by
  obtain⟨cs,us,rfl,h1,h2⟩:=h.nW
  have hp:=hn p (by simp)
  have hw:p.width=1:=by cases p<;>simp[PV.isAgg]at hp<;>rfl
  have hl:=h1.iw
  rw[hw]at hl
  obtain⟨v,rfl⟩:=List.length_eq_one_iff.1 hl
  exact⟨h1.toV hp,nB h2 (λx hx=>hn x (by simp[hx]))⟩
theorem gK.append:∀ {l m:List PV} {vs us:List Value},gK Γ l vs->gK Γ m us->gK Γ (l++m) (vs++us)
 |[],m,[],us,_,h=>h
 |p::l,m,v::vs,us,h,h'=>⟨h.1,gK.append h.2 h'⟩
 |[],m,v::vs,us,h,_=>by simp[gK]at h
 |p::l,m,[],us,h,_=>by simp[gK]at h
theorem gK.aF {f:Nat->Bool} {ρ:Nat->Nat} {Δ:Cx} (hs:rm f ρ Γ Δ):∀ {l:List PV} {vs:List Value},gK Γ l vs->ae f l=true->gK Δ (aK ρ l) vs
 |[],[],_,_=>trivial
 |
  p::l,v::vs,h,hf=>by
  simp only[ae,aJ]at hf
  exact⟨h.1.aF hs hf.1,gK.aF hs h.2 hf.2⟩
 |[],v::vs,h,_=>by simp[gK]at h
 |p::l,[],h,_=>by simp[gK]at h
theorem te:∀ {ps:List PV} {xs:List Operand},ps.length=xs.length->(∀(i:Nat) p x,ps[i]? =some p->xs[i]? =some x->aN Γ p (a.eval x))->gK Γ ps (xs.map a.eval)
 |[],[],_,_=>trivial
 |p::ps,x::xs,hl,h=>⟨h 0 p x rfl rfl,te (by simpa using hl) (λi q y h1 h2=>h (i+1) q y h1 h2)⟩
 |[],_::_,hl,_=>by simp at hl
 |_::_,[],hl,_=>by simp at hl
def Eo (P:Program) (nt:Nat) (ds:List Deferred) (Γ:Cx) (w:World) (K:St->Prop) (Kr:Act->World->Prop):Prop:=
 ∀s' Γ' a' w',hU nt ds s' Γ' a'->w'.heap=Γ'.heap->Le Γ Γ'->WF w w'->K s'->Kr a' w'
theorem JB {o:Oper} {f:Operand} {args:Array Operand} {tys:Array TypeId} {fid:FuncId} {fs cs:Array Value} (ho:o.op= .call {callee:= .value f,args,argTypes:=tys}) (hf:a.eval f= .func (.func fid) fs cs):
  execOp a.eval o=(do let d←(Pure.pure {target:= .fn (.func fid) cs,args:=fs++args.map a.eval}:Sem Deferred);invoke d.target d.args):=by
 unfold execOp
 rw[ho]
 simp only[resolve,hf,Deferred.ofValue]
theorem Gv {o:Oper} {f:Operand} {args:Array Operand} {tys:Array TypeId} {fid:FuncId} {first cap ps:List PV} (ho:o.op= .call {callee:= .value f,args,argTypes:=tys})
  (hf:aN Γ (.fn (.func fid) first cap) (a.eval f)) (hl:ps.length=args.toList.length) (hp:∀(i:Nat) p x,ps[i]? =some p->args.toList[i]? =some x->aN Γ p (a.eval x)):
  ∃vs:List Value,gK Γ (first++ps++cap) vs∧∀w r,(callFunc fid vs.toArray).run P w=r->(execOp a.eval o).run P w=r:=by
 simp only[aN]at hf
 generalize hv:a.eval f=v at hf
 cases hf with
 |
  @fn _ _ fs cs _ _ _ h1 h2 h3 h4 _=>
  refine⟨fs++args.toList.map a.eval++cs,((nB h1 h3).append (te hl hp)).append (nB h2 h4),λw r hc=> ?_⟩
  rw[JB ho hv]
  have e:(fs++args.toList.map a.eval++cs).toArray=(fs.toArray++args.map a.eval)++cs.toArray:=by
   apply Array.ext';simp
  rw[e]at hc
  exact hc
theorem Ep {n k:Nat}:eO (eD n) k=k:=by
 unfold eO
 split
 ·rename_i h
  cases hi:(eD n)[k-KB]?with
  |none=>rfl
  |some j=>simp only[Option.getD_some];have:=(vO.1 hi).2;omega
 ·rfl
theorem LB {ro:Option Nat} {l:Nat} {f:FuncId} {tmps:Array Value} {as bo:Code} {R:Ending->World->Prop} (h:RoundIn (FW none) 0 P l f tmps as bo w R):RoundIn (FW ro) 0 P l f tmps as bo w R:=h
theorem Er {o:Oper} {f:Operand} {args:Array Operand} {tys:Array TypeId} {f':AX} {fQ:List AX} {K:St->Prop} {Kr:Act->World->Prop} {Q:Exit->Act->World->Prop} {ro:Option Nat} (ho:o.op= .call {callee:= .value f,args,argTypes:=tys})
  (hf:gq f=some f') (hx:qg args.toList=some fQ) (hs:hU nt ds s Γ a) (hw:w.heap=Γ.heap) (hd:∀j,o.dst=some j->j<nt) (hY:zh P Γ) (h:kF P s o.dst f' fQ K) (hk:Eo P nt ds Γ w K Kr):o.wpIn (FW ro) 0 P a w Kr Q:=by
 unfold kF at h
 obtain⟨pf,h,Ld⟩:=cO hf hs rfl h
 obtain⟨ps,h,hl,hp⟩:=ua hs rfl hx h
 split at h
 case h_3=>exact h.elim
 case h_2=>
  rename_i l _
  obtain⟨bf,R,hg,sG,m7,vE,hK⟩:=h
  obtain⟨Γ0,rec,SV,h0,xY,Ox,hAY⟩:=hY l ps bf R vE
  rw[←hs.bx]at hg
  have VA:a.eval f= .func (.yield l) #[] #[]:=by
   simp only[aN]at Ld
   generalize a.eval f=v at Ld
   cases Ld with
   | @fn _ _ fs cs _ _ _ h1 h2 h3 h4 _=>cases h1;cases h2;rfl
  have iN:(execOp a.eval o).run P w=(Instr.yield l (args.toList.map a.eval).toArray).run P w:=by
   have e:(args.toList.map a.eval).toArray= #[]++args.map a.eval:=by apply Array.ext';simp
   rw[e]
   unfold execOp
   rw[ho]
   simp only[resolve,VA,Deferred.ofValue]
   rfl
  have kX:=Cx.nP hg
  have hA:gK Γ ps (args.toList.map a.eval):=te hl hp
  have PA:=hA.aF kX (by rw[oE];exact sG)
  rw[jQ (λ_=>oF)]at PA
  have KP:Γ.heap[l]? =Γ0.heap[l]? :=by rw[SV.plain Ox xY rfl,xY]
  obtain⟨fn,tmps,as,bo,hy,hR⟩:=hAY (Γ.call (eD iE.n) bf) w _ hw (Cx.uf hs.mem hg (ny _) (by rw[oE];exact m7)) (by simp only[Cx.call];rw[td (λ_=>oF)]) PA (Lz h0 SV hg) KP
  refine⟨λ_ _=>trivial,?_⟩
  rw[Oper.semAt_eq _ _ _ (λc=>by rw[ho];simp),iN,hy,Oper.uponIn_round]
  refine⟨λh=>by simp[Fence.wide]at h,LB (hR.mono ?_)⟩
  rintro e w' ⟨fp,Γ',rfl,hR,OA,sv,OI,hle,oT⟩
  obtain⟨⟨hlen,nr⟩,hKK⟩:=hK fp hR
  have hlk:(eD iE.n++[]).length=iE.n:=by simp[eD]
  obtain⟨same2,le2,mem2⟩:=tc hs.mem hg (os:=[]) (by simpa using ny _) (by simp) sv OI hle (by rw[hlen,hlk]) (by rw[hlen];exact nr)
  have A7:=hs.le le2 mem2 (vC:=bC s.bx (eD iE.n) fp) (by simp only[Cx.back,List.append_nil,hs.bx];rw[td (λ_=>Ep)])
  exact hk _ _ _ _ (A7.put hd (p:= .bl true) (v:= .bool true) (by simp only[aN];exact .bl _ .nil)) (by simp[Cx.back,OA]) le2 oT hKK
 rename_i fid first cap
 obtain⟨ks,os,bf,R,hg,hn,PB,sG,m7,hc,hK⟩:=h
 obtain⟨vs,hA,iN⟩:=Gv (P:=P) ho Ld hl hp
 refine⟨λ_ _=>trivial,?_⟩
 rw[←hs.bx]at hg PB
 have hnk:ks.Nodup:=(List.nodup_append.1 hn).1
 have kX:=Cx.nP hg
 have key:∀e w',(∃v r kP Γ',e=Ending.returned v∧R r kP∧w'.heap=Γ'.heap∧Mem Γ'∧Γ'.bx=aG 0 kP∧aN Γ' r v∧Le (Γ.call ks bf) Γ'∧WF w w')->∃v,e= .returned v∧Kr (a.put o.dst v) w':=by
  rintro e w' ⟨v,r,fp,Γ',rfl,hR,OA,sv,OI,CD,hle,oT⟩
  obtain⟨⟨hlen,hrr,nr⟩,hKK⟩:=hK r fp hR
  obtain⟨same2,le2,mem2⟩:=tc hs.mem hg hn PB sv OI hle hlen nr
  have A7:=hs.le le2 mem2 (vC:=bC s.bx (ks++os) (fp.map (a0 (eO (ks++os))))) (by simp[Cx.back,hs.bx])
  exact⟨v,rfl,hk _ _ _ _ (A7.put hd (CD.aF same2 hrr)) (by simp[Cx.back,OA]) le2 oT hKK⟩
 rcases hc (Γ.call ks bf) w vs hw (Cx.uf hs.mem hg hnk m7) rfl (hA.aF kX sG)with⟨BA,AP⟩|⟨v,w',BA,AP⟩
 ·rw[Oper.semAt_eq _ _ _ (λc=>by rw[ho];simp),iN w _ BA,Oper.uponIn_enter]
  refine⟨λh=>by simp[Fence.wide]at h,Lw ?_⟩
  refine AP.mono λe w' he=> ?_
  obtain⟨v,rfl,h⟩:=key e w' he
  exact h
 ·rw[Oper.semAt_eq _ _ _ (λc=>by rw[ho];simp),iN w _ BA]
  obtain⟨u,hu,h⟩:=key _ w' AP
  cases hu
  exact h
theorem jm {ρ:Nat->Nat} {p:PV} (h:ab (λ_=>false) p=true):aF ρ p=p:=zd (f:=λ_=>false) (by simp) p h
theorem lN {ρ:Nat->Nat} {l:List PV} (h:ae (λ_=>false) l=true):aK ρ l=l:=mC (f:=λ_=>false) (by simp) l h
mutual
theorem gL {f g:Nat->Bool} (h:∀k,f k=true->g k=true):∀p,ab f p=true->ab g p=true
 | .st w l,hh=>by simp only[ab]at*;exact eU h l hh
 | .ar sz n l,hh=>by simp only[ab]at*;exact eU h l hh
 | .tup l,hh=>by simp only[ab]at*;exact eU h l hh
 | .sl sz l c,hh=>by simp only[ab]at*;exact eU h l hh
 | .fp sz l c,hh=>by simp only[ab]at*;exact eU h l hh
 | .fn f x y,hh=>by simp only[ab,aJ]at*;exact⟨eU h x hh.1,eU h y hh.2⟩
 | .gd b p,hh=>by simp only[ab]at*;exact gL h p hh
 | .ifc b p,hh=>by simp only[ab]at*;exact gL h p hh
 | .rs ..,hh=>by simp only[ab]at*;exact h _ hh
 | .pt ..,hh=>by simp only[ab]at*;exact h _ hh
 | .un,_| .bl _,_| .int ..,_| .str _,_| .np,_| .nf,_| .ni,_| .mp ..,_=>by simp[ab]
theorem eU {f g:Nat->Bool} (h:∀k,f k=true->g k=true):∀l,ae f l=true->ae g l=true
 |[],_=>by simp[ae]
 |p::l,hh=>by simp only[ae,aJ]at*;exact⟨gL h p hh.1,eU h l hh.2⟩
end
theorem zj {d:Option Nat} {f:AX} {args:List AX} {K:St->Prop} (h:mI P s d f args K):kF P s d f args K:=by
 unfold mI at h
 unfold kF
 have hv:∀ {g:Bool} {x:AX} {K K':PV->Prop},(∀p,K p->K' p)->vg g s x K->vg g s x K':=by
  intro g x K K' hh hv
  unfold vg at*
  split at hv
  ·exact⟨hv.1,hh _ hv.2⟩
  ·exact hh _ hv
 have hvs:∀ {g:Bool} {xs:List AX} {K K':List PV->Prop},(∀p,K p->K' p)->s8 g s xs K->s8 g s xs K':=by
  intro g xs
  induction xs with
  |nil=>intro K K' hh hv;exact hh _ hv
  |cons x xs ih=>intro K K' hh hq;exact hv (λp hp=>ih (λq hq=>hh _ hq) hp) hq
 refine hv (λpf hq=>hvs (λps hr=> ?_) hq) h
 split at hr
 case h_2=>exact hr.elim
 rename_i fid first cap
 obtain⟨v,⟨h1,h2⟩,hc,hK⟩:=hr
 refine⟨[],[],[],(λr fp=>r=v∧fp=[]),rfl,by simp,by simp,eU (by simp) _ h1,rfl,?_,?_⟩
 ·rw[lN h1];exact hc
 ·rintro r fp ⟨rfl,rfl⟩
  refine⟨⟨rfl,gL (by simp) _ h2,rfl⟩,?_⟩
  rw[jm h2]
  exact hK
end Go.Ab
namespace Go.Ab
variable [eg]
variable {P:Program} {nt:Nat} {ds:List Deferred} {s:St} {Γ:Cx} {a:Act} {w:World} [iE]
def Dt {α:Type} (C:(α->Prop)->Prop):Prop:=∀K,C K->∃p,K p∧∀K':α->Prop,K' p->C K'
theorem Dt.ret {α:Type} (v:α):Dt (λK=>K v):=λ_ h=>⟨v,h,λ_ h=>h⟩
theorem Dt.no {α:Type}:Dt (λ_:α->Prop=>False):=λ_ h=>h.elim
theorem Dt.bind {α β:Type} {C:(α->Prop)->Prop} {D:α->(β->Prop)->Prop} (hc:Dt C) (hd:∀p,Dt (D p)):Dt (λK=>C (λp=>D p K)):=by
 intro K h
 obtain⟨p,hp,hk⟩:=hc _ h
 obtain⟨q,hq,CG⟩:=hd p _ hp
 exact⟨q,hq,λK' h'=>hk _ (CG _ h')⟩
theorem Dt.and {α:Type} {c:Prop} {C:(α->Prop)->Prop} (hc:Dt C):Dt (λK=>c∧C K):=by
 intro K h
 obtain⟨p,hp,hk⟩:=hc _ h.2
 exact⟨p,hp,λK' h'=>⟨h.1,hk _ h'⟩⟩
theorem pH (g:Bool) (s:St) (x:AX):Dt (vg g s x):=by
 unfold vg
 split
 ·exact Dt.and (Dt.ret _)
 ·exact Dt.ret _
theorem ql (g:Bool) (s:St):∀xs,Dt (s8 g s xs)
 |[]=>Dt.ret _
 |
  x::xs=>by
  show Dt λK=>s8 g s (x::xs) K
  simp only[s8]
  exact Dt.bind (pH g s x) λp=>Dt.bind (ql g s xs) λps=>Dt.ret _
theorem vP (g:Bool) (s:St):∀xs,Dt (yd g s xs)
 |[]=>Dt.ret _
 |
  (i,x)::xs=>by
  show Dt λK=>yd g s ((i,x)::xs) K
  simp only[yd]
  exact Dt.bind (pH g s x) λp=>Dt.bind (vP g s xs) λps=>Dt.ret _
theorem oG (p:PV):Dt (mc p):=by
 unfold mc;split
 ·exact Dt.ret _
 ·exact Dt.no
theorem Es (mx:Bool):∀l a,Dt (lH mx a l)
 |[],a=>Dt.ret _
 |
  p::r,a=>by
  show Dt λK=>lH mx a (p::r) K
  simp only[lH]
  exact Dt.bind (oG p) λb=>Es mx r _
theorem PY (op:BinOp) (k:IntKind) (a b:Int):Dt (oB op k a b):=by
 cases op<;>first|exact Dt.ret _|exact Dt.and (Dt.ret _)
theorem PZ (op:BinOp) (a b:List UInt8):Dt (yT op a b):=by
 cases op<;>first|exact Dt.ret _|exact Dt.and (Dt.ret _)|exact Dt.no
theorem uo (op:BinOp) (b:Bool):Dt (s7 op b):=by
 cases op<;>first|exact Dt.ret _|exact Dt.no
theorem P0 (s:St) (op:BinOp) (eqs:ET) (p q:PV):Dt (py s op eqs p q):=by
 show Dt λK=>py s op eqs p q K
 cases eqs<;>simp only[py]
 case no=>split<;>first|exact Dt.and (PY _ _ _ _)|exact PZ _ _ _|exact Dt.no
 case sh x=>exact Dt.and (uo _ _)
 case bl=>split<;>first|exact uo _ _|exact Dt.no
 case ptr=>
  split
  ·exact uo _ _
  ·split
   ·exact Dt.and (uo _ _)
   ·exact Dt.no
  ·exact uo _ _
  ·exact Dt.no
def xG {α β:Type} (C:(α->β->Prop)->Prop):Prop:=∀K,C K->∃p q,K p q∧∀K':α->β->Prop,K' p q->C K'
theorem xG.ret {α β:Type} (v:α) (u:β):xG (λK=>K v u):=λ_ h=>⟨v,u,h,λ_ h=>h⟩
theorem xG.no {α β:Type}:xG (λ_:α->β->Prop=>False):=λ_ h=>h.elim
theorem xG.and {α β:Type} {c:Prop} {C:(α->β->Prop)->Prop} (hc:xG C):xG (λK=>c∧C K):=by
 intro K h
 obtain⟨p,q,hp,hk⟩:=hc _ h.2
 exact⟨p,q,hp,λK' h'=>⟨h.1,hk _ h'⟩⟩
theorem xG.of {α β γ:Type} {C:(α->Prop)->Prop} {D:α->(β->γ->Prop)->Prop} (hc:Dt C) (hd:∀p,xG (D p)):xG (λK=>C (λp=>D p K)):=by
 intro K h
 obtain⟨p,hp,hk⟩:=hc _ h
 obtain⟨q,r,hq,CG⟩:=hd p _ hp
 exact⟨q,r,hq,λK' h'=>hk _ (CG _ h')⟩
theorem Dt.xf {α β γ:Type} {C:(α->β->Prop)->Prop} {D:α->β->(γ->Prop)->Prop} (hc:xG C) (hd:∀p q,Dt (D p q)):Dt (λK=>C (λp q=>D p q K)):=by
 intro K h
 obtain⟨p,q,hp,hk⟩:=hc _ h
 obtain⟨r,hq,CG⟩:=hd p q _ hp
 exact⟨r,hq,λK' h'=>hk _ (CG _ h')⟩
theorem n8 (s:St) (p:PV):xG (content s p):=by
 show xG λK=>content s p K
 cases p<;>simp only[content]<;>first
  |exact xG.ret _ _|exact xG.no
  |(split<;>first|exact xG.and (xG.ret _ _)|exact xG.no|(split<;>first|exact xG.and (xG.ret _ _)|exact xG.no))
theorem qm (g:Bool) (s:St) (lo hi:Option AX) (len cap:Nat):xG (j2 g s lo hi len cap):=by
 unfold j2
 refine xG.of (C:=match hi with|none=>λ(J:Nat->Prop)=>J len|some x=>λJ=>vg g s x λp=>mc p λh=>(0≤h∧h≤cap)∧J h.toNat) ?_ λh=> ?_
 ·cases hi with
  |none=>exact Dt.ret _
  |some x=>exact Dt.bind (pH g s x) λp=>Dt.bind (oG p) λh=>Dt.and (Dt.ret _)
 ·refine xG.of (C:=match lo with|none=>λ(J:Nat->Prop)=>J 0|some x=>λJ=>vg g s x λp=>mc p λl=>(0≤l∧l≤h)∧J l.toNat) ?_ λl=>xG.ret _ _
  cases lo with
  |none=>exact Dt.ret _
  |some x=>exact Dt.bind (pH g s x) λp=>Dt.bind (oG p) λh=>Dt.and (Dt.ret _)
theorem qN (g:Bool) (s:St) (k:AK):Dt (ev g s k):=by
 have V:=pH g s
 have I:=oG
 show Dt λK=>ev g s k K
 cases k with
 |mv x=>exact V x
 |
  pick c a b=>
  simp only[ev]
  refine Dt.bind (V c) λp=> ?_
  split
  ·split<;>first|exact Dt.ret _|exact Dt.and (Dt.ret _)|exact Dt.no
  ·exact Dt.no
 |
  build z parts=>
  simp only[ev]
  refine Dt.bind (vP g s parts) λp=> ?_
  split<;>first|exact Dt.no|(split<;>first|exact Dt.ret _|exact Dt.no)
 |
  load agg w x=>
  simp only[ev]
  refine Dt.bind (V x) λp=> ?_
  split
  ·split
   ·split<;>first|exact Dt.and (Dt.ret _)|exact Dt.no
   ·exact Dt.no
  ·split<;>first|exact Dt.and (Dt.ret _)|exact Dt.no
  ·exact Dt.no
 |
  nilCheck x=>
  simp only[ev]
  refine Dt.bind (V x) λp=> ?_
  split
  ·split<;>first|exact Dt.and (Dt.ret _)|exact Dt.no
  all_goals first|exact Dt.ret _|exact Dt.no
 |bin op eqs x y=>simp only[ev];exact Dt.bind (V x) λp=>Dt.bind (V y) λq=>P0 _ _ _ _ _
 |
  un op x=>
  simp only[ev]
  refine Dt.bind (V x) λp=> ?_
  split<;>first|exact Dt.ret _|exact Dt.no
 |convI k x=>simp only[ev];exact Dt.bind (V x) λp=>Dt.bind (I p) λn=>Dt.ret _
 |
  convS x=>
  simp only[ev]
  refine Dt.bind (V x) λp=>Dt.xf (n8 s p) λsz l=>Dt.and ?_
  split<;>first|exact Dt.ret _|exact Dt.no
 |mkFunc f first cap=>simp only[ev];exact Dt.bind (ql g s first) λp=>Dt.bind (ql g s cap) λq=>Dt.and (Dt.ret _)
 |
  slice k x lo hi mx=>
  cases k with
  |
   str=>
   simp only[ev]
   refine Dt.bind (V x) λp=> ?_
   split
   ·exact Dt.and (Dt.xf (qm _ _ _ _ _ _) λl h=>Dt.ret _)
   ·exact Dt.no
  |
   sl sz=>
   simp only[ev]
   refine Dt.bind (V x) λp=> ?_
   split
   ·split
    ·exact Dt.xf (qm _ _ _ _ _ _) λl h=>Dt.and (Dt.ret _)
    ·exact Dt.bind (V _) λq=>Dt.bind (I q) λm=>Dt.and (Dt.xf (qm _ _ _ _ _ _) λl h=>Dt.and (Dt.ret _))
   ·split
    ·refine Dt.and ?_
     split
     ·exact Dt.xf (qm _ _ _ _ _ _) λl h=>Dt.ret _
     ·exact Dt.bind (V _) λq=>Dt.bind (I q) λm=>Dt.and (Dt.xf (qm _ _ _ _ _ _) λl h=>Dt.ret _)
    ·exact Dt.no
   ·exact Dt.no
  |
   ar n sz=>
   simp only[ev]
   refine Dt.bind (V x) λp=> ?_
   split
   ·split
    ·exact Dt.and (Dt.and (Dt.xf (qm _ _ _ _ _ _) λl h=>Dt.ret _))
    ·exact Dt.no
   ·split
    ·exact Dt.and (Dt.xf (qm _ _ _ _ _ _) λl h=>Dt.ret _)
    ·exact Dt.no
   ·exact Dt.no
 |
  fieldA i off x=>
  simp only[ev]
  refine Dt.bind (V x) λp=> ?_
  split
  ·split<;>first|exact Dt.and (Dt.ret _)|exact Dt.no
  all_goals first|exact Dt.ret _|exact Dt.no
 |
  s2a n sz x=>
  simp only[ev]
  refine Dt.bind (V x) λp=> ?_
  split
  ·exact Dt.and (Dt.ret _)
  ·split<;>first|exact Dt.and (Dt.ret _)|exact Dt.no
  all_goals first|exact Dt.ret _|exact Dt.no
 |
  field i off agg w x=>
  simp only[ev]
  refine Dt.bind (V x) λp=> ?_
  split
  ·split<;>first|exact Dt.and (Dt.ret _)|exact Dt.no
  ·exact Dt.no
 |
  indexA k x i=>
  cases k with
  |str=>simp only[ev];exact Dt.no
  |
   sl sz=>
   simp only[ev]
   refine Dt.bind (V x) λp=>Dt.bind (V i) λq=>Dt.bind (I q) λj=> ?_
   split
   ·exact Dt.and (Dt.ret _)
   ·split<;>first|exact Dt.and (Dt.ret _)|exact Dt.no
   ·exact Dt.no
  |
   ar n sz=>
   simp only[ev]
   refine Dt.bind (V x) λp=>Dt.bind (V i) λq=>Dt.bind (I q) λj=>Dt.and ?_
   split
   ·split<;>first|exact Dt.and (Dt.ret _)|exact Dt.no
   all_goals first|exact Dt.ret _|exact Dt.no
 |
  index agg n w x i=>
  simp only[ev]
  refine Dt.bind (V x) λp=>Dt.bind (V i) λq=>Dt.bind (I q) λj=> ?_
  split
  ·split<;>first|exact Dt.and (Dt.ret _)|exact Dt.no
  ·exact Dt.no
 |
  indexS x i=>
  simp only[ev]
  refine Dt.bind (V x) λp=>Dt.bind (V i) λq=>Dt.bind (I q) λj=> ?_
  split
  ·split<;>first|exact Dt.and (Dt.ret _)|exact Dt.no
  ·exact Dt.no
 |
  extract i x=>
  simp only[ev]
  split
  ·split<;>first|exact Dt.ret _|exact Dt.no
  ·exact Dt.no
 |
  len x=>
  simp only[ev]
  refine Dt.bind (V x) λp=> ?_
  split
  ·exact Dt.ret _
  ·split<;>first|exact Dt.and (Dt.ret _)|exact Dt.no
  ·exact Dt.no
 |
  cap x=>
  simp only[ev]
  refine Dt.bind (V x) λp=> ?_
  split
  ·split<;>first|exact Dt.and (Dt.ret _)|exact Dt.no
  ·exact Dt.no
 |
  lenS x=>
  simp only[ev]
  refine Dt.bind (V x) λp=> ?_
  split<;>first|exact Dt.ret _|exact Dt.no
 |lenC n=>simp only[ev];exact Dt.ret _
 |
  mm mx xs=>
  simp only[ev]
  refine Dt.bind (ql g s xs) λps=> ?_
  split
  ·exact Dt.bind (Es _ _ _) λn=>Dt.ret _
  ·exact Dt.no
 |_=>simp only[ev];exact Dt.no
end Go.Ab
namespace Go.Ab
variable [eg]
variable {P:Program} {nt:Nat} {ds:List Deferred} {s s':St} {Γ:Cx} {a:Act} {w:World} [iE]
def AX.reads:AX->List Nat
 | .t n=>[n]
 | .c _=>[]
def ZD:List AX->List Nat
 |[]=>[]
 |x::r=>x.reads++ZD r
def axo:Option AX->List Nat
 |none=>[]
 |some x=>x.reads
def axp:List (Nat×AX)->List Nat
 |[]=>[]
 |(_,x)::r=>x.reads++axp r
def AK.reads:AK->List Nat
 | .mv x| .load _ _ x| .nilCheck x| .un _ x| .convI _ x| .convS x| .convB x| .convL x| .fieldA _ _ x| .s2a _ _ x| .field _ _ _ _ x| .extract _ x| .len x| .lenS x| .cap x| .box x=>x.reads
 | .pick c a b=>c.reads++a.reads++b.reads
 | .build _ parts| .buildSlice _ _ _ _ parts=>axp parts
 | .bin _ _ x y| .indexA _ x y| .index _ _ _ x y| .indexS x y| .store _ x y| .append _ _ _ x y| .appendZ _ _ _ x y| .copy _ x y| .makeSlice _ _ _ x y=>x.reads++y.reads
 | .mkFunc _ a b=>ZD a++ZD b
 | .slice _ x lo hi mx=>x.reads++(axo lo++(axo hi++axo mx))
 | .lenC _| .alloc _| .mkMap .. =>[]
 | .mapGet _ _ _ _ m x=>m.reads++x.reads
 | .mapSet _ _ m x y=>m.reads++(x.reads++y.reads)
 | .mm _ xs=>ZD xs
 | .call f args| .callq f args=>f.reads++ZD args
 | .isNil _ x| .fill _ _ x=>x.reads
def dV (s s':St) (l:List Nat):Prop:=∀n∈l,get s'.env n=get s.env n
theorem dV.left {l m:List Nat} (h:dV s s' (l++m)):dV s s' l:=λn hn=>h n (List.mem_append.2 (.inl hn))
theorem dV.right {l m:List Nat} (h:dV s s' (l++m)):dV s s' m:=λn hn=>h n (List.mem_append.2 (.inr hn))
theorem kT {x:AX} (h:dV s s' x.reads):vx s' x=vx s x:=by
 cases x with
 |t n=>simp only[vx];rw[h n (by simp[AX.reads])]
 |c p=>rfl
theorem aE {g:Bool} {x:AX} (h:dV s s' x.reads):vg g s' x=vg g s x:=by
 funext K;unfold vg;rw[kT h]
theorem gR {g:Bool}:∀ {xs:List AX},dV s s' (ZD xs)->s8 g s' xs=s8 g s xs
 |[],_=>rfl
 |
  x::xs,h=>by
  funext K;simp only[s8];rw[aE (x:=x) h.left,gR (xs:=xs) h.right]
theorem mj {g:Bool}:∀ {xs:List (Nat×AX)},dV s s' (axp xs)->yd g s' xs=yd g s xs
 |[],_=>rfl
 |
  (i,x)::xs,h=>by
  funext K;simp only[yd];rw[aE (x:=x) h.left,mj (xs:=xs) h.right]
theorem sN (hb:s'.bx=s.bx) (p:PV):content s' p=content s p:=by
 funext K;cases p<;>simp only[content,hb]
theorem Gw (hb:s'.bx=s.bx) (op:BinOp) (e:ET) (p q:PV):py s' op e p q=py s op e p q:=by
 funext K;unfold py;rw[hb]
theorem zk {g:Bool} {lo hi:Option AX} (h1:dV s s' (axo lo)) (h2:dV s s' (axo hi)) (n c:Nat):j2 g s' lo hi n c=j2 g s lo hi n c:=by
 funext K
 cases lo<;>cases hi<;>simp only[j2]
 ·rw[aE h2]
 ·rw[aE h1]
 ·rw[aE h2];simp only[aE h1]
theorem zm {g:Bool} {k:AK} (hb:s'.bx=s.bx) (h:dV s s' k.reads):ev g s' k=ev g s k:=by
 funext K
 cases k with
 |mv x=>simp only[ev];rw[aE h]
 |pick c a b=>simp only[ev];rw[aE h.left.left,kT h.left.right,kT h.right]
 |build z parts=>simp only[ev];rw[mj h]
 |load agg w x=>simp only[ev];rw[aE h,hb]
 |nilCheck x=>simp only[ev];rw[aE h,hb]
 |bin op e x y=>simp only[ev];rw[aE h.left,aE h.right];simp only[Gw hb]
 |un op x=>simp only[ev];rw[aE h]
 |convI k x=>simp only[ev];rw[aE h]
 |convS x=>simp only[ev];rw[aE h];simp only[sN hb]
 |mkFunc f a b=>simp only[ev];rw[gR h.left,gR h.right]
 |
  slice k x lo hi mx=>
  have hx:=aE (g:=g) h.left
  have hl:=λn c=>zk (g:=g) h.right.left h.right.right.left n c
  have hm:=h.right.right.right
  cases k<;>cases mx<;>simp only[ev,hx,hl,hb]
  rw[aE (x:=_) hm]
 |fieldA i off x=>simp only[ev];rw[aE h,hb]
 |s2a n sz x=>simp only[ev];rw[aE h,hb]
 |field i off agg w x=>simp only[ev];rw[aE h]
 |
  indexA k x i=>
  have hx:=aE (g:=g) h.left
  have hi:=aE (g:=g) h.right
  cases k<;>simp only[ev,hx,hi,hb]
 |index agg n w x i=>simp only[ev];rw[aE h.left,aE h.right]
 |indexS x i=>simp only[ev];rw[aE h.left,aE h.right]
 |extract i x=>simp only[ev];rw[kT h]
 |len x=>simp only[ev];rw[aE h,hb]
 |lenS x=>simp only[ev];rw[aE h]
 |cap x=>simp only[ev];rw[aE h,hb]
 |lenC n=>rfl
 |mm mx xs=>simp only[ev];rw[gR h]
 |_=>rfl
def AO.quiet (o:AO):Bool:=
 match o.k with
 | .call .. =>false
 | .callq .. =>true
 | .buildSlice own .. => !own
 |k=> !nA k
def AO.reads (o:AO):List Nat:=(match o.guard with|some (n,_)=>[n]|none=>[])++o.k.reads
theorem LC {d:Option Nat} {f:AX} {args:List AX} {K:St->Prop} (h:mI P s d f args K):
  ∃v,K (s.put d v)∧∀s',s'.bx=s.bx->dV s s' (AK.callq f args).reads->∀K':St->Prop,K' (s'.put d v)->mI P s' d f args K':=by
 unfold mI at h
 obtain⟨pf,h,h1⟩:=pH _ _ _ _ h
 obtain⟨ps,h,h2⟩:=ql _ _ _ _ h
 split at h
 case h_2=>exact h.elim
 rename_i fid first cap
 obtain⟨v,BA,AP,hK⟩:=h
 refine⟨v,hK,λs' hb ha K' kD=> ?_⟩
 unfold mI
 rw[aE ha.left]
 refine h1 _ ?_
 rw[gR ha.right]
 exact h2 _ ⟨v,BA,AP,kD⟩
theorem LD {d:Option Nat} {sz n:Nat} {z:PV} {parts:List (Nat×AX)} {K:St->Prop} (h:ex s d (.buildSlice false sz z n parts) K):
  ∃v,K (s.put d v)∧∀s',s'.bx=s.bx->dV s s' (AK.buildSlice false sz z n parts).reads->∀K':St->Prop,K' (s'.put d v)->ex s' d (.buildSlice false sz z n parts) K':=by
 simp only[ex]at h
 obtain⟨ps,h,h1⟩:=vP _ _ _ _ h
 split at h
 case h_2=>exact h.elim
 rename_i l hl
 simp only[fJ,if_false]at h
 refine⟨_,h,λs' hb ha K' kD=> ?_⟩
 simp only[ex]
 rw[mj ha]
 refine h1 _ ?_
 simp only[hl,fJ,if_false]
 exact kD
theorem Gx {o:AO} {K:St->Prop} (hq:o.quiet=true) (h:kG P s o K):
  ∃v,K (s.put o.dst v)∧∀s',s'.bx=s.bx->dV s s' o.k.reads->∀K':St->Prop,K' (s'.put o.dst v)->kG P s' o K':=by
 obtain⟨dst,guard,mg,k⟩:=o
 cases k with
 |call f args=>simp[AO.quiet]at hq
 |callq f args=>exact LC h
 |
  buildSlice own sz z n parts=>
  simp only[AO.quiet,Bool.not_eq_true']at hq
  subst hq
  simp only[kG,nA,if_true]at h⊢
  exact LD h
 |
  _=>
  first
  |(simp[AO.quiet,nA]at hq;done)
  |(simp only[kG,nA,fJ,if_false]at h⊢
    obtain⟨v,hK,hv⟩:=qN _ _ _ _ h
    refine⟨v,hK,λs' hb ha K' kD=> ?_⟩
    rw[zm hb ha]
    exact hv _ kD)
theorem Gy {o:AO} {K:St->Prop} (hq:o.quiet=true) (h:im P s o K):
  ∃v,K (s.put o.dst v)∧∀s',s'.bx=s.bx->dV s s' o.reads->∀K':St->Prop,K' (s'.put o.dst v)->im P s' o K':=by
 unfold im at h
 cases hg:o.guard with
 |
  none=>
  rw[hg]at h
  obtain⟨v,hK,hv⟩:=Gx hq h
  refine⟨v,hK,λs' hb ha K' kD=> ?_⟩
  unfold im;rw[hg]
  exact hv s' hb ha.right K' kD
 |
  some gw=>
  obtain⟨sl,want⟩:=gw
  rw[hg]at h
  simp only at h
  have eH:∀ {s':St},dV s s' o.reads->get s'.env sl=get s.env sl:=λha=>ha sl (by simp[AO.reads,hg])
  split at h
  ·rename_i b hb
   split at h
   ·rename_i hm
    obtain⟨v,hK,hv⟩:=qN _ _ _ _ h
    refine⟨_,hK,λs' lY ha K' kD=> ?_⟩
    unfold im;rw[hg];simp only[eH ha,hb,hm,if_true]
    rw[zm lY ha.right]
    exact hv _ kD
   ·rename_i hm
    by_cases nN:b=want
    ·obtain⟨v,hK,hv⟩:=Gx hq (h.1 nN)
     refine⟨v,hK,λs' lY ha K' kD=> ?_⟩
     unfold im;rw[hg];simp only[eH ha,hb,hm]
     exact⟨λ_=>hv s' lY ha.right K' kD,λhn=>absurd nN hn⟩
    ·refine⟨.un,h.2 nN,λs' lY ha K' kD=> ?_⟩
     unfold im;rw[hg];simp only[eH ha,hb,hm]
     exact⟨λhn=>absurd hn nN,λ_=>kD⟩
  ·rename_i g b hb
   split at h
   ·rename_i hm
    obtain⟨v,hK,hv⟩:=qN _ _ _ _ h
    refine⟨_,hK,λs' lY ha K' kD=> ?_⟩
    unfold im;rw[hg];simp only[eH ha,hb,hm,if_true]
    rw[zm lY ha.right]
    exact hv _ kD
   ·rename_i hm
    by_cases nN:g=true∧b=want
    ·obtain⟨v,hK,hv⟩:=Gx hq (h.1 nN.1 nN.2)
     refine⟨v,hK,λs' lY ha K' kD=> ?_⟩
     unfold im;rw[hg];simp only[eH ha,hb,hm]
     exact⟨λ_ _=>hv s' lY ha.right K' kD,λhn=>absurd nN.2 (hn nN.1)⟩
    ·refine⟨.un,h.2 (λh1 h2=>nN ⟨h1,h2⟩),λs' lY ha K' kD=> ?_⟩
     unfold im;rw[hg];simp only[eH ha,hb,hm]
     exact⟨λh1 h2=>absurd ⟨h1,h2⟩ nN,λ_=>kD⟩
  ·exact h.elim
theorem put_comm {α:Type} {n m:Nat} (h:n≠m) (x y:α):∀l:List (Nat×α),put (put l n x) m y=put (put l m y) n x
 |
  []=>by
  simp only[put]
  by_cases h1:n<m
  ·simp[h,Ne.symm h,show¬m<n by omega,h1]
  ·simp[h,Ne.symm h,show m<n by omega,h1]
 |
  (k,v)::r=>by
  have ih:=put_comm h x y r
  grind [put]
theorem St.put_comm {d e:Option Nat} (h:∀k,d=some k->e≠some k) (v u:PV):(s.put d v).put e u=(s.put e u).put d v:=by
 cases d with
 |none=>rfl
 |
  some d=>
  cases e with
  |none=>rfl
  |
   some e=>
   have:d≠e:=λhh=>h d rfl (by rw[hh])
   simp only[St.put,Ab.put_comm this]
def AO.apart (x y:AO):Bool:=
 (match x.dst with|some d=> !y.reads.contains d&&y.dst !=some d|none=>true)&&
 (match y.dst with|some d=> !x.reads.contains d|none=>true)
theorem dV.put {d:Option Nat} {v:PV} {l:List Nat} (h:∀k,d=some k->k∉l):dV s (s.put d v) l:=by
 intro n hn
 cases d with
 |none=>rfl
 |
  some d=>
  have:d≠n:=λe=>h d rfl (e▸hn)
  simp[St.put,cH _ _ _ _ this]
theorem dV.acD {d:Option Nat} {v:PV} {l:List Nat} (h:∀k,d=some k->k∉l):dV (s.put d v) s l:=λn hn=>((dV.put h) n hn).symm
theorem kL (d:Option Nat) (v:PV):(s.put d v).bx=s.bx:=by cases d<;>rfl
theorem LF {x y:AO} {K:St->Prop} (hx:x.quiet=true) (hy:y.quiet=true) (iG:x.apart y=true) (h:im P s x λs1=>im P s1 y K):im P s y λs2=>im P s2 x K:=by
 have h1:∀d,x.dst=some d->d∉y.reads:=λd hd=>by simp[AO.apart,hd]at iG;exact iG.1.1
 have h2:∀d,x.dst=some d->y.dst≠some d:=λd hd=>by simp[AO.apart,hd]at iG;exact iG.1.2
 have h3:∀d,y.dst=some d->d∉x.reads:=λd hd=>by simp[AO.apart,hd]at iG;exact iG.2
 obtain⟨v,h,hv⟩:=Gy hx h
 obtain⟨u,h,hu⟩:=Gy hy h
 refine hu s (kL _ _).symm (dV.acD h1) _ ?_
 refine hv _ (kL _ _) (dV.put h3) _ ?_
 rw[St.put_comm (λk hk he=>h2 k he hk)]
 exact h
end Go.Ab
namespace Go.Ab
variable [eg]
variable {P:Program} {nt:Nat} {ds:List Deferred} {s s':St} {Γ:Cx} {a:Act} {w:World} [iE]
theorem qn {ro:Option Nat} {ops:Array Oper} {o:Oper} {i:Nat} {Q:Exit->Act->World->Prop} {K:Act->World->Prop} (hi:ops[i]? =some o) (h1:Region.wanted o (yielded ops a.tmps)=true->o.wpIn (FW ro) 0 P a w K Q) (h2:Region.wanted o (yielded ops a.tmps)=false->K (a.put o.dst undef) w):wpOpIn (FW ro) 0 P ops Q i K a w:=by
 unfold wpOpIn
 rw[hi]
 simp only
 cases h:Region.wanted o (yielded ops a.tmps)with
 |true=>simp only[if_true];exact h1 h
 |false=>simp only[fJ,if_false];exact⟨λ_ _=>trivial,h2 h⟩
theorem uq {b:Builtin} {xs:List Operand} {ts:List TypeId} {f:AX} {l:List AX} (h:dh P b xs ts=some (.call f l)):False:=by
 unfold dh at h
 split at h
 all_goals (repeat' (split at h))
 all_goals first|(simp at h;done)|contradiction
theorem tf {b:Builtin} {xs:List Operand} {ts:List TypeId} {f:AX} {l:List AX} (h:dh P b xs ts=some (.callq f l)):False:=by
 unfold dh at h
 split at h
 all_goals (repeat' (split at h))
 all_goals first|(simp at h;done)|contradiction
theorem CX {own:Bool} {op:Op} {f:AX} {l:List AX} (h:kK P own op=some (.callq f l)):False:=by
 unfold kK at h
 split at h
 all_goals first|(exact tf h)|skip
 all_goals (repeat' (split at h))
 all_goals first|(simp at h;done)|contradiction
theorem aN.slz {z z':Nat} {v:Value} (h:aN Γ (.sl z [] true) v):aN Γ (.sl z' [] true) v:=by
 simp only[aN]at h⊢
 cases h with
 |
  sl _ _ _ ad bu h1 h2 h3 h4 h5 h6=>
  have:=aD.sl (Γ:=Γ) z' [] true ad bu .nil (by simp) h3 h4 (λh=>absurd rfl h) .nil
  exact this
theorem LG {o:Oper} {k:AK} {own draw:Bool} {ty:TypeId} {K:PV->Prop} (hk:kK P own o.op=some k) (hs:hU nt ds s Γ a) (hw:w.heap=Γ.heap) (he:ev true s (um P draw ty k) K):
  ∃p v,K p∧(execOp a.eval o).run P w= .ok (.value v) w∧aN Γ p v:=by
 unfold um at he
 split at he
 ·split at he<;>simp[ev]at he
 ·split at he
  ·rename_i e _
   obtain⟨p,v,rfl,iN,hr⟩:=yY (K:=λp=>p= .sl 0 [] true) hk hs hw rfl (by simp[ev,vg,vx])
   simp only[ev,vg,vx]at he
   exact⟨_,v,he,iN,hr.slz⟩
  ·exact yY hk hs hw rfl he
 ·exact yY hk hs hw rfl he
theorem LH {draw:Bool} {ty:TypeId} {k:AK}:nA (um P draw ty k)=nA k:=by
 unfold um
 split
 ·split<;>rfl
 ·split<;>rfl
 ·rfl
theorem VU {draw:Bool} {ty:TypeId} {k:AK} (h:nA k=true):um P draw ty k=k:=by
 unfold um
 split
 ·simp[nA]at h
 ·simp[nA]at h
 ·rfl
theorem vQ {ro:Option Nat} {o:Oper} {ao:AO} {ops:Array Oper} {own sp:List Nat} {draw:Bool} {K:St->Prop} {Kr:Act->World->Prop} {Q:Exit->Act->World->Prop} (ht:mT P nt ops own sp draw o=some ao) (hs:hU nt ds s Γ a) (hw:w.heap=Γ.heap)
  (hY:zh P Γ) (h:kG P s ao K) (hk:Eo P nt ds Γ w K Kr):o.wpIn (FW ro) 0 P a w Kr Q:=by
 unfold mT at ht
 generalize (draw&& !PX own o.dst)=dr at ht
 split at ht
 case h_2=>simp at ht
 rename_i k g qd hg
 split at ht
 case isFalse=>simp at ht
 rename_i hd
 simp only[sJ]at ht
 by_cases hc:∃f args,k= .call f args
 ·obtain⟨f,args,rfl⟩:=hc
  have h':kF P s o.dst f args K:=by
   rw[←ht]at h
   cases dr with
   |true=>simp only[um,if_true,kG]at h;exact zj h
   |false=>simp only[um,fJ,if_false,kG]at h;exact h
  have F2:∀j,o.dst=some j->j<nt:=by
   intro j hj;rw[hj]at hd;simpa[uk]using hd
  --the operation is a call
  obtain⟨f0,xA,ala,ho,hf0,ha0⟩:∃f0 xA ala,o.op= .call {callee:= .value f0,args:=xA,argTypes:=ala}∧gq f0=some f∧qg xA.toList=some args:=by
   cases m9:o.op with
   |
    call c=>
    obtain⟨callee,xA,tys⟩:=c
    rw[m9]at qd
    cases callee with
    |
     value f0=>
     simp only[kK]at qd
     split at qd<;>simp only[sJ,reduceCtorEq,AK.call.injEq]at qd
     rename_i g0 l0 e1 e2
     exact⟨f0,xA,tys,rfl,by rw[e1,qd.1],by rw[e2,qd.2]⟩
    |invoke r m=>simp[kK]at qd
    |
     builtin b=>
     exfalso
     simp only[kK]at qd
     exact uq qd
   |
    binOp op t x y yt=>
    exfalso
    rw[m9]at qd;simp only[kK]at qd
    repeat (split at qd<;>(try contradiction))
    all_goals first|(simp at qd;done)|(split at qd<;>first|(simp at qd;done)|(split at qd<;>first|(simp at qd;done)|(split at qd<;>first|(simp at qd;done)|(split at qd<;>simp at qd))))
   |
    _=>
    exfalso
    rw[m9]at qd
    first
    |(simp only[kK,reduceCtorEq]at qd;done)
    |(simp only[kK]at qd
      repeat (split at qd<;>(try contradiction))
      all_goals first|(simp at qd;done)|(split at qd<;>first|(simp at qd;done)|(split at qd<;>first|(simp at qd;done)|(split at qd<;>simp at qd))))
  exact Er ho hf0 ha0 hs hw F2 hY h' hk
 ·by_cases hx:nA k=true
  ·have e:kG P s ao K=ex s o.dst k K:=by
    rw[←ht]
    unfold kG
    rw[VU hx]
    split
    ·rename_i heq;exact absurd ⟨_,_,heq⟩ hc
    ·rename_i heq;simp only at heq;rw[heq]at hx;simp[nA]at hx
    ·rw[if_pos hx]
   rw[e]at h
   exact Oper.xe qd (LA qd hs hw hd h) hk
  ·have e:kG P s ao K->ev true s (um P dr o.type k) λp=>K (s.put o.dst p):=by
    rw[←ht]
    unfold kG
    intro h
    simp only at h
    split at h
    ·rename_i heq
     exfalso
     unfold um at heq
     split at heq
     ·exact absurd ⟨_,_,rfl⟩ hc
     ·split at heq<;>simp at heq
     ·exact absurd ⟨_,_,heq⟩ hc
    ·rename_i heq
     exfalso
     unfold um at heq
     split at heq
     ·exact absurd ⟨_,_,rfl⟩ hc
     ·split at heq<;>simp at heq
     ·rw[heq]at qd
      exact CX qd
    ·rw[if_neg (by rw[LH];exact hx)]at h
     exact h
   have he:=e h
   obtain⟨p,v,hK,iN,hr⟩:=LG qd hs hw he
   refine Oper.xe qd (qj hs (λj hj=> ?_) (Le.refl Γ) hs.mem rfl iN hw (WF.refl w) hr hK) hk
   rw[hj]at hd
   unfold uk at hd
   split at hd
   ·rename_i heq;simp[nA]at hx
   ·rename_i heq _;simp at heq;subst heq;simpa using hd
   ·rename_i heq;simp at heq
theorem Bg:aN Γ .un undef:=by simp[aN]
theorem CY {ops:Array Oper} {j sl:Nat} {want VB:Bool} (h:rW ops (some (j,want))=some (some (sl,VB))):(ops[j]?).bind (·.dst)=some sl∧VB=want:=by
 unfold rW at h
 simp only at h
 split at h<;>simp at h
 rename_i d hd
 obtain⟨rfl,rfl⟩:=h
 exact⟨hd,rfl⟩
theorem pI {ro:Option Nat} {ops:Array Oper} {i:Nat} {o:Oper} {ao:AO} {own sp:List Nat} {draw:Bool} {K:St->Prop} {Kr:Act->World->Prop} {Q:Exit->Act->World->Prop} (hi:ops[i]? =some o) (ht:mT P nt ops own sp draw o=some ao) (hs:hU nt ds s Γ a) (hw:w.heap=Γ.heap)
  (hY:zh P Γ) (h:im P s ao K) (hk:Eo P nt ds Γ w K Kr):wpOpIn (FW ro) 0 P ops Q i Kr a w:=by
 have ht0:=ht
 unfold mT at ht
 generalize (draw&& !PX own o.dst)=dr at ht
 split at ht
 case h_2=>simp at ht
 rename_i k g qd hg
 split at ht
 case isFalse=>simp at ht
 rename_i hd
 simp only[sJ]at ht
 have hkd:ao.k=um P dr o.type k:=by rw[←ht]
 have Lc:ao.dst=o.dst:=by rw[←ht]
 have hgd:ao.guard=g:=by rw[←ht]
 have hmg:ao.mg=true->pG k=true:=by
  rw[←ht];intro hm
  simp only[aJ]at hm
  exact hm.1
 have BD:∀ {p:PV} {v:Value},(∀x y z,k≠ .store x y z)->aN Γ p v->K (s.put o.dst p)->Kr (a.put o.dst v) w:=by
  intro p v fc hr hK
  refine hk _ _ _ _ (hs.put (λj hj=> ?_) hr) hw (Le.refl Γ) (WF.refl w) hK
  rw[hj]at hd
  unfold uk at hd
  split at hd
  ·exact absurd rfl (fc _ _ _)
  ·rename_i heq _;simp at heq;subst heq;simpa using hd
  ·rename_i heq;simp at heq
 have OJ:K (s.put o.dst .un)->Kr (a.put o.dst undef) w:=by
  intro hK
  refine hk _ _ _ _ (hs.put (λj hj=> ?_) Bg) hw (Le.refl Γ) (WF.refl w) hK
  rw[hj]at hd
  unfold uk at hd
  split at hd
  ·simp at hd
  ·rename_i heq _;simp at heq;subst heq;simpa using hd
  ·rename_i heq;simp at heq
 unfold im at h
 cases hog:o.guard with
 |
  none=>
  rw[hog]at hg;simp only[rW,sJ]at hg
  rw[hgd,←hg]at h
  refine qn hi (λ_=>vQ ht0 hs hw hY h hk) (λhn=> ?_)
  simp[Region.wanted,hog]at hn
 |
  some jw=>
  obtain⟨j,ax0⟩:=jw
  rw[hog]at hg
  obtain⟨sl,want,rfl⟩:∃sl want,g=some (sl,want):=by
   unfold rW at hg;simp only at hg;split at hg<;>simp at hg
   exact⟨_,_,hg.symm⟩
  obtain⟨Y0,rfl⟩:=CY hg
  have Je:Region.wanted o (yielded ops a.tmps)=(yielded ops a.tmps j==some want):=by unfold Region.wanted;rw[hog]
  have hy:∀v,a.tmps.getD sl undef=v->yielded ops a.tmps j=(match v with| .bool b=>some b|_=>none):=by
   intro v hv
   unfold yielded
   rw[Y0]
   simp only[Option.bind_some]
   rw[Array.getD_eq_getD_getElem?]at hv
   cases ho:a.tmps[sl]?with
   |none=>rw[ho]at hv;subst hv;rfl
   |some u=>rw[ho]at hv;subst hv;cases u<;>rfl
  rw[hgd]at h
  simp only at h
  have VA:∀ {gg:Bool},ao.mg=true->ev gg s ao.k (λp=>K (s.put ao.dst (.gd gg p)))->(Region.wanted o (yielded ops a.tmps)=gg)->wpOpIn (FW ro) 0 P ops Q i Kr a w:=by
   intro gg hm he hwg
   have Vt:pG k=true:=hmg hm
   have fc:∀x y z,k≠ .store x y z:=by rintro x y z rfl;simp[pG]at Vt
   rw[hkd,Lc]at he
   refine qn hi (λh1=> ?_) (λh1=> ?_)
   ·rw[hwg]at h1;subst h1
    obtain⟨p,v,hK,iN,hr⟩:=LG qd hs hw he
    refine⟨λ_ _=>trivial,?_⟩
    rw[Oper.semAt_eq _ _ _ (xd qd),iN]
    exact BD fc (p:= .gd true p) (by rw[aN];exact⟨λ_=>hr,by simp⟩) hK
   ·rw[hwg]at h1;subst h1
    obtain⟨p,hK,_⟩:=qN _ _ _ _ he
    exact BD fc (p:= .gd false p) (by rw[aN];exact⟨by simp,λ_=>rfl⟩) hK
  split at h
  ·rename_i b hb
   have hbv:a.tmps.getD sl undef= .bool b:=by
    cases Y1:get s.env sl with
    |none=>rw[Y1]at hb;simp at hb
    |
     some q=>
     rw[Y1]at hb;simp only[Option.getD_some]at hb;subst hb
     have:=hs.env sl _ Y1
     simp only[aN]at this
     generalize a.tmps.getD sl undef=v at this
     cases this;rfl
   have hyb:yielded ops a.tmps j=some b:=by rw[hy _ hbv]
   split at h
   ·rename_i hm
    exact VA hm h (by rw[Je,hyb];rfl)
   ·refine qn hi (λh1=> ?_) (λh1=> ?_)
    ·rw[Je,hyb]at h1
     exact vQ ht0 hs hw hY (h.1 (by simpa using h1)) hk
    ·rw[Je,hyb]at h1
     exact OJ (by rw[←Lc];exact h.2 (by simpa using h1))
  ·rename_i gg b hb
   have hbv:(gg=true->a.tmps.getD sl undef= .bool b)∧(gg=false->a.tmps.getD sl undef=undef):=by
    cases Y1:get s.env sl with
    |none=>rw[Y1]at hb;simp at hb
    |
     some q=>
     rw[Y1]at hb;simp only[Option.getD_some]at hb;subst hb
     have:=hs.env sl _ Y1
     rw[aN]at this
     refine⟨λhg=> ?_,this.2⟩
     have:=this.1 hg
     simp only[aN]at this
     generalize a.tmps.getD sl undef=v at this
     cases this;rfl
   have hwg:Region.wanted o (yielded ops a.tmps)=(gg&&b==want):=by
    rw[Je]
    cases gg with
    |true=>rw[hy _ (hbv.1 rfl)];rfl
    |false=>rw[hy _ (hbv.2 rfl)];simp[undef]
   split at h
   ·rename_i hm
    exact VA hm h hwg
   ·refine qn hi (λh1=> ?_) (λh1=> ?_)
    ·rw[hwg]at h1
     simp only[aJ,beq_iff_eq]at h1
     exact vQ ht0 hs hw hY (h.1 h1.1 h1.2) hk
    ·rw[hwg]at h1
     have h2:=h.2 (λhg nN=>by rw[hg,nN]at h1;simp at h1)
     exact OJ (by rw[←Lc];exact h2)
  ·exact h.elim
end Go.Ab
namespace Go.Ab
variable [eg]
variable {P:Program} {nt:Nat} {ds:List Deferred} {s s':St} [iE]
def AK.free:AK->Bool
 | .mv _| .pick .. | .build .. | .un .. | .convI .. | .mkFunc .. | .field .. | .index .. | .indexS .. | .extract .. | .lenS _| .lenC _| .mm .. =>true
 |_=>false
def AO.free (o:AO):Bool:=o.k.free
def AO.oH (o:AO):Bool:=o.dst.isNone&&(match o.k with| .store .. =>true|_=>false)
theorem CZ {g:Bool} {k:AK} {K:PV->Prop} (hf:k.free=true) (h:dV s s' k.reads) (he:ev g s k K):ev g s' k K:=by
 cases k with
 |mv x=>simp only[ev]at he⊢;rw[aE h];exact he
 |pick c a b=>simp only[ev]at he⊢;rw[aE h.left.left,kT h.left.right,kT h.right];exact he
 |build z parts=>simp only[ev]at he⊢;rw[mj h];exact he
 |un op x=>simp only[ev]at he⊢;rw[aE h];exact he
 |convI k x=>simp only[ev]at he⊢;rw[aE h];exact he
 |mkFunc f a b=>simp only[ev]at he⊢;rw[gR h.left];simp only[gR h.right];exact he
 |field i off agg w x=>simp only[ev]at he⊢;rw[aE h];exact he
 |index agg n w x i=>simp only[ev]at he⊢;rw[aE h.left,aE h.right];exact he
 |indexS x i=>simp only[ev]at he⊢;rw[aE h.left,aE h.right];exact he
 |extract i x=>simp only[ev]at he⊢;rw[kT h];exact he
 |lenS x=>simp only[ev]at he⊢;rw[aE h];exact he
 |lenC n=>simp only[ev]at he⊢;exact he
 |mm mx xs=>simp only[ev]at he⊢;rw[gR h];exact he
 |_=>simp[AK.free]at hf
theorem Gz {o:AO} (h:o.free=true):o.quiet=true:=by
 obtain⟨d,g,m,k⟩:=o
 cases k<;>simp[AO.free,AK.free]at h<;>rfl
theorem zn {o:AO} {K:St->Prop} (hf:o.free=true) (h:kG P s o K):
  ∃v,K (s.put o.dst v)∧∀s',dV s s' o.k.reads->∀K':St->Prop,K' (s'.put o.dst v)->kG P s' o K':=by
 obtain⟨dst,guard,mg,k⟩:=o
 have e:∀(s:St) K,kG P s ⟨dst,guard,mg,k⟩ K=ev true s k λp=>K (s.put dst p):=by
  intro s K
  cases k<;>first|rfl|(simp[AO.free,AK.free]at hf;done)
 rw[e]at h
 obtain⟨v,hK,hv⟩:=qN _ _ _ _ h
 refine⟨v,hK,λs' ha K' kD=> ?_⟩
 rw[e]
 exact CZ hf ha (hv _ kD)
def Qf (P:Program) (r:St) (o:AO) (v:PV):Prop:=∀s':St,dV r s' o.reads->∀K':St->Prop,K' (s'.put o.dst v)->im P s' o K'
theorem Et {o:AO} {K:St->Prop} (hq:o.free=true) (h:im P s o K):∃v,K (s.put o.dst v)∧Qf P s o v:=by
 unfold im at h
 cases hg:o.guard with
 |
  none=>
  rw[hg]at h
  obtain⟨v,hK,hv⟩:=zn hq h
  refine⟨v,hK,λs' ha K' kD=> ?_⟩
  unfold im;rw[hg]
  exact hv s' ha.right K' kD
 |
  some gw=>
  obtain⟨sl,want⟩:=gw
  rw[hg]at h
  simp only at h
  have eH:∀ {s':St},dV s s' o.reads->get s'.env sl=get s.env sl:=λha=>ha sl (by simp[AO.reads,hg])
  split at h
  ·rename_i b hb
   split at h
   ·rename_i hm
    obtain⟨v,hK,hv⟩:=qN _ _ _ _ h
    refine⟨_,hK,λs' ha K' kD=> ?_⟩
    unfold im;rw[hg];simp only[eH ha,hb,hm,if_true]
    exact CZ hq ha.right (hv _ kD)
   ·rename_i hm
    by_cases nN:b=want
    ·obtain⟨v,hK,hv⟩:=zn hq (h.1 nN)
     refine⟨v,hK,λs' ha K' kD=> ?_⟩
     unfold im;rw[hg];simp only[eH ha,hb,hm]
     exact⟨λ_=>hv s' ha.right K' kD,λhn=>absurd nN hn⟩
    ·refine⟨.un,h.2 nN,λs' ha K' kD=> ?_⟩
     unfold im;rw[hg];simp only[eH ha,hb,hm]
     exact⟨λhn=>absurd hn nN,λ_=>kD⟩
  ·rename_i g b hb
   split at h
   ·rename_i hm
    obtain⟨v,hK,hv⟩:=qN _ _ _ _ h
    refine⟨_,hK,λs' ha K' kD=> ?_⟩
    unfold im;rw[hg];simp only[eH ha,hb,hm,if_true]
    exact CZ hq ha.right (hv _ kD)
   ·rename_i hm
    by_cases nN:g=true∧b=want
    ·obtain⟨v,hK,hv⟩:=zn hq (h.1 nN.1 nN.2)
     refine⟨v,hK,λs' ha K' kD=> ?_⟩
     unfold im;rw[hg];simp only[eH ha,hb,hm]
     exact⟨λ_ _=>hv s' ha.right K' kD,λhn=>absurd nN.2 (hn nN.1)⟩
    ·refine⟨.un,h.2 (λh1 h2=>nN ⟨h1,h2⟩),λs' ha K' kD=> ?_⟩
     unfold im;rw[hg];simp only[eH ha,hb,hm]
     exact⟨λh1 h2=>absurd ⟨h1,h2⟩ nN,λ_=>kD⟩
  ·exact h.elim
theorem C0 {o:AO} {K:St->Prop} (hq:o.oH=true) (h:kG P s o K):
  ∃b,K {s with bx:=b}∧∀s',s'.bx=s.bx->dV s s' o.k.reads->∀K':St->Prop,K' {s' with bx:=b}->kG P s' o K':=by
 obtain⟨dst,guard,mg,k⟩:=o
 simp only[AO.oH,aJ]at hq
 cases k<;>simp at hq
 rename_i n x y
 simp only[kG,nA,if_true,ex]at h⊢
 obtain⟨p,h,h1⟩:=pH _ _ _ _ h
 obtain⟨v,h,h2⟩:=pH _ _ _ _ h
 cases p<;>simp only at h
 case pt k pth aC=>
  split at h
  case h_2=>exact h.elim
  rename_i blk hb
  split at h
  case h_2=>exact h.elim
  rename_i cB re
  obtain⟨hc,hK⟩:=h
  refine⟨_,hK,λs' lY ha K' kD=> ?_⟩
  rw[aE ha.left]
  refine h1 _ ?_
  rw[aE ha.right]
  refine h2 _ ?_
  simp only[lY,hb,re]
  exact⟨hc,kD⟩
theorem vR {o:AO} {K:St->Prop} (hq:o.oH=true) (h:im P s o K):
  ∃b,K {s with bx:=b}∧∀s',s'.bx=s.bx->dV s s' o.reads->∀K':St->Prop,K' {s' with bx:=b}->im P s' o K':=by
 have hd:o.dst=none:=by simp[AO.oH]at hq;exact hq.1
 have BD:∀(s:St) p,s.put o.dst p=s:=by intro s p;rw[hd];rfl
 have OK:∀(g:Bool) (s:St) K,ev g s o.k K->False:=by
  intro g s K h
  obtain⟨dst,guard,mg,k⟩:=o
  cases k<;>simp[AO.oH]at hq
  simp[ev]at h
 unfold im at h
 cases hg:o.guard with
 |
  none=>
  rw[hg]at h
  obtain⟨b,hK,hv⟩:=C0 hq h
  refine⟨b,hK,λs' hb ha K' kD=> ?_⟩
  unfold im;rw[hg]
  exact hv s' hb ha.right K' kD
 |
  some gw=>
  obtain⟨sl,want⟩:=gw
  rw[hg]at h
  simp only at h
  have eH:∀ {s':St},dV s s' o.reads->get s'.env sl=get s.env sl:=λha=>ha sl (by simp[AO.reads,hg])
  split at h
  ·rename_i b hb
   split at h
   ·exact(OK _ _ _ h).elim
   ·rename_i hm
    by_cases nN:b=want
    ·obtain⟨v,hK,hv⟩:=C0 hq (h.1 nN)
     refine⟨v,hK,λs' lY ha K' kD=> ?_⟩
     unfold im;rw[hg];simp only[eH ha,hb,hm]
     exact⟨λ_=>hv s' lY ha.right K' kD,λhn=>absurd nN hn⟩
    ·refine⟨s.bx,by have:=h.2 nN;rw[BD]at this;exact this,λs' lY ha K' kD=> ?_⟩
     unfold im;rw[hg];simp only[eH ha,hb,hm]
     exact⟨λhn=>absurd hn nN,λ_=>by rw[BD];rw[←lY]at kD;exact kD⟩
  ·rename_i g b hb
   split at h
   ·exact(OK _ _ _ h).elim
   ·rename_i hm
    by_cases nN:g=true∧b=want
    ·obtain⟨v,hK,hv⟩:=C0 hq (h.1 nN.1 nN.2)
     refine⟨v,hK,λs' lY ha K' kD=> ?_⟩
     unfold im;rw[hg];simp only[eH ha,hb,hm]
     exact⟨λ_ _=>hv s' lY ha.right K' kD,λhn=>absurd nN.2 (hn nN.1)⟩
    ·refine⟨s.bx,by have:=h.2 (λh1 h2=>nN ⟨h1,h2⟩);rw[BD]at this;exact this,λs' lY ha K' kD=> ?_⟩
     unfold im;rw[hg];simp only[eH ha,hb,hm]
     exact⟨λh1 h2=>absurd ⟨h1,h2⟩ nN,λ_=>by rw[BD];rw[←lY]at kD;exact kD⟩
  ·exact h.elim
theorem Eu {d:Option Nat} {v:PV} {b:List (Nat×a9)}:({s with bx:=b}:St).put d v= {s.put d v with bx:=b}:=by cases d<;>rfl
theorem dV.bx {l:List Nat} {b:List (Nat×a9)}:dV s {s with bx:=b} l:=λ_ _=>rfl
theorem dV.vC {l:List Nat} {b:List (Nat×a9)}:dV {s with bx:=b} s l:=λ_ _=>rfl
def AO.comm (y x:AO):Bool:=y.apart x&&(y.quiet&&x.quiet||y.free&&x.oH||y.oH&&x.free)
theorem LI {y x:AO} {K:St->Prop} (h:y.comm x=true) (hh:im P s y λs1=>im P s1 x K):im P s x λs2=>im P s2 y K:=by
 simp only[AO.comm,aJ,Bool.or_eq_true]at h
 obtain⟨iG,h⟩:=h
 have h1:∀d,y.dst=some d->d∉x.reads:=λd hd=>by simp[AO.apart,hd]at iG;exact iG.1.1
 have h3:∀d,x.dst=some d->d∉y.reads:=λd hd=>by simp[AO.apart,hd]at iG;exact iG.2
 rcases h with(h|h)|h
 ·exact LF h.1 h.2 iG hh
 ·obtain⟨v,hh,hv⟩:=Et h.1 hh
  obtain⟨b,hh,hb⟩:=vR h.2 hh
  refine hb s (kL _ _).symm (dV.acD h1) _ ?_
  refine hv _ dV.bx _ ?_
  rw[Eu];exact hh
 ·obtain⟨b,hh,hb⟩:=vR h.1 hh
  obtain⟨v,hh,hv⟩:=Et h.2 hh
  refine hv s dV.vC _ ?_
  refine hb _ (kL _ _) (dV.put h3) _ ?_
  rw[Eu]at hh;exact hh
theorem JC {y x:AO} {K K':St->Prop} (h:y.comm x=true) (hk:∀s,K s->K' s) (hh:im P s y K):im P s y K':=by
 simp only[AO.comm,aJ,Bool.or_eq_true]at h
 obtain⟨_,h⟩:=h
 have hq:y.quiet=true∨y.oH=true:=by
  rcases h with(h|h)|h
  ·exact .inl h.1
  ·exact .inl (Gz h.1)
  ·exact .inr h.1
 rcases hq with hq|hq
 ·obtain⟨v,h1,h2⟩:=Gy hq hh
  exact h2 s rfl (λ_ _=>rfl) _ (hk _ h1)
 ·obtain⟨b,h1,h2⟩:=vR hq hh
  exact h2 s rfl (λ_ _=>rfl) _ (hk _ h1)
end Go.Ab
namespace Go.Ab
variable [eg]
variable {P:Program} {nt:Nat} {ds:List Deferred} {s s':St} {Γ:Cx} {a:Act} {w:World} {Q:Exit->Act->World->Prop} [iE]
def GB (P:Program) (s:St):List AO->(St->Prop)->Prop
 |[],K=>K s
 |o::r,K=>im P s o λs'=>GB P s' r K
def K0 (P:Program) (aos:List AO) (s:St):List Nat->(St->Prop)->Prop
 |[],K=>K s
 |
  i::r,K=>match aos[i]?with
  |some o=>im P s o λs'=>K0 P aos s' r K
  |none=>False
theorem th {aos:List AO} {K:St->Prop}:∀(n i:Nat) (s:St),i+n=aos.length->(GB P s (aos.drop i) K↔K0 P aos s (List.range' i n) K)
 |0,i,s,h=>by simp only[List.range'_zero,K0];rw[List.drop_of_length_le (by omega)];rfl
 |
  n+1,i,s,h=>by
  have fZ:i<aos.length:=by omega
  rw[List.range'_succ,List.drop_eq_getElem_cons fZ]
  simp only[GB,K0,gJ fZ]
  have:(λs'=>GB P s' (aos.drop (i+1)) K)=λs'=>K0 P aos s' (List.range' (i+1) n) K:=funext λs'=>propext (th n (i+1) s' (by omega))
  rw[this]
noncomputable def kq (P:Program) (nt:Nat) (ops:Array Oper) (own sp:List Nat) (draw:Bool):List Oper->Option (List AO)
 |[]=>some []
 |o::r=>match mT P nt ops own sp draw o,kq P nt ops own sp draw r with|some x,some l=>some (x::l)|_,_=>none
theorem n9 {ops:Array Oper} {own sp:List Nat} {draw:Bool}:∀ {os:List Oper} {aos:List AO},kq P nt ops own sp draw os=some aos->aos.length=os.length∧∀(i:Nat) o,os[i]? =some o->∃ao,aos[i]? =some ao∧mT P nt ops own sp draw o=some ao
 |[],aos,h=>by simp[kq]at h;subst h;simp
 |
  o::r,aos,h=>by
  simp only[kq]at h
  split at h
  ·rename_i x l hx hl
   simp only[sJ]at h;subst h
   obtain⟨h1,h2⟩:=n9 hl
   refine⟨by simp[h1],λi o' hi=> ?_⟩
   cases i with
   |zero=>simp at hi;subst hi;exact⟨x,rfl,hx⟩
   |succ i=>simp at hi;simpa using h2 i o' hi
  ·simp at h
theorem Eo.trans {Γ1:Cx} {w1:World} {K:St->Prop} {Kr:Act->World->Prop} (h1:Le Γ Γ1) (h2:WF w w1) (h:Eo P nt ds Γ w K Kr):Eo P nt ds Γ1 w1 K Kr:=
 λs' Γ' a' w' a1 a2 a3 a4 a5=>h s' Γ' a' w' a1 a2 (h1.trans a3) (h2.trans a4) a5
theorem BQ {ro:Option Nat} {ops:Array Oper} {aos:List AO} {own sp:List Nat} {draw:Bool} (m9:∀(i:Nat) o,ops[i]? =some o->∃ao,aos[i]? =some ao∧mT P nt ops own sp draw o=some ao) (hlen:aos.length=ops.size) {K:St->Prop}:
  ∀(l:List Nat) {s:St} {Γ:Cx} {a:Act} {w:World},hU nt ds s Γ a->w.heap=Γ.heap->zh P Γ->K0 P aos s l K->Eo P nt ds Γ w K (Q .normal)->wpOpsIn (FW ro) 0 P ops Q l a w
 |[],s,Γ,a,w,hs,hw,_,h,hk=>hk _ _ _ _ hs hw (Le.refl Γ) (WF.refl w) h
 |
  i::r,s,Γ,a,w,hs,hw,hY,h,hk=>by
  rw[wpOpsIn_cons]
  simp only[K0]at h
  split at h
  case h_2=>exact h.elim
  rename_i ao DY
  have hi:i<ops.size:=by rw[←hlen];exact(List.getElem?_eq_some_iff.1 DY).1
  obtain⟨ao',h1,h2⟩:=m9 i ops[i] (Array.getElem?_eq_getElem hi)
  rw[DY]at h1;cases h1
  refine pI (Array.getElem?_eq_getElem hi) h2 hs hw hY h ?_
  intro s' Γ' a' w' b1 b2 b3 b4 b5
  exact BQ m9 hlen r b1 b2 (hY.le b3) b5 (hk.trans b3 b4)
theorem C1 {ro:Option Nat} {ops:Array Oper} {aos:List AO} {own sp:List Nat} {id:Nat} (ht:kq P nt ops own sp false ops.toList=some aos) {K:St->Prop} (hs:hU nt ds s Γ a) (hw:w.heap=Γ.heap) (hY:zh P Γ) (h:GB P s aos K) (hk:Eo P nt ds Γ w K (Q .normal)):
  (Code.region id ops false).wpIn (FW ro) 0 P Q a w:=by
 obtain⟨h1,h2⟩:=n9 ht
 refine wpIn_region (BQ (λi o hi=>h2 i o (by simpa using hi)) (by simpa using h1) _ hs hw hY ?_ hk)
 rw[List.range_eq_range']
 exact(th (P:=P) ops.size 0 s (by simpa using h1.symm)).1 (by simpa using h)
inductive P3 (ops:Array Oper):Nat->Nat->Prop
 |dir {i:Nat} {o:Oper} {e:Edge}:ops[i]? =some o->e∈o.after->Region.binds .any e=true->P3 ops i e.on
 |tr {i j:Nat} {o:Oper} {e:Edge}:ops[i]? =some o->e∈o.after->Region.binds .any e=true->P3 ops e.on j->P3 ops i j
def C2 (ms:List Nat):List Edge->Nat->Nat
 |[],m=>m
 |e::r,m=>C2 ms r (if Region.binds .any e=true then m|||2^e.on|||ms.getD e.on 0 else m)
def jn:List Oper->List Nat->List Nat
 |[],ms=>ms
 |o::r,ms=>jn r (ms++[C2 ms o.after.toList 0])
theorem xg {ms:List Nat} {B:Nat->Prop}:∀(l:List Edge) (m:Nat),(∀e∈l,Region.binds .any e=true->B e.on∧∀j,(ms.getD e.on 0).testBit j=true->B j)->(∀j,m.testBit j=true->B j)->
  ∀j,(C2 ms l m).testBit j=true->B j
 |[],m,_,hm,j,h=>hm j h
 |
  e::r,m,hl,hm,j,h=>by
  simp only[C2]at h
  refine xg r _ (λe he=>hl e (by simp[he])) ?_ j h
  intro j hj
  split at hj
  ·rename_i hb
   obtain⟨h1,h2⟩:=hl e (by simp) hb
   rw[Nat.testBit_or,Nat.testBit_or,Bool.or_eq_true,Bool.or_eq_true,Nat.testBit_two_pow]at hj
   rcases hj with(hj|hj)|hj
   ·exact hm j hj
   ·simp only[decide_eq_true_eq]at hj;subst hj;exact h1
   ·exact h2 j hj
  ·exact hm j hj
theorem zo {ops:Array Oper}:∀(l done:List Oper) (ms:List Nat),ops.toList=done++l->ms.length=done.length->(∀(i:Nat) m,ms[i]? =some m->∀j,m.testBit j=true->P3 ops i j)->
  ∀(i:Nat) m,(jn l ms)[i]? =some m->∀j,m.testBit j=true->P3 ops i j
 |[],_,ms,_,_,h=>h
 |
  o::r,done,ms,hd,hl,h=>by
  refine zo r (done++[o]) _ (by simp[hd]) (by simp[hl]) ?_
  intro i m hi j hj
  rw[List.getElem?_append]at hi
  split at hi
  ·exact h i m hi j hj
  ·rename_i hge
   have hi0:i=ms.length:=by
    have:=(List.getElem?_eq_some_iff.1 hi).1
    simp at this;omega
   subst hi0
   simp at hi
   subst hi
   have ho:ops[ms.length]? =some o:=by
    rw[←Array.getElem?_toList,hd,hl];simp
   refine xg (B:=λj=>P3 ops ms.length j) _ 0 (λe he hb=>⟨.dir ho (by simpa using he) hb,λj hj=> .tr ho (by simpa using he) hb ?_⟩) (by simp) j hj
   cases hx:ms[e.on]?with
   |none=>rw[List.getD_eq_getElem?_getD,hx]at hj;simp at hj
   |some m=>rw[List.getD_eq_getElem?_getD,hx]at hj;exact h _ m hx j hj
def C3 (ms:List Nat) (i j:Nat):Bool:=(ms.getD i 0).testBit j
theorem zp {ops:Array Oper} {i j:Nat} (h:C3 (jn ops.toList []) i j=true):P3 ops i j:=by
 unfold C3 at h
 cases hx:(jn ops.toList [])[i]?with
 |none=>rw[List.getD_eq_getElem?_getD,hx]at h;simp at h
 |
  some m=>
  rw[List.getD_eq_getElem?_getD,hx]at h
  exact zo ops.toList [] [] (by simp) rfl (by simp) i m hx j h
def H3 (ops:Array Oper) (aos:List AO) (ms:List Nat):Bool:=
 (List.range ops.size).all λi=>match ops[i]?,aos[i]?with
  |some o,some x=>(o.after.all λe=> !Region.binds .any e||decide (e.on<i))&&
    (List.range i).all λj=>C3 ms i j||(match aos[j]?with|some y=>y.comm x|none=>false)
  |_,_=>false
def zq (ops:Array Oper) (aos:List AO):Bool:=H3 ops aos (jn ops.toList [])
def oX (ops:Array Oper) (listed:Array Bool):Prop:=
 ∀(k:Nat) o,ops[k]? =some o->listed.getD k true=true->∀e∈o.after,Region.binds .any e=true->listed.getD e.on false=true
theorem GC {ops:Array Oper} {listed:Array Bool} (hc:oX ops listed) {i j:Nat} (h:P3 ops i j):listed.getD i false=true->listed.getD j false=true:=by
 have up:∀i:Nat,listed.getD i false=true->listed.getD i true=true:=by
  intro i hl
  have hi:i<listed.size:=by
   rcases Nat.lt_or_ge i listed.size with h'|h'
   ·exact h'
   ·simp[Array.getElem?_eq_none h']at hl
  simpa[Array.getD_eq_getD_getElem?,Array.getElem?_eq_getElem hi]using hl
 induction h with
 |dir ho he hb=>intro hl;exact hc _ _ ho (up _ hl) _ he hb
 |tr ho he hb _ ih=>intro hl;exact ih (hc _ _ ho (up _ hl) _ he hb)
theorem vS {ops:Array Oper} {listed:Array Bool} (hc:oX ops listed) {i j:Nat} (h:P3 ops i j) (hr:i∈Region.ready .any ops listed):listed.getD j false=true:=by
 obtain⟨_,o,ho,ff⟩:=mem_ready.1 hr
 cases h with
 |dir ho' he hb=>rw[ho]at ho';cases ho';exact ff _ he hb
 |tr ho' he hb h2=>rw[ho]at ho';cases ho';exact GC hc h2 (ff _ he hb)
theorem BR {aos:List AO} {K:St->Prop} {i:Nat} {x:AO} (hi:aos[i]? =some x) (l2:List Nat):∀(l1:List Nat) (s:St),
  (∀j∈l1,∃y,aos[j]? =some y∧y.comm x=true)->K0 P aos s (l1++i::l2) K->im P s x λs'=>K0 P aos s' (l1++l2) K
 |[],s,_,h=>by simpa[K0,hi]using h
 |
  j::l1,s,ff,h=>by
  obtain⟨y,hy,iG⟩:=ff j (by simp)
  simp only[List.cons_append,K0,hy]at h⊢
  exact LI iG (JC iG (λs' h'=>BR hi l2 l1 s' (λk hk=>ff k (by simp[hk])) h') h)
theorem aoE {ro:Option Nat} {ops:Array Oper} {aos:List AO} {own sp:List Nat} (m9:∀(i:Nat) o,ops[i]? =some o->∃ao,aos[i]? =some ao∧mT P nt ops own sp true o=some ao) (hlen:aos.length=ops.size) (dO:zq ops aos=true) {K:St->Prop}:
  ∀
   (n:Nat) (listed:Array Bool) {s:St} {Γ:Cx} {a:Act} {w:World},listed.size=ops.size->oX ops listed->((List.range ops.size).filter λi=> !listed.getD i true).length=n->
   hU nt ds s Γ a->w.heap=Γ.heap->zh P Γ->K0 P aos s ((List.range ops.size).filter λi=> !listed.getD i true) K->Eo P nt ds Γ w K (Q .normal)->wpAnyIn (FW ro) 0 P .any ops Q n listed a w:=by
 simp only[zq,H3,List.all_eq_true,List.mem_range]at dO
 have hoi:=dO
 --what is first is ready
 have HT:∀listed:Array Bool,listed.size=ops.size->Region.ready .any ops listed=[]->((List.range ops.size).filter λi=> !listed.getD i true)=[]:=by
  intro listed iu hr
  cases hl:(List.range ops.size).filter λi=> !listed.getD i true with
  |nil=>rfl
  |
   cons i l=>
   exfalso
   have hm:∀j,j∈i::l↔j<ops.size∧listed.getD j true=false:=by intro j;rw[←hl];simp
   have Jf:(i::l).Pairwise (·<·):=by rw[←hl];exact(List.pairwise_lt_range).filter _
   obtain⟨hi,Ec⟩:=(hm i).1 (by simp)
   have HU:=hoi i hi
   obtain⟨ao,DY,_⟩:=m9 i ops[i] (Array.getElem?_eq_getElem hi)
   rw[Array.getElem?_eq_getElem hi,DY]at HU
   simp only[aJ,Array.all_eq_true_iff_forall_mem,Bool.or_eq_true,Bool.not_eq_true',decide_eq_true_eq]at HU
   have:i∈Region.ready .any ops listed:=by
    rw[mem_ready]
    refine⟨Ec,ops[i],Array.getElem?_eq_getElem hi,λe he hb=> ?_⟩
    have fZ:=(HU.1 e he).resolve_left (by simp[hb])
    cases hx:listed.getD e.on false with
    |true=>rfl
    |
     false=>
     have Y3:e.on<listed.size:=by omega
     have hu:listed.getD e.on true=false:=by
      simpa[Array.getD_eq_getD_getElem?,Array.getElem?_eq_getElem Y3]using hx
     have iZ:=(hm e.on).2 ⟨by omega,hu⟩
     rcases List.mem_cons.1 iZ with h|h
     ·omega
     ·have:=List.rel_of_pairwise_cons Jf h;omega
   rw[hr]at this;simp at this
 intro n
 induction n with
 |
  zero=>
  intro listed s Γ a w iu hc hn hs hw hY h hk
  have hl:=List.length_eq_zero_iff.1 hn
  rw[hl]at h
  refine⟨?_,hk _ _ _ _ hs hw (Le.refl Γ) (WF.refl w) h⟩
  rw[List.eq_nil_iff_forall_not_mem]
  intro i hi
  have h0:=(mem_ready.1 hi)
  obtain⟨h1,o,ho,_⟩:=h0
  have:i∈(List.range ops.size).filter λi=> !listed.getD i true:=by
   rw[List.mem_filter,List.mem_range];exact⟨(Array.getElem?_eq_some_iff.1 ho).1,by rw[h1];rfl⟩
  rw[hl]at this;simp at this
 |
  succ n ih=>
  intro listed s Γ a w iu hc hn hs hw hY h hk
  refine⟨λhr=> ?_,λi hi=> ?_⟩
  ·rw[HT listed iu hr]at hn;simp at hn
  ·obtain⟨Ec,o,ho,ff⟩:=mem_ready.1 hi
   have fZ:=(Array.getElem?_eq_some_iff.1 ho).1
   obtain⟨ao,DY,htr⟩:=m9 i o ho
   have iZ:i∈(List.range ops.size).filter λi=> !listed.getD i true:=by
    rw[List.mem_filter,List.mem_range];exact⟨fZ,by rw[Ec];rfl⟩
   obtain⟨l1,l2,hl⟩:=List.append_of_mem iZ
   have Jf:(l1++i::l2).Pairwise (·<·):=by rw[←hl];exact(List.pairwise_lt_range).filter _
   have yM:(l1++i::l2).Nodup:=Jf.imp (λh=>Nat.ne_of_lt h)
   have qe:(List.range ops.size).filter (λj=> !(listed.setIfInBounds i true).getD j true)=l1++l2:=by
    have e:(λj=> !(listed.setIfInBounds i true).getD j true)=λj=>(decide (j≠i))&& !listed.getD j true:=by
     funext j
     by_cases A9:i=j
     ·subst A9;simp[Array.getD_eq_getD_getElem?,uJ (by omega:i<listed.size)]
     ·rw[getD_set_ne true A9];simp[Ne.symm A9]
    rw[e,←List.filter_filter,hl,List.filter_append,List.filter_cons]
    simp only[ne_eq,not_true,decide_false,fJ,if_false]
    have CH:=List.nodup_append.1 yM
    rw[List.filter_eq_self.2,List.filter_eq_self.2]
    ·intro x hx;simp;rintro rfl;exact(List.nodup_cons.1 CH.2.1).1 hx
    ·intro x hx;simp;rintro rfl;exact CH.2.2 x hx x (by simp) rfl
   rw[hl]at h hn
   have alc:∀j∈l1,j<i:=λj hj=>by
    have:=(List.pairwise_append.1 Jf).2.2 j hj i (by simp);exact this
   have aur:∀j∈l1,listed.getD j true=false:=λj hj=>by
    have:j∈(List.range ops.size).filter λi=> !listed.getD i true:=by rw[hl];simp[hj]
    simpa using(List.mem_filter.1 this).2
   have HU:=hoi i fZ
   rw[ho,DY]at HU
   simp only[aJ,List.all_eq_true,List.mem_range,Bool.or_eq_true]at HU
   have hf:=BR (P:=P) (K:=K) DY l2 l1 s (λj hj=>by
    have DW:=HU.2 j (alc j hj)
    rcases DW with hb|hb
    ·have:=vS hc (zp hb) hi
     have hx:=aur j hj
     have xX:j<listed.size:=by have:=alc j hj;omega
     simp[Array.getD_eq_getD_getElem?,Array.getElem?_eq_getElem xX]at this hx
     rw[this]at hx;simp at hx
    ·split at hb
     ·rename_i y hy;exact⟨y,hy,hb⟩
     ·simp at hb) h
   refine pI ho htr hs hw hY hf ?_
   intro s' Γ' a' w' b1 b2 b3 b4 b5
   refine ih (listed.setIfInBounds i true) (by simp[iu]) ?_ (by rw[qe];simp at hn⊢;omega) b1 b2 (hY.le b3) (by rw[qe];exact b5) (hk.trans b3 b4)
   intro k ok ra rT e he hb
   by_cases CF:i=k
   ·subst CF;rw[ho]at ra;cases ra;exact getD_set_true (ff e he hb)
   ·rw[getD_set_ne true CF]at rT;exact getD_set_true (hc k ok ra rT e he hb)
theorem ur {ro:Option Nat} {ops:Array Oper} {aos:List AO} {own sp:List Nat} {id:Nat} (hm:P.follows .mixedOrders=true) (ht:kq P nt ops own sp true ops.toList=some aos) (dO:zq ops aos=true) {K:St->Prop} (hs:hU nt ds s Γ a) (hw:w.heap=Γ.heap) (hY:zh P Γ) (h:GB P s aos K) (hk:Eo P nt ds Γ w K (Q .normal)):
  (Code.region id ops true).wpIn (FW ro) 0 P Q a w:=by
 obtain⟨h1,h2⟩:=n9 ht
 have e:((List.range ops.size).filter λi=> !(Array.replicate ops.size false).getD i true)=List.range ops.size:=by
  rw[List.filter_eq_self]
  intro i hi
  rw[List.mem_range]at hi
  simp[Array.getD_eq_getD_getElem?,hi]
 refine wpIn_region_any hm (aoE (s:=s) (Γ:=Γ) (K:=K) (λi o hi=>h2 i o (by simpa using hi)) (by simpa using h1) dO _ _ (by simp) ?_ (by rw[e];simp) hs hw hY ?_ ?_)
 ·intro k o VC hl
  have:=(Array.getElem?_eq_some_iff.1 VC).1
  simp[Array.getD_eq_getD_getElem?,this]at hl
 ·rw[e,List.range_eq_range']
  exact(th (P:=P) ops.size 0 s (by simpa using h1.symm)).1 (by simpa using h)
 ·intro s' Γ' a' w' b1 b2 b3 b4 b5
  exact hk s' Γ' a' w' b1 b2 b3 ⟨b4.os,b4.tape,b4.output⟩ b5
end Go.Ab
namespace Go.Ab
variable [eg]
variable {P:Program} {nt:Nat} {ds:List Deferred} {s:St} {Γ Δ:Cx} {a:Act} {w:World}
mutual
def gh (k sz:Nat) (l0:List PV):PV->PV
 | .rs k' p off len aC bB c=>if k'=k then(if aC=l0.length∧p=[]∧bB=sz∧off+len≤l0.length then .sl sz ((l0.drop off).take len) (decide (c= .clip))else .un)else .rs k' p off len aC bB c
 | .pt k' p aC=>if k'=k then(if aC=l0.length then .fp sz l0 p else .un)else .pt k' p aC
 | .st w l=> .st w (gW k sz l0 l)
 | .ar z n l=> .ar z n (gW k sz l0 l)
 | .tup l=> .tup (gW k sz l0 l)
 | .sl z l c=> .sl z (gW k sz l0 l) c
 | .fp z l p=> .fp z (gW k sz l0 l) p
 | .fn f x y=> .fn f (gW k sz l0 x) (gW k sz l0 y)
 | .gd b p=> .gd b (gh k sz l0 p)
 | .ifc t p=> .ifc t (gh k sz l0 p)
 |p=>p
def gW (k sz:Nat) (l0:List PV):List PV->List PV
 |[]=>[]
 |p::l=>gh k sz l0 p::gW k sz l0 l
end
def tj (k sz:Nat) (l0:List PV):a9->a9
 | .box v=> .box (gh k sz l0 v)
 | .arr z l=> .arr z (gW k sz l0 l)
 | .map b ks vs l=> .map b ks vs l
variable {k sz:Nat} {l0:List PV}
theorem rX (p:PV):(gh k sz l0 p).width=p.width:=by
 cases p<;>simp only[gh]<;>(try split)<;>(try split)<;>simp[PV.width]
theorem ml (p:PV):(gh k sz l0 p).isAgg=p.isAgg:=by
 cases p<;>simp only[gh]<;>(try split)<;>(try split)<;>simp[PV.isAgg]
theorem mK (l:List PV):(gW k sz l0 l).length=l.length:=by induction l<;>simp[gW, *]
theorem pJ {l:List PV} {q:PV} (h:q∈gW k sz l0 l):∃p∈l,q=gh k sz l0 p:=by
 induction l with
 |nil=>simp[gW]at h
 |
  cons x l ih=>
  simp only[gW,cJ]at h
  rcases h with h|h
  ·exact⟨x,by simp,h⟩
  ·obtain⟨p,hp,e⟩:=ih h;exact⟨p,by simp[hp],e⟩
theorem uu (b:a9):(tj k sz l0 b).aC=b.aC:=by cases b<;>simp[tj,a9.aC,mK]
mutual
theorem C4:∀p,ab (λj=>decide (j≠k)) p=true->gh k sz l0 p=p
 | .rs k' _ _ _ _ _ _,hp=>by simp only[ab,decide_eq_true_eq]at hp;simp[gh,hp]
 | .pt k' _ _,hp=>by simp only[ab,decide_eq_true_eq]at hp;simp[gh,hp]
 | .st _ l,hp=>by simp only[ab]at hp;simp[gh,mD l hp]
 | .ar _ _ l,hp=>by simp only[ab]at hp;simp[gh,mD l hp]
 | .tup l,hp=>by simp only[ab]at hp;simp[gh,mD l hp]
 | .sl _ l _,hp=>by simp only[ab]at hp;simp[gh,mD l hp]
 | .fp _ l _,hp=>by simp only[ab]at hp;simp[gh,mD l hp]
 | .fn _ x y,hp=>by simp only[ab,aJ]at hp;simp[gh,mD x hp.1,mD y hp.2]
 | .gd _ p,hp=>by simp only[ab]at hp;simp[gh,C4 p hp]
 | .ifc _ p,hp=>by simp only[ab]at hp;simp[gh,C4 p hp]
 | .un,_=>by simp[gh]
 | .bl _,_=>by simp[gh]
 | .int _ _,_=>by simp[gh]
 | .str _,_=>by simp[gh]
 | .np,_=>by simp[gh]
 | .nf,_=>by simp[gh]
 | .ni,_=>by simp[gh]
 | .mp ..,_=>by simp[gh]
theorem mD:∀l,ae (λj=>decide (j≠k)) l=true->gW k sz l0 l=l
 |[],_=>rfl
 |p::l,hp=>by simp only[ae,aJ]at hp;simp[gW,C4 p hp.1,mD l hp.2]
end
structure ZE (Γ Δ:Cx) (k sz:Nat) (l0:List PV):Prop where
 heap:Δ.heap=Γ.heap
 own:∀b,b<Γ.heap.size->¬Γ.own b->¬Δ.own b
 ref:∀k' blk,k'≠k->get Γ.bx k'=some blk->∃cB,get Δ.bx k'=some cB∧cB.aC=blk.aC∧Δ.ι k'=Γ.ι k'
 here:∀blk,get Γ.bx k=some blk->blk= .arr sz l0
 wd:∀x∈l0,x.width=sz
 cells:∀b,Γ.ι k=some b->b<Γ.heap.size∧¬Δ.own b∧∃c e cs rest,Γ.heap[b]? =some (.cells c e (0,0))∧c.toList=cs++rest∧aD Δ l0 cs
theorem aD.gh (hf:ZE Γ Δ k sz l0) {l:List PV} {cs:List Value} (h:aD Γ l cs):aD Δ (gW k sz l0 l) cs:=by
 induction h with
 |nil=>exact .nil
 |un h hr ih=>exact .un h ih
 |bl x hr ih=>exact .bl x ih
 |int k n hr ih=>exact .int k n ih
 |str l s h hr ih=>exact .str l s h ih
 |st w l hl hw hr ihl ih=>exact .st w _ ihl hw ih
 |
  ar z n l hl hn hw hr ihl ih=>
  refine .ar z n _ ihl (by rw[mK];exact hn) (λx hx=> ?_) ih
  obtain⟨p,hp,rfl⟩:=pJ hx
  rw[rX];exact hw p hp
 |
  sl z l clip ad bu hl hw hc hk hb hr ihl ih=>
  have:=aD.sl (Γ:=Δ) z (gW k sz l0 l) clip ad bu ihl (λx hx=>by obtain⟨p,hp,rfl⟩:=pJ hx;rw[rX];exact hw p hp) (by rw[mK];exact hc) (by rw[mK];exact hk)
   (λfc=>by
    obtain⟨b,o,h1,h2,h3,h4⟩:=hb (by intro h;subst h;simp[gW]at fc)
    exact⟨b,o,h1,by rw[hf.heap];exact h2,hf.own b h2 h3,by rw[hf.heap];exact h4⟩) ih
  rw[mK]at this
  exact this
 |
  rs k' p off len aC bB c v blk hg h1 hv hr ih=>
  simp only[gW,Ab.gh]
  by_cases hk:k'=k
  ·rw[if_pos hk]
   subst hk
   have kO:=hf.here blk hg.1
   subst kO
   split
   ·rename_i hc
    obtain⟨ht,hp,iu,hle⟩:=hc
    subst hp iu
    obtain⟨ad,bu,rfl,PC⟩:=hv (by simpa[a9.aC]using ht)
    have hlen:((l0.drop off).take len).length=len:=by simp;omega
    unfold jc at PC
    cases hι:Γ.ι k' with
    |
     none=>
     rw[hι]at PC
     obtain⟨rfl,rfl,_⟩:=PC
     have:=aD.sl (Γ:=Δ) bB ((l0.drop off).take 0) (decide (c= .clip)) ad 0 (cs:=[]) (by simpa using aD.nil) (by simp) (by simp) (by simp) (by simp) ih
     simpa using this
    |
     some b=>
     rw[hι]at PC
     obtain⟨Y4,had,sI,_⟩:=PC
     obtain⟨hb1,D9,cc,e,cs,rest,hh,A8,Jd⟩:=hf.cells b hι
     have m7:=(Jd.Tt hf.wd off (by omega)).El (λx hx=>hf.wd x (List.mem_of_mem_drop hx)) len (by simp;omega)
     have KV:cs.length=l0.length*bB:=by rw[Jd.length,bP hf.wd]
     have:=aD.sl (Γ:=Δ) bB ((l0.drop off).take len) (decide (c= .clip)) ad bu m7 (λx hx=>hf.wd x (List.mem_of_mem_drop (List.mem_of_mem_take hx))) (by rw[hlen];exact Y4) (by rw[hlen];intro e;exact na.clip sI (of_decide_eq_true e))
      (λfc=>by
       have ax2:len≠0:=by rintro rfl;simp at fc
       refine⟨b,off*bB,?_,by rw[hf.heap];exact hb1,D9,λi x hi=> ?_⟩
       ·rcases had with h|h
        ·omega
        ·simpa[cW]using h
       ·rw[List.getElem?_take]at hi
        split at hi
        ·rw[List.getElem?_drop]at hi
         simp only[cell,hf.heap,hh]
         rw[←Array.getElem?_toList,A8]
         have fZ:=(List.getElem?_eq_some_iff.1 hi).1
         rw[List.getElem?_append_left fZ];exact hi
        ·simp at hi) ih
     rw[hlen]at this
     exact this
   ·exact .un h1 ih
  ·rw[if_neg hk]
   obtain⟨cB,g1,g2,g3⟩:=hf.ref k' blk hk hg.1
   refine .rs k' p off len aC bB c v cB ⟨g1,by rw[g2];exact hg.2⟩ h1 (λht=> ?_) ih
   obtain⟨ad,bu,e1,e2⟩:=hv (by rw[ht,g2])
   exact⟨ad,bu,e1,e2.aF g3 hf.heap⟩
 |np hr ih=>exact .np ih
 |
  pt k' p aC v blk hg h1 hv hr ih=>
  simp only[gW,Ab.gh]
  by_cases hk:k'=k
  ·rw[if_pos hk]
   subst hk
   have kO:=hf.here blk hg.1
   subst kO
   split
   ·rename_i ht
    obtain⟨b,hι,rfl⟩:=hv (by simpa[a9.aC]using ht)
    obtain⟨hb1,D9,cc,e,cs,rest,hh,A8,Jd⟩:=hf.cells b hι
    have:=aD.fp (Γ:=Δ) sz l0 p b 0 Jd hf.wd ⟨by rw[hf.heap];exact hb1,D9⟩ (λi x hi=>by
     simp only[cell,hf.heap,hh]
     rw[←Array.getElem?_toList,A8,Nat.zero_add]
     have fZ:=(List.getElem?_eq_some_iff.1 hi).1
     rw[List.getElem?_append_left fZ];exact hi) ih
    simpa using this
   ·exact .un h1 ih
  ·rw[if_neg hk]
   obtain⟨cB,g1,g2,g3⟩:=hf.ref k' blk hk hg.1
   refine .pt k' p aC v cB ⟨g1,by rw[g2];exact hg.2⟩ h1 (λht=> ?_) ih
   obtain⟨b,e1,e2⟩:=hv (by rw[ht,g2])
   exact⟨b,by rw[g3,e1],e2⟩
 |
  fp z l p b o hl hw hm hc hr ihl ih=>
  exact .fp z _ p b o ihl (λx hx=>by obtain⟨p,hp,rfl⟩:=pJ hx;rw[rX];exact hw p hp) ⟨by rw[hf.heap];exact hm.1,hf.own b hm.1 hm.2⟩ (by rw[hf.heap];exact hc) ih
 |
  fn g first cap h1 h2 h3 h4 hr i1 i2 ih=>
  exact .fn g _ _ i1 i2 (λx hx=>by obtain⟨p,hp,rfl⟩:=pJ hx;rw[ml];exact h3 p hp) (λx hx=>by obtain⟨p,hp,rfl⟩:=pJ hx;rw[ml];exact h4 p hp) ih
 |nf hr ih=>exact .nf ih
 |
  ifc t v h1 h2 hr i1 ih=>
  simp only[gW]at i1
  exact .ifc t _ i1 (by rw[ml];exact h2) ih
 |ni hr ih=>exact .ni ih
 |mp k b hr ih=>exact .mp k b ih
theorem aD.zt (hf:ZE Γ Δ k sz l0) {p:PV} {cs:List Value} (h:aD Γ [p] cs):aD Δ [Ab.gh k sz l0 p] cs:=by
 have:=h.gh hf
 simpa only[gW]using this
theorem aD.acE {p:PV} {v:Value} (h:aD Γ [p] [v]) (ha:p.isAgg=false):je Γ p v:=by
 cases p<;>simp[PV.isAgg]at ha<;>first|(simp only[je];done)|(simp only[je];exact h)
theorem je.gh (hf:ZE Γ Δ k sz l0) {p:PV} {v:Value} (h:je Γ p v):je Δ (Ab.gh k sz l0 p) v:=by
 cases p
 case un=>trivial
 case st w l=>obtain⟨cs,h1,h2⟩:=h;exact⟨cs,h1,h2.zt hf⟩
 case ar z n l=>obtain⟨cs,h1,h2⟩:=h;exact⟨cs,h1,h2.zt hf⟩
 case rs=>exact(aD.zt hf h).acE (by rw[ml];rfl)
 case pt=>exact(aD.zt hf h).acE (by rw[ml];rfl)
 all_goals exact aD.zt hf h
theorem aN.gh (hf:ZE Γ Δ k sz l0):∀ {p:PV} {v:Value},aN Γ p v->aN Δ (Ab.gh k sz l0 p) v:=by
 have h2:∀ {l:List PV} {vs:List Value},jY Γ l vs->jY Δ (gW k sz l0 l) vs:=by
  intro l
  induction l with
  |nil=>intro vs h;cases vs<;>simp_all [jY,gW]
  |
   cons p l ih=>
   intro vs h
   cases vs with
   |nil=>simp[jY]at h
   |cons v vs=>simp only[jY,gW]at h⊢;exact⟨h.1.gh hf,ih h.2⟩
 intro p
 induction p using PV.rec (motive_2:=λ_=>True)with
 |gd b p ih=>intro v h;simp only[Ab.gh];rw[aN]at h⊢;exact⟨λhb=>ih (h.1 hb),h.2⟩
 |tup l=>intro v h;simp only[aN,Ab.gh]at h⊢;obtain⟨vs,e,h⟩:=h;exact⟨vs,e,h2 h⟩
 |un=>intro v h;simp[aN,Ab.gh]
 |st w l=>intro v h;obtain⟨cs,e,h⟩:=h;exact⟨cs,e,h.zt hf⟩
 |ar z n l=>intro v h;obtain⟨cs,e,h⟩:=h;exact⟨cs,e,h.zt hf⟩
 |nil=>trivial
 |cons=>trivial
 |rs=>intro v h;exact(aD.zt hf h).toV (by rw[ml];rfl)
 |pt=>intro v h;exact(aD.zt hf h).toV (by rw[ml];rfl)
 |_=>intro v h;exact aD.zt hf h
theorem a9.vB.gh (hf:ZE Γ Δ k sz l0) {blk:a9} {ob:Option Nat} (h:blk.vB Γ ob):(tj k sz l0 blk).vB Δ ob:=by
 cases blk with
 |
  box v=>
  obtain⟨b,c,e,h1,h2,h3⟩:=h
  exact⟨b,c,e,h1,by rw[hf.heap];exact h2,h3.zt hf⟩
 |
  arr z l=>
  obtain⟨h1,h2,h3⟩:=h
  refine⟨λx hx=>by obtain⟨p,hp,rfl⟩:=pJ hx;rw[rX];exact h1 p hp,h2,?_⟩
  cases ob with
  |none=>trivial
  |
   some b=>
   obtain⟨c,e,cs,rest,h4,h5,h6,h7⟩:=h3
   exact⟨c,e,cs,rest,by rw[hf.heap];exact h4,h5,h6.gh hf,h7⟩
 |
  map b ks vs l=>
  obtain⟨h1,h2⟩:=h
  exact⟨h1,by rw[hf.heap];exact h2⟩
end Go.Ab
namespace Go.Ab
variable [eg]
variable {P:Program} {nt:Nat} {ds:List Deferred} {s:St} {Γ Δ Γ0:Cx} {a:Act} {w:World} {k sz:Nat} {l0:List PV}
def del {α:Type}:List (Nat×α)->Nat->List (Nat×α)
 |[],_=>[]
 |(j,v)::r,k=>if j=k then del r k else(j,v)::del r k
def iq {α:Type} (f:α->α):List (Nat×α)->List (Nat×α)
 |[]=>[]
 |(j,v)::r=>(j,f v)::iq f r
def j6 {α:Type} (sl:List Nat):List (Nat×α)->List (Nat×α)
 |[]=>[]
 |(j,v)::r=>if sl.contains j=true then(j,v)::j6 sl r else j6 sl r
theorem iC {α:Type} (l:List (Nat×α)) (k j:Nat):get (del l k) j=if j=k then none else get l j:=by
 induction l with
 |nil=>simp[del,get]
 |
  cons x r ih=>
  obtain⟨i,v⟩:=x
  simp only[del]
  split
  ·rename_i h;subst h;rw[ih];simp only[get];split
   ·rfl
   ·rename_i h2;rw[if_neg (λe=>h2 e.symm)]
  ·simp only[get,ih]
   split
   ·rename_i h h2;subst h2;rw[if_neg h]
   ·rfl
theorem fG {α:Type} (f:α->α) (l:List (Nat×α)) (j:Nat):get (iq f l) j=(get l j).map f:=by
 induction l with
 |nil=>rfl
 |cons x r ih=>obtain⟨i,v⟩:=x;simp only[iq,get,ih];split<;>rfl
theorem JD {α:Type} (sl:List Nat) (l:List (Nat×α)) (j:Nat) {v:α} (h:get (j6 sl l) j=some v):get l j=some v:=by
 induction l with
 |nil=>simp[j6,get]at h
 |
  cons x r ih=>
  obtain⟨i,u⟩:=x
  simp only[j6]at h
  split at h
  ·simp only[get]at h⊢
   split
   ·rename_i h2;rw[if_pos h2]at h;exact h
   ·rename_i h2;rw[if_neg h2]at h;exact ih h
  ·rename_i hc
   have h3:=ih h
   simp only[get]
   split
   ·rename_i h2;subst h2
    exfalso
    have:∀r:List (Nat×α),get (j6 sl r) i=none:=by
     intro r
     induction r with
     |nil=>rfl
     |
      cons y r ih2=>
      obtain⟨m,q⟩:=y
      simp only[j6]
      split
      ·rename_i h4
       simp only[get]
       rw[if_neg (by rintro rfl;exact hc h4)];exact ih2
      ·exact ih2
    rw[this]at h;simp at h
   ·exact h3
def HK (Γ:Cx):Prop:=∀k blk,get Γ.bx k=some blk->KB≤k
def qO (nt:Nat) (ds:List Deferred) (Γ0 Γ:Cx) (a:Act) (K:St->Prop):Prop:=∃s' Γ',hU nt ds s' Γ' a∧Γ'.heap=Γ.heap∧Le Γ0 Γ'∧K s'
theorem uv (hm:Mem Γ) (f:a9->a9) (hft:∀b,(f b).aC=b.aC):rm (λj=>decide (j≠k)) id Γ {Γ with bx:=iq f (del Γ.bx k)} where
 heap:=rfl
 own b _ hn:=by
  rintro(⟨j,blk,h1,h2⟩|h)
  ·simp only[fG,iC]at h1
   split at h1
   ·simp at h1
   ·obtain⟨b0,g1,_⟩:=Option.map_eq_some_iff.1 h1
    exact hn (.inl ⟨j,b0,g1,h2⟩)
  ·exact hn (.inr h)
 ref j blk hj hb:=by
  simp only[decide_eq_true_eq]at hj
  exact⟨f blk,by simp[fG,iC,hj,hb],hft _,rfl⟩
theorem zu {f:Nat->Bool} {l:List PV} (h:ae f l=true):aK id l=l:=mC (f:=f) (λ_ _=>rfl) l h
theorem uw {f:Nat->Bool} {p:PV} (h:ab f p=true):aF id p=p:=zd (f:=f) (λ_ _=>rfl) p h
theorem LJ (hle:Le Γ0 Γ) (mS:HK Γ0) (VE:k<KB) (f:a9->a9) (hft:∀b,(f b).aC=b.aC):Le Γ0 {Γ with bx:=iq f (del Γ.bx k)} where
 heap:=hle.heap
 il b hb h:=by
  obtain⟨j,blk,h1,h2⟩:=h
  simp only[fG,iC]at h1
  split at h1
  ·simp at h1
  ·obtain⟨b0,g1,_⟩:=Option.map_eq_some_iff.1 h1
   exact hle.il b hb ⟨j,b0,g1,h2⟩
 ef:=hle.ef
 size:=hle.size
 ref j blk hj:=by
  obtain⟨cB,h1,h2,h3⟩:=hle.ref j blk hj
  have:=mS j blk hj
  have fc:j≠k:=by omega
  exact⟨f cB,by simp[fG,iC,fc,h1],by rw[hft];exact h2,λht=>h3 (by rw[←ht,hft])⟩
theorem GD (hm:Mem Γ) (hg:get Γ.bx k=some (.arr sz l0)) (hr:ae (λj=>decide (j≠k)) l0=true):ZE Γ {Γ with bx:=iq (tj k sz l0) (del Γ.bx k)} k sz l0 where
 heap:=rfl
 own:=(uv hm _ uu).own
 ref j blk hj hb:=by
  obtain⟨b',h1,h2,h3⟩:=(uv (k:=k) hm _ (uu (k:=k) (sz:=sz) (l0:=l0))).ref j blk (by simpa using hj) hb
  exact⟨b',h1,h2,h3⟩
 here blk hb:=by rw[hg]at hb;exact(Option.some.inj hb).symm
 wd:=(hm.blk k _ hg).1
 cells b hb:=by
  have h:=hm.blk k _ hg
  obtain⟨h1,h2,h3⟩:=h
  rw[hb]at h3
  obtain⟨c,e,cs,rest,h4,h5,h6,_⟩:=h3
  refine⟨cX h4,?_,c,e,cs,rest,h4,h5,?_⟩
  ·rintro(⟨j,blk,g1,g2⟩|g)
   ·simp only[fG,iC]at g1
    split at g1
    ·simp at g1
    ·rename_i fc
     obtain⟨b0,g3,_⟩:=Option.map_eq_some_iff.1 g1
     exact fc (hm.inj j k b (by simp[g3]) (by simp[hg]) g2 hb)
   ·exact hm.apart b ⟨k,_,hg,hb⟩ g
  ·have:=h6.aF (uv (k:=k) hm _ (uu (k:=k) (sz:=sz) (l0:=l0))) hr
   rwa [zu hr]at this
theorem yh (hm:Mem Γ) (f:a9->a9) (hf:∀j blk,j≠k->get Γ.bx j=some blk->(f blk).vB {Γ with bx:=iq f (del Γ.bx k)} (Γ.ι j)):Mem {Γ with bx:=iq f (del Γ.bx k)} where
 blk j blk hb:=by
  simp only[fG,iC]at hb
  split at hb
  ·simp at hb
  ·rename_i fc
   obtain⟨b0,g1,rfl⟩:=Option.map_eq_some_iff.1 hb
   exact hf j b0 fc g1
 inj i j b hi hj h1 h2:=by
  have:∀x,(get (iq f (del Γ.bx k)) x).isSome=true->(get Γ.bx x).isSome=true:=by
   intro x hx
   simp only[fG,iC]at hx
   split at hx
   ·simp at hx
   ·simpa using hx
  exact hm.inj i j b (this i hi) (this j hj) h1 h2
 ef:=hm.ef
 apart b h hp:=by
  refine hm.apart b ?_ hp
  obtain⟨j,blk,h1,h2⟩:=h
  simp only[fG,iC]at h1
  split at h1
  ·simp at h1
  ·obtain⟨b0,g1,_⟩:=Option.map_eq_some_iff.1 h1
   exact⟨j,b0,g1,h2⟩
 xC b cs h:=by
  obtain⟨h1,h2⟩:=hm.xC b cs h
  refine⟨λhb=>h1 ?_,h2⟩
  obtain⟨j,blk,h1,h2⟩:=hb
  simp only[fG,iC]at h1
  split at h1
  ·simp at h1
  ·obtain⟨b0,g1,_⟩:=Option.map_eq_some_iff.1 h1
   exact⟨j,b0,g1,h2⟩
def VV (k:Nat) (s:St) (K:St->Prop):Prop:=
 match get s.bx k with
 |some (.arr sz l)=>(ae (λj=>decide (j≠k)) l=true∧k<KB)∧K {env:=iq (gh k sz l) s.env,bx:=iq (tj k sz l) (del s.bx k)}
 |_=>False
theorem JE {K:St->Prop} (hs:hU nt ds s Γ a) (hle:Le Γ0 Γ) (mS:HK Γ0) (h:VV k s K):qO nt ds Γ0 Γ a K:=by
 unfold VV at h
 split at h
 ·rename_i sz l hg
  obtain⟨⟨hr,VE⟩,hK⟩:=h
  rw[←hs.bx]at hg
  have hf:=GD hs.mem hg hr
  refine⟨_,{Γ with bx:=iq (tj k sz l) (del Γ.bx k)},⟨by simp[hs.bx],hs.size,hs.defers,λj p hj=> ?_,yh hs.mem _ (λj blk fc hb=>(hs.mem.blk j blk hb).gh hf)⟩,rfl,LJ hle mS VE _ uu,hK⟩
  simp only[fG]at hj
  obtain⟨q,g1,rfl⟩:=Option.map_eq_some_iff.1 hj
  exact(hs.env j q g1).gh hf
 ·exact h.elim
def bL (f:Nat->Bool):List (Nat×PV)->Bool
 |[]=>true
 |(_,p)::r=>ab f p&&bL f r
def cL (f:Nat->Bool):List (Nat×a9)->Bool
 |[]=>true
 |(_,b)::r=>af f b&&cL f r
theorem xh {f:Nat->Bool}:∀ {l:List (Nat×PV)} {j:Nat} {p:PV},bL f l=true->get l j=some p->ab f p=true
 |[],_,_,_,h=>by simp[get]at h
 |
  (i,q)::r,j,p,hr,h=>by
  simp only[bL,aJ]at hr
  simp only[get]at h
  split at h
  ·cases h;exact hr.1
  ·exact xh hr.2 h
theorem zx {f:Nat->Bool}:∀ {l:List (Nat×a9)} {j:Nat} {p:a9},cL f l=true->get l j=some p->af f p=true
 |[],_,_,_,h=>by simp[get]at h
 |
  (i,q)::r,j,p,hr,h=>by
  simp only[cL,aJ]at hr
  simp only[get]at h
  split at h
  ·cases h;exact hr.1
  ·exact zx hr.2 h
theorem H4 {α:Type}:∀l:List (Nat×α),iq id l=l
 |[]=>rfl
 |(j,v)::r=>by simp[iq,H4 r]
def dr1 (k:Nat) (s:St) (K:St->Prop):Prop:=
 (bL (λj=>decide (j≠k)) s.env=true∧cL (λj=>decide (j≠k)) (del s.bx k)=true∧k<KB)∧K {s with bx:=del s.bx k}
theorem Ev {f:Nat->Bool} {b:a9} (h:af f b=true):a0 id b=b:=by
 cases b with
 |box v=>simp only[a0,uw (f:=f) h]
 |arr sz l=>simp only[a0,zu (f:=f) h]
 |map b ks vs l=>rfl
theorem JF {K:St->Prop} (hs:hU nt ds s Γ a) (hle:Le Γ0 Γ) (mS:HK Γ0) (h:dr1 k s K):qO nt ds Γ0 Γ a K:=by
 obtain⟨⟨h1,h2,h3⟩,hK⟩:=h
 have kX:=uv (k:=k) hs.mem id (λ_=>rfl)
 refine⟨_,{Γ with bx:=iq id (del Γ.bx k)},⟨by simp[hs.bx,H4],hs.size,hs.defers,λj p hj=> ?_,yh hs.mem _ (λj blk fc hb=> ?_)⟩,rfl,LJ hle mS h3 _ (λ_=>rfl),hK⟩
 ·have hr:=xh h1 hj
  have:=(hs.env j p hj).aF kX hr
  rwa [uw hr]at this
 ·have hr:af (λj=>decide (j≠k)) blk=true:=by
   refine zx (j:=j) h2 ?_
   rw[iC,if_neg fc,←hs.bx];exact hb
  have:=(hs.mem.blk j blk hb).aF kX hr
  rwa [Ev hr]at this
theorem GF {K:St->Prop} {sl:List Nat} (hs:hU nt ds s Γ a) (hle:Le Γ0 Γ) (h:K {s with env:=j6 sl s.env}):qO nt ds Γ0 Γ a K:=
 ⟨{s with env:=j6 sl s.env},Γ,⟨hs.bx,hs.size,hs.defers,λj p hj=>hs.env j p (JD sl _ _ hj),hs.mem⟩,rfl,hle,h⟩
def VW (n k sz:Nat) (s:St) (K:St->Prop):Prop:=
 match get s.env n with
 |some (.sl _ [] true)=>(get s.bx k=none∧0<sz)∧K {env:=put s.env n (.rs k [] 0 0 0 sz .tip),bx:=put s.bx k (.arr sz [])}
 |_=>False
theorem JG {n:Nat} {K:St->Prop} (hs:hU nt ds s Γ a) (hle:Le Γ0 Γ) (h:VW n k sz s K):qO nt ds Γ0 Γ a K:=by
 unfold VW at h
 split at h
 ·rename_i z hg
  obtain⟨⟨jz,iu⟩,hK⟩:=h
  rw[←hs.bx]at jz
  have hl:=rV Γ (.arr sz []) jz
  have hm:=y0 hs.mem jz (blk:= .arr sz []) ⟨by simp,iu,trivial⟩
  refine⟨_,Γ.lF k (.arr sz []),⟨by simp[Cx.lF,hs.bx],hs.size,hs.defers,λj p hj=> ?_,hm⟩,rfl,hle.trans hl,hK⟩
  simp only[fg]at hj
  split at hj
  ·rename_i hnj
   subst hnj
   simp only[sJ]at hj;subst hj
   have h0:=hs.env n _ hg
   simp only[aN]at h0⊢
   generalize a.tmps.getD n undef=v at h0
   cases h0 with
   |
    @sl _ _ cs _ _ _ ad bu h1 h2 h3 h4 h5 h6=>
    have hr0:bu=0:=h4 rfl
    subst hr0
    refine .rs k [] 0 0 0 sz .tip _ (.arr sz []) ⟨by simp[Cx.lF,dj],by simp[a9.aC]⟩ rfl (λ_=>⟨ad,0,rfl,?_⟩) .nil
    unfold jc
    simp[Cx.lF,na]
  ·exact(hs.env j p hj).mono hl
 ·exact h.elim
mutual
theorem ly:∀p:PV,ab (λ_=>true) p=true
 | .st _ l| .ar _ _ l| .tup l| .sl _ l _| .fp _ l _=>by simp only[ab];exact lO l
 | .fn _ x y=>by simp only[ab,lO x,lO y,Bool.and_self]
 | .gd _ p| .ifc _ p=>by simp only[ab];exact ly p
 | .rs .. | .pt .. | .un| .bl _| .int .. | .str _| .np| .nf| .ni| .mp .. =>by simp only[ab]
theorem lO:∀l:List PV,ae (λ_=>true) l=true
 |[]=>rfl
 |p::l=>by simp only[ae,ly p,lO l,Bool.and_self]
end
theorem nC (b:a9):af (λ_=>true) b=true:=by cases b<;>simp[af,ly,lO]
def tk (k k':Nat) (j:Nat):Nat:=if j=k then k' else j
def VX (k k':Nat) (s:St) (K:St->Prop):Prop:=
 match get s.bx k with
 |some b=>(get s.bx k'=none∧k<KB∧k'<KB∧k≠k')∧K {env:=iq (aF (tk k k')) s.env,bx:=put (iq (a0 (tk k k')) (del s.bx k)) k' (a0 (tk k k') b)}
 |none=>False
def Cx.mv (Γ:Cx) (k k':Nat) (b:a9):Cx:=
 {heap:=Γ.heap,ι:=λj=>if j=k' then Γ.ι k else Γ.ι j,bx:=put (iq (a0 (tk k k')) (del Γ.bx k)) k' (a0 (tk k k') b),ef:=Γ.ef}
theorem vT {k k':Nat} {b:a9} (fc:k≠k') (j:Nat):get (Γ.mv k k' b).bx j=if j=k' then some (a0 (tk k k') b)else if j=k then none else(get Γ.bx j).map (a0 (tk k k')):=by
 simp only[Cx.mv,fg,fG,iC]
 by_cases h:k'=j
 ·subst h;simp
 ·have h':¬j=k':=λe=>h e.symm
  rw[if_neg h,if_neg h']
  by_cases h2:j=k
  ·simp[h2]
  ·simp[h2]
theorem yi {k k':Nat} {b:a9} (hg:get Γ.bx k=some b) (fc:k≠k') {x:Nat} (h:(Γ.mv k k' b).il x):Γ.il x:=by
 obtain⟨j,blk,h1,h2⟩:=h
 rw[vT fc]at h1
 simp only[Cx.mv]at h2
 by_cases hj:j=k'
 ·rw[if_pos hj]at h2;exact⟨k,b,hg,h2⟩
 ·rw[if_neg hj]at h1 h2
  by_cases DW:j=k
  ·rw[if_pos DW]at h1;cases h1
  ·rw[if_neg DW]at h1
   obtain⟨b0,g1,_⟩:=Option.map_eq_some_iff.1 h1
   exact⟨j,b0,g1,h2⟩
theorem C5 {k k':Nat} {b:a9} (hg:get Γ.bx k=some b) (hf:get Γ.bx k'=none) (fc:k≠k'):rm (λ_=>true) (tk k k') Γ (Γ.mv k k' b) where
 heap:=rfl
 own x _ hn:=by
  rintro(h|h)
  ·exact hn (.inl (yi hg fc h))
  ·exact hn (.inr h)
 ref j blk _ hb:=by
  by_cases hj:j=k
  ·subst hj
   rw[hg]at hb;cases hb
   exact⟨a0 (tk j k') b,by rw[vT fc];simp[tk],jH _ _,by simp[tk,Cx.mv]⟩
  ·have DW:j≠k':=by rintro rfl;rw[hf]at hb;cases hb
   exact⟨a0 (tk k k') blk,by rw[vT fc];simp[tk,hj,DW,hb],jH _ _,by simp[tk,Cx.mv,hj,DW]⟩
theorem VY (hm:Mem Γ) {k k':Nat} {b:a9} (hg:get Γ.bx k=some b) (hf:get Γ.bx k'=none) (fc:k≠k'):Mem (Γ.mv k k' b) where
 blk j blk hb:=by
  rw[vT fc]at hb
  by_cases hj:j=k'
  ·rw[if_pos hj]at hb;cases hb
   have:=(hm.blk k b hg).aF (C5 hg hf fc) (nC b)
   simpa[Cx.mv,hj]using this
  ·rw[if_neg hj]at hb
   by_cases DW:j=k
   ·rw[if_pos DW]at hb;cases hb
   ·rw[if_neg DW]at hb
    obtain⟨b0,g1,rfl⟩:=Option.map_eq_some_iff.1 hb
    have:=(hm.blk j b0 g1).aF (C5 hg hf fc) (nC b0)
    have hι:(Γ.mv k k' b).ι j=Γ.ι j:=by simp[Cx.mv,hj]
    rw[hι];exact this
 inj i j x hi hj h1 h2:=by
  have back:∀y,(get (Γ.mv k k' b).bx y).isSome=true->(Γ.mv k k' b).ι y=some x->(get Γ.bx (if y=k' then k else y)).isSome=true∧Γ.ι (if y=k' then k else y)=some x∧(y≠k'->y≠k):=by
   intro y hy hx
   rw[vT fc]at hy
   simp only[Cx.mv]at hx
   by_cases SW:y=k'
   ·rw[if_pos SW]at hx⊢;exact⟨by simp[hg],hx,λh=>absurd SW h⟩
   ·rw[if_neg SW]at hx hy⊢
    by_cases hy2:y=k
    ·rw[if_pos hy2]at hy;cases hy
    ·rw[if_neg hy2]at hy;exact⟨by simpa using hy,hx,λ_=>hy2⟩
  obtain⟨a1,a2,a3⟩:=back i hi h1
  obtain⟨c1,c2,c3⟩:=back j hj h2
  have:=hm.inj _ _ x a1 c1 a2 c2
  by_cases iK:i=k'
  ·by_cases sY:j=k'
   ·rw[iK,sY]
   ·rw[if_pos iK,if_neg sY]at this;exact absurd this.symm (c3 sY)
  ·by_cases sY:j=k'
   ·rw[if_neg iK,if_pos sY]at this;exact absurd this (a3 iK)
   ·rw[if_neg iK,if_neg sY]at this;exact this
 ef:=hm.ef
 apart x h hp:=hm.apart x (yi hg fc h) hp
 xC x cs h:=by
  obtain⟨h1,h2⟩:=hm.xC x cs h
  exact⟨λhb=>h1 (yi hg fc hb),h2⟩
theorem JH {k k':Nat} {K:St->Prop} (hs:hU nt ds s Γ a) (hle:Le Γ0 Γ) (mS:HK Γ0) (h:VX k k' s K):qO nt ds Γ0 Γ a K:=by
 unfold VX at h
 split at h
 ·rename_i b hg
  obtain⟨⟨hf,VE,aA2,fc⟩,hK⟩:=h
  rw[←hs.bx]at hg hf
  refine⟨_,Γ.mv k k' b,⟨by simp[Cx.mv,hs.bx],hs.size,hs.defers,λj p hj=> ?_,VY hs.mem hg hf fc⟩,rfl,?_,hK⟩
  ·simp only[fG]at hj
   obtain⟨q,g1,rfl⟩:=Option.map_eq_some_iff.1 hj
   exact(hs.env j q g1).aF (C5 hg hf fc) (ly q)
  ·refine⟨hle.heap,λx hx h=>hle.il x hx (yi hg fc h),hle.ef,hle.size,λj blk hj=> ?_⟩
   obtain⟨cB,h1,h2,h3⟩:=hle.ref j blk hj
   have sY:=mS j blk hj
   have hj1:j≠k:=by omega
   have DW:j≠k':=by omega
   refine⟨a0 (tk k k') cB,by rw[vT fc];simp[hj1,DW,h1],by rw[jH];exact h2,λht=> ?_⟩
   rw[jH]at ht
   obtain⟨g1,g2⟩:=h3 ht
   exact⟨by simp only[Cx.mv];rw[if_neg DW];exact g1,g2⟩
 ·exact h.elim
def H5 (sz:Nat):PV:= .st sz (List.replicate sz .un)
@[simp] theorem ZF (sz:Nat):(H5 sz).width=sz:=rfl
theorem Ew:∀ {vs:List Value},(∀v∈vs,fY v=true)->aD Γ (List.replicate vs.length .un) vs
 |[],_=> .nil
 |v::vs,h=> .un (h v (by simp)) (Ew λx hx=>h x (by simp[hx]))
theorem BS {sz:Nat}:∀ {j:Nat} {vs:List Value},vs.length=j*sz->(∀v∈vs,fY v=true)->aD Γ (List.replicate j (H5 sz)) vs
 |
  0,vs,h,_=>by
  have:vs=[]:=List.eq_nil_of_length_eq_zero (by simpa using h)
  subst this;exact .nil
 |
  j+1,vs,h,h1=>by
  rw[Nat.add_mul,Nat.one_mul]at h
  have hl:(vs.take sz).length=sz:=by rw[lJ];omega
  have hr:=aD.st (Γ:=Γ) sz (List.replicate sz .un) (by have:=Ew (Γ:=Γ) (vs:=vs.take sz) (λv hv=>h1 v (List.mem_of_mem_take hv));rwa [hl]at this) hl
   (BS (sz:=sz) (j:=j) (vs:=vs.drop sz) (by rw[List.length_drop];omega) (λv hv=>h1 v (List.mem_of_mem_drop hv)))
  rw[List.take_append_drop]at hr
  exact hr
def ZG (n:Nat) (s:St) (K:St->Prop):Prop:=
 match get s.env n with
 |
  some (.rs k [] 0 len aC sz .tip)=>(match get s.bx k with
  |some (.arr bB l)=>(bB=sz∧aC=l.length)∧∀c j:Nat,(c=l.length+j∨(c=0∧j=0∧len=0))->
    K {env:=put s.env n (.rs k [] 0 len (l.length+j) sz (.full c)),bx:=put s.bx k (.arr sz (l++List.replicate j (H5 sz)))}
  |_=>False)
 |_=>False
theorem LK {l l':List PV} {b:Nat} (hm:Mem Γ) (hg:get Γ.bx k=some (.arr sz l)) (hb:Γ.ι k=some b) (ht:l.length≤l'.length)
  (hr:Le Γ {Γ with bx:=put Γ.bx k (.arr sz l')}->(a9.arr sz l').vB {Γ with bx:=put Γ.bx k (.arr sz l')} (some b)):
  Le Γ {Γ with bx:=put Γ.bx k (.arr sz l')}∧Mem {Γ with bx:=put Γ.bx k (.arr sz l')}:=by
 have eH:∀j,get (put Γ.bx k (.arr sz l')) j=if k=j then some (.arr sz l')else get Γ.bx j:=λj=>fg _ _ _ _
 have mQ:∀j,(get (put Γ.bx k (.arr sz l')) j).isSome=true->(get Γ.bx j).isSome=true:=by
  intro j hj
  rw[eH]at hj
  split at hj
  ·rename_i e;subst e;simp[hg]
  ·exact hj
 have hl:Le Γ {Γ with bx:=put Γ.bx k (.arr sz l')}:=by
  refine⟨λ_ _ _=>rfl,λb hb hm=> ?_,rfl,Nat.le_refl _,λj blk hj=> ?_⟩
  ·obtain⟨j,blk,h1,h2⟩:=hm
   have:=mQ j (by rw[h1];rfl)
   obtain⟨b0,h3⟩:=Option.isSome_iff_exists.1 this
   exact⟨j,b0,h3,h2⟩
  ·by_cases e:k=j
   ·subst e
    rw[hg]at hj;cases hj
    exact⟨.arr sz l',by rw[eH,if_pos rfl],by simpa[a9.aC]using ht,λ_=>⟨rfl,λb hb cs e hh=>⟨cs,hh,rfl⟩⟩⟩
   ·exact⟨blk,by rw[eH,if_neg e];exact hj,Nat.le_refl _,λ_=>⟨rfl,λb hb cs e hh=>⟨cs,hh,rfl⟩⟩⟩
 refine⟨hl,λj blk hj=> ?_,λi j b hi hj h1 h2=>hm.inj i j b (mQ i hi) (mQ j hj) h1 h2,hm.ef,λb hb hp=>hm.apart b ?_ hp,hm.mh hl⟩
 ·rw[eH]at hj
  split at hj
  ·rename_i e;subst e;cases hj
   have:=hr hl
   rw[←hb]at this
   exact this
  ·exact(hm.blk j blk hj).mono hl (λb hb=>rfl)
 ·obtain⟨j,blk,h1,h2⟩:=hb
  have:=mQ j (by rw[h1];rfl)
  obtain⟨b0,h3⟩:=Option.isSome_iff_exists.1 this
  exact⟨j,b0,h3,h2⟩
theorem JI {n:Nat} {K:St->Prop} (hs:hU nt ds s Γ a) (hle:Le Γ0 Γ) (h:ZG n s K):qO nt ds Γ0 Γ a K:=by
 unfold ZG at h
 split at h
 case h_2=>exact h.elim
 rename_i k len aC sz he
 split at h
 case h_2=>exact h.elim
 rename_i bB l hg
 obtain⟨⟨rfl,rfl⟩,hK⟩:=h
 have kQ:=hg
 rw[←hs.bx]at kQ
 obtain⟨ad,bu,hv,dO⟩:=(hs.env n _ he).rs kQ rfl
 obtain⟨lX,j1,kO⟩:=hs.mem.blk k _ kQ
 have aA4:=dO
 unfold jc at dO
 cases hι:Γ.ι k with
 |
  none=>
  rw[hι]at dO
  obtain⟨rfl,rfl,_⟩:=dO
  have hK:=hK 0 0 (.inr ⟨rfl,rfl,rfl⟩)
  rw[List.replicate_zero,List.append_nil,Nat.add_zero]at hK
  have kH:=lM kQ
  have q1:=hs.le (n7 kH) (y9 hs.mem kH) (vC:=put s.bx k (.arr bB l)) (by rw[hs.bx])
  refine⟨{env:=put s.env n (.rs k [] 0 0 l.length bB (.full 0)),bx:=put s.bx k (.arr bB l)},{Γ with bx:=put Γ.bx k (.arr bB l)},⟨q1.bx,q1.size,q1.defers,λj p hj=> ?_,q1.mem⟩,rfl,hle.trans (n7 kH),hK⟩
  simp only[fg]at hj
  split at hj
  ·rename_i e;subst e;cases hj
   rw[hv]
   simp only[aN]
   refine .rs k [] 0 0 l.length bB _ _ (.arr bB l) ⟨by rw[kH];exact kQ,by simp[a9.aC]⟩ rfl (λ_=>⟨ad,0,rfl,?_⟩) .nil
   unfold jc
   rw[show({Γ with bx:=put Γ.bx k (.arr bB l)}:Cx).ι k=none from hι]
   exact⟨rfl,rfl,rfl⟩
  ·exact q1.env j p hj
 |
  some b=>
  rw[hι]at dO kO
  obtain⟨o1,o2,_,o4⟩:=dO
  obtain⟨_,Gk,e0,q1,q2⟩:=o4 rfl
  obtain⟨c,ce,cs,rest,h7,h8,h9,Gj⟩:=kO
  rw[q1]at h7
  simp only[sJ,Obj.cells.injEq]at h7
  obtain⟨rfl,rfl,_⟩:=h7
  have sI:cs.length=l.length*bB:=by rw[h9.length,bP lX]
  have OE:Gk.size=cs.length+rest.length:=by rw[←Array.length_toList,h8];simp
  rw[Nat.zero_add]at q2
  have Y4:l.length≤bu:=by
   refine Nat.le_of_not_lt λfZ=> ?_
   have:bu*bB<l.length*bB:=Nat.mul_lt_mul_of_pos_right fZ j1
   omega
  obtain⟨j,rfl⟩:∃j,bu=l.length+j:=⟨bu-l.length,by omega⟩
  have Jd:rest.length=j*bB:=by rw[Nat.add_mul]at q2;omega
  have hK:=hK (l.length+j) j (.inl rfl)
  have Gl:(l++List.replicate j (H5 bB)).length=l.length+j:=by simp
  obtain⟨g1,g2⟩:=LK (l':=l++List.replicate j (H5 bB)) hs.mem kQ hι (by rw[Gl];omega) (λhl=>
   ⟨λx hx=>(List.mem_append.1 hx).elim (lX x) (λhx=>by rw[(List.mem_replicate.1 hx).2];rfl),j1,Gk,e0,cs++rest,[],q1,by rw[List.append_nil];exact h8,(h9.mono hl).append (BS Jd Gj),by simp⟩)
  have t1:=hs.le g1 g2 (vC:=put s.bx k (.arr bB (l++List.replicate j (H5 bB)))) (by rw[hs.bx])
  refine⟨{env:=put s.env n (.rs k [] 0 len (l.length+j) bB (.full (l.length+j))),bx:=put s.bx k (.arr bB (l++List.replicate j (H5 bB)))},_,⟨t1.bx,t1.size,t1.defers,λi p hj=> ?_,g2⟩,rfl,hle.trans g1,hK⟩
  simp only[fg]at hj
  split at hj
  ·rename_i e;subst e;cases hj
   rw[hv]
   simp only[aN]
   refine .rs k [] 0 len _ bB _ _ (.arr bB (l++List.replicate j (H5 bB))) ⟨by simp[dj],by simp[a9.aC]⟩ rfl (λ_=>⟨ad,_,rfl,?_⟩) .nil
   unfold jc
   rw[show({Γ with bx:=put Γ.bx k (.arr bB (l++List.replicate j (H5 bB)))}:Cx).ι k=some b from hι]
   exact⟨o1,o2,rfl,λhc=>by cases hc⟩
  ·exact t1.env i p hj
inductive Cut
 |fz (k:Nat)
 |dr (k:Nat)
 |keep (sl:List Nat)
 |vt (n k sz:Nat)
 |wk (n:Nat)
 |wb (k:Nat)
 |vb (b:Nat) (p:List Step) (k sz:Nat)
 |mv (k k':Nat)
 |mt (n:Nat)
def ZH (n:Nat) (s:St) (K:St->Prop):Prop:=
 match get s.env n with
 |some p=>K {s with env:=put s.env n (wk p)}
 |none=>False
theorem JJ {n:Nat} {K:St->Prop} (hs:hU nt ds s Γ a) (hle:Le Γ0 Γ) (h:ZH n s K):qO nt ds Γ0 Γ a K:=by
 unfold ZH at h
 split at h
 ·rename_i p hp
  refine⟨{s with env:=put s.env n (Ab.wk p)},Γ,⟨hs.bx,hs.size,hs.defers,λj q hj=> ?_,hs.mem⟩,rfl,hle,h⟩
  simp only[fg]at hj
  split at hj
  ·rename_i hnj;subst hnj;cases hj;exact(hs.env _ p hp).wk
  ·exact hs.env j q hj
 ·exact h.elim
def ZI (k:Nat) (s:St) (K:St->Prop):Prop:=
 match get s.bx k with
 |some (.box v)=>K {s with bx:=put s.bx k (.box (wk v))}
 |_=>False
theorem JK {K:St->Prop} (hs:hU nt ds s Γ a) (hle:Le Γ0 Γ) (h:ZI k s K):qO nt ds Γ0 Γ a K:=by
 unfold ZI at h
 split at h
 ·rename_i v hg
  rw[←hs.bx]at hg
  have eH:∀j,get (put Γ.bx k (.box (Ab.wk v))) j=if k=j then some (.box (Ab.wk v))else get Γ.bx j:=λj=>fg _ _ _ _
  have mQ:∀j,(get (put Γ.bx k (.box (Ab.wk v))) j).isSome=true->(get Γ.bx j).isSome=true:=by
   intro j hj
   rw[eH]at hj
   split at hj
   ·rename_i e;subst e;simp[hg]
   ·exact hj
  have hl:Le Γ {Γ with bx:=put Γ.bx k (.box (Ab.wk v))}:=by
   refine⟨λ_ _ _=>rfl,λb hb hm=> ?_,rfl,Nat.le_refl _,λj blk hj=> ?_⟩
   ·obtain⟨j,blk,h1,h2⟩:=hm
    have:=mQ j (by rw[h1];rfl)
    obtain⟨b0,h3⟩:=Option.isSome_iff_exists.1 this
    exact⟨j,b0,h3,h2⟩
   ·by_cases e:k=j
    ·subst e
     rw[hg]at hj;cases hj
     exact⟨.box (Ab.wk v),by rw[eH,if_pos rfl],Nat.le_refl _,λ_=>⟨rfl,λb hb cs e hh=>⟨cs,hh,rfl⟩⟩⟩
    ·exact⟨blk,by rw[eH,if_neg e];exact hj,Nat.le_refl _,λ_=>⟨rfl,λb hb cs e hh=>⟨cs,hh,rfl⟩⟩⟩
  have hm:Mem {Γ with bx:=put Γ.bx k (.box (Ab.wk v))}:=by
   refine⟨λj blk hj=> ?_,λi j b hi hj h1 h2=>hs.mem.inj i j b (mQ i hi) (mQ j hj) h1 h2,hs.mem.ef,λb hb hp=>hs.mem.apart b ?_ hp,hs.mem.mh hl⟩
   ·rw[eH]at hj
    split at hj
    ·rename_i e;subst e;cases hj
     obtain⟨b,c,e,h1,h2,h3⟩:=hs.mem.blk _ _ hg
     exact⟨b,c,e,h1,h2,h3.wk.mono hl⟩
    ·exact(hs.mem.blk j blk hj).mono hl (λb hb=>rfl)
   ·obtain⟨j,blk,h1,h2⟩:=hb
    have:=mQ j (by rw[h1];rfl)
    obtain⟨b0,h3⟩:=Option.isSome_iff_exists.1 this
    exact⟨j,b0,h3,h2⟩
  exact⟨{s with bx:=put s.bx k (.box (Ab.wk v))},_,⟨by simp[hs.bx],hs.size,hs.defers,λj q hj=>(hs.env j q hj).mono hl,hm⟩,rfl,hle.trans hl,h⟩
 ·exact h.elim
def ZJ (b:Nat) (p:List Step) (k sz:Nat) (s:St) (K:St->Prop):Prop:=
 match get s.bx b with
 |
  some (.box v)=>(match aQ v p,dD v p (.rs k [] 0 0 0 sz .tip)with
  |some (.sl _ [] true),some v'=>(get s.bx k=none∧0<sz)∧K {s with bx:=put (put s.bx k (.arr sz [])) b (.box v')}
  |_,_=>False)
 |_=>False
theorem LL {v v':PV} (hm:Mem Γ) (hg:get Γ.bx k=some (.box v)) (hv:∀cs,aD Γ [v] cs->aD Γ [v'] cs):
  Le Γ {Γ with bx:=put Γ.bx k (.box v')}∧Mem {Γ with bx:=put Γ.bx k (.box v')}:=by
 have eH:∀j,get (put Γ.bx k (.box v')) j=if k=j then some (.box v')else get Γ.bx j:=λj=>fg _ _ _ _
 have mQ:∀j,(get (put Γ.bx k (.box v')) j).isSome=true->(get Γ.bx j).isSome=true:=by
  intro j hj
  rw[eH]at hj
  split at hj
  ·rename_i e;subst e;simp[hg]
  ·exact hj
 have hl:Le Γ {Γ with bx:=put Γ.bx k (.box v')}:=by
  refine⟨λ_ _ _=>rfl,λb hb hm=> ?_,rfl,Nat.le_refl _,λj blk hj=> ?_⟩
  ·obtain⟨j,blk,h1,h2⟩:=hm
   have:=mQ j (by rw[h1];rfl)
   obtain⟨b0,h3⟩:=Option.isSome_iff_exists.1 this
   exact⟨j,b0,h3,h2⟩
  ·by_cases e:k=j
   ·subst e
    rw[hg]at hj;cases hj
    exact⟨.box v',by rw[eH,if_pos rfl],Nat.le_refl _,λ_=>⟨rfl,λb hb cs e hh=>⟨cs,hh,rfl⟩⟩⟩
   ·exact⟨blk,by rw[eH,if_neg e];exact hj,Nat.le_refl _,λ_=>⟨rfl,λb hb cs e hh=>⟨cs,hh,rfl⟩⟩⟩
 refine⟨hl,λj blk hj=> ?_,λi j b hi hj h1 h2=>hm.inj i j b (mQ i hi) (mQ j hj) h1 h2,hm.ef,λb hb hp=>hm.apart b ?_ hp,hm.mh hl⟩
 ·rw[eH]at hj
  split at hj
  ·rename_i e;subst e;cases hj
   obtain⟨b,c,e,h1,h2,h3⟩:=hm.blk _ _ hg
   exact⟨b,c,e,h1,h2,(hv _ h3).mono hl⟩
  ·exact(hm.blk j blk hj).mono hl (λb hb=>rfl)
 ·obtain⟨j,blk,h1,h2⟩:=hb
  have:=mQ j (by rw[h1];rfl)
  obtain⟨b0,h3⟩:=Option.isSome_iff_exists.1 this
  exact⟨j,b0,h3,h2⟩
theorem JL {b:Nat} {p:List Step} {K:St->Prop} (hs:hU nt ds s Γ a) (hle:Le Γ0 Γ) (h:ZJ b p k sz s K):qO nt ds Γ0 Γ a K:=by
 unfold ZJ at h
 split at h
 case h_2=>exact h.elim
 rename_i v hg
 split at h
 case h_2=>exact h.elim
 rename_i z v' HL vE
 obtain⟨⟨jz,iu⟩,hK⟩:=h
 rw[←hs.bx]at jz hg
 have hl:=rV Γ (.arr sz []) jz
 have hm:=y0 hs.mem jz (blk:= .arr sz []) ⟨by simp,iu,trivial⟩
 have hbk:b≠k:=by rintro rfl;rw[hg]at jz;simp at jz
 have hg2:get (Γ.lF k (.arr sz [])).bx b=some (.box v):=by
  simp only[Cx.lF];rw[cH _ _ _ _ (λh=>hbk h.symm)];exact hg
 obtain⟨h1,h2⟩:=LL (v':=v') hm hg2 (by
  intro cs hc
  obtain⟨OF,hr⟩:=px p hc HL
  have hw:(PV.sl z [] true).width=1:=rfl
  rw[hw]at OF hr
  obtain⟨x,hx⟩:∃x,(cs.drop (cW p)).take 1=[x]:=by
   have hlen:((cs.drop (cW p)).take 1).length=1:=by rw[lJ,List.length_drop];omega
   exact List.length_eq_one_iff.1 hlen
  rw[hx]at hr
  have PC:aD (Γ.lF k (.arr sz [])) [.rs k [] 0 0 0 sz .tip] [x]:=by
   cases hr with
   |
    @sl _ _ cs _ _ _ ad bu h1 h2 h3 h4 h5 h6=>
    have hr0:bu=0:=h4 rfl
    subst hr0
    refine .rs k [] 0 0 0 sz .tip _ (.arr sz []) ⟨by simp[Cx.lF,dj],by simp[a9.aC]⟩ rfl (λ_=>⟨ad,0,rfl,?_⟩) .nil
    unfold jc
    simp[Cx.lF,na]
  obtain⟨g1,g2,g3⟩:=yQ PC p hc vE
  have e:bN cs (cW p) [x]=cs:=by
   unfold bN
   rw[←hx,lJ,List.length_drop,Nat.min_eq_left (by omega),List.append_assoc]
   rw[←List.drop_drop,List.take_append_drop,List.take_append_drop]
  rwa [e]at g3)
 refine⟨{s with bx:=put (put s.bx k (.arr sz [])) b (.box v')},_,⟨by simp[Cx.lF,hs.bx],hs.size,hs.defers,λj q hj=>((hs.env j q hj).mono hl).mono h1,h2⟩,rfl,(hle.trans hl).trans h1,hK⟩
def jo:Cut->St->(St->Prop)->Prop
 | .fz k,s,K=>VV k s K
 | .dr k,s,K=>dr1 k s K
 | .keep sl,s,K=>K {s with env:=j6 sl s.env}
 | .vt n k sz,s,K=>VW n k sz s K
 | .wk n,s,K=>ZH n s K
 | .wb k,s,K=>ZI k s K
 | .vb b p k sz,s,K=>ZJ b p k sz s K
 | .mv k k',s,K=>VX k k' s K
 | .mt n,s,K=>ZG n s K
def gV:List Cut->St->(St->Prop)->Prop
 |[],s,K=>K s
 |c::r,s,K=>jo c s λs'=>gV r s' K
theorem mq {K:St->Prop} (mS:HK Γ0):∀(c:List Cut) {s:St} {Γ:Cx},hU nt ds s Γ a->Le Γ0 Γ->gV c s K->qO nt ds Γ0 Γ a K
 |[],s,Γ,hs,hle,h=>⟨s,Γ,hs,rfl,hle,h⟩
 |
  c::r,s,Γ,hs,hle,h=>by
  have:qO nt ds Γ0 Γ a λs'=>gV r s' K:=by
   cases c with
   |fz k=>exact JE hs hle mS h
   |dr k=>exact JF hs hle mS h
   |keep sl=>exact GF hs hle h
   |vt n k sz=>exact JG hs hle h
   |wk n=>exact JJ hs hle h
   |wb k=>exact JK hs hle h
   |vb b p k sz=>exact JL hs hle h
   |mv k k'=>exact JH hs hle mS h
   |mt n=>exact JI hs hle h
  obtain⟨s',Γ',h1,h2,h3,h4⟩:=this
  obtain⟨s2,Γ2,g1,g2,g3,g4⟩:=mq mS r h1 h3 h4
  exact⟨s2,Γ2,g1,by rw[g2,h2],g3,g4⟩
end Go.Ab
namespace Go.Ab
variable [eg]
variable {P:Program} {nt:Nat} {ds:List Deferred} {s s':St} {Γ:Cx} {a:Act} {w:World} {Q:Exit->Act->World->Prop} [iE]
def Ex:a9:= .map 0 (.i .u8) (.i .u8) []
def Sub (b c:List (Nat×a9)):Prop:=∀k blk,get b k=some blk->get c k=some blk∨blk=Ex∧∃v,get c k=some (.box v)
theorem Sub.refl (b:List (Nat×a9)):Sub b b:=λ_ _ h=> .inl h
theorem Sub.trans {a b c:List (Nat×a9)} (h:Sub a b) (h':Sub b c):Sub a c:=by
 intro k blk hk
 rcases h k blk hk with h1|⟨h1,v,h2⟩
 ·exact h' k blk h1
 ·rcases h' k _ h2 with h3|⟨h3,_⟩
  ·exact .inr ⟨h1,v,h3⟩
  ·simp[Ex]at h3
theorem Ey (hb:Sub s.bx s'.bx) {p:PV} {K:Nat->List PV->Prop} (h:content s p K):content s' p K:=by
 cases p<;>simp only[content]at h⊢<;>first|exact h|skip
 rename_i k p off len aC sz c
 cases hg:get s.bx k with
 |none=>rw[hg]at h;exact h.elim
 |
  some b=>
  rw[hg]at h
  rcases hb k b hg with h1|⟨rfl,v1,h1⟩
  ·rw[h1];exact h
  ·rw[h1];simp only[Ex]at h⊢<;>exact h
theorem LM (hb:Sub s.bx s'.bx) {op:BinOp} {e:ET} {p q:PV} {K:PV->Prop} (h:py s op e p q K):py s' op e p q K:=by
 cases e<;>simp only[py]at h⊢<;>first|exact h|skip
 cases p<;>cases q<;>simp only at h⊢<;>first|exact h|skip
 rename_i k _ _
 cases hg:get s.bx k with
 |none=>rw[hg]at h;exact h.elim
 |
  some b=>
  rw[hg]at h
  rcases hb k b hg with h1|⟨rfl,v1,h1⟩
  ·rw[h1];exact h
  ·rw[h1];simp only[Ex,a9.aC]at h⊢<;>exact h
theorem cM {g:Bool} {x:AX} {K K':PV->Prop} (hk:vg g s x K) (h:∀p,K p->K' p):vg g s x K':=by
 obtain⟨p,h1,h2⟩:=pH g s x K hk;exact h2 K' (h p h1)
theorem oc {p:PV} {K K':Int->Prop} (hk:mc p K) (h:∀n,K n->K' n):mc p K':=by
 obtain⟨n,h1,h2⟩:=oG p K hk;exact h2 K' (h n h1)
theorem GG {g:Bool} {k:AK} {K:PV->Prop} (hb:Sub s.bx s'.bx) (h:dV s s' k.reads) (he:ev g s k K):ev g s' k K:=by
 cases k with
 |mv x=>simp only[ev]at he⊢;rw[aE h];exact he
 |pick c a b=>simp only[ev]at he⊢;rw[aE h.left.left,kT h.left.right,kT h.right];exact he
 |build z parts=>simp only[ev]at he⊢;rw[mj h];exact he
 |
  load agg w x=>
  simp only[ev]at he⊢;rw[aE h]
  refine cM he λp hp=> ?_
  cases p<;>simp only at hp⊢<;>first|exact hp|skip
  rename_i k _ _
  cases hg:get s.bx k with
  |none=>rw[hg]at hp;exact hp.elim
  |
   some b=>
   rw[hg]at hp
   rcases hb k b hg with h1|⟨rfl,v1,h1⟩
   ·rw[h1];exact hp
   ·rw[h1];simp only[Ex,mb]at hp⊢<;>exact hp
 |
  nilCheck x=>
  simp only[ev]at he⊢;rw[aE h]
  refine cM he λp hp=> ?_
  cases p<;>first|exact hp|(rename_i f _ _;cases f<;>exact hp)|skip
  rename_i k _ _
  simp only at hp⊢
  cases hg:get s.bx k with
  |none=>rw[hg]at hp;exact hp.elim
  |
   some b=>
   rw[hg]at hp
   rcases hb k b hg with h1|⟨rfl,v1,h1⟩
   ·rw[h1];exact hp
   ·rw[h1];simp only[Ex,a9.aC]at hp⊢<;>exact hp
 |bin op e x y=>simp only[ev]at he⊢;rw[aE h.left];refine cM he λp hp=> ?_;rw[aE h.right];exact cM hp λq hq=>LM hb hq
 |un op x=>simp only[ev]at he⊢;rw[aE h];exact he
 |convI k x=>simp only[ev]at he⊢;rw[aE h];exact he
 |convS x=>simp only[ev]at he⊢;rw[aE h];exact cM he λp hp=>Ey hb hp
 |mkFunc f a b=>simp only[ev]at he⊢;rw[gR h.left];simp only[gR h.right];exact he
 |
  slice k x lo hi mx=>
  have hx:=aE (g:=g) h.left
  have hl:=λn c=>zk (g:=g) h.right.left h.right.right.left n c
  have hm:=h.right.right.right
  cases k with
  |str=>simp only[ev,hx,hl]at he⊢;exact he
  |
   sl sz=>
   simp only[ev,hx,hl]at he⊢
   refine cM he λp hp=> ?_
   cases p<;>simp only at hp⊢<;>first|exact hp|skip
   ·cases mx with
    |none=>exact hp
    |some m=>simp only at hp⊢;rw[aE (x:=m) hm];exact hp
   ·rename_i k _ _ _ _ _ _
    cases hg:get s.bx k with
    |none=>rw[hg]at hp;exact hp.elim
    |
     some b=>
     rw[hg]at hp
     rcases hb k b hg with h1|⟨rfl,v1,h1⟩
     ·rw[h1]
      cases mx with
      |none=>exact hp
      |some m=>simp only at hp⊢;rw[aE (x:=m) hm];exact hp
     ·rw[h1];simp only[Ex,a9.aC]at hp⊢
      cases mx with
      |none=>exact hp
      |some m=>simp only at hp⊢;rw[aE (x:=m) hm];exact hp
  |
   ar n sz=>
   simp only[ev,hx,hl]at he⊢
   refine cM he λp hp=> ?_
   cases p<;>simp only at hp⊢<;>first|exact hp|skip
   rename_i k _ _
   cases hg:get s.bx k with
   |none=>rw[hg]at hp;exact hp.elim
   |
    some b=>
    rw[hg]at hp
    rcases hb k b hg with h1|⟨rfl,v1,h1⟩
    ·rw[h1];exact hp
    ·rw[h1];simp only[Ex,a9.aC]at hp⊢<;>exact hp
 |
  fieldA i off x=>
  simp only[ev]at he⊢;rw[aE h]
  refine cM he λp hp=> ?_
  cases p<;>simp only at hp⊢<;>first|exact hp|skip
  rename_i k _ _
  cases hg:get s.bx k with
  |none=>rw[hg]at hp;exact hp.elim
  |
   some b=>
   rw[hg]at hp
   rcases hb k b hg with h1|⟨rfl,v1,h1⟩
   ·rw[h1];exact hp
   ·rw[h1];simp only[Ex,a9.aC]at hp⊢<;>exact hp
 |
  s2a n sz x=>
  simp only[ev]at he⊢;rw[aE h]
  refine cM he λp hp=> ?_
  cases p<;>simp only at hp⊢<;>first|exact hp|skip
  rename_i k _ _ _ _ _ _
  cases hg:get s.bx k with
  |none=>rw[hg]at hp;exact hp.elim
  |
   some b=>
   rw[hg]at hp
   rcases hb k b hg with h1|⟨rfl,v1,h1⟩
   ·rw[h1];exact hp
   ·rw[h1];simp only[Ex,a9.aC]at hp⊢<;>exact hp
 |field i off agg w x=>simp only[ev]at he⊢;rw[aE h];exact he
 |
  indexA k x i=>
  have hx:=aE (g:=g) h.left
  have hi:=aE (g:=g) h.right
  cases k with
  |str=>simp only[ev]at he
  |
   sl sz=>
   simp only[ev,hx,hi]at he⊢
   refine cM he λp hp=>cM hp λq hq=>oc hq λj hj=> ?_
   cases p<;>simp only at hj⊢<;>first|exact hj|skip
   rename_i k _ _ _ _ _ _
   cases hg:get s.bx k with
   |none=>rw[hg]at hj;exact hj.elim
   |
    some b=>
    rw[hg]at hj
    rcases hb k b hg with h1|⟨rfl,v1,h1⟩
    ·rw[h1];exact hj
    ·rw[h1];simp only[Ex,a9.aC]at hj⊢<;>exact hj
  |
   ar n sz=>
   simp only[ev,hx,hi]at he⊢
   refine cM he λp hp=>cM hp λq hq=>oc hq λj hj=>⟨hj.1,?_⟩
   have hj:=hj.2
   cases p<;>simp only at hj⊢<;>first|exact hj|skip
   rename_i k _ _ _
   cases hg:get s.bx k with
   |none=>rw[hg]at hj;exact hj.elim
   |
    some b=>
    rw[hg]at hj
    rcases hb k b hg with h1|⟨rfl,v1,h1⟩
    ·rw[h1];exact hj
    ·rw[h1];simp only[Ex,a9.aC]at hj⊢<;>exact hj
 |index agg n w x i=>simp only[ev]at he⊢;rw[aE h.left,aE h.right];exact he
 |indexS x i=>simp only[ev]at he⊢;rw[aE h.left,aE h.right];exact he
 |extract i x=>simp only[ev]at he⊢;rw[kT h];exact he
 |
  len x=>
  simp only[ev]at he⊢;rw[aE h]
  refine cM he λp hp=> ?_
  cases p<;>simp only at hp⊢<;>first|exact hp|skip
  rename_i k _ _ _ _ _ _
  cases hg:get s.bx k with
  |none=>rw[hg]at hp;exact hp.elim
  |
   some b=>
   rw[hg]at hp
   rcases hb k b hg with h1|⟨rfl,v1,h1⟩
   ·rw[h1];exact hp
   ·rw[h1];simp only[Ex,a9.aC]at hp⊢<;>exact hp
 |
  cap x=>
  simp only[ev]at he⊢;rw[aE h]
  refine cM he λp hp=> ?_
  split at hp
  ·rename_i k p off len aC sz n
   cases hg:get s.bx k with
   |none=>rw[hg]at hp;exact hp.elim
   |
    some b=>
    rw[hg]at hp
    rcases hb k b hg with h1|⟨rfl,v1,h1⟩
    ·rw[h1];exact hp
    ·rw[h1];simp only[Ex,a9.aC]at hp⊢<;>exact hp
  ·exact hp.elim
 |lenS x=>simp only[ev]at he⊢;rw[aE h];exact he
 |lenC n=>simp only[ev]at he⊢;exact he
 |mm mx xs=>simp only[ev]at he⊢;rw[gR h];exact he
 |_=>simp only[ev]at he
def Qv (P:Program) (r:St) (o:AO) (v:PV):Prop:=∀s':St,Sub r.bx s'.bx->dV r s' o.reads->∀K':St->Prop,K' (s'.put o.dst v)->im P s' o K'
theorem C6 {o:AO} {K:St->Prop} (hq:o.quiet=true) (h:kG P s o K):
  ∃v,K (s.put o.dst v)∧∀s',Sub s.bx s'.bx->dV s s' o.k.reads->∀K':St->Prop,K' (s'.put o.dst v)->kG P s' o K':=by
 obtain⟨dst,guard,mg,k⟩:=o
 cases k with
 |call f args=>simp[AO.quiet]at hq
 |
  callq f args=>
  simp only[kG]at h⊢
  unfold mI at h
  obtain⟨pf,h,h1⟩:=pH _ _ _ _ h
  obtain⟨ps,h,h2⟩:=ql _ _ _ _ h
  split at h
  case h_2=>exact h.elim
  rename_i fid first cap
  obtain⟨v,BA,AP,hK⟩:=h
  refine⟨v,hK,λs' hb ha K' kD=> ?_⟩
  unfold mI
  rw[aE ha.left]
  refine h1 _ ?_
  rw[gR ha.right]
  exact h2 _ ⟨v,BA,AP,kD⟩
 |
  buildSlice own sz z n parts=>
  simp only[AO.quiet,Bool.not_eq_true']at hq
  subst hq
  simp only[kG,nA,if_true]at h⊢
  simp only[ex]at h
  obtain⟨ps,h,h1⟩:=vP _ _ _ _ h
  split at h
  case h_2=>exact h.elim
  rename_i l hl
  simp only[fJ,if_false]at h
  refine⟨_,h,λs' hb ha K' kD=> ?_⟩
  simp only[ex]
  rw[mj ha]
  refine h1 _ ?_
  simp only[hl,fJ,if_false]
  exact kD
 |
  _=>
  first
  |(simp[AO.quiet,nA]at hq;done)
  |(simp only[kG,nA,fJ,if_false]at h⊢
    obtain⟨v,hK,hv⟩:=qN _ _ _ _ h
    refine⟨v,hK,λs' hb ha K' kD=> ?_⟩
    exact GG hb ha (hv _ kD))
theorem rY {o:AO} {K:St->Prop} (hq:o.quiet=true) (h:im P s o K):∃v,K (s.put o.dst v)∧Qv P s o v:=by
 unfold im at h
 cases hg:o.guard with
 |
  none=>
  rw[hg]at h
  obtain⟨v,hK,hv⟩:=C6 hq h
  refine⟨v,hK,λs' hb ha K' kD=> ?_⟩
  unfold im;rw[hg]
  exact hv s' hb ha.right K' kD
 |
  some gw=>
  obtain⟨sl,want⟩:=gw
  rw[hg]at h
  simp only at h
  have eH:∀ {s':St},dV s s' o.reads->get s'.env sl=get s.env sl:=λha=>ha sl (by simp[AO.reads,hg])
  split at h
  ·rename_i b hb
   split at h
   ·rename_i hm
    obtain⟨v,hK,hv⟩:=qN _ _ _ _ h
    refine⟨_,hK,λs' lY ha K' kD=> ?_⟩
    unfold im;rw[hg];simp only[eH ha,hb,hm,if_true]
    exact GG lY ha.right (hv _ kD)
   ·rename_i hm
    by_cases nN:b=want
    ·obtain⟨v,hK,hv⟩:=C6 hq (h.1 nN)
     refine⟨v,hK,λs' lY ha K' kD=> ?_⟩
     unfold im;rw[hg];simp only[eH ha,hb,hm]
     exact⟨λ_=>hv s' lY ha.right K' kD,λhn=>absurd nN hn⟩
    ·refine⟨.un,h.2 nN,λs' lY ha K' kD=> ?_⟩
     unfold im;rw[hg];simp only[eH ha,hb,hm]
     exact⟨λhn=>absurd hn nN,λ_=>kD⟩
  ·rename_i g b hb
   split at h
   ·rename_i hm
    obtain⟨v,hK,hv⟩:=qN _ _ _ _ h
    refine⟨_,hK,λs' lY ha K' kD=> ?_⟩
    unfold im;rw[hg];simp only[eH ha,hb,hm,if_true]
    exact GG lY ha.right (hv _ kD)
   ·rename_i hm
    by_cases nN:g=true∧b=want
    ·obtain⟨v,hK,hv⟩:=C6 hq (h.1 nN.1 nN.2)
     refine⟨v,hK,λs' lY ha K' kD=> ?_⟩
     unfold im;rw[hg];simp only[eH ha,hb,hm]
     exact⟨λ_ _=>hv s' lY ha.right K' kD,λhn=>absurd nN.2 (hn nN.1)⟩
    ·refine⟨.un,h.2 (λh1 h2=>nN ⟨h1,h2⟩),λs' lY ha K' kD=> ?_⟩
     unfold im;rw[hg];simp only[eH ha,hb,hm]
     exact⟨λh1 h2=>absurd ⟨h1,h2⟩ nN,λ_=>kD⟩
  ·exact h.elim
end Go.Ab
namespace Go.Ab
variable [eg]
variable {P:Program} {nt:Nat} {ds:List Deferred} {s s':St} [iE]
def qP (d:Option Nat) (s t:St):Prop:=∀n,d≠some n->get t.env n=get s.env n
theorem iO {k:Nat} {v:PV} {b:List (Nat×a9)}:qP (some k) s {env:=put s.env k v,bx:=b}:=by
 intro n hn
 rw[cH]
 intro e;exact hn (by rw[e])
theorem j7 {d:Option Nat} {v:PV} {b:List (Nat×a9)}:qP d s ({s with bx:=b}.put d v):=by
 cases d with
 |none=>intro n _;rfl
 |some k=>exact iO
theorem Ez {d:Option Nat} {b:List (Nat×a9)}:qP d s {s with bx:=b}:=λ_ _=>rfl
theorem lP {e k:Nat} {u v:PV} {b:List (Nat×a9)} (h:k≠e):({env:=put (put s.env e u) k v,bx:=b}:St)=St.put {env:=put s.env k v,bx:=b} (some e) u:=by
 simp only[St.put];rw[Ab.put_comm (Ne.symm h)]
theorem od {e:Nat} {d:Option Nat} {u v:PV} {b:List (Nat×a9)} (h:d≠some e):St.put {s.put (some e) u with bx:=b} d v=St.put (St.put {s with bx:=b} d v) (some e) u:=by
 cases d with
 |none=>rfl
 |
  some k=>
  have:k≠e:=λh'=>h (by rw[h'])
  simp only[St.put];rw[Ab.put_comm (Ne.symm this)]
theorem xi {e:Nat} {u:PV} {p:PV}:content (s.put (some e) u) p=content s p:=sN rfl p
theorem H6 {e:Nat} {u:PV} {str:Bool} {sz:Nat} {q:PV} {K:List PV->Prop}:src (s.put (some e) u) str sz q K=src s str sz q K:=by
 unfold src;simp only[xi]
theorem ux {e:Nat} {u:PV} {d:Option Nat} {sz bytes:Nat} {p:PV} {ys:List PV} {K:St->Prop} (hd:d≠some e) (h:gE (s.put (some e) u) d sz bytes p ys K):
  gE s d sz bytes p ys λt=>K (t.put (some e) u)∧qP d s t:=by
 cases d with
 |none=>exact h.elim
 |
  some k=>
  have hk:k≠e:=λh'=>hd (by rw[h'])
  unfold gE at h⊢
  simp only at h⊢
  split at h
  ·refine⟨h.1,?_,iO⟩
   rw[←lP hk];exact h.2
  ·have lY:(s.put (some e) u).bx=s.bx:=rfl
   rw[lY]at h
   split at h
   ·refine⟨h.1,?_,iO⟩
    rw[←lP hk];exact h.2
   ·exact h.elim
  ·have lY:(s.put (some e) u).bx=s.bx:=rfl
   rw[lY]at h
   split at h
   ·refine⟨h.1,λhle=>⟨?_,iO⟩,λfZ=>⟨?_,iO⟩⟩
    ·rw[←lP hk];exact h.2.1 hle
    ·rw[←lP hk];exact h.2.2 fZ
   ·exact h.elim
  ·rw[xi]at h
   obtain⟨bB,l,h,h2⟩:∃bB l,_∧_:=by
    have:=h
    exact n8 _ _ _ this
   exact h2 _ ⟨h.1,by rw[←lP hk];exact h.2,iO⟩
  ·exact h.elim
theorem GH {e:Nat} {u:PV} {d:Option Nat} {sz bytes:Nat} {z p:PV} {m:Int} {K:St->Prop} (hd:d≠some e) (h:n5 (s.put (some e) u) d sz bytes z p m K):
  n5 s d sz bytes z p m λt=>K (t.put (some e) u)∧qP d s t:=by
 cases d with
 |none=>exact h.elim
 |
  some k=>
  have hk:k≠e:=λh'=>hd (by rw[h'])
  unfold n5 at h⊢
  simp only at h⊢
  split at h
  ·have lY:(s.put (some e) u).bx=s.bx:=rfl
   rw[lY]at h
   split at h
   ·refine⟨h.1,?_,iO⟩
    rw[←lP hk];exact h.2
   ·exact h.elim
  ·exact h.elim
theorem tm {e:Nat} {u:PV} {d:Option Nat} {sz:Nat} {p:PV} {ys:List PV} {K:St->Prop} (hd:d≠some e) (h:jd (s.put (some e) u) d sz p ys K):
  jd s d sz p ys λt=>K (t.put (some e) u)∧qP d s t:=by
 have lY:(s.put (some e) u).bx=s.bx:=rfl
 cases p<;>simp only[jd]at h⊢<;>first|exact h|skip
 rename_i k pth off len aC bB c
 rw[lY]at h
 split at h
 ·refine⟨h.1,?_,j7⟩
  rw[←od hd];exact h.2
 ·rename_i v hv
  split at h
  ·rename_i sz'' n l hg
   split at h
   ·rename_i v' hs
    refine⟨h.1,?_,j7⟩
    rw[←od hd];exact h.2
   ·exact h.elim
  ·exact h.elim
 ·exact h.elim
theorem LN {e:Nat} {u:PV} {d:Option Nat} {k:AK} {K:St->Prop} (hd:d≠some e) (hr:e∉k.reads) (h:ex (s.put (some e) u) d k K):
  ex s d k λt=>K (t.put (some e) u)∧qP d s t:=by
 have ag:dV s (s.put (some e) u) k.reads:=dV.put (λj hj=>by cases hj;exact hr)
 have lY:(s.put (some e) u).bx=s.bx:=rfl
 cases k with
 |
  alloc z=>
  cases d with
  |none=>exact h.elim
  |
   some k=>
   have hk:k≠e:=λh'=>hd (by rw[h'])
   simp only[ex]at h⊢
   refine⟨h.1,?_,iO⟩
   rw[←lP hk];exact h.2
 |
  box x=>
  cases d with
  |none=>exact h.elim
  |
   some k=>
   have hk:k≠e:=λh'=>hd (by rw[h'])
   simp only[ex]at h⊢
   rw[aE ag]at h
   refine cM h λp hp=>⟨hp.1,?_,iO⟩
   rw[←lP hk];exact hp.2
 |
  buildSlice own sz z n parts=>
  simp only[ex]at h⊢
  rw[mj ag]at h
  obtain⟨ps,h,h1⟩:=vP _ _ _ _ h
  refine h1 _ ?_
  split at h
  ·split at h
   ·cases d with
    |none=>exact h.elim
    |
     some k=>
     have hk:k≠e:=λh'=>hd (by rw[h'])
     rename_i l hl ho
     simp only[hl,if_true]
     refine⟨h.1,?_,iO⟩
     rw[←lP hk];exact h.2
   ·rename_i l hl ho
    simp only[if_neg ho]
    refine⟨?_,j7 (b:=s.bx)⟩
    have:=od (s:=s) (b:=s.bx) (u:=u) (v:= .sl sz l true) hd
    exact this▸h
  ·exact h.elim
 |
  makeSlice sz bytes z len cap=>
  cases d with
  |
   none=>
   simp only[ex]at h
   obtain⟨p,h,_⟩:=pH _ _ _ _ h
   obtain⟨l,h,_⟩:=oG _ _ h
   obtain⟨q,h,_⟩:=pH _ _ _ _ h
   obtain⟨c,h,_⟩:=oG _ _ h
   exact h.elim
  |
   some k=>
   have hk:k≠e:=λh'=>hd (by rw[h'])
   simp only[ex]at h⊢
   rw[aE ag.left]at h
   refine cM h λp hp=>oc hp λl hl=> ?_
   rw[aE ag.right]at hl
   refine cM hl λq hq=>oc hq λc hc=>⟨hc.1,?_,iO⟩
   rw[←lP hk];exact hc.2
 |
  store n x y=>
  simp only[ex]at h⊢
  rw[aE ag.left]at h
  refine cM h λp hp=> ?_
  rw[aE ag.right]at hp
  refine cM hp λv hv=> ?_
  cases p<;>simp only at hv⊢
  rename_i k pth aC
  rw[lY]at hv
  split at hv
  ·split at hv
   ·exact⟨hv.1,hv.2,Ez⟩
   ·exact hv.elim
  ·exact hv.elim
 |
  isNil ng x=>
  simp only[ex]at h⊢
  rw[aE ag]at h
  refine cM h λp hp=> ?_
  cases p<;>simp only at hp⊢
  ·intro b hb
   refine⟨?_,j7 (b:=s.bx)⟩
   have:=od (s:=s) (b:=s.bx) (u:=u) (v:= .bl (b !=ng)) hd
   exact this▸hp b hb
  ·rename_i k _ _ _ _ _ _
   rw[lY]at hp
   split at hp
   ·refine⟨hp.1,λb hb=>⟨?_,j7 (b:=s.bx)⟩⟩
    have:=od (s:=s) (b:=s.bx) (u:=u) (v:= .bl (b !=ng)) hd
    exact this▸hp.2 b hb
   ·exact hp.elim
 |
  appendZ sz bytes z x y=>
  simp only[ex]at h⊢
  rw[aE ag.left]at h
  refine cM h λp hp=> ?_
  rw[aE ag.right]at hp
  refine cM hp λq hq=>oc hq λm hm=>GH hd hm
 |
  append sz bytes str x y=>
  simp only[ex]at h⊢
  rw[aE ag.left]at h
  refine cM h λp hp=> ?_
  rw[aE ag.right]at hp
  refine cM hp λq hq=> ?_
  rw[H6]at hq
  unfold src at hq⊢
  split at hq
  ·rename_i hs
   simp only[hs,if_true]
   cases q<;>simp only at hq⊢
   exact⟨hq.1,ux hd hq.2⟩
  ·rename_i hs
   simp only[hs]
   obtain⟨z,l,hq,h2⟩:=n8 _ _ _ hq
   exact h2 _ ⟨hq.1,ux hd hq.2⟩
 |
  copy sz x y=>
  simp only[ex]at h⊢
  rw[aE ag.left]at h
  refine cM h λp hp=> ?_
  rw[aE ag.right]at hp
  refine cM hp λq hq=> ?_
  have SX:∀str,src (s.put (some e) u) str sz q (λys=>jd (s.put (some e) u) d sz p ys K)->src s str sz q (λys=>jd s d sz p ys λt=>K (t.put (some e) u)∧qP d s t):=by
   intro str hq
   rw[H6]at hq
   unfold src at hq⊢
   split at hq
   ·rename_i hs
    simp only[hs,if_true]
    cases q<;>simp only at hq⊢
    exact⟨hq.1,tm hd hq.2⟩
   ·rename_i hs
    simp only[hs]
    obtain⟨z,l,hq,h2⟩:=n8 _ _ _ hq
    exact h2 _ ⟨hq.1,tm hd hq.2⟩
  cases q<;>exact SX _ hq
 |
  fill sz z x=>
  simp only[ex]at h⊢
  rw[aE ag]at h
  refine cM h λp hp=> ?_
  obtain⟨h1,h2⟩:=hp
  subst h1
  refine⟨rfl,?_⟩
  cases p<;>simp only at h2⊢<;>first|exact h2.elim|skip
  exact tm hd h2
 |
  mkMap ks vs=>
  cases d with
  |none=>exact h.elim
  |
   some k=>
   have hk:k≠e:=λh'=>hd (by rw[h'])
   simp only[ex]at h⊢
   refine⟨h.1,λb=>⟨?_,iO⟩⟩
   rw[←lP hk];exact h.2 b
 |
  mapGet ks vs z ok m x=>
  simp only[ex]at h⊢
  rw[aE ag.left]at h
  refine cM h λpm hp=> ?_
  rw[aE ag.right]at hp
  refine cM hp λp hq=> ?_
  cases pm<;>simp only at hq⊢<;>first|exact hq.elim|skip
  rw[lY]at hq
  split at hq
  ·rename_i b' ks' vs' l hg
   refine⟨hq.1,?_,j7 (b:=s.bx)⟩
   have:=od (s:=s) (b:=s.bx) (u:=u) (v:=if ok=true then .tup [(VT p l).getD z,.bl (VT p l).isSome]else(VT p l).getD z) hd
   exact this▸hq.2
  ·exact hq.elim
 |
  mapSet ks vs m x y=>
  simp only[ex]at h⊢
  rw[aE ag.left]at h
  refine cM h λpm hp=> ?_
  rw[aE ag.right.left]at hp
  refine cM hp λp hq=> ?_
  rw[aE ag.right.right]at hq
  refine cM hq λv hv=> ?_
  cases pm<;>simp only at hv⊢<;>first|exact hv.elim|skip
  rw[lY]at hv
  split at hv
  ·exact⟨hv.1,hv.2,Ez⟩
  ·exact hv.elim
 |
  convL x=>
  simp only[ex]at h⊢
  rw[aE ag]at h
  refine cM h λp hp=> ?_
  cases p<;>simp only at hp⊢<;>first|exact hp.elim|skip
  rename_i k pth off len aC sz c
  rw[lY]at hp
  split at hp
  ·rename_i bB l hg
   refine⟨hp.1,?_,j7 (b:=put s.bx k (.arr 1 (l++[.int .u8 0])))⟩
   have:=od (s:=s) (b:=put s.bx k (.arr 1 (l++[.int .u8 0]))) (u:=u) (v:= .sl 1 l false) hd
   exact this▸hp.2
  ·exact hp.elim
 |
  convB x=>
  simp only[ex]at h⊢
  rw[aE ag]at h
  refine cM h λp hp=> ?_
  cases p<;>simp only at hp⊢<;>first|exact hp.elim|skip
  rename_i bs
  refine⟨?_,j7 (b:=s.bx)⟩
  have:=od (s:=s) (b:=s.bx) (u:=u) (v:= .sl 1 (bs.map u8) false) hd
  exact this▸hp
 |_=>exact h.elim
theorem EA {e:Nat} {u:PV} {d:Option Nat} {f:AX} {args:List AX} {K:St->Prop} (hd:d≠some e) (hr:e∉(AK.call f args).reads) (h:kF P (s.put (some e) u) d f args K):
  kF P s d f args λt=>K (t.put (some e) u)∧qP d s t:=by
 have ag:dV s (s.put (some e) u) (AK.call f args).reads:=dV.put (λj hj=>by cases hj;exact hr)
 unfold kF at h⊢
 rw[aE ag.left]at h
 refine cM h λpf hpf=> ?_
 rw[gR ag.right]at hpf
 obtain⟨ps,hp,h2⟩:=ql _ _ _ _ hpf
 refine h2 _ ?_
 split at hp
 ·obtain⟨ks,os,bf,R,a1,a2,a3,a4,a5,a6,a7⟩:=hp
  refine⟨ks,os,bf,R,a1,a2,a3,a4,a5,a6,λr fp hR=>⟨(a7 r fp hR).1,?_,j7⟩⟩
  rw[←od hd]
  exact(a7 r fp hR).2
 ·obtain⟨bf,R,a1,a2,a3,a4,a5⟩:=hp
  refine⟨bf,R,a1,a2,a3,a4,λfp hR=>⟨(a5 fp hR).1,?_,j7⟩⟩
  rw[←od hd]
  exact(a5 fp hR).2
 ·exact hp.elim
end Go.Ab
namespace Go.Ab
variable [eg]
variable {P:Program} {s:St} [iE]
theorem yj {g:Bool} {k:AK} {K K':PV->Prop} (h:∀p,K p->K' p) (hk:ev g s k K):ev g s k K':=by
 obtain⟨p,h1,h2⟩:=qN g s k K hk;exact h2 K' (h p h1)
theorem gy {g:Bool} {x:AX} {K K':PV->Prop} (h:∀p,K p->K' p) (hk:vg g s x K):vg g s x K':=by
 obtain⟨p,h1,h2⟩:=pH g s x K hk;exact h2 K' (h p h1)
theorem EB {g:Bool} {xs:List AX} {K K':List PV->Prop} (h:∀p,K p->K' p) (hk:s8 g s xs K):s8 g s xs K':=by
 obtain⟨p,h1,h2⟩:=ql g s xs K hk;exact h2 K' (h p h1)
theorem LO {g:Bool} {xs:List (Nat×AX)} {K K':List (Nat×PV)->Prop} (h:∀p,K p->K' p) (hk:yd g s xs K):yd g s xs K':=by
 obtain⟨p,h1,h2⟩:=vP g s xs K hk;exact h2 K' (h p h1)
theorem vU {p:PV} {K K':Int->Prop} (h:∀p,K p->K' p) (hk:mc p K):mc p K':=by
 obtain⟨p,h1,h2⟩:=oG p K hk;exact h2 K' (h p h1)
theorem uy {p:PV} {K K':Nat->List PV->Prop} (h:∀a b,K a b->K' a b) (hk:content s p K):content s p K':=by
 obtain⟨a,b,h1,h2⟩:=n8 s p K hk;exact h2 K' (h a b h1)
theorem zy {str:Bool} {sz:Nat} {q:PV} {K K':List PV->Prop} (h:∀p,K p->K' p) (hk:src s str sz q K):src s str sz q K':=by
 unfold src at hk⊢
 split at hk
 ·rename_i hs;rw[if_pos hs]
  split at hk
  ·exact⟨hk.1,h _ hk.2⟩
  ·exact hk.elim
 ·rename_i hs;rw[if_neg hs]
  exact uy (λa b hab=>⟨hab.1,h _ hab.2⟩) hk
theorem Bh {d:Option Nat} {sz b:Nat} {p:PV} {ys:List PV} {K K':St->Prop} (h:∀p,K p->K' p) (hk:gE s d sz b p ys K):gE s d sz b p ys K':=by
 unfold gE at hk⊢
 split at hk
 ·exact hk.elim
 ·split at hk
  ·exact⟨hk.1,h _ hk.2⟩
  ·split at hk
   ·exact⟨hk.1,h _ hk.2⟩
   ·exact hk.elim
  ·split at hk
   ·exact⟨hk.1,λhle=>h _ (hk.2.1 hle),λfZ=>h _ (hk.2.2 fZ)⟩
   ·exact hk.elim
  ·exact uy (λa b hab=>⟨hab.1,h _ hab.2⟩) hk
  ·exact hk.elim
theorem EC {d:Option Nat} {sz b:Nat} {z p:PV} {m:Int} {K K':St->Prop} (h:∀p,K p->K' p) (hk:n5 s d sz b z p m K):n5 s d sz b z p m K':=by
 unfold n5 at hk⊢
 split at hk
 ·exact hk.elim
 ·split at hk
  ·split at hk
   ·exact⟨hk.1,h _ hk.2⟩
   ·exact hk.elim
  ·exact hk.elim
theorem rq {d:Option Nat} {sz:Nat} {p:PV} {ys:List PV} {K K':St->Prop} (h:∀p,K p->K' p) (hk:jd s d sz p ys K):jd s d sz p ys K':=by
 unfold jd at hk⊢
 split at hk
 ·split at hk
  ·exact⟨hk.1,h _ hk.2⟩
  ·split at hk
   ·split at hk
    ·exact⟨hk.1,h _ hk.2⟩
    ·exact hk.elim
   ·exact hk.elim
  ·exact hk.elim
 ·exact hk.elim
theorem P4 {d:Option Nat} {k:AK} {K K':St->Prop} (h:∀p,K p->K' p) (hk:ex s d k K):ex s d k K':=by
 cases k with
 |alloc z=>simp only[ex]at hk⊢;split at hk;exact⟨hk.1,h _ hk.2⟩;exact hk.elim
 |box x=>simp only[ex]at hk⊢;split at hk;exact gy (λp hp=>⟨hp.1,h _ hp.2⟩) hk;exact hk.elim
 |
  buildSlice own sz z n parts=>
  simp only[ex]at hk⊢
  refine LO (λps hp=> ?_) hk
  split at hp
  ·split at hp
   ·rename_i ho;rw[if_pos ho]
    split at hp
    ·exact⟨hp.1,h _ hp.2⟩
    ·exact hp.elim
   ·rename_i ho;rw[if_neg ho];exact h _ hp
  ·exact hp.elim
 |
  makeSlice sz b z l c=>
  simp only[ex]at hk⊢
  refine gy (λp hp=>vU (λn hn=>gy (λq hq=>vU (λm hm=> ?_) hq) hn) hp) hk
  split at hm
  ·exact⟨hm.1,h _ hm.2⟩
  ·exact hm.elim
 |
  store n x y=>
  simp only[ex]at hk⊢
  refine gy (λp hp=>gy (λv hv=> ?_) hp) hk
  split at hv
  ·split at hv
   ·split at hv
    ·exact⟨hv.1,h _ hv.2⟩
    ·exact hv.elim
   ·exact hv.elim
  ·exact hv.elim
 |
  isNil ng x=>
  simp only[ex]at hk⊢
  refine gy (λp hp=> ?_) hk
  split at hp
  ·exact λb hb=>h _ (hp b hb)
  ·split at hp
   ·exact⟨hp.1,λb hb=>h _ (hp.2 b hb)⟩
   ·exact hp.elim
  ·exact hp.elim
 |
  append sz b str x y=>
  simp only[ex]at hk⊢
  exact gy (λp hp=>gy (λq hq=>zy (λys hy=>Bh h hy) hq) hp) hk
 |
  copy sz x y=>
  simp only[ex]at hk⊢
  refine gy (λp hp=>gy (λq hq=> ?_) hp) hk
  split at hq
  ·exact zy (λys hy=>rq h hy) hq
  ·exact zy (λys hy=>rq h hy) hq
 |
  appendZ sz b z x y=>
  simp only[ex]at hk⊢
  exact gy (λp hp=>gy (λq hq=>vU (λm hm=>EC h hm) hq) hp) hk
 |
  fill sz z x=>
  simp only[ex]at hk⊢
  refine gy (λp hp=> ?_) hk
  obtain⟨h1,h2⟩:=hp
  refine⟨h1,?_⟩
  cases p<;>simp only at h2⊢<;>first|exact h2.elim|exact rq h h2
 |mkMap ks vs=>simp only[ex]at hk⊢;split at hk;exact⟨hk.1,λb=>h _ (hk.2 b)⟩;exact hk.elim
 |
  mapGet ks vs z ok m x=>
  simp only[ex]at hk⊢
  refine gy (λpm hp=>gy (λp hq=> ?_) hp) hk
  cases pm<;>simp only at hq⊢<;>first|exact hq.elim|skip
  split at hq
  ·exact⟨hq.1,h _ hq.2⟩
  ·exact hq.elim
 |
  mapSet ks vs m x y=>
  simp only[ex]at hk⊢
  refine gy (λpm hp=>gy (λp hq=>gy (λv hv=> ?_) hq) hp) hk
  cases pm<;>simp only at hv⊢<;>first|exact hv.elim|skip
  split at hv
  ·exact⟨hv.1,h _ hv.2⟩
  ·exact hv.elim
 |
  convL x=>
  simp only[ex]at hk⊢
  refine gy (λp hp=> ?_) hk
  cases p<;>simp only at hp⊢<;>first|exact hp.elim|skip
  split at hp
  ·exact⟨hp.1,h _ hp.2⟩
  ·exact hp.elim
 |
  convB x=>
  simp only[ex]at hk⊢
  refine gy (λp hp=> ?_) hk
  cases p<;>simp only at hp⊢<;>first|exact hp.elim|exact h _ hp
 |_=>simp only[ex]at hk
theorem GI {d:Option Nat} {f:FuncId} {l:List PV} {ks os:List Nat} {K K':St->Prop} (h:∀p,K p->K' p) (hk:sM P s d f l ks os K):sM P s d f l ks os K':=by
 obtain⟨b,R,h1,h2,h3,h4,h5,h6,h7⟩:=hk
 exact⟨b,R,h1,h2,h3,h4,h5,h6,λr fp hr=>⟨(h7 r fp hr).1,h _ (h7 r fp hr).2⟩⟩
theorem GJ {d:Option Nat} {f:AX} {l:List AX} {K K':St->Prop} (h:∀p,K p->K' p) (hk:kF P s d f l K):kF P s d f l K':=by
 unfold kF at hk⊢
 refine gy (λpf hf=>EB (λps hp=> ?_) hf) hk
 split at hp
 ·obtain⟨ks,os,hc⟩:=hp;exact⟨ks,os,GI h hc⟩
 ·obtain⟨bf,R,a1,a2,a3,a4,a5⟩:=hp
  exact⟨bf,R,a1,a2,a3,a4,λfp hR=>⟨(a5 fp hR).1,h _ (a5 fp hR).2⟩⟩
 ·exact hp.elim
theorem GK {d:Option Nat} {f:AX} {l:List AX} {K K':St->Prop} (h:∀p,K p->K' p) (hk:mI P s d f l K):mI P s d f l K':=by
 unfold mI at hk⊢
 refine gy (λpf hf=>EB (λps hp=> ?_) hf) hk
 split at hp
 ·obtain⟨v,h1,h2,h3⟩:=hp;exact⟨v,h1,h2,h _ h3⟩
 ·exact hp.elim
theorem zB {o:AO} {K K':St->Prop} (h:∀p,K p->K' p) (hk:kG P s o K):kG P s o K':=by
 unfold kG at hk⊢
 split at hk
 ·exact GJ h hk
 ·exact GK h hk
 ·split at hk
  ·rename_i he;rw[if_pos he];exact P4 h hk
  ·rename_i he;rw[if_neg he];exact yj (λp hp=>h _ hp) hk
theorem eV {o:AO} {K K':St->Prop} (h:∀p,K p->K' p) (hk:im P s o K):im P s o K':=by
 unfold im at hk⊢
 split at hk
 ·exact zB h hk
 ·split at hk
  ·split at hk
   ·rename_i hm;rw[if_pos hm];exact yj (λp hp=>h _ hp) hk
   ·rename_i hm;rw[if_neg hm];exact⟨λe=>zB h (hk.1 e),λe=>h _ (hk.2 e)⟩
  ·split at hk
   ·rename_i hm;rw[if_pos hm];exact yj (λp hp=>h _ hp) hk
   ·rename_i hm;rw[if_neg hm];exact⟨λe e'=>zB h (hk.1 e e'),λe=>h _ (hk.2 e)⟩
  ·exact hk.elim
end Go.Ab
namespace Go.Ab
variable [eg]
variable {P:Program} {nt:Nat} {ds:List Deferred} {s s':St} [iE]
def AO.gQ:AO->Option Nat
 |⟨some k,none,_,.alloc _⟩=>some k
 |_=>none
def AO.alq (y:AO):Bool:=y.guard.isNone&&(match y.k with| .call .. | .alloc _=>true|_=>false)
def qQ (k:Nat) (z:PV) (s:St):St:= {env:=put s.env k (.pt k [] 0),bx:=put s.bx k (.box z)}
theorem LP {k:Nat} {z:PV} {l:List Nat} (h:k∉l):dV s (qQ k z s) l:=by
 intro n hn
 simp only[qQ]
 rw[cH]
 rintro rfl;exact h hn
theorem rZ {k:Nat} {b:a9}:∀ {ks:List Nat} {bx:List (Nat×a9)} {l:List a9},get bx k=none->getAll bx ks=some l->getAll (put bx k b) ks=some l
 |[],bx,l,_,h=>h
 |
  x::ks,bx,l,hn,h=>by
  simp only[getAll]at h⊢
  split at h
  ·rename_i u v hu hv
   have fc:k≠x:=by rintro rfl;rw[hn]at hu;simp at hu
   rw[cH _ _ _ _ fc,hu,rZ hn hv]
   exact h
  ·simp at h
theorem vV {k:Nat} {b:a9}:∀ {ks:List Nat} {bx:List (Nat×a9)} {l:List a9},k∉ks->bC (put bx k b) ks l=put (bC bx ks l) k b
 |[],bx,l,_=>by cases l<;>rfl
 |x::ks,bx,[],_=>rfl
 |
  x::ks,bx,y::l,h=>by
  simp only[bC]
  rw[Ab.put_comm (n:=k) (m:=x) (by rintro rfl;simp at h),vV (λh'=>h (by simp[h']))]
theorem qo {k:Nat}:∀ {ks:List Nat} {bx:List (Nat×a9)} {l:List a9},get bx k=none->getAll bx ks=some l->k∉ks
 |[],_,_,_,_=>by simp
 |
  x::ks,bx,l,hn,h=>by
  simp only[getAll]at h
  split at h
  ·rename_i u v hu hv
   intro hm
   rcases List.mem_cons.1 hm with rfl|hm
   ·rw[hn]at hu;simp at hu
   ·exact qo hn hv hm
  ·simp at h
theorem Tv {k:Nat} {z:PV} {d:Option Nat} {v:PV} {b:List (Nat×a9)} (hd:d≠some k):St.put {env:=put s.env k (.pt k [] 0),bx:=put b k (.box z)} d v=qQ k z (St.put {s with bx:=b} d v):=by
 cases d with
 |none=>rfl
 |
  some j=>
  have:j≠k:=λh=>hd (by rw[h])
  simp only[St.put,qQ]
  rw[Ab.put_comm (Ne.symm this)]
theorem LQ {d:Option Nat} {f:FuncId} {args:List PV} {ks os:List Nat} {k:Nat} {z:PV} {K:St->Prop} (hd:d≠some k) (hn:get s.bx k=none) (h:sM P s d f args ks os λt=>get t.bx k=none∧K (qQ k z t)):∃os',sM P (qQ k z s) d f args ks os' K:=by
 obtain⟨bf,R,a1,a2,a3,a4,a5,a6,a7⟩:=h
 have hk:=qo hn a1
 by_cases hR:∃r fp,R r fp
 ·obtain⟨r0,fp0,hR0⟩:=hR
  have VC:k∉os:=by
   intro hm
   obtain⟨⟨b1,_,_⟩,b2,_⟩:=a7 r0 fp0 hR0
   have e:({s with bx:=bC s.bx (ks++os) (fp0.map (a0 (eO (ks++os))))}.put d (aF (eO (ks++os)) r0)).bx=bC s.bx (ks++os) (fp0.map (a0 (eO (ks++os)))):=by cases d<;>rfl
   rw[e,qk k a2 (by simpa using b1)]at b2
   cases hi:idx (ks++os) k with
   |none=>exact Em hi (by simp[hm])
   |
    some i=>
    rw[hi]at b2
    have:=(List.getElem?_eq_some_iff.1 (kZ hi)).1
    simp at b2
    omega
  refine⟨os,bf,R,rZ hn a1,a2,λo ho=> ?_,a4,a5,a6,λr fp hr=>⟨(a7 r fp hr).1,?_⟩⟩
  ·simp only[qQ]
   rw[cH]
   ·exact a3 o ho
   ·rintro rfl;exact VC ho
  ·have:=(a7 r fp hr).2.2
   simp only[qQ]at this⊢
   rw[vV (by simp[hk,VC]),Tv hd]
   exact this
 ·exact⟨[],bf,R,rZ hn a1,by simpa using(List.nodup_append.1 a2).1,by simp,a4,a5,a6,λr fp hr=>absurd ⟨r,fp,hr⟩ hR⟩
theorem LR {d:Option Nat} {f:AX} {args:List AX} {k:Nat} {z:PV} {K:St->Prop} (hd:d≠some k) (hn:get s.bx k=none) (hr:k∉(AK.call f args).reads) (h:kF P s d f args λt=>get t.bx k=none∧K (qQ k z t)):kF P (qQ k z s) d f args K:=by
 have ag:dV s (qQ k z s) (AK.call f args).reads:=LP hr
 unfold kF at h⊢
 rw[aE ag.left]
 refine cM h λpf hpf=> ?_
 rw[gR ag.right]
 obtain⟨ps,hp,h2⟩:=ql _ _ _ _ hpf
 refine h2 _ ?_
 split at hp
 ·obtain⟨ks,os,hc⟩:=hp
  obtain⟨os',Bz⟩:=LQ hd hn hc
  exact⟨ks,os',Bz⟩
 ·obtain⟨bf,R,a1,a2,a3,a4,a5⟩:=hp
  have hk:=qo hn a1
  refine⟨bf,R,rZ hn a1,a2,a3,a4,λfp hR=>⟨(a5 fp hR).1,?_⟩⟩
  have:=(a5 fp hR).2.2
  simp only[qQ]at this⊢
  rw[vV hk,Tv hd]
  exact this
 ·exact hp.elim
theorem ED {x:AO} {k:Nat} (hx:x.gQ=some k):∃z,x.dst=some k∧∀(s:St) (K:St->Prop),im P s x K↔(get s.bx k=none∧K (qQ k z s)):=by
 unfold AO.gQ at hx
 split at hx
 ·rename_i k' mg z
  simp only[sJ]at hx;subst hx
  exact⟨z,rfl,λs K=>Iff.rfl⟩
 ·simp at hx
theorem LU {y:AO} {k:Nat} {z:PV} {K:St->Prop} (hy:y.alq=true) (hd:y.dst≠some k) (hr:k∉y.reads) (hn:get s.bx k=none) (h:im P s y λt=>get t.bx k=none∧K (qQ k z t)):im P (qQ k z s) y K:=by
 obtain⟨dst,guard,mg,ak⟩:=y
 unfold AO.alq at hy
 simp only[aJ]at hy
 cases guard with
 |some g=>simp at hy
 |
  none=>
  cases ak with
  |call f args=>exact LR hd hn (λh=>hr (by simp[AO.reads,h])) h
  |
   alloc z'=>
   cases dst with
   |none=>exact h.elim
   |
    some j=>
    have sY:j≠k:=λh=>hd (by rw[h])
    have h:get s.bx j=none∧get (qQ j z' s).bx k=none∧K (qQ k z (qQ j z' s)):=h
    show get (qQ k z s).bx j=none∧K (qQ j z' (qQ k z s))
    refine⟨by simp only[qQ];rw[cH _ _ _ _ (Ne.symm sY)];exact h.1,?_⟩
    have e:qQ j z' (qQ k z s)=qQ k z (qQ j z' s):=by
     simp only[qQ];rw[Ab.put_comm (Ne.symm sY),Ab.put_comm (Ne.symm sY)]
    rw[e];exact h.2.2
  |_=>simp at hy
end Go.Ab
namespace Go.Ab
variable [eg]
variable {P:Program} {nt:Nat} {ds:List Deferred} {s s':St} [iE]
def C7:List Nat->Bool
 |a::b::_=>a==b
 |_=>false
def sx (W:List Nat) (k:Nat) (b:a9):a9:=match b with| .box v=>if C7 W=true∧W.contains k=true then Ex else .box v|b=>b
def St.less (s:St) (W:List Nat):St:= {s with bx:=(s.bx.filter λp=>C7 W|| !W.contains p.1).map λp=>(p.1,sx W p.1 p.2)}
def Fr (W:List Nat) (s t:St):Prop:=∀k b,(C7 W|| !W.contains k)=true->get s.bx k=some b->∃b',get t.bx k=some b'∧sx W k b'=sx W k b
theorem get_filter {c:Nat->Bool} (k:Nat):∀l:List (Nat×a9),get (l.filter λp=>c p.1) k=if c k=true then get l k else none
 |[]=>by simp[get]
 |
  (n,v)::r=>by
  have ih:=get_filter (c:=c) k r
  by_cases hn:c n=true
  ·rw[List.filter_cons_of_pos (by simpa using hn)]
   simp only[get,ih]
   by_cases hk:n=k
   ·subst hk;rw[if_pos rfl,if_pos hn,if_pos rfl]
   ·rw[if_neg hk,if_neg hk]
  ·rw[List.filter_cons_of_neg (by simpa using hn),ih]
   by_cases hk:n=k
   ·subst hk;rw[if_neg hn,if_neg hn]
   ·simp only[get,if_neg hk]
theorem H7 {W:List Nat} (k:Nat):∀l:List (Nat×a9),get (l.map λp=>(p.1,sx W p.1 p.2)) k=(get l k).map (sx W k)
 |[]=>rfl
 |
  (n,v)::r=>by
  simp only[List.map_cons,get]
  by_cases hk:n=k
  ·subst hk;simp
  ·rw[if_neg hk,if_neg hk];exact H7 k r
theorem zC {W:List Nat} (k:Nat):get (s.less W).bx k=if(C7 W|| !W.contains k)=true then(get s.bx k).map (sx W k)else none:=by
 simp only[St.less,H7]
 rw[get_filter (c:=λn=>C7 W|| !W.contains n)]
 split<;>rfl
theorem LV (W:List Nat):Sub (s.less W).bx s.bx:=by
 intro k b h
 rw[zC]at h
 split at h
 ·cases hg:get s.bx k with
  |none=>rw[hg]at h;simp at h
  |
   some c=>
   rw[hg]at h
   simp only[Option.map_some,sJ]at h
   cases c with
   |
    box v=>
    simp only[sx]at h
    split at h
    ·exact .inr ⟨h.symm,v,rfl⟩
    ·exact .inl (by rw[h])
   |arr sz l=>exact .inl (by rw[←h];rfl)
   |map b ks vs l=>exact .inl (by rw[←h];rfl)
 ·simp at h
theorem H8 {W:List Nat} (h:Fr W s s'):Sub (s.less W).bx (s'.less W).bx:=by
 intro k b hk
 rw[zC]at hk
 split at hk
 ·rename_i hw
  cases hg:get s.bx k with
  |none=>rw[hg]at hk;simp at hk
  |
   some c=>
   obtain⟨b',h1,h2⟩:=h k c hw hg
   rw[hg]at hk
   left
   rw[zC,if_pos hw,h1,Option.map_some,h2]
   exact hk
 ·simp at hk
theorem LW {W:List Nat} {d:Option Nat} {v:PV}:(s.put d v).less W=(s.less W).put d v:=by cases d<;>rfl
theorem vW {W:List Nat} {d:Option Nat} {v:PV}:({((s.less W).put d v)with bx:=s.bx}:St)=s.put d v:=by cases d<;>rfl
def jv (P:Program) (W:List Nat) (f:Bool) (s:St) (o:AO) (K:St->Prop):Prop:=
 if o.quiet=true then(if f=true then im P (s.less W) o (λt=>K {t with bx:=s.bx})else im P s o K)else im P s o (λt=>(f=true->Fr W s t)∧K t)
def fU (aos:List AO) (s:St) (l:List Nat):Bool:=l.all λi=>match aos[i]?with|some o=>(match o.gQ with|some k=>(get s.bx k).isNone|none=>true)|none=>true
def iT (P:Program) (aos:List AO) (fl:Nat->Bool) (W:List Nat) (s:St):List Nat->(St->Prop)->Prop
 |[],K=>K s
 |
  i::r,K=>match aos[i]?with
  |some o=>fU aos s (i::r)=true∧jv P W (fl i) s o λt=>iT P aos fl W t r K
  |none=>False
theorem BT {aos:List AO} {fl:Nat->Bool} {W:List Nat} {K:St->Prop}:∀ {l:List Nat} {s:St},iT P aos fl W s l K->fU aos s l=true
 |[],s,_=>rfl
 |
  i::r,s,h=>by
  simp only[iT]at h
  split at h
  ·exact h.1
  ·exact h.elim
theorem pK {aos:List AO} {s s':St} (h:s'.bx=s.bx) (l:List Nat):fU aos s' l=fU aos s l:=by unfold fU;rw[h]
theorem gG {aos:List AO} {s:St} {i:Nat} {l:List Nat}:fU aos s (i::l)=(fU aos s [i]&&fU aos s l):=by simp[fU]
theorem vX {aos:List AO} {s:St} {l m:List Nat}:fU aos s (l++m)=(fU aos s l&&fU aos s m):=by simp[fU]
theorem H9 {aos:List AO} {s:St} {i j:Nat} {l m:List Nat} (h:fU aos s (j::(l++i::m))=true):fU aos s [j]=true∧fU aos s l=true∧fU aos s [i]=true∧fU aos s m=true:=by
 rw[gG (l:=l++i::m),vX,gG (l:=m)]at h
 simpa only[aJ]using h
theorem Ia {aos:List AO} {s:St} {j:Nat} {l m:List Nat} (h1:fU aos s [j]=true) (h2:fU aos s l=true) (h3:fU aos s m=true):fU aos s (j::(l++m))=true:=by
 rw[gG (l:=l++m),vX,h1,h2,h3];rfl
theorem BU {aos:List AO} {s:St} {i:Nat} {x:AO} {k:Nat} (hi:aos[i]? =some x) (hx:x.gQ=some k):fU aos s [i]=true↔get s.bx k=none:=by simp[fU,hi,hx]
theorem r7 {aos:List AO} {s:St} {i:Nat} {x:AO} (hi:aos[i]? =some x) (hx:x.gQ=none):fU aos s [i]=true:=by simp[fU,hi,hx]
theorem j8 {x:AO} (hx:x.quiet=true):x.gQ=none:=by
 obtain⟨d,g,mg,k⟩:=x
 unfold AO.gQ
 split
 ·simp_all [AO.quiet,nA]
 ·rfl
def sy (W:List Nat) (f:Bool) (s:St):St:=if f=true then s.less W else s
theorem oI {W:List Nat} {f:Bool} {o:AO} {K:St->Prop} (hq:o.quiet=true) (h:jv P W f s o K):∃v,K (s.put o.dst v)∧Qv P (sy W f s) o v:=by
 unfold jv at h
 rw[if_pos hq]at h
 cases f with
 |
  true=>
  simp only[if_true]at h
  obtain⟨v,h1,h2⟩:=rY hq h
  rw[vW]at h1
  exact⟨v,h1,h2⟩
 |
  false=>
  simp only[fJ,if_false]at h
  obtain⟨v,h1,h2⟩:=rY hq h
  exact⟨v,h1,h2⟩
theorem uz {W:List Nat} {f:Bool} {o:AO} {v:PV} {r:St} {K:St->Prop} (hq:o.quiet=true) (h:Qv P r o v) (hs:Sub r.bx (sy W f s).bx) (ha:dV r s o.reads) (hk:K (s.put o.dst v)):jv P W f s o K:=by
 unfold jv
 rw[if_pos hq]
 cases f with
 |
  true=>
  simp only[if_true]
  refine h _ hs ha _ ?_
  show K {((s.less W).put o.dst v)with bx:=s.bx}
  rw[vW];exact hk
 |
  false=>
  simp only[fJ,if_false]
  exact h _ hs ha _ hk
theorem EE {W:List Nat} {f:Bool}:Sub (sy W f s).bx s.bx:=by
 unfold sy;split
 ·exact LV W
 ·exact Sub.refl _
theorem EF {W:List Nat} {f:Bool} {d:Option Nat} {v:PV}:(sy W f (s.put d v)).bx=(sy W f s).bx:=by
 unfold sy;split
 ·rw[LW,kL]
 ·rw[kL]
theorem zF {W:List Nat} {f:Bool}:(sy W f s).env=s.env:=by unfold sy;split<;>rfl
theorem r8 {W:List Nat} {f:Bool} {l:List Nat} (h:dV s s' l):dV (sy W f s) s' l:=by
 intro n hn;rw[zF];exact h n hn
def AK.jq:AK->Bool
 | .mv _| .extract _ _| .mm _ _| .un _ _| .convI _ _| .field _ _ _ _ _| .build _ _=>true
 | .bin _ e _ _=>match e with| .ptr=>false|_=>true
 |_=>false
def AO.jq (o:AO):Bool:=o.guard.isNone&&o.k.jq
theorem LX {b:List (Nat×a9)} (x:AX):vx {s with bx:=b} x=vx s x:=by cases x<;>rfl
theorem C8 {b:List (Nat×a9)} {g:Bool} (x:AX):vg g {s with bx:=b} x=vg g s x:=by
 funext K;unfold vg;rw[LX]
theorem Ib {b:List (Nat×a9)} {g:Bool}:∀(l:List AX),s8 g {s with bx:=b} l=s8 g s l
 |[]=>rfl
 |x::l=>by funext K;simp only[s8,C8,Ib l]
theorem Ic {b:List (Nat×a9)} {g:Bool}:∀(l:List (Nat×AX)),yd g {s with bx:=b} l=yd g s l
 |[]=>rfl
 |(n,x)::l=>by funext K;simp only[yd,C8,Ic l]
theorem LY {b:List (Nat×a9)} {o:BinOp} {e:ET} (he:(match e with| .ptr=>false|_=>true)=true) (p q:PV):py {s with bx:=b} o e p q=py s o e p q:=by
 funext K;cases e<;>first|rfl|simp at he
theorem VZ {b:List (Nat×a9)} {g:Bool} {k:AK} (hk:k.jq=true) (K:PV->Prop):ev g {s with bx:=b} k K=ev g s k K:=by
 cases k<;>first|(simp[AK.jq]at hk;done)|skip
 case bin o e x y=>
  simp only[ev,C8]
  simp only[AK.jq]at hk
  have:=λp q=>LY (s:=s) (b:=b) (o:=o) hk p q
  simp only[this]
 all_goals simp only[ev,C8,Ib,Ic,LX]
theorem EG {k:AK} (h:k.jq=true):nA k=false:=by
 cases k<;>first|rfl|simp[AK.jq]at h
theorem xj {r:St} {o:AO} {v:PV} (hf:o.jq=true) (hv:Qv P r o v) (s':St) (ha:dV r s' o.reads) (K':St->Prop) (hk:K' (s'.put o.dst v)):im P s' o K':=by
 have h:=hv {s' with bx:=r.bx} (Sub.refl _) ha (λt=>K' {t with bx:=s'.bx}) (by
  have e:({(({s' with bx:=r.bx}:St).put o.dst v)with bx:=s'.bx}:St)=s'.put o.dst v:=by cases o.dst<;>rfl
  show K' _
  rw[e];exact hk)
 obtain⟨dst,guard,mg,k⟩:=o
 have e:∀p,({(({s' with bx:=r.bx}:St).put dst p)with bx:=s'.bx}:St)=s'.put dst p:=by intro p;cases dst<;>rfl
 simp only[AO.jq,aJ,Option.isNone_iff_eq_none]at hf
 obtain⟨hg,F3⟩:=hf
 subst hg
 have hx:=EG F3
 cases k<;>first|(simp[AK.jq]at F3;done)|skip
 all_goals
  simp only[im,kG,hx,fJ,if_false,VZ F3,e]at h⊢
  exact h
theorem BV {W:List Nat} {f:Bool} {o:AO} {v:PV} {r:St} {K:St->Prop} (hq:o.quiet=true) (hf:o.jq=true) (h:Qv P r o v) (ha:dV r s o.reads) (hk:K (s.put o.dst v)):jv P W f s o K:=by
 unfold jv
 rw[if_pos hq]
 cases f with
 |
  true=>
  simp only[if_true]
  refine xj hf h (s.less W) (λn hn=>ha n hn) _ ?_
  show K {((s.less W).put o.dst v)with bx:=s.bx}
  rw[vW];exact hk
 |
  false=>
  simp only[fJ,if_false]
  exact xj hf h _ ha _ hk
def j9 (aos:List AO) (fl:Nat->Bool) (j i:Nat):Bool:=match aos[j]?,aos[i]?with
 |some y,some x=>y.quiet&&y.dst.isSome&&y.apart x&&(x.quiet||y.jq||fl j&&fl i)|| !y.quiet&&y.alq&&(match x.gQ with|some k=>y.dst !=some k&& !y.reads.contains k|none=>false)
 |_,_=>false
def qp (aos:List AO) (j i:Nat):Bool:=match aos[j]?,aos[i]?with
 |some y,some x=>(match y.gQ,x.gQ with|some a,some b=>a !=b|_,_=>true)
 |_,_=>true
theorem GL {aos:List AO} {fl:Nat->Bool} {W:List Nat} {K:St->Prop} {i:Nat} {x:AO} (hi:aos[i]? =some x) (hx:x.quiet=true) (l2:List Nat):∀(l1:List Nat) (s:St),
  (∀j∈l1,j9 aos fl j i=true)->iT P aos fl W s (l1++i::l2) K->∃v,iT P aos fl W (s.put x.dst v) (l1++l2) K∧Qv P s x v
 |
  [],s,_,h=>by
  simp only[List.nil_append,iT,hi]at h
  obtain⟨v,h1,h2⟩:=oI hx h.2
  exact⟨v,h1,λs' hb ha K' hk=>h2 s' (EE.trans hb) (r8 ha) K' hk⟩
 |
  j::l1,s,ff,h=>by
  have hp:=ff j (by simp)
  unfold j9 at hp
  cases hy:aos[j]?with
  |none=>rw[hy]at hp;simp at hp
  |
   some y=>
   rw[hy,hi]at hp
   simp only[j8 hx,Bool.and_false,Bool.or_false,aJ]at hp
   obtain⟨⟨⟨xZ,_⟩,iG⟩,_⟩:=hp
   have h1:∀d,y.dst=some d->d∉x.reads:=λd hd=>by simp[AO.apart,hd]at iG;exact iG.1.1
   have h2:∀d,y.dst=some d->x.dst≠some d:=λd hd=>by simp[AO.apart,hd]at iG;exact iG.1.2
   have h3:∀d,x.dst=some d->d∉y.reads:=λd hd=>by simp[AO.apart,hd]at iG;exact iG.2
   simp only[List.cons_append,iT,hy]at h⊢
   obtain⟨nr,h⟩:=h
   obtain⟨v,h,hv⟩:=oI xZ h
   obtain⟨u,h,hu⟩:=GL hi hx l2 l1 _ (λk hk=>ff k (by simp[hk])) h
   refine⟨u,⟨?_,uz xZ hv (by rw[EF];exact Sub.refl _) (r8 (dV.put h3)) ?_⟩,?_⟩
   ·have nr:=H9 nr
    rw[pK (kL _ _)]
    exact Ia nr.1 nr.2.1 nr.2.2.2
   ·rw[St.put_comm (λk hk he=>h2 k he hk)];exact h
   ·intro s' hb ha K' hk
    refine hu s' (by rw[kL];exact hb) (λn hn=> ?_) K' hk
    rw[ha n hn]
    exact((dV.put h1) n hn).symm
theorem vY {o:AO} {e:Nat} {u:PV} {K:St->Prop} (hq:o.quiet=false) (hd:o.dst≠some e) (hr:e∉o.k.reads) (h:kG P (s.put (some e) u) o K):kG P s o λt=>K (t.put (some e) u)∧qP o.dst s t:=by
 obtain⟨dst,guard,mg,k⟩:=o
 cases k with
 |call f args=>exact EA hd hr h
 |callq f args=>simp[AO.quiet]at hq
 |
  _=>
  first
  |(simp[AO.quiet,nA]at hq;done)
  |(simp only[kG,nA,if_true]at h⊢;exact LN hd hr h)
theorem r9 {o:AO} {e:Nat} {u:PV} {K:St->Prop} (hq:o.quiet=false) (hd:o.dst≠some e) (hr:e∉o.reads) (h:im P (s.put (some e) u) o K):im P s o λt=>K (t.put (some e) u)∧qP o.dst s t:=by
 have hrk:e∉o.k.reads:=λh=>hr (by simp[AO.reads,h])
 have Ec:K ((s.put (some e) u).put o.dst .un)->K ((s.put o.dst .un).put (some e) u)∧qP o.dst s (s.put o.dst .un):=by
  intro hk
  refine⟨?_,j7 (b:=s.bx)⟩
  have:=od (s:=s) (b:=s.bx) (u:=u) (v:= .un) hd
  exact this▸hk
 have OK:∀(g:Bool) (s:St) K,ev g s o.k K->False:=by
  intro g s K h
  obtain⟨dst,guard,mg,k⟩:=o
  cases k<;>first|(simp[AO.quiet,nA]at hq;done)|(simp[ev]at h;done)
 unfold im at h⊢
 cases hg:o.guard with
 |
  none=>
  rw[hg]at h
  exact vY hq hd hrk h
 |
  some gw=>
  obtain⟨sl,want⟩:=gw
  rw[hg]at h
  have DX:get (s.put (some e) u).env sl=get s.env sl:=by
   simp only[St.put]
   rw[cH]
   rintro rfl;exact hr (by simp[AO.reads,hg])
  simp only[DX]at h⊢
  split at h
  ·split at h
   ·exact(OK _ _ _ h).elim
   ·rename_i hm
    rw[if_neg hm]
    exact⟨λe1=>vY hq hd hrk (h.1 e1),λe1=>Ec (h.2 e1)⟩
  ·split at h
   ·exact(OK _ _ _ h).elim
   ·rename_i hm
    rw[if_neg hm]
    exact⟨λe1 e2=>vY hq hd hrk (h.1 e1 e2),λe1=>Ec (h.2 e1)⟩
  ·exact h.elim
theorem EH {aos:List AO} {k:Nat} {z:PV} {i:Nat} {x:AO} (hi:aos[i]? =some x) (hx:x.gQ=some k) {l:List Nat} (fc:∀j∈l,qp aos j i=true) (h:fU aos s l=true):fU aos (qQ k z s) l=true:=by
 simp only[fU,List.all_eq_true]at h⊢
 intro j hj
 have h1:=h j hj
 have h2:=fc j hj
 unfold qp at h2
 rw[hi]at h2
 split
 ·rename_i y hy
  rw[hy]at h1 h2
  simp only at h1 h2⊢
  split
  ·rename_i b hb
   rw[hb]at h1 h2
   rw[hx]at h2
   simp only[bne_iff_ne,ne_eq]at h1 h2⊢
   simp only[qQ]
   rw[cH _ _ _ _ (λh=>h2 h.symm)]
   exact h1
  ·rfl
 ·rfl
theorem Tw {W:List Nat} {k:Nat} {z:PV} (hn:get s.bx k=none):Fr W s (qQ k z s):=by
 intro j b _ hb
 refine⟨b,?_,rfl⟩
 simp only[qQ]
 rw[cH]
 ·exact hb
 ·rintro rfl;rw[hn]at hb;simp at hb
theorem LZ {W:List Nat} {k:Nat} {z:PV} {t:St} (h:Fr W s t):Fr W (qQ k z s) (qQ k z t):=by
 intro j b hw hb
 simp only[qQ,fg]at hb⊢
 split
 ·rename_i e;rw[if_pos e]at hb;exact⟨b,hb,rfl⟩
 ·rename_i e;rw[if_neg e]at hb;exact h j b hw hb
theorem zG {aos:List AO} {fl:Nat->Bool} {W:List Nat} {K:St->Prop} {i:Nat} {x:AO} (hi:aos[i]? =some x) (hx:x.quiet=false) (l2:List Nat):∀(l1:List Nat) (s:St),
  (∀j∈l1,j9 aos fl j i=true)->(∀j∈l1++l2,qp aos j i=true)->iT P aos fl W s (l1++i::l2) K->im P s x λt=>(fl i=true->Fr W s t)∧iT P aos fl W t (l1++l2) K
 |
  [],s,_,_,h=>by
  simp only[List.nil_append,iT,hi]at h
  have h:=h.2
  unfold jv at h
  rw[if_neg (by rw[hx];simp)]at h
  exact h
 |
  j::l1,s,ff,fc,h=>by
  have hp:=ff j (by simp)
  unfold j9 at hp
  cases hy:aos[j]?with
  |none=>rw[hy]at hp;simp at hp
  |
   some y=>
   rw[hy,hi]at hp
   simp only[List.cons_append,iT,hy]at h⊢
   obtain⟨nr,h⟩:=h
   have nr:=H9 nr
   rcases Bool.or_eq_true_iff.1 hp with hp|hp
   ·simp only[aJ,hx,Bool.false_or]at hp
    obtain⟨⟨⟨xZ,Ea⟩,iG⟩,Y5⟩:=hp
    obtain⟨e,he⟩:=Option.isSome_iff_exists.1 Ea
    have h1:e∉x.reads:=by simp[AO.apart,he]at iG;exact iG.1.1
    have h2:x.dst≠some e:=by simp[AO.apart,he]at iG;exact iG.1.2
    have h3:∀d,x.dst=some d->d∉y.reads:=λd hd=>by simp[AO.apart,hd]at iG;exact iG.2
    rcases Bool.or_eq_true_iff.1 Y5 with hso|Y5
    ·obtain⟨v,h,hv⟩:=oI xZ h
     have ih:=zG hi hx l2 l1 _ (λk hk=>ff k (by simp[hk])) (λk hk=>fc k (by simp only[List.cons_append,cJ];exact .inr hk)) h
     rw[he]at ih
     refine eV (λt ht=> ?_) (r9 hx h2 h1 ih)
     obtain⟨⟨hf,hk⟩,A1⟩:=ht
     refine⟨λSH=>λk b hw hb=>hf SH k b hw hb,?_,BV (r:=sy W (fl j) s) xZ hso hv (λn hn=> ?_) (by rw[he];exact hk)⟩
     ·rw[gG,r7 hy (j8 xZ),Bool.true_and]
      have:=BT hk
      rwa [pK (kL _ _)]at this
     ·rw[zF];exact A1 n (λhd=>h3 n hd hn)
    ·obtain⟨OL,SH⟩:=Bool.and_eq_true_iff.1 Y5
     rw[OL]at h⊢
     obtain⟨v,h,hv⟩:=oI xZ h
     have ih:=zG hi hx l2 l1 _ (λk hk=>ff k (by simp[hk])) (λk hk=>fc k (by simp only[List.cons_append,cJ];exact .inr hk)) h
     rw[he]at ih
     refine eV (λt ht=> ?_) (r9 hx h2 h1 ih)
     obtain⟨⟨hf,hk⟩,A1⟩:=ht
     have hf':Fr W s t:=λk b hw hb=>hf SH k b hw hb
     refine⟨λ_=>hf',?_,uz (r:=s.less W) xZ (by simpa[sy]using hv) (by simpa[sy]using H8 hf') (λn hn=> ?_) (by rw[he];exact hk)⟩
     ·rw[gG,r7 hy (j8 xZ),Bool.true_and]
      have:=BT hk
      rwa [pK (kL _ _)]at this
     ·exact A1 n (λhd=>h3 n hd hn)
   ·simp only[aJ,Bool.not_eq_true']at hp
    obtain⟨⟨xZ,hya⟩,hp⟩:=hp
    split at hp
    case h_2=>simp at hp
    rename_i k hk
    simp only[aJ,bne_iff_ne,ne_eq,Bool.not_eq_true',List.contains_eq_mem,decide_eq_false_iff_not]at hp
    obtain⟨z,Y0,vF⟩:=ED (P:=P) hk
    have hn:get s.bx k=none:=(BU hi hk).1 nr.2.2.1
    unfold jv at h
    rw[if_neg (by rw[xZ];simp)]at h
    have h':im P s y λt=>get t.bx k=none∧(λt'=>(fl j=true->Fr W (qQ k z s) t')∧iT P aos fl W t' (l1++l2) K) (qQ k z t):=by
     refine eV (λt ht=> ?_) h
     obtain⟨hf,ht⟩:=ht
     have ih:=zG hi hx l2 l1 _ (λk hk=>ff k (by simp[hk])) (λk hk=>fc k (by simp only[List.cons_append,cJ];exact .inr hk)) ht
     obtain⟨i1,_,i3⟩:=(vF t _).1 ih
     exact⟨i1,λe=>LZ (hf e),i3⟩
    refine(vF s _).2 ⟨hn,λ_=>Tw hn,?_,?_⟩
    ·refine EH hi hk (λm hm=>fc m (by simpa using hm)) ?_
     exact Ia nr.1 nr.2.1 nr.2.2.2
    ·unfold jv
     rw[if_neg (by rw[xZ];simp)]
     exact LU hya hp.1 hp.2 hn h'
end Go.Ab
namespace Go.Ab
variable [eg]
variable {P:Program} {nt:Nat} {ds:List Deferred} {s s':St} {Γ:Cx} {a:Act} {w:World} {Q:Exit->Act->World->Prop} [iE]
def sc (ops:Array Oper):List Nat->List Nat->Bool
 |_,[]=>true
 |done,i::r=>(match ops[i]?with|some o=>(o.after.all λe=> !Region.binds .any e||done.contains e.on)|none=>false)&&sc ops (i::done) r
def qt (ms:List Nat) (aos:List AO) (fl:Nat->Bool):List Nat->Bool
 |[]=>true
 |j::r=>(r.all λi=>j !=i&&qp aos j i&&(C3 ms i j||j9 aos fl j i))&&qt ms aos fl r
def sd (ops:Array Oper) (aos:List AO) (ord us:List Nat):Bool:=
 sc ops [] ord&&qt (jn ops.toList []) aos us.contains ord&&ord.length==ops.size&&(ord.all λi=>decide (i<ops.size))&&(List.range ops.size).all λi=>ord.contains i
theorem qu {ops:Array Oper}:∀(p:List Nat) (done:List Nat) {i:Nat} {q:List Nat},sc ops done (p++i::q)=true->∀o,ops[i]? =some o->∀e∈o.after,Region.binds .any e=true->e.on∈done∨e.on∈p
 |
  [],done,i,q,h,o,ho,e,he,hb=>by
  simp only[List.nil_append,sc,ho,aJ,Array.all_eq_true_iff_forall_mem]at h
  have:=h.1 e he
  simp[hb]at this
  exact .inl this
 |
  x::p,done,i,q,h,o,ho,e,he,hb=>by
  simp only[List.cons_append,sc,aJ]at h
  rcases qu p (x::done) h.2 o ho e he hb with h1|h1
  ·rcases List.mem_cons.1 h1 with h2|h2
   ·exact .inr (by simp[h2])
   ·exact .inl h2
  ·exact .inr (by simp[h1])
theorem qv {ms:List Nat} {aos:List AO} {fl:Nat->Bool}:∀ {l:List Nat},qt ms aos fl l=true->l.Pairwise λj i=>(j≠i∧qp aos j i=true)∧(C3 ms i j=true∨j9 aos fl j i=true)
 |[],_=> .nil
 |
  j::r,h=>by
  simp only[qt,aJ,List.all_eq_true]at h
  refine .cons (λi hi=> ?_) (qv h.2)
  have:=h.1 i hi
  simpa using this
theorem mr {aos:List AO} {i j:Nat} (h:qp aos i j=true):qp aos j i=true:=by
 unfold qp at*
 cases h1:aos[i]? <;>cases h2:aos[j]? <;>simp only[h1,h2]at h⊢
 rename_i x y
 cases h3:x.gQ<;>cases h4:y.gQ<;>simp only[h3,h4,bne_iff_ne]at h⊢
 exact λe=>h e.symm
def oJ (ops:Array Oper) (ord:List Nat):Bool:=
 sc ops [] ord&&ord.length==ops.size&&(ord.all λi=>decide (i<ops.size))&&(List.range ops.size).all λi=>ord.contains i
def uB (ops:Array Oper) (aos:List AO) (fl:Nat->Bool) (j i:Nat):Prop:=(j≠i∧qp aos j i=true)∧(C3 (jn ops.toList []) i j=true∨j9 aos fl j i=true)
theorem acG {ro:Option Nat} {ops:Array Oper} {aos:List AO} {own sp:List Nat} {ord us:List Nat} {W:List Nat} (m9:∀(i:Nat) o,ops[i]? =some o->∃ao,aos[i]? =some ao∧mT P nt ops own sp true o=some ao) (dO:oJ ops ord=true) {K:St->Prop}:
  ∀
   (n:Nat) (listed:Array Bool) {s:St} {Γ:Cx} {a:Act} {w:World},listed.size=ops.size->oX ops listed->(ord.filter λi=> !listed.getD i true).Pairwise (uB ops aos us.contains)->(ord.filter λi=> !listed.getD i true).length=n->
   hU nt ds s Γ a->w.heap=Γ.heap->zh P Γ->iT P aos us.contains W s (ord.filter λi=> !listed.getD i true) K->Eo P nt ds Γ w K (Q .normal)->wpAnyIn (FW ro) 0 P .any ops Q n listed a w:=by
 simp only[oJ,aJ,List.all_eq_true,decide_eq_true_eq,List.mem_range]at dO
 obtain⟨⟨⟨hE,_⟩,fZ⟩,ff⟩:=dO
 have HT:∀listed:Array Bool,listed.size=ops.size->Region.ready .any ops listed=[]->(ord.filter λi=> !listed.getD i true)=[]:=by
  intro listed iu hr
  cases hl:ord.filter λi=> !listed.getD i true with
  |nil=>rfl
  |
   cons i l=>
   exfalso
   obtain⟨p,q,HV,hp,hi,_⟩:=List.filter_eq_cons_iff.1 hl
   have hio:i<ops.size:=fZ i (by rw[HV];simp)
   have:i∈Region.ready .any ops listed:=by
    rw[mem_ready]
    refine⟨by simpa using hi,ops[i],Array.getElem?_eq_getElem hio,λe he hb=> ?_⟩
    rw[HV]at hE
    rcases qu p [] hE _ (Array.getElem?_eq_getElem hio) e he hb with h1|h1
    ·simp at h1
    ·have h2:=hp _ h1
     have h3:e.on<listed.size:=by rw[iu];exact fZ _ (by rw[HV];simp[h1])
     simp[Array.getD_eq_getD_getElem?,Array.getElem?_eq_getElem h3]at h2⊢
     exact h2
   rw[hr]at this;simp at this
 intro n
 induction n with
 |
  zero=>
  intro listed s Γ a w iu hc _ hn hs hw hY h hk
  have hl:=List.length_eq_zero_iff.1 hn
  rw[hl]at h
  refine⟨?_,hk _ _ _ _ hs hw (Le.refl Γ) (WF.refl w) h⟩
  rw[List.eq_nil_iff_forall_not_mem]
  intro i hi
  obtain⟨h1,o,ho,_⟩:=mem_ready.1 hi
  have:i∈ord.filter λi=> !listed.getD i true:=by
   rw[List.mem_filter]
   exact⟨by simpa using ff i (Array.getElem?_eq_some_iff.1 ho).1,by rw[h1];rfl⟩
  rw[hl]at this;simp at this
 |
  succ n ih=>
  intro listed s Γ a w iu hc hPw hn hs hw hY h hk
  refine⟨λhr=> ?_,λi hi=> ?_⟩
  ·rw[HT listed iu hr]at hn;simp at hn
  ·obtain⟨Ec,o,ho,F5⟩:=mem_ready.1 hi
   have SY:=(Array.getElem?_eq_some_iff.1 ho).1
   obtain⟨ao,DY,htr⟩:=m9 i o ho
   have iZ:i∈ord.filter λi=> !listed.getD i true:=by
    rw[List.mem_filter];exact⟨by simpa using ff i SY,by rw[Ec];rfl⟩
   obtain⟨l1,l2,hl⟩:=List.append_of_mem iZ
   have PD:(l1++i::l2).Pairwise λj i=>(j≠i∧qp aos j i=true)∧(C3 (jn ops.toList []) i j=true∨j9 aos us.contains j i=true):=by rw[←hl];exact hPw
   have yM:(l1++i::l2).Nodup:=PD.imp (λh=>h.1.1)
   have qe:ord.filter (λj=> !(listed.setIfInBounds i true).getD j true)=l1++l2:=by
    have e:(λj=> !(listed.setIfInBounds i true).getD j true)=λj=>(decide (j≠i))&& !listed.getD j true:=by
     funext j
     by_cases A9:i=j
     ·subst A9;simp[Array.getD_eq_getD_getElem?,uJ (by omega:i<listed.size)]
     ·rw[getD_set_ne true A9];simp[Ne.symm A9]
    rw[e,←List.filter_filter,hl,List.filter_append,List.filter_cons]
    simp only[ne_eq,not_true,decide_false,fJ,if_false]
    have CH:=List.nodup_append.1 yM
    rw[List.filter_eq_self.2,List.filter_eq_self.2]
    ·intro x hx;simp;rintro rfl;exact(List.nodup_cons.1 CH.2.1).1 hx
    ·intro x hx;simp;rintro rfl;exact CH.2.2 x hx x (by simp) rfl
   rw[hl]at h hn
   have qU:∀j∈l1,j9 aos us.contains j i=true:=by
    intro j hj
    have h1:=(List.pairwise_append.1 PD).2.2 j hj i (by simp)
    rcases h1.2 with hb|hb
    ·exfalso
     have hjm:j∈ord.filter λi=> !listed.getD i true:=by rw[hl];simp[hj]
     obtain⟨hjo,SZ⟩:=List.mem_filter.1 hjm
     have:=vS hc (zp hb) hi
     have xX:j<listed.size:=by rw[iu];exact fZ j hjo
     simp[Array.getD_eq_getD_getElem?,Array.getElem?_eq_getElem xX]at this SZ
     rw[this]at SZ;simp at SZ
    ·exact hb
   have fc:∀j∈l1++l2,qp aos j i=true:=by
    intro j hj
    rcases List.mem_append.1 hj with hj|hj
    ·exact((List.pairwise_append.1 PD).2.2 j hj i (by simp)).1.2
    ·have h1:=(List.rel_of_pairwise_cons (List.pairwise_append.1 PD).2.1 hj).1.2
     exact mr h1
   have hf:im P s ao λt=>iT P aos us.contains W t (l1++l2) K:=by
    cases hx:ao.quiet with
    |
     true=>
     obtain⟨v,h1,h2⟩:=GL DY hx l2 l1 s qU h
     exact h2 s (Sub.refl _) (λ_ _=>rfl) _ h1
    |false=>exact eV (λt ht=>ht.2) (zG DY hx l2 l1 s qU fc h)
   refine pI ho htr hs hw hY hf ?_
   intro s' Γ' a' w' b1 b2 b3 b4 b5
   refine ih (listed.setIfInBounds i true) (by simp[iu]) ?_ (by rw[qe];exact PD.sublist (List.Sublist.append (List.Sublist.refl l1) (List.sublist_cons_self i l2))) (by rw[qe];simp at hn⊢;omega) b1 b2 (hY.le b3) (by rw[qe];exact b5) (hk.trans b3 b4)
   intro k ok ra rT e he hb
   by_cases CF:i=k
   ·subst CF;rw[ho]at ra;cases ra;exact getD_set_true (F5 e he hb)
   ·rw[getD_set_ne true CF]at rT;exact getD_set_true (hc k ok ra rT e he hb)
theorem L2 {ops:Array Oper} {aos:List AO} {ord us:List Nat} (h:sd ops aos ord us=true):oJ ops ord=true:=by
 simp only[sd,oJ,aJ]at h⊢
 exact⟨⟨⟨h.1.1.1.1,h.1.1.2⟩,h.1.2⟩,h.2⟩
theorem tn {ro:Option Nat} {ops:Array Oper} {aos:List AO} {own sp:List Nat} {ord us:List Nat} {id:Nat} (hm:P.follows .mixedOrders=true) (ht:kq P nt ops own sp true ops.toList=some aos) (dO:sd ops aos ord us=true) {K:St->Prop} (hs:hU nt ds s Γ a) (hw:w.heap=Γ.heap)
  (hY:zh P Γ) (h:∃W,iT P aos us.contains W s ord K) (hk:Eo P nt ds Γ w K (Q .normal)):(Code.region id ops true).wpIn (FW ro) 0 P Q a w:=by
 obtain⟨W,h⟩:=h
 obtain⟨h1,h2⟩:=n9 ht
 have Ta:=dO
 simp only[sd,aJ,List.all_eq_true,decide_eq_true_eq,List.mem_range,beq_iff_eq]at Ta
 have e:(ord.filter λi=> !(Array.replicate ops.size false).getD i true)=ord:=by
  rw[List.filter_eq_self]
  intro i hi
  have:=Ta.1.2 i hi
  simp[Array.getD_eq_getD_getElem?,this]
 refine wpIn_region_any hm (acG (s:=s) (Γ:=Γ) (K:=K) (W:=W) (λi o hi=>h2 i o (by simpa using hi)) (L2 dO) _ _ (by simp) ?_ (by rw[e];exact qv Ta.1.1.1.2) (by rw[e];exact Ta.1.1.2) hs hw hY (by rw[e];exact h) ?_)
 ·intro k o VC hl
  have:=(Array.getElem?_eq_some_iff.1 VC).1
  simp[Array.getD_eq_getD_getElem?,this]at hl
 ·intro s' Γ' a' w' b1 b2 b3 b4 b5
  exact hk s' Γ' a' w' b1 b2 b3 ⟨b4.os,b4.tape,b4.output⟩ b5
def L4 (ops:Array Oper) (done:List Nat) (i:Nat):Bool:= !done.contains i&&match ops[i]?with|some o=>o.after.all λe=> !Region.binds .any e||done.contains e.on|none=>false
def tp (aos:List AO) (i:Nat):Bool:=match aos[i]?with|some x=>x.quiet|none=>false
def V2 (ops:Array Oper) (aos:List AO):Nat->List Nat->List Nat
 |0,done=>done.reverse
 |
  n+1,done=>match (List.range ops.size).find? (λi=>L4 ops done i&&tp aos i)with
  |some i=>V2 ops aos n (i::done)
  |
   none=>match (List.range ops.size).find? (L4 ops done)with
   |some i=>V2 ops aos n (i::done)
   |none=>done.reverse
def soB (aos:List AO) (i:Nat):Bool:=match aos[i]?with|some x=>x.jq|none=>false
def early (ms:List Nat) (aos:List AO):List Nat->List Nat
 |[]=>[]
 |j::r=>if(tp aos j&& !soB aos j&&r.any λi=> !tp aos i&& !C3 ms i j)=true then j::early ms aos r else early ms aos r
def rr (ops:Array Oper) (aos:List AO):List Nat:=V2 ops aos ops.size []
def EI (ms:List Nat) (aos:List AO):List Nat->List Nat->List Nat
 |_,[]=>[]
 |done,i::r=>if(!tp aos i&&done.any λj=>tp aos j&& !soB aos j&& !C3 ms i j)=true then i::EI ms aos (i::done) r else EI ms aos (i::done) r
def yk (ops:Array Oper) (aos:List AO):List Nat:=early (jn ops.toList []) aos (rr ops aos)++EI (jn ops.toList []) aos [] (rr ops aos)
end Go.Ab
namespace Go.Ab
variable [eg]
variable {P:Program} {nt:Nat} {ds:List Deferred} {s:St} {Γ Γ0:Cx} {a:Act} {w w0:World}
def Cx.out (Γ:Cx) (ks:List Nat) (bf:List a9):Cx:=
 {
  heap:=Γ.heap,ι:=λk=>if KB≤k then(match ks[k-KB]?with|some j=>Γ.ι j|none=>none)else none,
  bx:=aG 0 (bf.map (a0 (aT ks))),ef:=Γ.ef}
theorem Cx.uC {ks:List Nat} {bf:List a9} (hg:getAll Γ.bx ks=some bf) {b:Nat}:(Γ.out ks bf).il b↔∃(i:Nat) (k:Nat),ks[i]? =some k∧Γ.ι k=some b:=Cx.lv (Γ:=Γ) hg
theorem Cx.EJ {ks:List Nat} {bf:List a9} (hg:getAll Γ.bx ks=some bf):rm (bg ks) (aT ks) Γ (Γ.out ks bf) where
 heap:=rfl
 own b hb hn:=by
  rintro(h|h)
  ·obtain⟨i,k,h1,h2⟩:=(Cx.uC hg).1 h
   obtain⟨_,eH⟩:=eQ hg
   obtain⟨b',g1,_⟩:=eH _ _ h1
   exact hn (.inl ⟨k,b',g1,h2⟩)
  ·exact hn (.inr h)
 ref:=(Cx.nP hg).ref
theorem Cx.Ie (hm:Mem Γ) {ks:List Nat} {bf:List a9} (hg:getAll Γ.bx ks=some bf) (hn:ks.Nodup) (dO:bf.all (af (bg ks))=true):Mem (Γ.out ks bf) where
 blk k blk hk:=by
  obtain⟨hl,eH⟩:=eQ hg
  simp only[Cx.out,fT]at hk
  split at hk
  ·rename_i hle
   rw[List.getElem?_map,mJ]at hk
   obtain⟨b0,AZ,rfl⟩:=hk
   have hi:=(List.getElem?_eq_some_iff.1 AZ).1
   obtain⟨j,hj⟩:∃j,ks[k-KB]? =some j:=⟨_,gJ (by omega)⟩
   obtain⟨b1,g1,g2⟩:=eH _ _ hj
   simp only[Nat.sub_zero]at AZ
   rw[AZ]at g2;cases g2
   have:=(hm.blk j b0 g1).aF (Cx.EJ hg) (List.all_eq_true.1 dO b0 (List.mem_of_getElem? AZ))
   have e:(Γ.out ks bf).ι k=Γ.ι j:=by simp only[Cx.out];rw[if_pos (by omega),hj]
   rw[e];exact this
  ·simp at hk
 inj:=(Cx.uf hm hg hn dO).inj
 ef:=hm.ef
 apart b h hp:=by
  obtain⟨i,k,h1,h2⟩:=(Cx.uC hg).1 h
  obtain⟨_,eH⟩:=eQ hg
  obtain⟨b',g1,_⟩:=eH _ _ h1
  exact hm.apart b ⟨k,b',g1,h2⟩ hp
 xC b cs h:=by
  obtain⟨h1,h2⟩:=hm.xC b cs h
  refine⟨λhb=>h1 ?_,h2⟩
  obtain⟨i,k,g1,g2⟩:=(Cx.uC hg).1 hb
  obtain⟨b',g3,_⟩:=(eQ hg).2 i k g1
  exact⟨k,b',g3,g2⟩
theorem Cx.L5 {ks:List Nat} {bf fp:List a9} (hle:Le Γ0 Γ) (h0:Γ0.bx=aG 0 fp) (hg:getAll Γ.bx ks=some bf) (hks:ks.take fp.length=eD fp.length):Le Γ0 (Γ.out ks bf) where
 heap:=hle.heap
 il b hb h:=by
  obtain⟨i,k,h1,h2⟩:=(Cx.uC hg).1 h
  obtain⟨_,eH⟩:=eQ hg
  obtain⟨b',g1,_⟩:=eH _ _ h1
  exact hle.il b hb ⟨k,b',g1,h2⟩
 ef:=hle.ef
 size:=hle.size
 ref k blk hk:=by
  obtain⟨cB,h1,h2,h3⟩:=hle.ref k blk hk
  rw[h0,fT]at hk
  split at hk
  ·rename_i VE
   have hi:=(List.getElem?_eq_some_iff.1 hk).1
   have e:ks[k-KB]? =some k:=by
    have:(ks.take fp.length)[k-KB]? =some k:=by
     rw[hks,eD,List.getElem?_map,List.getElem?_range (by omega)]
     simp;omega
    rw[List.getElem?_take]at this
    split at this
    ·exact this
    ·simp at this
   obtain⟨hl,eH⟩:=eQ hg
   obtain⟨b1,g1,g2⟩:=eH _ _ e
   rw[h1]at g1;cases g1
   refine⟨a0 (aT ks) cB,?_,by rw[jH];exact h2,λht=> ?_⟩
   ·simp only[Cx.out,fT]
    rw[if_pos (by omega),List.getElem?_map,show k-KB-0=k-KB by omega,g2];rfl
   ·rw[jH]at ht
    obtain⟨h4,h5⟩:=h3 ht
    exact⟨by simp only[Cx.out];rw[if_pos (by omega),e];exact h4,h5⟩
  ·simp at hk
def yl (Q:Exit->St->Prop) (K:St->Prop):Exit->St->Prop
 | .normal,s=>K s
 |e,s=>Q e s
def L6 (id:Nat) (Q:Exit->St->Prop):Exit->St->Prop
 | .exit id',s=>if id'=id then Q .normal s else Q (.exit id') s
 |e,s=>Q e s
def lift (nt:Nat) (Γ0:Cx) (w0:World) (Q:Exit->St->Prop):Exit->Act->World->Prop:=
 λe a w=>∃ds s Γ,hU nt ds s Γ a∧lx Γ0.heap.size Γ ds∧w.heap=Γ.heap∧Le Γ0 Γ∧WF w0 w∧Q e s
theorem zI {Q:Exit->St->Prop} {K:St->Prop} {e:Exit} (h:lift nt Γ0 w0 (yl Q K) e a w):Exit.then (lift nt Γ0 w0 (λ_=>K) .normal) (lift nt Γ0 w0 Q) e a w:=by
 cases e<;>exact h
theorem L7 {Q:Exit->St->Prop} {id:Nat} {e:Exit} (h:lift nt Γ0 w0 (L6 id Q) e a w):Exit.inBlock id (lift nt Γ0 w0 Q) e a w:=by
 cases e with
 |
  exit id'=>
  obtain⟨ds,s,Γ,h1,hd,h2,h3,h4,h5⟩:=h
  simp only[Exit.inBlock,L6]at h5⊢
  split at h5
  ·rename_i hid;rw[if_pos hid];exact⟨ds,s,Γ,h1,hd,h2,h3,h4,h5⟩
  ·rename_i hid;rw[if_neg hid];exact⟨ds,s,Γ,h1,hd,h2,h3,h4,h5⟩
 |_=>exact h
def Ig (P:Program) (fid:FuncId) (cap:List PV) (fp:List a9) (Y:List PV->List a9->(List a9->Prop)->Prop) (R:List a9->Prop):Prop:=
 (∀(vs:Array Value) (w:World),(callFunc fid vs).run P w= .ok (.enter fid vs) w)∧
 ∀
  (Γ:Cx) (w:World) (vs:List Value) (l:Nat) (rec:Loop),w.heap=Γ.heap->Mem Γ->Γ.bx=aG 0 fp->gK Γ cap vs->Γ.heap[l]? =some (.loop rec)->
  (∀args xB R1,Y args xB R1->Ly P l Γ args xB R1)->
  CallsIn (FW none) 0 P fid (#[.func (.yield l) #[] #[]]++vs.toArray) w (λe w'=>∃v kP Γ',e= .returned v∧R kP∧w'.heap=Γ'.heap∧Mem Γ'∧Γ'.bx=aG 0 kP∧Le Γ Γ'∧WF w w')
def acH (n:Nat) (R:List a9->Prop) (s:St):Prop:=
 ∃c:List Cut,gV c s λs'=>∃bf,getAll s'.bx (eD n)=some bf∧bf.all (af (fR n))=true∧R bf
def L8 (n:Nat) (R:List a9->Prop):Exit->St->Prop
 | .normal,s=>acH n R s
 |_,_=>False
def noQ:Exit->St->Prop:=λ_ _=>False
def vZ (ks:List Nat):List (Nat×PV)->List (Nat×PV)
 |[]=>[]
 |(n,p)::r=>(n,if ab (bg ks) p=true then aF (aT ks) p else .un)::vZ ks r
def EK:List (Nat×PV)->List Nat->List PV->List (Nat×PV)
 |e,t::ts,p::ps=>EK (put e t p) ts ps
 |e,_,_=>e
def C9 (ks:List Nat) (s:St) (ps:List Nat) (args:List PV) (fp:List a9):St:=⟨EK (vZ ks s.env) ps args,aG 0 fp⟩
def GM [iE] (P:Program) (A B:(Exit->St->Prop)->St->Prop) (s:St) (fid:FuncId) (cap:List PV) (ps:List Nat) (K:St->Prop):Prop:=
 (∀l a f r,¬iE.spec l a f r)∧∃ks bf Y R,(getAll s.bx ks=some bf∧ks.Nodup∧ae (bg ks) cap=true∧bf.all (af (bg ks))=true)∧
  Ig P fid (aK (aT ks) cap) (bf.map (a0 (aT ks))) Y R∧
  (∀args fp R1,Y args fp R1->(args.length=ps.length∧fp.length=ks.length)∧A (yl noQ λs'=>B (L8 ks.length R1) s') (C9 ks s ps args fp))∧
  ∀fp,R fp->(fp.length=ks.length∧fp.all (af (fR fp.length))=true)∧K {s with bx:=bC s.bx ks (fp.map (a0 (eO ks)))}
theorem gK.length:∀ {l:List PV} {vs:List Value},gK Γ l vs->vs.length=l.length
 |[],[],_=>rfl
 |[],_::_,h=>by simp[gK]at h
 |_::_,[],h=>by simp[gK]at h
 |_::_,_::_,h=>by simp[gK.length h.2]
theorem gK.mono {Γ':Cx} (hle:Le Γ Γ'):∀ {l:List PV} {vs:List Value},gK Γ l vs->gK Γ' l vs
 |[],[],_=>trivial
 |p::l,v::vs,h=>⟨h.1.mono hle,h.2.mono hle⟩
 |[],_::_,h=>h.elim
 |_::_,[],h=>h.elim
theorem zJ {ks:List Nat} {k:Nat}:∀ {e:List (Nat×PV)} {q:PV},get (vZ ks e) k=some q->q= .un∨∃p,get e k=some p∧ab (bg ks) p=true∧q=aF (aT ks) p
 |[],q,h=>by simp[vZ,get]at h
 |
  (n,p)::r,q,h=>by
  simp only[vZ,get]at h⊢
  split at h
  ·rename_i hn
   simp only[sJ]at h
   rw[if_pos hn]
   split at h
   ·rename_i hr;exact .inr ⟨p,rfl,hr,h.symm⟩
   ·exact .inl h.symm
  ·rename_i hn
   rw[if_neg hn]
   exact zJ h
theorem EL:∀ {ps:List Nat} {args:List PV} {vs:List Value} {env:List (Nat×PV)} {tmps:Array Value},tmps.size=nt->(∀t∈ps,t<nt)->gK Γ args vs->args.length=ps.length->
  (∀k p,get env k=some p->aN Γ p (tmps.getD k undef))->
  ((ps.zip vs).foldl (λts (x:Nat×Value)=>ts.setIfInBounds x.1 x.2) tmps).size=nt∧∀k p,get (EK env ps args) k=some p->aN Γ p (((ps.zip vs).foldl (λts (x:Nat×Value)=>ts.setIfInBounds x.1 x.2) tmps).getD k undef)
 |[],[],vs,env,tmps,h1,h2,h3,h4,h5=>by simp only[List.zip_nil_left,List.foldl_nil,EK];exact⟨h1,h5⟩
 |[],_::_,_,_,_,_,_,_,h4,_=>by simp at h4
 |_::_,[],_,_,_,_,_,_,h4,_=>by simp at h4
 |t::ps,p::args,[],env,tmps,h1,h2,h3,h4,h5=>h3.elim
 |
  t::ps,p::args,v::vs,env,tmps,h1,h2,h3,h4,h5=>by
  simp only[List.zip_cons_cons,List.foldl_cons,EK]
  refine EL (by simpa using h1) (λx hx=>h2 x (by simp[hx])) h3.2 (by simpa using h4) ?_
  intro k q hk
  rw[fg]at hk
  split at hk
  ·rename_i e;subst e
   simp only[sJ]at hk;subst hk
   rw[Array.getD_eq_getD_getElem?,uJ (by rw[h1];exact h2 _ (by simp))]
   exact h3.1
  ·rename_i fc
   rw[Array.getD_eq_getD_getElem?,Array.getElem?_setIfInBounds_ne fc,←Array.getD_eq_getD_getElem?]
   exact h5 k q hk
theorem lx.obj {B l:Nat} {o:Obj} {rec:Loop} (h:lx B Γ ds) (hl:Γ.heap[l]? =some (.loop rec)):lx B (Γ.obj l o) ds:=by
 obtain⟨Ds,h1,h2,h3⟩:=h
 refine⟨Ds,h1,h2,λD hD=>⟨(h3 D hD).1,?_⟩⟩
 have h4:=(h3 D hD).2
 have fc:D≠l:=by rintro rfl;rw[hl]at h4;simp at h4
 rw[jl fc];exact h4
theorem EM [iE] {g:Operand} {ps:Array Nat} {as bo:Code} {A B:(Exit->St->Prop)->St->Prop} {fid:FuncId} {cap:List PV} {Q:Exit->St->Prop}
  (hA:∀ {l:Nat} {Γ1:Cx} {w1:World} {Q:Exit->St->Prop} {s:St} {Γ:Cx} {a:Act} {w:World} {ds:List Deferred},HK Γ1->zh P Γ1->A Q s->hU nt ds s Γ a->lx Γ1.heap.size Γ ds->w.heap=Γ.heap->Le Γ1 Γ->WF w1 w->as.wpIn (FW (some l)) 0 P (lift nt Γ1 w1 Q) a w)
  (hB:∀ {l:Nat} {Γ1:Cx} {w1:World} {Q:Exit->St->Prop} {s:St} {Γ:Cx} {a:Act} {w:World} {ds:List Deferred},HK Γ1->zh P Γ1->B Q s->hU nt ds s Γ a->lx Γ1.heap.size Γ ds->w.heap=Γ.heap->Le Γ1 Γ->WF w1 w->bo.wpIn (FW (some l)) 0 P (lift nt Γ1 w1 Q) a w)
  (tU:∀t∈ps.toList,t<nt) (hs:hU nt ds s Γ a) (hd:lx Γ0.heap.size Γ ds) (hw:w.heap=Γ.heap) (hle:Le Γ0 Γ) (oT:WF w0 w)
  (hg:aN Γ (.fn (.func fid) [] cap) (a.eval g)) (h:GM P A B s fid cap ps.toList λs'=>Q .normal s'):
  (Code.rangeFunc g ps as bo).wpIn (FW none) 0 P (lift nt Γ0 w0 Q) a w:=by
 obtain⟨HS,ks,bf,Y,R,⟨hgk,hn,hrc,hrb⟩,⟨BA,AP⟩,Y6,hK⟩:=h
 have ali:∀Γ1,zh P Γ1:=λΓ1 l a f r vE=>absurd vE (HS l a f r)
 obtain⟨cs,VA,A8⟩:∃cs:List Value,a.eval g= .func (.func fid) #[] cs.toArray∧gK Γ cap cs:=by
  simp only[aN]at hg
  generalize a.eval g=v at hg
  cases hg with
  | @fn _ _ fs cs _ _ _ h1 h2 h3 h4 _=>cases h1;exact⟨cs,rfl,nB h2 h4⟩
 refine wpIn_rangeFunc λfn _=> ?_
 obtain⟨rec,xY⟩:∃rec:Loop,rec= {state:= .ready,pending:=none,fn,tmps:=a.tmps,params:=ps,assign:=as,body:=bo,defers:=w.heap.size}:=⟨_,rfl⟩
 have tR:rec.state= .ready:=by rw[xY]
 have alj:rec.pending=none:=by rw[xY]
 have hlb:w.heap.size=Γ.heap.size:=by rw[hw]
 obtain⟨l,hl⟩:∃l,l=w.heap.size+1:=⟨_,rfl⟩
 obtain⟨w1,wZ⟩:∃w1,w1=(w.alloc (.deferred (some []))).alloc (.loop rec):=⟨_,rfl⟩
 obtain⟨Γ1,hΓ1⟩:∃Γ1,Γ1=(Γ.push (.deferred (some []))).push (.loop rec):=⟨_,rfl⟩
 have KW:Le Γ Γ1:=by rw[hΓ1];exact(qi _ _).trans (qi _ _)
 have Pw:Mem Γ1:=by rw[hΓ1];exact mem_push (mem_push hs.mem _) _
 have Y7:Γ1.bx=s.bx:=by rw[hΓ1];exact hs.bx
 have Y8:w1.heap=Γ1.heap:=by rw[wZ,hΓ1];simp[World.alloc,Cx.push,hw]
 have tS:Γ1.heap[l]? =some (.loop rec):=by
  rw[hΓ1,hl];simp only[Cx.push]
  rw[Array.getElem?_push,if_pos (by simp[hlb])]
 have hD1:Γ1.heap[w.heap.size]? =some (.deferred (some [])):=by
  rw[hΓ1];simp only[Cx.push]
  rw[Array.getElem?_push,if_neg (by simp[hlb]),Array.getElem?_push,if_pos hlb]
 have xz:hU nt ds s Γ1 a:=⟨by rw[Y7],hs.size,hs.defers,λk p hk=>(hs.env k p hk).mono KW,Pw⟩
 have Y9:getAll Γ1.bx ks=some bf:=by rw[Y7];exact hgk
 have kX:=Cx.nP (Γ:=Γ1) Y9
 have hmc:=Cx.uf Pw Y9 hn hrb
 have Vv:(Γ1.call ks bf).heap[l]? =some (.loop rec):=tS
 have BB:gK (Γ1.call ks bf) (aK (aT ks) cap) cs:=by
  have:gK Γ1 cap cs:=A8.mono KW
  exact this.aF kX hrc
 refine⟨l,[{target:= .collected w.heap.size,args:= #[]}],w1,{target:= .fn (.func fid) cs.toArray,args:= #[.func (.yield l) #[] #[]]},w1,fid,
  #[.func (.yield l) #[] #[]]++cs.toArray,w1,?_,?_,λ_ _=>trivial,?_,λh=>by simp[Fence.wide]at h,?_⟩
 ·rw[wZ,xY,hl];exact run_enterLoop_outer _ _ _ _ _
 ·simp only[resolve,VA]
  simp[Deferred.ofValue]
  rfl
 ·simp only[invoke]
  exact BA _ _
 ·refine(AP (Γ1.call ks bf) w1 cs l rec Y8 hmc rfl BB Vv λargs fp R1 hY=> ?_).mono ?_
  ·--a round
   intro Γy wy vs hwy hmy Za VF auA hly
   obtain⟨⟨hlen,OL⟩,hAA⟩:=Y6 args fp R1 hY
   have Y4:Γy.heap[l]? =some (.loop rec):=by rw[hly];exact Vv
   have hkY:HK Γy:=by
    intro k blk hk
    rw[Za,fT]at hk
    split at hk
    ·omega
    ·simp at hk
   have Zb:vs.length=ps.toList.length:=by rw[VF.length,hlen]
   refine⟨fn,(ps.toList.zip vs).foldl (λts (x:Nat×Value)=>ts.setIfInBounds x.1 x.2) a.tmps,as,bo,?_,roundIn_of_wpIn trivial ?_⟩
   ·have:=run_yield (P:=P) (w:=wy) (l:=l) (r:=rec) (args:=vs.toArray) (by rw[hwy];exact Y4) (by rw[xY];simpa using Zb)
    rw[this,xY]
    congr 2
    rw[←Array.foldl_toList,Array.toList_zip]
   ·have vE:=EL (Γ:=Γy) (env:=vZ ks s.env) hs.size tU VF hlen (λk p hk=>by
     rcases zJ hk with rfl|⟨q,h1,h2,rfl⟩
     ·simp[aN]
     ·exact((xz.env k q h1).aF kX h2).nc auA)
    have auB:hU nt [] (C9 ks s ps.toList args fp) Γy {tmps:=(ps.toList.zip vs).foldl (λts (x:Nat×Value)=>ts.setIfInBounds x.1 x.2) a.tmps,defers:=[]}:=⟨Za,vE.1,rfl,vE.2,hmy⟩
    refine wpIn_mono (hA (l:=l) (w1:=wy) hkY (ali _) hAA auB .nil hwy (Le.refl _) (WF.refl _)) ?_
    rintro e a1 wa ⟨ds1,s1,Γa,hsa,hda,hwa,alm,auC,hBB⟩
    cases e with
    |
     normal=>
     have hla:Γa.heap[l]? =some (.loop rec):=alm.plain hmy Y4 rfl
     refine⟨_,run_beginRound (by rw[hwa];exact hla) tR,?_⟩
     obtain⟨o,ho⟩:∃o:Obj,o= .loop {rec with state:= .busy}:=⟨_,rfl⟩
     rw[←ho]
     have hoc:Tu o=false:=by rw[ho];rfl
     have hpy:Γy.iB l:=⟨_,Y4,rfl⟩
     have hpa:Γa.iB l:=⟨_,hla,rfl⟩
     have hky:HK (Γy.obj l o):=hkY
     refine wpIn_mono (hB (l:=l) (Γ1:=Γy.obj l o) (w1:=wy) hky (ali _) hBB (hsa.obj hpa) (by rw[mH];exact hda.obj hla) (ui hwa) (xc alm hmy hpy hoc) (auC.trans (WF.obj _ _ _))) ?_
     rintro e a2 wb ⟨ds2,s2,Γb,hsb,hdb,hwb,auF,auG,hq⟩
     cases e with
     |
      normal=>
      obtain⟨c,hc⟩:=hq
      obtain⟨s3,Γ3,PE,hh3,alo,Jg,F6,Zc,hR3⟩:=mq hky c hsb auF hc
      rw[←PE.bx]at F6
      have Tb:Γ3.heap[l]? =some o:=alo.plain (yg hmy hpy) (ug hpy.lt) hoc
      have auH:wb.heap[l]? =some (.loop {rec with state:= .busy}):=by rw[hwb,←hh3,Tb,ho]
      have hmo:=Cx.Ie PE.mem F6 (ny _) (by rw[oE];exact Zc)
      have HN:=Cx.L5 alo (fp:=fp) (by exact Za) F6 (by rw[OL,tJ (by simp[eD])])
      have hpo:(Γ3.out (eD ks.length) Jg).iB l:=⟨o,Tb,hoc⟩
      have auJ:=run_endRound (P:=P) (jump:=none) auH
      refine⟨_,_,auJ,Jg,(Γ3.out (eD ks.length) Jg).obj l (.loop rec),rfl,hR3,?_,yg hmo hpo,?_,?_,auG.trans (WF.obj _ _ _)⟩
      ·have e1:({({rec with state:= .busy}:Loop)with state:=if(none:Option Code).isNone=true then .ready else .done,pending:=none}:Loop)=rec:=by
        rw[xY];rfl
       rw[e1]
       exact ui (by rw[hwb,←hh3];rfl)
      ·show aG 0 (Jg.map (a0 (aT (eD ks.length))))=_
       rw[td (λ_=>oF)]
      ·have:=xc (o:= .loop rec) HN (yg hmy hpy) (BP hpy hoc) rfl
       rwa [Lx Y4]at this
     |_=>exact hq.elim
    |_=>exact hBB.elim
  ·--behind it
   rintro e w' ⟨v,kP,Γ',rfl,hR,OA,sv,OI,wY,Tc⟩
   obtain⟨⟨hlen,nr⟩,hKK⟩:=hK kP hR
   obtain⟨same2,le2,mem2⟩:=tc Pw Y9 (os:=[]) (by simpa using hn) (by simp) sv OI wY (by simpa using hlen) nr
   simp only[List.append_nil]at le2 mem2
   have rR:Γ'.heap[l]? =some (.loop rec):=wY.plain hmc Vv rfl
   have DZ:(Γ1.back Γ' ks kP).heap[l]? =some (.loop rec):=rR
   refine⟨none,w'.putObj l (.loop {rec with state:= .exhausted}),?_,?_⟩
   ·have:=run_endLoop (P:=P) (w:=w') (l:=l) (r:=rec) (by rw[OA];exact rR) (by rw[tR];simp)
    rw[this,alj]
   ·refine⟨{target:= .collected w.heap.size,args:= #[]}::ds,_,(Γ1.back Γ' ks kP).obj l (.loop {rec with state:= .exhausted}),?_,?_,ui (by exact OA),?_,?_,hKK⟩
    ·have h2:=xz.le le2 mem2 (vC:=bC s.bx ks (kP.map (a0 (eO ks)))) (by simp[Cx.back,Y7])
     have h3:=h2.obj (o:= .loop {rec with state:= .exhausted}) ⟨_,DZ,rfl⟩
     exact⟨h3.bx,h3.size,by simp[h3.defers],h3.env,h3.mem⟩
    ·refine lx.obj (rec:=rec) ?_ DZ
     obtain⟨Ds,e1,e2,e3⟩:=(hd.le hs.mem KW).le Pw le2
     refine⟨w.heap.size::Ds,by rw[e1];rfl,List.nodup_cons.2 ⟨λhm=> ?_,e2⟩,λD hD=> ?_⟩
     ·obtain⟨Ds',f1,f2,f3⟩:=hd
      have:Ds'=Ds:=by
       have:=f1.symm.trans e1
       exact(List.map_inj_right (λa b h=>by simpa using h)).1 this
      subst this
      have:=cX (f3 _ hm).2
      omega
     ·rcases List.mem_cons.1 hD with rfl|hD
      ·exact⟨by rw[hlb];exact hle.size,le2.plain Pw hD1 rfl⟩
      ·exact e3 D hD
    ·exact uh ((hle.trans KW).trans le2) (by have:=hle.size;omega) ⟨_,DZ,rfl⟩
    ·refine oT.trans (WF.trans ?_ (Tc.trans (WF.obj _ _ _)))
     rw[wZ];exact(WF.alloc _ _).trans (WF.alloc _ _)
end Go.Ab
namespace Go.Ab
variable [eg]
variable {P:Program} {nt:Nat} {ds:List Deferred} {s s':St} [iE]
def mu (P:Program) (aos:List AO) (fl:Nat->Bool) (W E:List Nat) (s:St):List Nat->(St->Prop)->Prop
 |[],K=>fU aos s E=true∧K s
 |
  i::r,K=>match aos[i]?with
  |some o=>fU aos s (i::(r++E))=true∧jv P W (fl i) s o λt=>mu P aos fl W E t r K
  |none=>False
theorem BW {aos:List AO} {fl:Nat->Bool} {W E:List Nat} {K:St->Prop}:∀ {l:List Nat} {s:St},mu P aos fl W E s l K->fU aos s (l++E)=true
 |[],s,h=>by simpa using h.1
 |
  i::r,s,h=>by
  simp only[mu]at h
  split at h
  ·simpa using h.1
  ·exact h.elim
theorem Ih {aos:List AO} {fl:Nat->Bool} {W E:List Nat} {K:St->Prop} {i:Nat} {x:AO} (hi:aos[i]? =some x) (hx:x.quiet=true) (l2:List Nat):∀(l1:List Nat) (s:St),
  (∀j∈l1,j9 aos fl j i=true)->mu P aos fl W E s (l1++i::l2) K->∃v,mu P aos fl W E (s.put x.dst v) (l1++l2) K∧Qv P s x v
 |
  [],s,_,h=>by
  simp only[List.nil_append,mu,hi]at h
  obtain⟨v,h1,h2⟩:=oI hx h.2
  exact⟨v,h1,λs' hb ha K' hk=>h2 s' (EE.trans hb) (r8 ha) K' hk⟩
 |
  j::l1,s,ff,h=>by
  have hp:=ff j (by simp)
  unfold j9 at hp
  cases hy:aos[j]?with
  |none=>rw[hy]at hp;simp at hp
  |
   some y=>
   rw[hy,hi]at hp
   simp only[j8 hx,Bool.and_false,Bool.or_false,aJ]at hp
   obtain⟨⟨⟨xZ,_⟩,iG⟩,_⟩:=hp
   have h1:∀d,y.dst=some d->d∉x.reads:=λd hd=>by simp[AO.apart,hd]at iG;exact iG.1.1
   have h2:∀d,y.dst=some d->x.dst≠some d:=λd hd=>by simp[AO.apart,hd]at iG;exact iG.1.2
   have h3:∀d,x.dst=some d->d∉y.reads:=λd hd=>by simp[AO.apart,hd]at iG;exact iG.2
   simp only[List.cons_append,mu,hy,List.append_assoc]at h⊢
   obtain⟨nr,h⟩:=h
   obtain⟨v,h,hv⟩:=oI xZ h
   obtain⟨u,h,hu⟩:=Ih hi hx l2 l1 _ (λk hk=>ff k (by simp[hk])) h
   refine⟨u,⟨?_,uz xZ hv (by rw[EF];exact Sub.refl _) (r8 (dV.put h3)) ?_⟩,?_⟩
   ·have nr:=H9 nr
    rw[pK (kL _ _)]
    exact Ia nr.1 nr.2.1 nr.2.2.2
   ·rw[St.put_comm (λk hk he=>h2 k he hk)];exact h
   ·intro s' hb ha K' hk
    refine hu s' (by rw[kL];exact hb) (λn hn=> ?_) K' hk
    rw[ha n hn]
    exact((dV.put h1) n hn).symm
theorem ym {aos:List AO} {fl:Nat->Bool} {W E:List Nat} {K:St->Prop} {i:Nat} {x:AO} (hi:aos[i]? =some x) (hx:x.quiet=false) (l2:List Nat):∀(l1:List Nat) (s:St),
  (∀j∈l1,j9 aos fl j i=true)->(∀j∈l1++(l2++E),qp aos j i=true)->mu P aos fl W E s (l1++i::l2) K->im P s x λt=>(fl i=true->Fr W s t)∧mu P aos fl W E t (l1++l2) K
 |
  [],s,_,_,h=>by
  simp only[List.nil_append,mu,hi]at h
  have h:=h.2
  unfold jv at h
  rw[if_neg (by rw[hx];simp)]at h
  exact h
 |
  j::l1,s,ff,fc,h=>by
  have hp:=ff j (by simp)
  unfold j9 at hp
  cases hy:aos[j]?with
  |none=>rw[hy]at hp;simp at hp
  |
   some y=>
   rw[hy,hi]at hp
   simp only[List.cons_append,mu,hy,List.append_assoc]at h⊢
   obtain⟨nr,h⟩:=h
   have nr:=H9 nr
   rcases Bool.or_eq_true_iff.1 hp with hp|hp
   ·simp only[aJ,hx,Bool.false_or]at hp
    obtain⟨⟨⟨xZ,Ea⟩,iG⟩,Y5⟩:=hp
    obtain⟨e,he⟩:=Option.isSome_iff_exists.1 Ea
    have h1:e∉x.reads:=by simp[AO.apart,he]at iG;exact iG.1.1
    have h2:x.dst≠some e:=by simp[AO.apart,he]at iG;exact iG.1.2
    have h3:∀d,x.dst=some d->d∉y.reads:=λd hd=>by simp[AO.apart,hd]at iG;exact iG.2
    rcases Bool.or_eq_true_iff.1 Y5 with hso|Y5
    ·obtain⟨v,h,hv⟩:=oI xZ h
     have ih:=ym hi hx l2 l1 _ (λk hk=>ff k (by simp[hk])) (λk hk=>fc k (by simp only[List.cons_append,cJ];exact .inr hk)) h
     rw[he]at ih
     refine eV (λt ht=> ?_) (r9 hx h2 h1 ih)
     obtain⟨⟨hf,hk⟩,A1⟩:=ht
     refine⟨λSH=>λk b hw hb=>hf SH k b hw hb,?_,BV (r:=sy W (fl j) s) xZ hso hv (λn hn=> ?_) (by rw[he];exact hk)⟩
     ·rw[gG,r7 hy (j8 xZ),Bool.true_and]
      have:=BW hk
      rw[pK (kL _ _),List.append_assoc]at this
      exact this
     ·rw[zF];exact A1 n (λhd=>h3 n hd hn)
    ·obtain⟨OL,SH⟩:=Bool.and_eq_true_iff.1 Y5
     rw[OL]at h⊢
     obtain⟨v,h,hv⟩:=oI xZ h
     have ih:=ym hi hx l2 l1 _ (λk hk=>ff k (by simp[hk])) (λk hk=>fc k (by simp only[List.cons_append,cJ];exact .inr hk)) h
     rw[he]at ih
     refine eV (λt ht=> ?_) (r9 hx h2 h1 ih)
     obtain⟨⟨hf,hk⟩,A1⟩:=ht
     have hf':Fr W s t:=λk b hw hb=>hf SH k b hw hb
     refine⟨λ_=>hf',?_,uz (r:=s.less W) xZ (by simpa[sy]using hv) (by simpa[sy]using H8 hf') (λn hn=> ?_) (by rw[he];exact hk)⟩
     ·rw[gG,r7 hy (j8 xZ),Bool.true_and]
      have:=BW hk
      rw[pK (kL _ _),List.append_assoc]at this
      exact this
     ·exact A1 n (λhd=>h3 n hd hn)
   ·simp only[aJ,Bool.not_eq_true']at hp
    obtain⟨⟨xZ,hya⟩,hp⟩:=hp
    split at hp
    case h_2=>simp at hp
    rename_i k hk
    simp only[aJ,bne_iff_ne,ne_eq,Bool.not_eq_true',List.contains_eq_mem,decide_eq_false_iff_not]at hp
    obtain⟨z,Y0,vF⟩:=ED (P:=P) hk
    have hn:get s.bx k=none:=(BU hi hk).1 nr.2.2.1
    unfold jv at h
    rw[if_neg (by rw[xZ];simp)]at h
    have h':im P s y λt=>get t.bx k=none∧(λt'=>(fl j=true->Fr W (qQ k z s) t')∧mu P aos fl W E t' (l1++l2) K) (qQ k z t):=by
     refine eV (λt ht=> ?_) h
     obtain⟨hf,ht⟩:=ht
     have ih:=ym hi hx l2 l1 _ (λk hk=>ff k (by simp[hk])) (λk hk=>fc k (by simp only[List.cons_append,cJ];exact .inr hk)) ht
     obtain⟨i1,_,i3⟩:=(vF t _).1 ih
     exact⟨i1,λe=>LZ (hf e),i3⟩
    refine(vF s _).2 ⟨hn,λ_=>Tw hn,?_,?_⟩
    ·refine EH hi hk (λm hm=>fc m (by simpa using hm)) ?_
     exact Ia nr.1 nr.2.1 nr.2.2.2
    ·unfold jv
     rw[if_neg (by rw[xZ];simp)]
     exact LU hya hp.1 hp.2 hn h'
theorem xk {W:List Nat} {f:Bool} {o:AO} {K K':St->Prop} (h:∀t,K t->K' t) (hk:jv P W f s o K):jv P W f s o K':=by
 unfold jv at hk⊢
 split at hk
 ·rename_i hq
  rw[if_pos hq]
  split at hk
  ·rename_i hf;rw[if_pos hf];exact eV (λt ht=>h _ ht) hk
  ·rename_i hf;rw[if_neg hf];exact eV h hk
 ·rename_i hq
  rw[if_neg hq]
  exact eV (λt ht=>⟨ht.1,h t ht.2⟩) hk
theorem GN {aos:List AO} {s:St} {p q:Nat} {l:List Nat}:fU aos s (q::p::l)=fU aos s (p::q::l):=by
 have h1:=gG (aos:=aos) (s:=s) (i:=q) (l:=p::l)
 have h2:=gG (aos:=aos) (s:=s) (i:=p) (l:=l)
 have h3:=gG (aos:=aos) (s:=s) (i:=p) (l:=q::l)
 have h4:=gG (aos:=aos) (s:=s) (i:=q) (l:=l)
 rw[h1,h2,h3,h4]
 exact Bool.and_left_comm _ _ _
theorem zL {aos:List AO} {fl:Nat->Bool} {W E E':List Nat} {K:St->Prop} (hE:∀s,fU aos s E'=fU aos s E):∀ {l:List Nat} {s:St},mu P aos fl W E s l (λt=>iT P aos fl W t E' K)->iT P aos fl W s (l++E') K
 |[],s,h=>h.2
 |
  i::r,s,h=>by
  simp only[mu]at h
  simp only[List.cons_append,iT]
  cases ho:aos[i]?with
  |none=>rw[ho]at h;exact h.elim
  |
   some o=>
   rw[ho]at h
   simp only at h⊢
   refine⟨?_,xk (λt ht=>zL hE ht) h.2⟩
   have:=h.1
   rw[gG,vX]at this⊢
   rw[hE];exact this
end Go.Ab
namespace Go.Ab
variable [eg]
variable {P:Program} {nt:Nat} {ds:List Deferred} {s s':St} {Γ:Cx} {a:Act} {w:World} {Q:Exit->Act->World->Prop} [iE]
theorem EN {listed:Array Bool} {ord l1 l2:List Nat} {i:Nat} (hi:i<listed.size) (hl:(ord.filter λi=> !listed.getD i true)=l1++i::l2) (yM:(l1++i::l2).Nodup):ord.filter (λj=> !(listed.setIfInBounds i true).getD j true)=l1++l2:=by
 have e:(λj=> !(listed.setIfInBounds i true).getD j true)=λj=>(decide (j≠i))&& !listed.getD j true:=by
  funext j
  by_cases A9:i=j
  ·subst A9;simp[Array.getD_eq_getD_getElem?,uJ hi]
  ·rw[getD_set_ne true A9];simp[Ne.symm A9]
 rw[e,←List.filter_filter,hl,List.filter_append,List.filter_cons]
 simp only[ne_eq,not_true,decide_false,fJ,if_false]
 have CH:=List.nodup_append.1 yM
 rw[List.filter_eq_self.2,List.filter_eq_self.2]
 ·intro x hx;simp;rintro rfl;exact(List.nodup_cons.1 CH.2.1).1 hx
 ·intro x hx;simp;rintro rfl;exact CH.2.2 x hx x (by simp) rfl
theorem V3 {aos:List AO} {us:List Nat} {W:List Nat} {i:Nat} {ao:AO} {l1 l2:List Nat} {K:St->Prop} (DY:aos[i]? =some ao) (qU:∀j∈l1,j9 aos us.contains j i=true) (fc:∀j∈l1++l2,qp aos j i=true)
  (h:iT P aos us.contains W s (l1++i::l2) K):im P s ao λt=>iT P aos us.contains W t (l1++l2) K:=by
 cases hx:ao.quiet with
 |
  true=>
  obtain⟨v,h1,h2⟩:=GL DY hx l2 l1 s qU h
  exact h2 s (Sub.refl _) (λ_ _=>rfl) _ h1
 |false=>exact eV (λt ht=>ht.2) (zG DY hx l2 l1 s qU fc h)
theorem P5 {aos:List AO} {us:List Nat} {W E:List Nat} {i:Nat} {ao:AO} {l1 l2:List Nat} {K:St->Prop} (DY:aos[i]? =some ao) (qU:∀j∈l1,j9 aos us.contains j i=true) (fc:∀j∈l1++(l2++E),qp aos j i=true)
  (h:mu P aos us.contains W E s (l1++i::l2) K):im P s ao λt=>mu P aos us.contains W E t (l1++l2) K:=by
 cases hx:ao.quiet with
 |
  true=>
  obtain⟨v,h1,h2⟩:=Ih DY hx l2 l1 s qU h
  exact h2 s (Sub.refl _) (λ_ _=>rfl) _ h1
 |false=>exact eV (λt ht=>ht.2) (ym DY hx l2 l1 s qU fc h)
theorem GO {ops:Array Oper} {listed:Array Bool} {i:Nat} {o:Oper} (hc:oX ops listed) (ho:ops[i]? =some o) (F5:∀e∈o.after,Region.binds .any e=true->listed.getD e.on false=true):oX ops (listed.setIfInBounds i true):=by
 intro k ok ra rT e he hb
 by_cases CF:i=k
 ·subst CF;rw[ho]at ra;cases ra;exact getD_set_true (F5 e he hb)
 ·rw[getD_set_ne true CF]at rT;exact getD_set_true (hc k ok ra rT e he hb)
theorem P6 {ops:Array Oper} {listed:Array Bool} {i j:Nat} (iu:listed.size=ops.size) (hc:oX ops listed) (hi:i∈Region.ready .any ops listed) (hj:j<ops.size) (hb:C3 (jn ops.toList []) i j=true) (SZ:(!listed.getD j true)=true):False:=by
 have:=vS hc (zp hb) hi
 have xX:j<listed.size:=by rw[iu];exact hj
 simp[Array.getD_eq_getD_getElem?,Array.getElem?_eq_getElem xX]at this SZ
 rw[this]at SZ;simp at SZ
theorem Ii {ops:Array Oper} {ord:List Nat} (h:oJ ops ord=true):(∀i∈ord,i<ops.size)∧∀i,i<ops.size->i∈ord:=by
 simp only[oJ,aJ,List.all_eq_true,decide_eq_true_eq,List.mem_range]at h
 exact⟨h.1.2,λi hi=>by simpa using h.2 i hi⟩
theorem GP {ops:Array Oper} {ord:List Nat} (dO:oJ ops ord=true):∀listed:Array Bool,listed.size=ops.size->Region.ready .any ops listed=[]->(ord.filter λi=> !listed.getD i true)=[]:=by
 simp only[oJ,aJ,List.all_eq_true,decide_eq_true_eq,List.mem_range]at dO
 obtain⟨⟨⟨hE,_⟩,fZ⟩,ff⟩:=dO
 intro listed iu hr
 cases hl:ord.filter λi=> !listed.getD i true with
 |nil=>rfl
 |
  cons i l=>
  exfalso
  obtain⟨p,q,HV,hp,hi,_⟩:=List.filter_eq_cons_iff.1 hl
  have hio:i<ops.size:=fZ i (by rw[HV];simp)
  have:i∈Region.ready .any ops listed:=by
   rw[mem_ready]
   refine⟨by simpa using hi,ops[i],Array.getElem?_eq_getElem hio,λe he hb=> ?_⟩
   rw[HV]at hE
   rcases qu p [] hE _ (Array.getElem?_eq_getElem hio) e he hb with h1|h1
   ·simp at h1
   ·have h2:=hp _ h1
    have h3:e.on<listed.size:=by rw[iu];exact fZ _ (by rw[HV];simp[h1])
    simp[Array.getD_eq_getD_getElem?,Array.getElem?_eq_getElem h3]at h2⊢
    exact h2
  rw[hr]at this;simp at this
theorem uD {aos:List AO} {fl:Nat->Bool} {W E:List Nat}:∀ {l:List Nat} {s:St} {K K':St->Prop},(∀p,K p->K' p)->mu P aos fl W E s l K->mu P aos fl W E s l K'
 |[],s,K,K',h,hk=>⟨hk.1,h _ hk.2⟩
 |
  i::l,s,K,K',h,hk=>by
  simp only[mu]at hk⊢
  split at hk
  ·exact⟨hk.1,xk (λt ht=>uD h ht) hk.2⟩
  ·exact hk.elim
theorem GQ {l m:List Nat} {p q:Nat} (h:(l++p::q::m).Nodup):(l++q::p::m).Nodup:=by
 refine(List.Perm.nodup_iff (List.Perm.append_left l (List.Perm.swap q p m))).1 h
theorem BX {ops:Array Oper} {aos:List AO} {fl:Nat->Bool} {l:List Nat} (h:qt (jn ops.toList []) aos fl l=true):l.Pairwise (uB ops aos fl):=qv h
def yn (ops:Array Oper) (aos:List AO) (pre:List Nat) (p q:Nat) (suf us:List Nat):Bool:=
 oJ ops (pre++p::q::suf)&&oJ ops (pre++q::p::suf)&&qt (jn ops.toList []) aos us.contains (pre++p::suf)&&qt (jn ops.toList []) aos us.contains (pre++q::suf)&&p !=q&&qp aos p q&&suf.all λi=>C3 (jn ops.toList []) i p||C3 (jn ops.toList []) i q
theorem acI {ro:Option Nat} {ops:Array Oper} {aos:List AO} {own sp:List Nat} {pre suf us:List Nat} {p q:Nat} {W:List Nat} (m9:∀(i:Nat) o,ops[i]? =some o->∃ao,aos[i]? =some ao∧mT P nt ops own sp true o=some ao)
  (Zd:oJ ops (pre++p::q::suf)=true) (ra:oJ ops (pre++q::p::suf)=true) (wZ:(pre++p::suf).Pairwise (uB ops aos us.contains)) (tV:(pre++q::suf).Pairwise (uB ops aos us.contains)) (KX:p≠q) (vF:qp aos p q=true) (Td:∀i∈suf,C3 (jn ops.toList []) i p=true∨C3 (jn ops.toList []) i q=true) {K:St->Prop}:
  ∀
   (n:Nat) (listed:Array Bool) {s:St} {Γ:Cx} {a:Act} {w:World},listed.size=ops.size->oX ops listed->(∀i∈p::q::suf,(!listed.getD i true)=true)->(pre.filter λi=> !listed.getD i true).length=n->
   hU nt ds s Γ a->w.heap=Γ.heap->zh P Γ->mu P aos us.contains W (p::q::suf) s (pre.filter λi=> !listed.getD i true) (λt=>iT P aos us.contains W t (p::q::suf) K∧iT P aos us.contains W t (q::p::suf) K)->Eo P nt ds Γ w K (Q .normal)->wpAnyIn (FW ro) 0 P .any ops Q (n+(suf.length+1+1)) listed a w:=by
 obtain⟨fZ,ff⟩:=Ii Zd
 have alp:(pre++p::q::suf).Nodup:=by
  have a1:=wZ.imp (λh=>h.1.1)
  have a2:=tV.imp (λh=>h.1.1)
  obtain⟨b1,b2,b3⟩:=List.pairwise_append.1 a1
  obtain⟨c1,c2,c3⟩:=List.pairwise_append.1 a2
  refine List.pairwise_append.2 ⟨b1,.cons (λx hx=> ?_) c2,λx hx y hy=> ?_⟩
  ·rcases List.mem_cons.1 hx with rfl|hx
   ·exact KX
   ·exact List.rel_of_pairwise_cons b2 hx
  ·rcases List.mem_cons.1 hy with rfl|hy
   ·exact b3 x hx _ (by simp)
   ·exact c3 x hx y hy
 --what is not listed yet,in both orders
 have hE1:∀listed:Array Bool,(∀i∈p::q::suf,(!listed.getD i true)=true)->((pre++p::q::suf).filter λi=> !listed.getD i true)=(pre.filter λi=> !listed.getD i true)++p::q::suf:=by
  intro listed h
  rw[List.filter_append]
  congr 1
  rw[List.filter_eq_self];exact h
 have hE2:∀listed:Array Bool,(∀i∈p::q::suf,(!listed.getD i true)=true)->((pre++q::p::suf).filter λi=> !listed.getD i true)=(pre.filter λi=> !listed.getD i true)++q::p::suf:=by
  intro listed h
  rw[List.filter_append]
  congr 1
  rw[List.filter_eq_self];intro i hi;exact h i (by simp at hi⊢;rcases hi with h|h|h<;>simp[h])
 --one step
 have stepP:∀ {n:Nat},(∀m,m+1=n->∀(listed:Array Bool) {s:St} {Γ:Cx} {a:Act} {w:World},listed.size=ops.size->oX ops listed->(∀i∈p::q::suf,(!listed.getD i true)=true)->(pre.filter λi=> !listed.getD i true).length=m->
   hU nt ds s Γ a->w.heap=Γ.heap->zh P Γ->mu P aos us.contains W (p::q::suf) s (pre.filter λi=> !listed.getD i true) (λt=>iT P aos us.contains W t (p::q::suf) K∧iT P aos us.contains W t (q::p::suf) K)->Eo P nt ds Γ w K (Q .normal)->wpAnyIn (FW ro) 0 P .any ops Q (m+(suf.length+1+1)) listed a w)->
  ∀
   {listed:Array Bool} {s:St} {Γ:Cx} {a:Act} {w:World},listed.size=ops.size->oX ops listed->(∀i∈p::q::suf,(!listed.getD i true)=true)->(pre.filter λi=> !listed.getD i true).length=n->
   hU nt ds s Γ a->w.heap=Γ.heap->zh P Γ->mu P aos us.contains W (p::q::suf) s (pre.filter λi=> !listed.getD i true) (λt=>iT P aos us.contains W t (p::q::suf) K∧iT P aos us.contains W t (q::p::suf) K)->Eo P nt ds Γ w K (Q .normal)->wpAnyIn (FW ro) 0 P .any ops Q (n+(suf.length+1+1)) listed a w:=by
  intro n IH listed s Γ a w iu hc hu hn hs hw hY h hk
  refine⟨λhr=> ?_,λi hi=> ?_⟩
  ·exfalso
   have:=GP Zd listed iu hr
   rw[hE1 listed hu]at this;simp at this
  ·obtain⟨Ec,o,ho,F5⟩:=mem_ready.1 hi
   have SY:=(Array.getElem?_eq_some_iff.1 ho).1
   have VG:i<listed.size:=by rw[iu];exact SY
   obtain⟨ao,DY,htr⟩:=m9 i o ho
   have tS:=hE1 listed hu
   have DZ:=hE2 listed hu
   have alr:=GO hc ho F5
   have als:(listed.setIfInBounds i true).size=ops.size:=by simp[iu]
   have hFs:(pre.filter λi=> !listed.getD i true).Sublist pre:=List.filter_sublist
   have hFu:∀j∈(pre.filter λi=> !listed.getD i true),(!listed.getD j true)=true:=λj hj=>(List.mem_filter.1 hj).2
   have Ze:((pre.filter λi=> !listed.getD i true)++p::q::suf).Nodup:=by rw[←tS];exact alp.sublist List.filter_sublist
   have tR:∀j,j∈pre++p::q::suf->(!listed.getD j true)=true->C3 (jn ops.toList []) i j=true->False:=λj hj SZ hb=>P6 iu hc hi (fZ j hj) hb SZ
   have iZ:i∈(pre.filter λi=> !listed.getD i true)++p::q::suf:=by
    rw[←tS,List.mem_filter];exact⟨ff i SY,by rw[Ec];rfl⟩
   have hpF:∀ {j x:Nat} {r:List Nat},j∈(pre.filter λi=> !listed.getD i true)->(pre++x::r).Pairwise (uB ops aos us.contains)->uB ops aos us.contains j x:=λhj hp=>(List.pairwise_append.1 hp).2.2 _ (hFs.subset hj) _ (by simp)
   --p or q:what comes then stands in one order
   have alu:∀(q':Nat),oJ ops (pre++i::q'::suf)=true->((pre++i::q'::suf).filter λi=> !listed.getD i true)=(pre.filter λi=> !listed.getD i true)++i::q'::suf->(pre++i::suf).Pairwise (uB ops aos us.contains)->(pre++q'::suf).Pairwise (uB ops aos us.contains)->qp aos q' i=true->((pre.filter λi=> !listed.getD i true)++i::q'::suf).Nodup->
     iT P aos us.contains W s ((pre.filter λi=> !listed.getD i true)++i::q'::suf) K->wpOpIn (FW ro) 0 P ops Q i (wpAnyIn (FW ro) 0 P .any ops Q (n+(suf.length+1)) (listed.setIfInBounds i true)) a w:=by
    intro q' ok OL KY auK Te yM h
    have qe:=EN VG OL yM
    have qU:∀j∈(pre.filter λi=> !listed.getD i true),j9 aos us.contains j i=true:=by
     intro j hj
     rcases(hpF hj KY).2 with hb|hb
     ·exact(tR j (List.mem_append_left _ (hFs.subset hj)) (hFu j hj) hb).elim
     ·exact hb
    have fc:∀j∈(pre.filter λi=> !listed.getD i true)++(q'::suf),qp aos j i=true:=by
     intro j hj
     rcases List.mem_append.1 hj with hj|hj
     ·exact(hpF hj KY).1.2
     ·rcases List.mem_cons.1 hj with rfl|hj
      ·exact Te
      ·exact mr (List.rel_of_pairwise_cons (List.pairwise_append.1 KY).2.1 hj).1.2
    refine pI ho htr hs hw hY (V3 DY qU fc h) ?_
    intro s' Γ' a' w' b1 b2 b3 b4 b5
    refine acG (W:=W) (us:=us) m9 ok (n+(suf.length+1)) (listed.setIfInBounds i true) als alr ?_ ?_ b1 b2 (hY.le b3) ?_ (hk.trans b3 b4)
    ·rw[qe];exact auK.sublist (List.Sublist.append hFs (List.Sublist.refl _))
    ·rw[qe,List.length_append,hn];rfl
    ·rw[qe];exact b5
   rcases List.mem_append.1 iZ with hiF|hiE
   ·--one of those ahead of both
    obtain⟨l1,l2,hl⟩:=List.append_of_mem hiF
    have yM:(l1++i::l2).Nodup:=by rw[←hl];exact(List.nodup_append.1 Ze).1
    have qe:=EN VG hl yM
    have PD:(pre.filter λi=> !listed.getD i true).Pairwise (uB ops aos us.contains):=(List.pairwise_append.1 wZ).1.sublist hFs
    rw[hl]at PD
    have qU:∀j∈l1,j9 aos us.contains j i=true:=by
     intro j hj
     have hjF:j∈pre.filter λi=> !listed.getD i true:=by rw[hl];simp[hj]
     rcases((List.pairwise_append.1 PD).2.2 j hj i (by simp)).2 with hb|hb
     ·exact(tR j (List.mem_append_left _ (hFs.subset hjF)) (hFu j hjF) hb).elim
     ·exact hb
    have fc:∀j∈l1++(l2++p::q::suf),qp aos j i=true:=by
     intro j hj
     rcases List.mem_append.1 hj with hj|hj
     ·exact((List.pairwise_append.1 PD).2.2 j hj i (by simp)).1.2
     ·rcases List.mem_append.1 hj with hj|hj
      ·exact mr (List.rel_of_pairwise_cons (List.pairwise_append.1 PD).2.1 hj).1.2
      ·rcases List.mem_cons.1 hj with rfl|hj
       ·exact mr (hpF hiF wZ).1.2
       ·rcases List.mem_cons.1 hj with rfl|hj
        ·exact mr (hpF hiF tV).1.2
        ·exact mr ((List.pairwise_append.1 wZ).2.2 _ (hFs.subset hiF) _ (by simp[hj])).1.2
    rw[hl]at h hn
    refine pI ho htr hs hw hY (P5 DY qU fc h) ?_
    intro s' Γ' a' w' b1 b2 b3 b4 b5
    have hf:n+(suf.length+1)=(l1++l2).length+(suf.length+1+1):=by simp at hn⊢;omega
    change wpAnyIn (FW ro) 0 P .any ops Q (n+(suf.length+1)) _ _ _
    rw[hf]
    refine IH (l1++l2).length (by simp at hn⊢;omega) (listed.setIfInBounds i true) als alr ?_ (by rw[qe]) b1 b2 (hY.le b3) (by rw[qe];exact b5) (hk.trans b3 b4)
    intro j hj
    have A9:i≠j:=by
     rintro rfl
     exact(List.nodup_append.1 Ze).2.2 _ hiF _ hj rfl
    rw[getD_set_ne true A9];exact hu j hj
   ·rcases List.mem_cons.1 hiE with rfl|hiE
    ·refine alu q Zd tS wZ tV (mr vF) Ze ?_
     exact zL (λ_=>rfl) (uD (λt ht=>ht.1) h)
    ·rcases List.mem_cons.1 hiE with rfl|hiE
     ·refine alu p ra DZ tV wZ vF (by rw[←DZ];exact(List.Nodup.sublist List.filter_sublist (GQ alp))) ?_
      exact zL (λ_=>GN) (uD (λt ht=>ht.2) h)
     ·exfalso
      rcases Td i hiE with hb|hb
      ·exact tR p (by simp) (hu p (by simp)) hb
      ·exact tR q (by simp) (hu q (by simp)) hb
 intro n
 induction n with
 |
  zero=>
  intro listed s Γ a w iu hc hu hn hs hw hY h hk
  exact stepP (λ_ OD=>absurd OD (by omega)) iu hc hu hn hs hw hY h hk
 |
  succ n ih=>
  intro listed s Γ a w iu hc hu hn hs hw hY h hk
  exact stepP (λm hm=>by
                obtain rfl:m=n:=by omega
                exact ih) iu hc hu hn hs hw hY h hk
theorem tq {ro:Option Nat} {ops:Array Oper} {aos:List AO} {own sp:List Nat} {pre suf us:List Nat} {p q:Nat} {id:Nat} (hm:P.follows .mixedOrders=true) (ht:kq P nt ops own sp true ops.toList=some aos) (dO:yn ops aos pre p q suf us=true) {K:St->Prop} (hs:hU nt ds s Γ a) (hw:w.heap=Γ.heap)
  (hY:zh P Γ) (h:∃W,mu P aos us.contains W (p::q::suf) s pre (λt=>iT P aos us.contains W t (p::q::suf) K∧iT P aos us.contains W t (q::p::suf) K)) (hk:Eo P nt ds Γ w K (Q .normal)):(Code.region id ops true).wpIn (FW ro) 0 P Q a w:=by
 obtain⟨W,h⟩:=h
 obtain⟨h1,h2⟩:=n9 ht
 simp only[yn,aJ,bne_iff_ne,ne_eq,List.all_eq_true,Bool.or_eq_true]at dO
 obtain⟨⟨⟨⟨⟨⟨k1,k2⟩,k3⟩,k4⟩,k5⟩,k6⟩,k7⟩:=dO
 obtain⟨fZ,ff⟩:=Ii k1
 have hg:∀i∈pre++p::q::suf,(!(Array.replicate ops.size false).getD i true)=true:=by
  intro i hi
  have:=fZ i hi
  simp[Array.getD_eq_getD_getElem?,this]
 have e:(pre.filter λi=> !(Array.replicate ops.size false).getD i true)=pre:=by
  rw[List.filter_eq_self]
  intro i hi
  exact hg i (by simp[hi])
 have hlen:ops.size=pre.length+(suf.length+1+1):=by
  simp only[oJ,aJ,beq_iff_eq]at k1
  have:=k1.1.1.2
  simp at this;omega
 have VH:=acI (P:=P) (nt:=nt) (ds:=ds) (ro:=ro) (Q:=Q) (s:=s) (Γ:=Γ) (a:=a) (w:= {w with drawn:=w.drawn+1}) (K:=K) (W:=W) (λi o hi=>h2 i o (by simpa using hi)) k1 k2 (BX k3) (BX k4) k5 k6 k7 pre.length (Array.replicate ops.size false) (by simp) ?_ (λi hi=>hg i (List.mem_append_right _ hi)) (by rw[e]) hs hw hY (by rw[e];exact h) ?_
 ·rw[←hlen]at VH
  exact wpIn_region_any hm VH
 ·intro k o VC hl
  have:=(Array.getElem?_eq_some_iff.1 VC).1
  simp[Array.getD_eq_getD_getElem?,this]at hl
 ·intro s' Γ' a' w' b1 b2 b3 b4 b5
  exact hk s' Γ' a' w' b1 b2 b3 ⟨b4.os,b4.tape,b4.output⟩ b5
def BY (ops:Array Oper) (aos:List AO) (p q:Nat):List Nat:=(rr ops aos).filter λi=> !(i==p||i==q||C3 (jn ops.toList []) i p||C3 (jn ops.toList []) i q)
def BZ (ops:Array Oper) (aos:List AO) (p q:Nat):List Nat:=(rr ops aos).filter λi=> !(i==p||i==q)&&(C3 (jn ops.toList []) i p||C3 (jn ops.toList []) i q)
def Da (ops:Array Oper) (aos:List AO) (p q:Nat):List Nat:=
 let l:=BY ops aos p q++p::BZ ops aos p q
 let m:=BY ops aos p q++q::BZ ops aos p q
 early (jn ops.toList []) aos l++EI (jn ops.toList []) aos [] l++early (jn ops.toList []) aos m++EI (jn ops.toList []) aos [] m
def acJ (own:List Nat):Option (Nat×Nat):=match own.find? (λn=>decide (1000000≤n))with|some n=>some ((n-1000000)/1000,(n-1000000)%1000)|none=>none
def acK (own:List Nat) (aos:List AO):Option (Nat×Nat):=match acJ own with|some (p,q)=>if(tp aos p&& !soB aos p&& !tp aos q)=true then some (p,q)else none|none=>none
end Go.Ab
namespace Go.Ab
variable [eg]
variable {P:Program} {nt:Nat} {ds:List Deferred} {s:St} {Γ Δ Γ0:Cx} {a:Act} {w w0:World} [iE]
inductive cU
 |skip
 |region (l:List AO)
 |regionD (l:List AO) (ord us:List Nat)
 |regionE (l:List AO) (pre:List Nat) (p q:Nat) (suf us:List Nat)
 |seq (x y:cU)
 |cond (c:AX) (x y:cU)
 |block (id:Nat) (x:cU)
 |loop (x:cU)
 |exit (id:Nat)
 |ret
 |seqm (x y:cU)
 |rangeF (g:AX) (ps:List Nat) (x y:cU)
def erase:cU->cU
 | .seq x y| .seqm x y=> .seq (erase x) (erase y)
 | .cond c x y=> .cond c (erase x) (erase y)
 | .block id x=> .block id (erase x)
 | .loop x=> .loop (erase x)
 | .skip=> .skip
 | .region l=> .region l
 | .regionD l o u=> .regionD l o u
 | .regionE l a p q b u=> .regionE l a p q b u
 | .exit id=> .exit id
 | .ret=> .ret
 | .rangeF g ps x y=> .rangeF g ps (erase x) (erase y)
def qw:cU->Bool
 | .seq x y| .seqm x y| .cond _ x y=>qw x&&qw y
 | .block _ x| .loop x=>qw x
 | .rangeF .. =>false
 |_=>true
theorem qx:∀c:cU,qw (erase c)=qw c
 | .seq x y| .seqm x y| .cond _ x y=>by simp[erase,qw,qx x,qx y]
 | .block _ x| .loop x=>by simp[erase,qw,qx x]
 | .rangeF .. | .skip| .region _| .regionD .. | .regionE .. | .exit _| .ret=>by simp[erase,qw]
noncomputable def eW (P:Program) (nt:Nat) (own sp:List Nat):Code->Option cU
 | .skip=>some .skip
 | .region _ ops false=>match kq P nt ops own sp false ops.toList with|some l=>some (.region l)|none=>none
 | .region _ ops true=>match kq P nt ops own sp true ops.toList with|some l=>if P.follows .mixedOrders=true then(if zq ops l=true then some (.region l)else match acK own l with|some (p,q)=>(if yn ops l (BY ops l p q) p q (BZ ops l p q) (Da ops l p q)=true then some (.regionE l (BY ops l p q) p q (BZ ops l p q) (Da ops l p q))else none)|none=>if sd ops l (rr ops l) (yk ops l)=true then some (.regionD l (rr ops l) (yk ops l))else none)else none|none=>none
 | .seq x y=>match eW P nt own sp x,eW P nt own sp y with|some x,some y=>some (.seq x y)|_,_=>none
 | .cond c x y=>match gq c,eW P nt own sp x,eW P nt own sp y with|some c,some x,some y=>some (.cond c x y)|_,_,_=>none
 | .block id x=>match eW P nt own sp x with|some x=>some (.block id x)|none=>none
 | .loop x=>match eW P nt own sp x with|some x=>some (.loop x)|none=>none
 | .exit id=>some (.exit id)
 | .ret=>some .ret
 |
  .rangeFunc g ps x y=>match gq g,eW P nt own sp x,eW P nt own sp y with
  |some g,some x,some y=>if(ps.toList.all (λt=>decide (t<nt))&&qw x&&qw y)=true then some (.rangeF g ps.toList x y)else none
  |_,_,_=>none
 |_=>none
theorem B0 (own sp:List Nat):∀(c:Code) {ac:cU},eW P nt own sp c=some ac->erase ac=ac:=by
 intro c
 induction c with
 |
  seq x y ihx ihy=>
  intro ac h
  simp only[eW]at h
  split at h<;>simp only[sJ,reduceCtorEq]at h
  subst h
  rename_i hx hy
  simp only[erase,ihx hx,ihy hy]
 |
  cond c x y ihx ihy=>
  intro ac h
  simp only[eW]at h
  split at h<;>simp only[sJ,reduceCtorEq]at h
  subst h
  rename_i hx hy
  simp only[erase,ihx hx,ihy hy]
 |
  block id x ih=>
  intro ac h
  simp only[eW]at h
  split at h<;>simp only[sJ,reduceCtorEq]at h
  subst h
  rename_i hx
  simp only[erase,ih hx]
 |
  loop x ih=>
  intro ac h
  simp only[eW]at h
  split at h<;>simp only[sJ,reduceCtorEq]at h
  subst h
  rename_i hx
  simp only[erase,ih hx]
 |
  rangeFunc g ps x y ihx ihy=>
  intro ac h
  simp only[eW]at h
  split at h
  ·split at h<;>simp only[sJ,reduceCtorEq]at h
   subst h
   rename_i hx hy _
   simp only[erase,ihx hx,ihy hy]
  ·simp at h
 |
  region id ops d=>
  intro ac h
  cases d<;>simp only[eW]at h<;>(repeat' split at h)<;>simp only[sJ,reduceCtorEq]at h<;>subst h<;>rfl
 |_=>intro ac h;simp only[eW,sJ,reduceCtorEq]at h;try (subst h;rfl)
structure LkF where
 f:cU->cU
 h:∀c,f c=c
theorem L9:Nonempty LkF:=⟨⟨id,λ_=>rfl⟩⟩
noncomputable abbrev lk:cU->cU:=(Classical.choice L9).f
theorem P7 (c:cU):lk c=c:=(Classical.choice L9).h c
def Ij:cU->Bool
 | .loop _| .rangeF .. =>true
 | .seq x y| .cond _ x y=>Ij x||Ij y
 | .block _ x=>Ij x
 |_=>false
def V4:cU->Bool
 | .skip| .exit _| .ret=>true
 | .seq x y=>V4 x&&V4 y
 |_=>false
noncomputable def Gb:cU->cU
 | .seq x y=> .seq (Gb x) (bif Ij x&& !V4 y then lk (Gb y)else Gb y)
 | .cond c x y=> .cond c (Gb x) (Gb y)
 | .block id x=> .block id (Gb x)
 | .loop x=> .loop (lk (Gb x))
 | .rangeF g ps x y=> .rangeF g ps (Gb x) (lk (Gb y))
 | .skip=> .skip
 | .region l=> .region l
 | .regionD l o u=> .regionD l o u
 | .regionE l a p q b u=> .regionE l a p q b u
 | .exit id=> .exit id
 | .ret=> .ret
 | .seqm x y=> .seqm x y
theorem qy:∀c,Gb c=c
 | .seq x y=>by simp only[Gb,qy x,qy y,P7,Bool.cond_self]
 | .cond _ x y=>by simp only[Gb,qy x,qy y]
 | .block _ x=>by simp only[Gb,qy x]
 | .loop x=>by simp only[Gb,qy x,P7]
 | .rangeF _ _ x y=>by simp only[Gb,qy x,qy y,P7]
 | .skip| .region _| .regionD .. | .regionE .. | .exit _| .ret| .seqm .. =>rfl
def Lp (body:(Exit->St->Prop)->St->Prop) (Q:Exit->St->Prop) (s:St):Prop:=
 ∃(I:Nat->St->Prop) (c:List Cut),(gV c s λs'=>∃n,I n s')∧∀n s,I n s->body (yl Q λs'=>∃c':List Cut,gV c' s' λs'=>∃m,m<n∧I m s') s
def Md (x y:(Exit->St->Prop)->St->Prop) (Q:Exit->St->Prop) (s:St):Prop:=
 ∃M:St->Prop,x (yl Q λs'=>∃c:List Cut,gV c s' M) s∧∀s',M s'->y Q s'
def aw (P:Program):cU->(Exit->St->Prop)->St->Prop
 | .skip,Q,s=>Q .normal s
 | .region l,Q,s=>GB P s l (Q .normal)
 | .regionD l o u,Q,s=>∃W,iT P l u.contains W s o (Q .normal)
 | .regionE l a p q b u,Q,s=>∃W,mu P l u.contains W (p::q::b) s a λt=>iT P l u.contains W t (p::q::b) (Q .normal)∧iT P l u.contains W t (q::p::b) (Q .normal)
 | .seq x y,Q,s=>aw P x (yl Q λs'=>aw P y Q s') s
 |
  .cond c x y,Q,s=>match vx s c with
  | .bl b=>(b=true->aw P x Q s)∧(b=false->aw P y Q s)
  | .gd g (.bl b)=>g=true∧(b=true->aw P x Q s)∧(b=false->aw P y Q s)
  |_=>False
 | .block id x,Q,s=>aw P x (L6 id Q) s
 | .loop x,Q,s=>Lp (λQ s=>aw P x Q s) Q s
 | .exit id,Q,s=>Q (.exit id) s
 | .ret,Q,s=>Q .ret s
 | .seqm x y,Q,s=>Md (λQ s=>aw P x Q s) (λQ s=>aw P y Q s) Q s
 |
  .rangeF g ps x y,Q,s=>match vx s g with
  | .fn (.func fid) [] cap=>GM P (λQ s=>aw P x Q s) (λQ s=>aw P y Q s) s fid cap ps λs'=>Q .normal s'
  |_=>False
theorem nD {p:Nat->Prop} (h:∃n,p n):∃n,p n∧∀m,m<n->¬p m:=by
 obtain⟨n,hn⟩:=h
 induction n using Nat.strongRecOn with
 |
  _ n ih=>
  by_cases hex:∃m,m<n∧p m
  ·obtain⟨m,hm,hp⟩:=hex;exact ih m hm hp
  ·exact⟨n,hn,λm hm hp=>hex ⟨m,hm,hp⟩⟩
noncomputable def least (p:Nat->Prop):Nat:=by
 classical exact if h:∃n,p n then Classical.choose (nD h)else 0
theorem zO {p:Nat->Prop} (h:∃n,p n):p (least p)∧∀m,p m->least p≤m:=by
 unfold least
 rw[dif_pos h]
 have:=Classical.choose_spec (nD h)
 exact⟨this.1,λm hm=>Nat.not_lt.1 λfZ=>this.2 m fZ hm⟩
theorem Ma (own sp:List Nat):∀(c:Code) {ro:Option Nat} {Γ0:Cx} {w0:World} {ac:cU} {Q:Exit->St->Prop} {s:St} {Γ:Cx} {a:Act} {w:World} {ds:List Deferred},(ro.isSome=true->qw ac=true)->HK Γ0->zh P Γ0->eW P nt own sp c=some (erase ac)->aw P ac Q s->hU nt ds s Γ a->lx Γ0.heap.size Γ ds->w.heap=Γ.heap->Le Γ0 Γ->WF w0 w->
  c.wpIn (FW ro) 0 P (lift nt Γ0 w0 Q) a w:=by
 have key:∀ {Γ0:Cx} {w0:World} {Γ:Cx} {a:Act} {w:World} {ds:List Deferred} {K:St->Prop},w.heap=Γ.heap->WF w0 w->lx Γ0.heap.size Γ ds->qO nt ds Γ0 Γ a K->∃s' Γ',hU nt ds s' Γ' a∧lx Γ0.heap.size Γ' ds∧w.heap=Γ'.heap∧Le Γ0 Γ'∧WF w0 w∧K s':=by
  intro Γ0 w0 Γ a w ds K b2 b4 bd hg
  obtain⟨s',Γ',g1,g2,g3,g4⟩:=hg
  exact⟨s',Γ',g1,bd.heap g2,by rw[g2];exact b2,g3,b4,g4⟩
 intro c
 induction c with
 |
  skip=>
  intro ro Γ0 w0 ac Q s Γ a w ds hr mS hY ht h hs hd hw hle oT
  simp only[eW,sJ]at ht
  cases ac<;>simp only[erase,reduceCtorEq]at ht
  exact wpIn_skip ⟨ds,s,Γ,hs,hd,hw,hle,oT,h⟩
 |
  exit id=>
  intro ro Γ0 w0 ac Q s Γ a w ds hr mS hY ht h hs hd hw hle oT
  simp only[eW,sJ]at ht
  cases ac<;>simp only[erase,reduceCtorEq,cU.exit.injEq]at ht
  subst ht
  exact wpIn_exit ⟨ds,s,Γ,hs,hd,hw,hle,oT,h⟩
 |
  ret=>
  intro ro Γ0 w0 ac Q s Γ a w ds hr mS hY ht h hs hd hw hle oT
  simp only[eW,sJ]at ht
  cases ac<;>simp only[erase,reduceCtorEq]at ht
  exact wpIn_ret ⟨ds,s,Γ,hs,hd,hw,hle,oT,h⟩
 |
  region id ops draw=>
  intro ro Γ0 w0 ac Q s Γ a w ds hr mS hY ht h hs hd hw hle oT
  have hk:Eo P nt ds Γ w (Q .normal) (lift nt Γ0 w0 Q .normal):=λs' Γ' a' w' b1 b2 b3 b4 b5=>⟨ds,s',Γ',b1,hd.le hs.mem b3,b2,hle.trans b3,oT.trans b4,b5⟩
  have hY':=hY.le hle
  cases draw with
  |
   false=>
   simp only[eW]at ht
   split at ht<;>simp only[sJ,reduceCtorEq]at ht
   rename_i l hl
   cases ac<;>simp only[erase,reduceCtorEq,cU.region.injEq]at ht
   subst ht
   exact C1 hl hs hw hY' h hk
  |
   true=>
   simp only[eW]at ht
   split at ht
   ·rename_i l hl
    split at ht
    ·rename_i hm
     split at ht
     ·rename_i dO
      simp only[sJ]at ht
      cases ac<;>simp only[erase,reduceCtorEq,cU.region.injEq]at ht
      subst ht
      exact ur hm hl dO hs hw hY' h hk
     ·split at ht
      ·split at ht
       ·simp only[sJ]at ht
        rename_i dO
        cases ac<;>simp only[erase,reduceCtorEq,cU.regionE.injEq]at ht
        obtain⟨rfl,rfl,rfl,rfl,rfl,rfl⟩:=ht
        exact tq hm hl dO hs hw hY' h hk
       ·simp at ht
      ·split at ht
       ·simp only[sJ]at ht
        rename_i dO
        cases ac<;>simp only[erase,reduceCtorEq,cU.regionD.injEq]at ht
        obtain⟨rfl,rfl,rfl⟩:=ht
        exact tn hm hl dO hs hw hY' h hk
       ·simp at ht
    ·simp at ht
   ·simp at ht
 |
  seq x y ihx ihy=>
  intro ro Γ0 w0 ac Q s Γ a w ds hr mS hY ht h hs hd hw hle oT
  simp only[eW]at ht
  split at ht<;>simp only[sJ,reduceCtorEq]at ht
  rename_i ax ay hx hy
  cases ac<;>simp only[erase,reduceCtorEq,cU.seq.injEq]at ht
  ·obtain⟨rfl,rfl⟩:=ht
   simp only[aw]at h
   simp only[qw,aJ]at hr
   refine wpIn_seq (wpIn_mono (ihx (λe=>(hr e).1) mS hY hx h hs hd hw hle oT) λe a' w' he=> ?_)
   have:=zI he
   cases e with
   |
    normal=>
    obtain⟨ds',s',Γ',b1,bd,b2,b3,b4,b5⟩:=this
    exact ihy (λe=>(hr e).2) mS hY hy b5 b1 bd b2 b3 b4
   |_=>exact this
  ·obtain⟨rfl,rfl⟩:=ht
   simp only[aw]at h
   simp only[qw,aJ]at hr
   obtain⟨M,h1,h2⟩:=h
   refine wpIn_seq (wpIn_mono (ihx (λe=>(hr e).1) mS hY hx h1 hs hd hw hle oT) λe a' w' he=> ?_)
   have:=zI he
   cases e with
   |
    normal=>
    obtain⟨ds',s',Γ',b1,bd,b2,b3,b4,c,b5⟩:=this
    obtain⟨s3,Γ3,d1,dd,d2,d3,d4,d5⟩:=key (Γ:=Γ') b2 b4 bd (mq mS c b1 b3 b5)
    exact ihy (λe=>(hr e).2) mS hY hy (h2 _ d5) d1 dd d2 d3 d4
   |_=>exact this
 |
  cond c x y ihx ihy=>
  intro ro Γ0 w0 ac Q s Γ a w ds Ld mS hY ht h hs hd hw hle oT
  simp only[eW]at ht
  split at ht<;>simp only[sJ,reduceCtorEq]at ht
  rename_i c' ax ay hc hx hy
  cases ac<;>simp only[erase,reduceCtorEq,cU.cond.injEq]at ht
  obtain⟨rfl,rfl,rfl⟩:=ht
  simp only[aw]at h
  simp only[qw,aJ]at Ld
  have hr:=vH hc hs
  split at h
  ·rename_i b hb
   rw[hb]at hr
   simp only[aN]at hr
   have hcv:a.eval c= .bool b:=by generalize a.eval c=v at hr;cases hr;rfl
   exact wpIn_cond_split hcv (λhb=>ihx (λe=>(Ld e).1) mS hY hx (h.1 hb) hs hd hw hle oT) (λhb=>ihy (λe=>(Ld e).2) mS hY hy (h.2 hb) hs hd hw hle oT)
  ·rename_i g b hb
   rw[hb,aN]at hr
   have hr:=hr.1 h.1
   simp only[aN]at hr
   have hcv:a.eval c= .bool b:=by generalize a.eval c=v at hr;cases hr;rfl
   exact wpIn_cond_split hcv (λhb=>ihx (λe=>(Ld e).1) mS hY hx (h.2.1 hb) hs hd hw hle oT) (λhb=>ihy (λe=>(Ld e).2) mS hY hy (h.2.2 hb) hs hd hw hle oT)
  ·exact h.elim
 |
  block id x ih=>
  intro ro Γ0 w0 ac Q s Γ a w ds hr mS hY ht h hs hd hw hle oT
  simp only[eW]at ht
  split at ht<;>simp only[sJ,reduceCtorEq]at ht
  rename_i ax hx
  cases ac<;>simp only[erase,reduceCtorEq,cU.block.injEq]at ht
  obtain⟨rfl,rfl⟩:=ht
  simp only[aw]at h
  exact wpIn_block (wpIn_mono (ih (λe=>by simpa only[qw]using hr e) mS hY hx h hs hd hw hle oT) λe a' w' he=>L7 he)
 |
  loop x ih=>
  intro ro Γ0 w0 ac Q s Γ a w ds Ld mS hY ht h hs hd hw hle oT
  simp only[eW]at ht
  split at ht<;>simp only[sJ,reduceCtorEq]at ht
  rename_i ax hx
  cases ac<;>simp only[erase,reduceCtorEq,cU.loop.injEq]at ht
  subst ht
  simp only[aw]at h
  obtain⟨I,cs,h0,hr⟩:=h
  let J:Act->World->Nat->Prop:=λa w n=>∃ds s Γ,hU nt ds s Γ a∧lx Γ0.heap.size Γ ds∧w.heap=Γ.heap∧Le Γ0 Γ∧WF w0 w∧I n s
  refine wpIn_loop (λa w=>∃n,J a w n) (λa w=>least (J a w)) ?_ ?_
  ·obtain⟨s',Γ',b1,bd,b2,b3,b4,n,b5⟩:=key (Γ:=Γ) hw oT hd (mq mS cs hs hle h0)
   exact⟨n,ds,s',Γ',b1,bd,b2,b3,b4,b5⟩
  ·intro a1 w1 hJ
   obtain⟨⟨ds1,s1,Γ1,b1,bd,b2,b3,b4,b5⟩,Tf⟩:=zO hJ
   refine wpIn_mono (ih (λe=>by simpa only[qw]using Ld e) mS hY hx (hr _ _ b5) b1 bd b2 b3 b4) λe a' w' he=> ?_
   have:=zI he
   cases e with
   |
    normal=>
    obtain⟨ds2,s2,Γ2,c1,cd,c2,c3,c4,CC,c5⟩:=this
    obtain⟨s3,Γ3,d1,dd,d2,d3,d4,m,fZ,d5⟩:=key (Γ:=Γ2) c2 c4 cd (mq mS CC c1 c3 c5)
    have hJm:J a' w' m:=⟨ds2,s3,Γ3,d1,dd,d2,d3,d4,d5⟩
    exact⟨⟨m,hJm⟩,Nat.lt_of_le_of_lt ((zO ⟨m,hJm⟩).2 m hJm) fZ⟩
   |_=>exact this
 |
  rangeFunc g ps x y ihx ihy=>
  intro ro Γ0 w0 ac Q s Γ a w ds hr mS hY ht h hs hd hw hle oT
  simp only[eW]at ht
  split at ht
  case h_2=>simp at ht
  rename_i g' ax ay hg hx hy
  split at ht
  case isFalse=>simp at ht
  rename_i dO
  simp only[aJ,List.all_eq_true,decide_eq_true_eq]at dO
  simp only[sJ]at ht
  cases ac<;>simp only[erase,reduceCtorEq,cU.rangeF.injEq]at ht
  obtain⟨rfl,rfl,rfl,rfl⟩:=ht
  cases ro with
  |some l=>exact absurd (hr rfl) (by simp[qw])
  |
   none=>
   simp only[aw]at h
   have hrg:=vH hg hs
   split at h
   ·rename_i fid cap hb
    rw[hb]at hrg
    have n1:=dO.1.2
    have n2:=dO.2
    rw[qx]at n1 n2
    exact EM (λk1 k2 k3 k4 k5 k6 k7 k8=>ihx (λ_=>n1) k1 k2 hx k3 k4 k5 k6 k7 k8) (λk1 k2 k3 k4 k5 k6 k7 k8=>ihy (λ_=>n2) k1 k2 hy k3 k4 k5 k6 k7 k8) dO.1.1 hs hd hw hle oT hrg h
   ·exact h.elim
 |_=>intro ro Γ0 w0 ac Q s Γ a w ds hr mS hY ht;simp[eW]at ht
end Go.Ab
namespace Go.Ab
variable [eg]
variable {P:Program} {nt:Nat} {ds:List Deferred} {s:St} {Γ Δ Γ0:Cx} {a:Act} {w w0:World}
def zQ (P:Program):ResultVar->Option AK
 | .tmp t=>some (.mv (.t t))
 | .cell t ty=>match lq P ty,gx P ty with|some g,some n=>some (.load g n (.t t))|_,_=>none
structure di where
 nt:Nat
 res:List AK
 code:cU
def di.er (f:di):di:=⟨f.nt,f.res,erase f.code⟩
noncomputable def ka (P:Program) (own sp:List Nat) (f:FuncId):Option di:=
 match P.funcs[f]?with
 |
  some fn=>if(fn.name== "runtime.NumGoroutine")=false then(match fn.body with
  |
   some c=>match eW P fn.ntmps own sp c,allM (zQ P) fn.results.toList with
   |some ac,some rs=>some ⟨fn.ntmps,rs,ac⟩
   |_,_=>none
  |none=>none)else none
 |none=>none
noncomputable def Mb (P:Program) (own sp:List Nat) (f:FuncId):Option di:=
 match ka P own sp f with|some A=>some ⟨A.nt,A.res,Gb A.code⟩|none=>none
theorem aU {own sp:List Nat} {f:FuncId} {A:di} (h:Mb P own sp f=some A):ka P own sp f=some A.er:=by
 unfold Mb at h
 split at h
 ·rename_i B hB
  rw[hB]
  simp only[sJ]at h
  subst h
  rw[qy]
  have h2:=hB
  unfold ka at h2
  (repeat' split at h2)<;>simp only[sJ,reduceCtorEq]at h2
  subst h2
  rename_i hc _
  simp only[di.er,B0 _ _ _ hc]
 ·simp at h
abbrev RF (P:Program) (own sp:List Nat) (f:FuncId):= {A:di//Mb P own sp f=some A}
def EO (s:St):List AK->(List PV->Prop)->Prop
 |[],K=>K []
 |k::r,K=>ev true s k λp=>EO s r λps=>K (p::ps)
def fa:List PV->PV
 |[p]=>p
 |ps=> .tup ps
def PV.flat:PV->Bool
 | .gd _ _| .tup _=>false
 |_=>true
def Mc (n:Nat) (res:List AK) (R:PV->List a9->Prop) (s:St):Prop:=
 ∃
  (c:List Cut) (ks:List Nat),gV c s λs'=>EO s' res λps=>∃bf,(getAll s'.bx ks=some bf∧ks.Nodup∧ks.take n=eD n)∧
  (ps.all PV.flat=true∧ab (bg ks) (fa ps)=true∧bf.all (af (bg ks))=true)∧R (aF (aT ks) (fa ps)) (bf.map (a0 (aT ks)))
def ends (n:Nat) (res:List AK) (R:PV->List a9->Prop):Exit->St->Prop
 | .ret,s| .normal,s=>Mc n res R s
 |_,_=>False
def au:Nat->List PV->List (Nat×PV)
 |_,[]=>[]
 |i,p::r=>(i,p)::au (i+1) r
theorem tt:∀(l:List PV) (i k:Nat),get (au i l) k=if i≤k then l[k-i]?else none
 |[],i,k=>by simp[au,get]
 |
  p::l,i,k=>by
  simp only[au,get,tt l (i+1) k]
  by_cases h:i=k
  ·subst h;simp
  ·rw[if_neg h]
   by_cases h2:i≤k
   ·rw[if_pos (by omega),if_pos h2,show k-i=(k-(i+1))+1 by omega,List.getElem?_cons_succ]
   ·rw[if_neg (by omega),if_neg h2]
theorem gK.at:∀ {l:List PV} {vs:List Value} {i:Nat} {p:PV},gK Γ l vs->l[i]? =some p->∃v,vs[i]? =some v∧aN Γ p v
 |[],_,_,_,_,h=>by simp at h
 |p::l,[],_,_,h,_=>by simp[gK]at h
 |p::l,v::vs,0,q,h,hi=>by simp at hi;subst hi;exact⟨v,rfl,h.1⟩
 |p::l,v::vs,i+1,q,h,hi=>by simp at hi;simpa using gK.at h.2 hi
theorem GR {t:TypeId} {v r:Value} (h:(Instr.loadAt t v).run P w= .ok r w):((do loadVar t (←asAddr v)):Sem Value).run P w= .ok r w:=by
 unfold Instr.loadAt at h
 cases v<;>first
  |(rename_i ad;cases ad<;>first|exact h|(simp[Instr.sureAddr,stuck]at h))
  |(simp[Instr.sureAddr,stuck]at h)
theorem aN.acL {p:PV} {v:Value} (h:aN Γ p v) (hf:p.flat=true):je Γ p v:=by
 cases p<;>simp[PV.flat]at hf<;>first|exact h|(simp[je])
def EP (tmps:Array Value):ResultVar->Sem Value
 | .tmp t=>pure (tmps.getD t undef)
 | .cell a t=>do loadVar t (←asAddr (tmps.getD a undef))
theorem Ik (hs:hU nt ds s Γ a) (hw:w.heap=Γ.heap):∀ {rs:List ResultVar} {ks:List AK} {K:List PV->Prop},allM (zQ P) rs=some ks->EO s ks K->
  ∃ps vs,K ps∧(rs.mapM (EP a.tmps)).run P w= .ok vs w∧gK Γ ps vs
 |
  [],ks,K,h,he=>by
  simp only[allM,sJ]at h;subst h
  exact⟨[],[],he,rfl,trivial⟩
 |
  r::rs,ks,K,h,he=>by
  simp only[allM]at h
  split at h
  ·rename_i y l hy hl
   simp only[sJ]at h;subst h
   simp only[EO]at he
   have h1:∃p v,(EO s l λps=>K (p::ps))∧(EP a.tmps r).run P w= .ok v w∧aN Γ p v:=by
    cases r with
    |
     tmp t=>
     simp only[zQ,sJ]at hy;subst hy
     simp only[ev]at he
     obtain⟨p,hp,hr⟩:=cO (x:= .tmp t) rfl hs rfl he
     exact⟨p,_,hp,rfl,hr⟩
    |
     cell t ty=>
     simp only[zQ]at hy
     split at hy<;>simp only[sJ,reduceCtorEq]at hy
     rename_i g n hg hn;subst hy
     obtain⟨p,v,hp,iN,hr⟩:=Ed (x:= .tmp t) rfl hs hw rfl hg hn he
     exact⟨p,v,hp,GR iN,hr⟩
   obtain⟨p,v,hp,iN,hr⟩:=h1
   obtain⟨ps,vs,hK,alx,ff⟩:=Ik hs hw hl hp
   refine⟨p::ps,v::vs,hK,?_,hr,ff⟩
   rw[List.mapM_cons]
   simp only[bJ,iN,rJ,alx]
   rfl
  ·simp at h
theorem Il:∀ {ps:List PV} {vs:List Value},gK Γ ps vs->ps.all PV.flat=true->jY Γ ps vs
 |[],[],_,_=>trivial
 |[],_::_,h,_=>by simp[gK]at h
 |_::_,[],h,_=>by simp[gK]at h
 |
  p::ps,v::vs,h,hf=>by
  simp only[List.all_cons,aJ]at hf
  exact⟨h.1.acL hf.1,Il h.2 hf.2⟩
def acM:List Value->Value
 |[v]=>v
 |vs=> .tuple vs.toArray
theorem GS (fn:Func) (tmps:Array Value) {vs:List Value} (h:(fn.results.toList.mapM (EP tmps)).run P w= .ok vs w):
  (results fn tmps).run P w= .ok (acM vs) w:=by
 have e:results fn tmps=(do
   let vs←fn.results.mapM (EP tmps)
   pure (if h:vs.size=1 then vs[0]else .tuple vs)):=by
  unfold results
  congr 1
 have h2:(fn.results.mapM (EP tmps)).run P w= .ok vs.toArray w:=by
  rw[Array.mapM_eq_mapM_toList,Sem.run_map,h];rfl
 rw[e,bJ,h2]
 simp only[rJ,Sem.run_pure]
 match vs with
 |[]=>rfl
 |[v]=>rfl
 |v::u::vs=>rfl
theorem JM {fn:Func} {rs:List AK} {fp:List a9} {R:PV->List a9->Prop} (hr:allM (zQ P) fn.results.toList=some rs) (h0:Γ0.bx=aG 0 fp) (mS:HK Γ0) (hs:hU nt ds s Γ a) (hw:w.heap=Γ.heap) (hle:Le Γ0 Γ) (h:Mc fp.length rs R s):
  ∃v r kP Γ',(results fn a.tmps).run P w= .ok v w∧R r kP∧w.heap=Γ'.heap∧Mem Γ'∧Γ'.bx=aG 0 kP∧aN Γ' r v∧Le Γ0 Γ':=by
 obtain⟨c,ks,h⟩:=h
 obtain⟨s',Γ1,xz,hh,KW,h⟩:=mq mS c hs hle h
 have wZ:w.heap=Γ1.heap:=by rw[hh];exact hw
 obtain⟨ps,vs,h,iN,ff⟩:=Ik xz wZ hr h
 obtain⟨bf,⟨hg,hn,hks⟩,⟨hf,Zf,hbo⟩,hR⟩:=h
 rw[←xz.bx]at hg
 have kX:=Cx.EJ hg
 refine⟨_,_,_,Γ1.out ks bf,GS fn a.tmps iN,hR,wZ,Cx.Ie xz.mem hg hn hbo,rfl,?_,Cx.L5 KW h0 hg hks⟩
 have hv:aN Γ1 (fa ps) (acM vs):=by
  have hl:=ff.length
  match ps,vs,ff,hl with
  |[],[],_,_=>exact⟨[],rfl,trivial⟩
  |[p],[v],ff,_=>exact ff.1
  |p::q::ps,v::u::vs,ff,_=>exact⟨_,rfl,Il ff hf⟩
 exact hv.aF kX Zf
theorem qz {fn:Func} {rs:List AK} {fp:List a9} {R:PV->List a9->Prop} (hr:allM (zQ P) fn.results.toList=some rs) (h0:Γ0.bx=aG 0 fp) (mS:HK Γ0) (h:Mc fp.length rs R s):
  ∀
   (Ds:List Nat) {ds:List Deferred} {Γ:Cx} {w:World},hU nt ds s Γ a->w.heap=Γ.heap->Le Γ0 Γ->WF w0 w->Ds.Nodup->(∀D∈Ds,Γ0.heap.size≤D∧Γ.heap[D]? =some (.deferred (some [])))->
   LeavesInM (FW none) 0 P fn a.tmps (λe w'=>∃v r kP Γ',e= .returned v∧R r kP∧w'.heap=Γ'.heap∧Mem Γ'∧Γ'.bx=aG 0 kP∧aN Γ' r v∧Le Γ0 Γ'∧WF w0 w')
    (Ds.map λD=> {target:= .collected D,args:= #[]}) .returning w
 |
  [],ds,Γ,w,hs,hw,hle,oT,_,_=>by
  obtain⟨v,r,kP,Γ2,h1,h2,h3⟩:=JM hr h0 mS hs hw hle h
  exact⟨v,h1,v,r,kP,Γ2,rfl,h2,h3.1,h3.2.1,h3.2.2.1,h3.2.2.2.1,h3.2.2.2.2,oT⟩
 |
  D::Ds,ds,Γ,w,hs,hw,hle,oT,hn,hd=>by
  obtain⟨HN,hh⟩:=hd D (by simp)
  have hp:Γ.iB D:=⟨_,hh,rfl⟩
  obtain⟨hnm,OD⟩:=List.nodup_cons.1 hn
  refine⟨by simp,.inl ⟨D,w.putObj D (.deferred none),rfl,run_takeDeferred (by rw[hw];exact hh),?_⟩⟩
  refine qz hr h0 mS h Ds (hs.obj hp) (ui hw) (uh hle HN hp) (oT.trans (WF.obj _ _ _)) OD (λD' hD'=> ?_)
  obtain⟨h1,h2⟩:=hd D' (by simp[hD'])
  exact⟨h1,by rw[jl (l:=D) (b:=D') (by rintro rfl;exact hnm hD')];exact h2⟩
theorem sf [iE] {f:FuncId} {A:di} {own sp:List Nat} {args:List PV} {fp:List a9} {R:PV->List a9->Prop} (ht:ka P own sp f=some A.er) (hl:args.length≤A.nt)
  (h:aw P A.code (ends fp.length A.res R) ⟨au 0 args,aG 0 fp⟩):
  (∀(vs:Array Value) (w:World),(callFunc f vs).run P w= .ok (.enter f vs) w)∧∀(Γ:Cx) (w:World) (vs:List Value),w.heap=Γ.heap->Mem Γ->Γ.bx=aG 0 fp->zh P Γ->gK Γ args vs->
   CallsIn (FW none) 0 P f vs.toArray w (λe w'=>∃v r kP Γ',e= .returned v∧R r kP∧w'.heap=Γ'.heap∧Mem Γ'∧Γ'.bx=aG 0 kP∧aN Γ' r v∧Le Γ Γ'∧WF w w'):=by
 unfold ka at ht
 split at ht
 case h_2=>simp at ht
 rename_i fn hfn
 split at ht
 case isFalse=>simp at ht
 rename_i aly
 split at ht
 case h_2=>simp at ht
 rename_i c hb
 split at ht
 case h_2=>simp at ht
 rename_i ac rs hac PC
 simp only[sJ,di.er,di.mk.injEq]at ht
 obtain⟨hnt,Th,alz⟩:=ht
 subst Th alz
 refine⟨λvs w=> ?_,λΓ w vs hw hm lY hY ff=> ?_⟩
 ·unfold callFunc
  simp only[bJ,run_program,rJ,hfn,aly,fJ,if_false,hb,Option.isNone_some,Sem.run_pure]
 ·have hlen:=ff.length
  have mS:HK Γ:=by
   intro k blk hk
   rw[lY,fT]at hk
   split at hk
   ·omega
   ·simp at hk
  refine callsIn_of_wp_marks hfn hb trivial (wpIn_mono (Ma own sp c (ro:=none) (ds:=[]) (by simp) mS hY hac h (Γ:=Γ) (a:= {tmps:=vs.toArray++Array.replicate (fn.ntmps-vs.toArray.size) undef,defers:=[]}) ⟨lY,?_,rfl,?_,hm⟩ .nil hw (Le.refl Γ) (WF.refl w)) ?_)
  ·simp;omega
  ·intro k p hk
   rw[tt]at hk
   simp only[Nat.zero_le,if_true,Nat.sub_zero]at hk
   obtain⟨v,hv,hr⟩:=ff.at hk
   have fZ:=(List.getElem?_eq_some_iff.1 hv).1
   have e:(vs.toArray++Array.replicate (fn.ntmps-vs.toArray.size) undef).getD k undef=v:=by
    rw[Array.getD_eq_getD_getElem?,Array.getElem?_append_left (by simpa using fZ)]
    simp[hv]
   simp only
   rw[e];exact hr
  ·rintro e a' w' ⟨ds',s',Γ',A7,⟨Ds,hD1,hD2,hD3⟩,OA,wY,Tc,he⟩
   cases e with
   |ret=>show LeavesInM _ _ _ _ _ _ a'.defers _ _;rw[A7.defers,hD1];exact qz PC lY mS he Ds A7 OA wY Tc hD2 hD3
   |normal=>show LeavesInM _ _ _ _ _ _ a'.defers _ _;rw[A7.defers,hD1];exact qz PC lY mS he Ds A7 OA wY Tc hD2 hD3
   |_=>exact he.elim
theorem ah.intro {f:FuncId} {A:di} {own sp:List Nat} {args:List PV} {fp:List a9} {R:PV->List a9->Prop} (ht:ka P own sp f=some A.er) (hl:args.length≤A.nt)
  (h:aw P A.code (ends fp.length A.res R) ⟨au 0 args,aG 0 fp⟩):ah P f args fp R:=
 λΓ w vs h1 h2 h3 h4=> .inl ⟨(sf ht hl h).1 _ _,Jy ((sf ht hl h).2 Γ w vs h1 h2 h3 .no h4)⟩
abbrev ofY (n l:Nat) (Y:List PV->List a9->(List a9->Prop)->Prop):iE:=⟨n,λl' args fp R=>l'=l∧Y args fp R⟩
theorem Ig.intro {f:FuncId} {A:di} {own sp:List Nat} {cap:List PV} {fp:List a9} {Y:List PV->List a9->(List a9->Prop)->Prop} {R:List a9->Prop} (ht:ka P own sp f=some A.er) (hl:cap.length+1≤A.nt)
  (h:∀l,@aw _ (ofY fp.length l Y) P A.code (ends fp.length A.res λ_ kP=>R kP) ⟨au 0 (.fn (.yield l) [] []::cap),aG 0 fp⟩):Ig P f cap fp Y R:=by
 refine⟨(@sf _ P (ofY fp.length 0 Y) _ _ _ _ _ _ _ ht (by simpa using hl) (h 0)).1,λΓ w vs l rec h1 h2 h3 h4 h5 h6=> ?_⟩
 have hr:aN Γ (.fn (.yield l) [] []) (.func (.yield l) #[] #[]):=by
  simp only[aN]
  exact .fn (.yield l) [] [] .nil .nil (by simp) (by simp) .nil
 have:=(@sf _ P (ofY fp.length l Y) _ _ _ _ _ _ _ ht (by simpa using hl) (h l)).2 Γ w (.func (.yield l) #[] #[]::vs) h1 h2 h3 (λl' args xB R1 vE=>by
  obtain⟨rfl,vE⟩:=vE
  refine⟨Γ,rec,Le.refl Γ,λk blk hk=> ?_,h5,h2,h6 args xB R1 vE⟩
  rw[h3,fT]at hk
  split at hk
  ·have:=(List.getElem?_eq_some_iff.1 hk).1
   show KB≤k∧k<KB+fp.length
   omega
  ·simp at hk) ⟨hr,h4⟩
 have e: #[Value.func (.yield l) #[] #[]]++vs.toArray=(Value.func (.yield l) #[] #[]::vs).toArray:=by apply Array.ext';simp
 rw[e]
 refine this.mono ?_
 rintro e w' ⟨v,r,kP,Γ',e1,e2,e3,e4,e5,e6,e7,e8⟩
 exact⟨v,kP,Γ',e1,e2,e3,e4,e5,e7,e8⟩
end Go.Ab

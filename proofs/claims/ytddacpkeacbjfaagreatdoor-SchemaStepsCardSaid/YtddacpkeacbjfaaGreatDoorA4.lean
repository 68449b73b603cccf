/- Regions, loops and bodies do what their abstract reading says. No condition. -/
import Derived.Test.YtddacpkeacbjfaaGreatDoorA3
set_option linter.all false
namespace Go.Ab
variable [cM]
variable {P:Program} {nt:Nat} {ds:List Deferred} {s:St} {Γ:Cx} {a:Act} {w:World} [gQ]
structure AO where
 dst:Option Nat
 guard:Option (Nat×Bool)
 mg:Bool
 k:AK
def og:AK->Bool
 | .alloc _| .box _| .buildSlice .. | .makeSlice .. | .store .. | .append .. | .appendZ .. | .copy .. | .fill .. | .isNil .. | .convB .. | .convL .. | .mkMap .. | .mapGet .. | .mapSet .. =>true
 |_=>false
def kD (P:Program) (s:St) (d:Option Nat) (f:AX) (args:ZP) (K:UD):Prop:=
 vg true s f λpf=>wh true s args λps=>match pf with
  | .fn (.func fid) first cap=>∃ks os,vP P s d fid (first++ps++cap) ks os K
  | .fn (.yield l) [] []=>JN s d l ps K
  |_=>False
def nR (P:Program) (s:St) (d:Option Nat) (f:AX) (args:ZP) (K:UD):Prop:=
 vg true s f λpf=>wh true s args λps=>match pf with
  | .fn (.func fid) first cap=>∃v,(al (λ_=>false) (first++ps++cap)=true∧ae (λ_=>false) v=true)∧
    ab P fid (first++ps++cap) [] (λr fp=>r=v∧fp=[])∧K (s.put d v)
  |_=>False
def ko (P:Program) (s:St) (o:AO) (K:UD):Prop:=
 match o.k with
 | .call f args=>kD P s o.dst f args K
 | .callq f args=>nR P s o.dst f args K
 |k=>if og k=true then ex s o.dst k K else ev true s k λp=>K (s.put o.dst p)
def fA (P:Program) (s:St) (o:AO) (K:UD):Prop:=
 match o.guard with
 |none=>ko P s o K
 |
  some (sl,want)=>match(get s.env sl).getD .un with
  | .bl b=>if o.mg=true then ev (b==want) s o.k (λp=>K (s.put o.dst (.gd (b==want) p)))
    else(b=want->ko P s o K)∧(b≠want->K (s.put o.dst .un))
  | .gd g (.bl b)=>if o.mg=true then ev (g&&b==want) s o.k (λp=>K (s.put o.dst (.gd (g&&b==want) p)))
    else(g=true->b=want->ko P s o K)∧((g=true->b≠want)->K (s.put o.dst .un))
  |_=>False
def rN:AK->Bool
 | .mv _| .pick .. | .load .. | .nilCheck _| .un .. | .convI .. | .convS _| .fieldA .. | .s2a .. | .field .. | .extract .. | .len _| .lenS _| .lenC _| .cap _| .mm .. =>true
 | .bin op _ _ _=>match op with| .quo| .rem| .shl| .shr=>false|_=>true
 |_=>false
def u6 (ops:Array Oper):Option (Nat×Bool)->Option (Option (Nat×Bool))
 |none=>some none
 |some (j,want)=>match(ops[j]?).bind (·.dst)with|some d=>some (some (d,want))|none=>none
def xq (nt:Nat) (d:Option Nat) (k:AK):Bool:=
 match d,k with
 |some _,.store .. =>false
 |some d,_=>decide (d<nt)
 |none,_=>true
def xr (P:Program) (draw:Bool) (ty:TypeId):AK->AK
 | .call f args=>if draw=true then .callq f args else .call f args
 |
  .mv (.c (.sl 0 [] true))=>(match P.underlying ty with
  |some (.slice e)=> .mv (.c (.sl (P.cellsOf e) [] true))
  |_=> .mv (.c (.sl 0 [] true)))
 |k=>k
def Vn (own:Yx):Option Nat->Bool
 |some d=>own.contains d
 |none=>true
noncomputable def oh (P:Program) (nt:Nat) (ops:Array Oper) (own sp:Yx) (draw:Bool) (o:Oper):Option AO:=
 match kr P (match o.dst with|some d=>own.contains d|none=>false) o.op,u6 ops o.guard with
 |some k,some g=>if xq nt o.dst k=true then some ⟨o.dst,g,rN k&& !(match o.dst with|some d=>sp.contains d|none=>false),xr P (draw&& !Vn own o.dst) o.type k⟩else none
 |_,_=>none
def Ao {own:Bool} {op:Op} {k:AK} (h:kr P own op=some k) (c:Call):op≠ .defer c:=by
 rintro rfl;simp[kr]at h
def Oper.Ap {ro:Option Nat} {o:Oper} {own:Bool} {k:AK} (mX:kr P own o.op=some k) {K:UD} {Kr:Act->World->Prop} {Q:Exit->Act->World->Prop} (h:kS P nt ds o a w Γ K)
  (hk:∀s' Γ' a' w',fW nt ds s' Γ' a'->w'.heap=Γ'.heap->Le Γ Γ'->WF w w'->K s'->Kr a' w'):o.wpIn (FW ro) 0 P a w Kr Q:=by
 obtain⟨nx,v,w',s',Γ',ia,hnx,hs,hh,hle,ss,hK⟩:=h;refine⟨λ_ _=>trivial,?_⟩;rw[Oper.semAt_eq _ _ _ (Ao mX),ia];rcases hnx with rfl|⟨rfl,rfl⟩
 ·exact hk _ _ _ _ hs hh hle ss hK
 ·exact hk _ _ _ _ hs hh hle ss hK
theorem Qc {o:Oper} {k:AK} {own:Bool} {K:UD} (hk:kr P own o.op=some k) (hs:fW nt ds s Γ a) (hw:w.heap=Γ.heap) (hd:xq nt o.dst k=true) (he:ex s o.dst k K):kS P nt ds o a w Γ K:=by
 have Jk:(∀x y z,k≠ .store x y z)->∀j,o.dst=some j->j<nt:=by
  intro bY j hj;rw[hj]at hd;unfold xq at hd;split at hd
  ·exact absurd rfl (bY _ _ _)
  ·rename_i heq _;simp at heq;subst heq;simpa using hd
  ·rename_i heq;simp at heq
 cases ox:o.op with
 |
  alloc t=>
  rw[ox]at hk;simp only[kr]at hk
  split at hk<;>simp only[sJ,reduceCtorEq]at hk
  rename_i z hz;subst hk
  exact NG ox hz hs hw (Jk (by intros;simp)) he
 |
  box t x=>
  rw[ox]at hk;simp only[kr]at hk
  split at hk<;>simp only[sJ,reduceCtorEq]at hk
  rename_i y hy;subst hk
  exact Vk ox hy hs hw (Jk (by intros;simp)) he
 |
  buildSlice t n parts=>
  rw[ox]at hk;simp only[kr]at hk
  split at hk
  ·rename_i e ps hu hp
   split at hk
   ·rename_i z sz hz fP
    split at hk<;>simp only[sJ,reduceCtorEq]at hk
    rename_i hc;subst hk
    exact B6 ox hu hp hz fP hc.1 hc.2 hs hw (Jk (by intros;simp)) he
   ·simp at hk
  ·simp at hk
 |
  makeSlice t l c=>
  rw[ox]at hk;simp only[kr]at hk
  split at hk
  ·rename_i e l' c' hu hl hc
   split at hk
   ·rename_i z i hz hi
    split at hk<;>simp only[sJ,reduceCtorEq]at hk
    rename_i jh;subst hk
    exact DQ ox hu hl hc hz hi jh hs hw (Jk (by intros;simp)) he
   ·simp at hk
  ·simp at hk
 |
  store t x y=>
  rw[ox]at hk;simp only[kr]at hk
  split at hk<;>simp only[sJ,reduceCtorEq]at hk
  rename_i n x' y' hn hx hy;subst hk
  refine NI ox hn hx hy hs hw ?_ he
  cases PC:o.dst with
  |none=>rfl
  |some d=>rw[PC]at hd;simp[xq]at hd
 |
  convert t e x=>
  rw[ox]at hk;simp only[kr]at hk
  split at hk
  ·simp only[sJ]at hk;subst hk;simp[ex]at he
  ·split at hk<;>simp only[sJ,reduceCtorEq]at hk
   subst hk;simp[ex]at he
  ·rename_i e' y h1 h2 hx
   split at hk<;>simp only[sJ,reduceCtorEq]at hk
   rename_i h3;subst hk
   exact NH ox h1 h2 h3 hx hs hw (Jk (by intros;simp)) he
  ·rename_i e0 e' y h1 h2 hx
   split at hk
   ·rename_i hte
    split at hk<;>simp only[sJ,reduceCtorEq]at hk
    rename_i h3;subst hk hte
    exact NP ox h1 (by rw[h1]at h2;cases h2;exact h3) hx hs hw (Jk (by intros;simp)) he
   ·simp at hk
  ·simp at hk
 |makeMap t r=>rw[ox]at hk;simp[kr]at hk
 |lookup t m x ok=>rw[ox]at hk;simp[kr]at hk
 |mapUpdate t m x y=>rw[ox]at hk;simp[kr]at hk
 |
  call c=>
  obtain⟨callee,args,tys⟩:=c
  rw[ox]at hk
  cases callee with
  |
   value f=>
   simp only[kr]at hk
   split at hk<;>simp only[sJ,reduceCtorEq]at hk
   subst hk;simp[ex]at he
  |invoke r m=>simp[kr]at hk
  |
   builtin b=>
   simp only[kr]at hk
   obtain⟨args⟩:=args
   obtain⟨tys⟩:=tys
   simp only at hk
   cases b with
   |
    append=>
    match args,tys,ox,hk with
    |
     [x,y],[t,u],ox,hk=>
     unfold b8 at hk
     simp only at hk
     split at hk
     ·rename_i e d x' y' hu1 hu2 hx hy
      split at hk
      ·rename_i i hi
       split at hk
       ·rename_i z hz
        split at hk
        ·rename_i hc
         split at hk
         ·simp only[sJ]at hk;subst hk
          exact B9 ox hu1 hu2 (.inl ⟨_,rfl⟩) hi hz hc.1 hc.2.1 hc.2.2 hx hy hs hw (Jk (by intros;simp)) he
         ·split at hk<;>simp only[sJ,reduceCtorEq]at hk
          rename_i h1;subst hk
          exact B9 ox hu1 hu2 (.inr rfl) hi hz hc.1 hc.2.1 hc.2.2 hx hy hs hw (Jk (by intros;simp)) he
         ·split at hk<;>simp only[sJ,reduceCtorEq]at hk
          rename_i zz Y4;subst hk
          exact Ht ox hu1 hu2 hi hz Y4 hc.1 hc.2.1 hc.2.2 hx hy hs hw (Jk (by intros;simp)) he
         ·simp at hk
        ·simp at hk
       ·simp at hk
      ·simp at hk
     ·simp at hk
    |[],_,_,hk|[_],_,_,hk|_::_::_::_,_,_,hk|[_,_],[],_,hk|[_,_],[_],_,hk|[_,_],_::_::_::_,_,hk=>simp[b8]at hk
   |
    clear=>
    match args,tys,ox,hk with
    |
     [x],[t],ox,hk=>
     unfold b8 at hk
     simp only at hk
     split at hk
     ·rename_i e x' hu1 hx
      split at hk
      ·rename_i n z hn hz
       split at hk<;>simp only[sJ,reduceCtorEq]at hk
       subst hk
       exact P8 ox hu1 hn hz hx hs hw he
      ·simp at hk
     ·simp at hk
    |[],_,_,hk|_::_::_,_,_,hk|[_],[],_,hk|[_],_::_::_,_,hk=>simp[b8]at hk
   |
    copy=>
    match args,tys,ox,hk with
    |
     [x,y],[t,u],ox,hk=>
     unfold b8 at hk
     simp only at hk
     split at hk
     ·rename_i e x' y' hu1 hx hy
      split at hk<;>simp only[sJ,reduceCtorEq]at hk
      rename_i n hn;subst hk
      exact P7 ox hu1 hn hx hy hs hw (Jk (by intros;simp)) he
     ·simp at hk
    |[],_,_,hk|[_],_,_,hk|_::_::_::_,_,_,hk|[_,_],[],_,hk|[_,_],[_],_,hk|[_,_],_::_::_::_,_,hk=>simp[b8]at hk
   |
    len=>
    exfalso
    unfold b8 at hk
    repeat (split at hk<;>(try contradiction))
    all_goals first|(simp only[sJ]at hk;subst hk;simp[ex]at he;done)|(simp at hk;done)|(split at hk<;>first|(simp only[sJ]at hk;subst hk;simp[ex]at he;done)|(simp at hk;done))
   |
    cap=>
    unfold b8 at hk
    split at hk<;>(try contradiction)
    split at hk<;>simp only[sJ,reduceCtorEq]at hk
    subst hk;simp[ex]at he
   |
    min=>
    unfold b8 at hk
    split at hk<;>(try contradiction)
    split at hk<;>simp only[sJ,reduceCtorEq]at hk
    subst hk;simp[ex]at he
   |
    max=>
    unfold b8 at hk
    split at hk<;>(try contradiction)
    split at hk<;>simp only[sJ,reduceCtorEq]at hk
    subst hk;simp[ex]at he
   |_=>unfold b8 at hk;split at hk<;>contradiction
 |
  binOp op t x y yt=>
  by_cases hn:∃ng p,k= .isNil ng p
  ·obtain⟨ng,p,rfl⟩:=hn
   rw[ox]at hk
   exact NK ox hk hs hw (Jk (by intros;simp)) he
  rw[ox]at hk;simp only[kr]at hk
  exfalso
  repeat (split at hk<;>(try contradiction))
  all_goals first|(simp only[sJ]at hk;subst hk;simp[ex]at he;done)|(simp at hk;done)|(simp only[sJ]at hk;exact hn ⟨_,_,hk.symm⟩)|(split at hk<;>first|(simp only[sJ]at hk;subst hk;simp[ex]at he;done)|(simp at hk;done)|(simp only[sJ]at hk;exact hn ⟨_,_,hk.symm⟩)|(split at hk<;>first|(simp only[sJ]at hk;subst hk;simp[ex]at he;done)|(simp at hk;done)|(simp only[sJ]at hk;exact hn ⟨_,_,hk.symm⟩)|(split at hk<;>first|(simp only[sJ]at hk;subst hk;simp[ex]at he;done)|(simp at hk;done)|(simp only[sJ]at hk;exact hn ⟨_,_,hk.symm⟩))))
 |
  _=>
  exfalso
  rw[ox]at hk
  first
  |(simp only[kr,reduceCtorEq]at hk;done)
  |(simp only[kr]at hk
    repeat (split at hk<;>(try contradiction))
    all_goals first|(simp only[sJ]at hk;subst hk;simp[ex]at he;done)|(simp at hk;done)|(split at hk<;>first|(simp only[sJ]at hk;subst hk;simp[ex]at he;done)|(simp at hk;done)|(split at hk<;>first|(simp only[sJ]at hk;subst hk;simp[ex]at he;done)|(simp at hk;done))))
end Go.Ab
namespace Go.Ab
variable [cM]
variable {P:Program} {nt:Nat} {ds:List Deferred} {s:St} {Γ:Cx} {a:Act} {w:World} [gQ]
def aC.toV {p:PV} {v:Value} (h:aC Γ [p] [v]) (ha:p.isAgg=false):aN Γ p v:=by
 cases p<;>simp[PV.isAgg]at ha<;>first|(simp only[aN];done)|(simp only[aN];exact h)|(exact absurd h (by intro h;cases h))
theorem sD:∀ {l:WG} {vs:UE},aC Γ l vs->(∀x∈l,x.isAgg=false)->fE Γ l vs
 |[],vs,h,_=>by cases h;trivial
 |
  p::l,vs,h,hn=>by
  obtain⟨cs,us,rfl,h1,h2⟩:=h.pv
  have hp:=hn p (by simp)
  have hw:p.width=1:=by cases p<;>simp[PV.isAgg]at hp<;>rfl
  have hl:=h1.gn
  rw[hw]at hl
  obtain⟨v,rfl⟩:=JoJ.1 hl
  exact⟨h1.toV hp,sD h2 (λx hx=>hn x (by simp[hx]))⟩
theorem fE.append:∀ {l m:WG} {vs us:UE},fE Γ l vs->fE Γ m us->fE Γ (l++m) (vs++us)
 |[],m,[],us,_,h=>h
 |p::l,m,v::vs,us,h,h'=>⟨h.1,fE.append h.2 h'⟩
 |[],m,v::vs,us,h,_=>by simp[fE]at h
 |p::l,m,[],us,h,_=>by simp[fE]at h
theorem fE.aI {f:Nat->Bool} {ρ:Nat->Nat} {Δ:Cx} (hs:tW f ρ Γ Δ):∀ {l:WG} {vs:UE},fE Γ l vs->al f l=true->fE Δ (bw ρ l) vs
 |[],[],_,_=>trivial
 |
  p::l,v::vs,h,hf=>by
  simp only[al,aJ]at hf
  exact⟨h.1.aI hs hf.1,fE.aI hs h.2 hf.2⟩
 |[],v::vs,h,_=>by simp[fE]at h
 |p::l,[],h,_=>by simp[fE]at h
theorem wv:∀ {ps:WG} {xs:ZI},ps.length=xs.length->(∀(i:Nat) p x,ps[i]? =some p->xs[i]? =some x->aN Γ p (a.eval x))->fE Γ ps (xs.map a.eval)
 |[],[],_,_=>trivial
 |p::ps,x::xs,hl,h=>⟨h 0 p x rfl rfl,wv (by simpa using hl) (λi q y h1 h2=>h (i+1) q y h1 h2)⟩
 |[],_::_,hl,_=>by simp at hl
 |_::_,[],hl,_=>by simp at hl
def Hu (P:Program) (nt:Nat) (ds:List Deferred) (Γ:Cx) (w:World) (K:UD) (Kr:Act->World->Prop):Prop:=
 ∀s' Γ' a' w',fW nt ds s' Γ' a'->w'.heap=Γ'.heap->Le Γ Γ'->WF w w'->K s'->Kr a' w'
def NQ {o:Oper} {f:Operand} {args:Array Operand} {tys:Array TypeId} {fid:FuncId} {fs cs:Array Value} (ho:o.op= .call {callee:= .value f,args,argTypes:=tys}) (hf:a.eval f= .func (.func fid) fs cs):
  execOp a.eval o=(do let d←(Pure.pure {target:= .fn (.func fid) cs,args:=fs++args.map a.eval}:Sem Deferred);invoke d.target d.args):=by
 unfold execOp;rw[ho];simp only[resolve,hf,Deferred.ofValue]
theorem JO {o:Oper} {f:Operand} {args:Array Operand} {tys:Array TypeId} {fid:FuncId} {first cap ps:WG} (ho:o.op= .call {callee:= .value f,args,argTypes:=tys})
  (hf:aN Γ (.fn (.func fid) first cap) (a.eval f)) (hl:ps.length=args.toList.length) (hp:∀(i:Nat) p x,ps[i]? =some p->args.toList[i]? =some x->aN Γ p (a.eval x)):
  ∃vs:UE,fE Γ (first++ps++cap) vs∧∀w r,(callFunc fid vs.toArray).run P w=r->(execOp a.eval o).run P w=r:=by
 simp only[aN]at hf;generalize hv:a.eval f=v at hf;cases hf with
 |
  @fn _ _ fs cs _ _ _ h1 h2 h3 h4 _=>
  refine⟨fs++args.toList.map a.eval++cs,((sD h1 h3).append (wv hl hp)).append (sD h2 h4),λw r hc=> ?_⟩
  rw[NQ ho hv]
  have e:(fs++args.toList.map a.eval++cs).toArray=(fs.toArray++args.map a.eval)++cs.toArray:=by
   apply Array.ext';simp
  rw[e]at hc
  exact hc
def Hv {n k:Nat}:cN (dE n) k=k:=by
 unfold cN;split
 ·rename_i h;cases hi:(dE n)[k-KB]?with
  |none=>rfl
  |some j=>simp only[Option.getD_some];have:=(yL.1 hi).2;omega
 ·rfl
def Qd {ro:Option Nat} {l:Nat} {f:FuncId} {tmps:Array Value} {as bo:Code} {R:Ending->World->Prop} (h:RoundIn (FW none) 0 P l f tmps as bo w R):RoundIn (FW ro) 0 P l f tmps as bo w R:=h
def Hw {o:Oper} {f:Operand} {args:Array Operand} {tys:Array TypeId} {f':AX} {cC:ZP} {K:UD} {Kr:Act->World->Prop} {Q:Exit->Act->World->Prop} {ro:Option Nat} (ho:o.op= .call {callee:= .value f,args,argTypes:=tys})
  (hf:eH f=some f') (hx:sv args.toList=some cC) (hs:fW nt ds s Γ a) (hw:w.heap=Γ.heap) (hd:∀j,o.dst=some j->j<nt) (hY:Ex P Γ) (h:kD P s o.dst f' cC K) (hk:Hu P nt ds Γ w K Kr):o.wpIn (FW ro) 0 P a w Kr Q:=by
 unfold kD at h;obtain⟨pf,h,PD⟩:=bR hf hs rfl h;obtain⟨ps,h,hl,hp⟩:=xk hs rfl hx h;split at h
 case h_3=>exact h.elim
 case h_2=>
  rename_i l _;obtain⟨bf,R,hg,vJ,od,G1,hK⟩:=h;obtain⟨Γ0,rec,Y3,h0,Ua,TX,hAY⟩:=hY l ps bf R G1;rw[←hs.bx]at hg
  have hev:a.eval f= .func (.yield l) #[] #[]:=by
   simp only[aN]at PD;generalize a.eval f=v at PD;cases PD with
   | @fn _ _ fs cs _ _ _ h1 h2 h3 h4 _=>cases h1;cases h2;rfl
  have ia:(execOp a.eval o).run P w=(Instr.yield l (args.toList.map a.eval).toArray).run P w:=by
   have e:(args.toList.map a.eval).toArray= #[]++args.map a.eval:=by apply Array.ext';simp
   rw[e];unfold execOp;rw[ho];simp only[resolve,hev,Deferred.ofValue];rfl
  have oA:=Cx.rL hg;have hA:fE Γ ps (args.toList.map a.eval):=wv hl hp;have U2:=hA.aI oA (by rw[tX];exact vJ);rw[jM (λ_=>tY)]at U2;have Jz:Γ.heap[l]? =Γ0.heap[l]? :=by rw[Y3.plain TX Ua rfl,Ua]
  obtain⟨fn,tmps,as,bo,hy,hR⟩:=hAY (Γ.call (dE gQ.n) bf) w _ hw (Cx.Cd hs.mem hg (sC _) (by rw[tX];exact od)) (by simp only[Cx.call];rw[Cj (λ_=>tY)]) U2 (Qb h0 Y3 hg) Jz;refine⟨λ_ _=>trivial,?_⟩;rw[Oper.semAt_eq _ _ _ (λc=>by rw[ho];simp),ia,hy,Oper.uponIn_round];refine⟨λh=>by simp[Fence.wide]at h,Qd (hR.mono ?_)⟩;rintro e w' ⟨fp,Γ',rfl,hR,hw',vE,afN,hle,ss⟩;obtain⟨⟨hlen,n7⟩,hKK⟩:=hK fp hR;have hlk:(dE gQ.n++[]).length=gQ.n:=by simp[dE]
  obtain⟨same2,le2,mem2⟩:=Ce hs.mem hg (os:=[]) (by simpa using sC _) (by simp) vE afN hle (by rw[hlen,hlk]) (by rw[hlen];exact n7);have Dv:=hs.le le2 mem2 (yJ:=aQ s.bx (dE gQ.n) fp) (by simp only[Cx.back,JdW,hs.bx];rw[Cj (λ_=>Hv)]);exact hk _ _ _ _ (Dv.put hd (p:= .bl true) (v:= .bool true) (by simp only[aN];exact .bl _ .nil)) (by simp[Cx.back,hw']) le2 ss hKK
 rename_i fid first cap
 obtain⟨ks,os,bf,R,hg,hn,Nl,vJ,od,hc,hK⟩:=h;obtain⟨vs,hA,ia⟩:=JO (P:=P) ho PD hl hp;refine⟨λ_ _=>trivial,?_⟩;rw[←hs.bx]at hg Nl;have hnk:ks.Nodup:=(JeQ.1 hn).1;have oA:=Cx.rL hg
 have key:∀e w',(∃v r mW Γ',e=Ending.returned v∧R r mW∧w'.heap=Γ'.heap∧Mem Γ'∧Γ'.bx=az 0 mW∧aN Γ' r v∧Le (Γ.call ks bf) Γ'∧WF w w')->∃v,e= .returned v∧Kr (a.put o.dst v) w':=by
  rintro e w' ⟨v,r,fp,Γ',rfl,hR,hw',vE,afN,Dz,hle,ss⟩;obtain⟨⟨hlen,hrr,n7⟩,hKK⟩:=hK r fp hR;obtain⟨same2,le2,mem2⟩:=Ce hs.mem hg hn Nl vE afN hle hlen n7;have Dv:=hs.le le2 mem2 (yJ:=aQ s.bx (ks++os) (fp.map (aG (cN (ks++os))))) (by simp[Cx.back,hs.bx]);exact⟨v,rfl,hk _ _ _ _ (Dv.put hd (Dz.aI same2 hrr)) (by simp[Cx.back,hw']) le2 ss hKK⟩
 rcases hc (Γ.call ks bf) w vs hw (Cx.Cd hs.mem hg hnk od) rfl (hA.aI oA vJ)with⟨GZ,Eg⟩|⟨v,w',GZ,Eg⟩
 ·rw[Oper.semAt_eq _ _ _ (λc=>by rw[ho];simp),ia w _ GZ,Oper.uponIn_enter];refine⟨λh=>by simp[Fence.wide]at h,P9 ?_⟩;refine Eg.mono λe w' he=> ?_;obtain⟨v,rfl,h⟩:=key e w' he;exact h
 ·rw[Oper.semAt_eq _ _ _ (λc=>by rw[ho];simp),ia w _ GZ];obtain⟨u,hu,h⟩:=key _ w' Eg;cases hu;exact h
def iT {ρ:Nat->Nat} {p:PV} (h:ae (λ_=>false) p=true):aI ρ p=p:=Cb (f:=λ_=>false) (by simp) p h
def me {ρ:Nat->Nat} {l:WG} (h:al (λ_=>false) l=true):bw ρ l=l:=nN (f:=λ_=>false) (by simp) l h
mutual
theorem e9 {f g:Nat->Bool} (h:∀k,f k=true->g k=true):∀p,ae f p=true->ae g p=true
 | .st w l,hh=>by simp only[ae]at*;exact di h l hh
 | .ar sz n l,hh=>by simp only[ae]at*;exact di h l hh
 | .tup l,hh=>by simp only[ae]at*;exact di h l hh
 | .sl sz l c,hh=>by simp only[ae]at*;exact di h l hh
 | .fp sz l c,hh=>by simp only[ae]at*;exact di h l hh
 | .fn f x y,hh=>by simp only[ae,aJ]at*;exact⟨di h x hh.1,di h y hh.2⟩
 | .gd b p,hh=>by simp only[ae]at*;exact e9 h p hh
 | .ifc b p,hh=>by simp only[ae]at*;exact e9 h p hh
 | .rs ..,hh=>by simp only[ae]at*;exact h _ hh
 | .pt ..,hh=>by simp only[ae]at*;exact h _ hh
 | .un,_| .bl _,_| .int ..,_| .str _,_| .np,_| .nf,_| .ni,_| .mp ..,_=>by simp[ae]
theorem di {f g:Nat->Bool} (h:∀k,f k=true->g k=true):∀l,al f l=true->al g l=true
 |[],_=>by simp[al]
 |p::l,hh=>by simp only[al,aJ]at*;exact⟨e9 h p hh.1,di h l hh.2⟩
end
def Ck {d:Option Nat} {f:AX} {args:ZP} {K:UD} (h:nR P s d f args K):kD P s d f args K:=by
 unfold nR at h;unfold kD
 have hv:∀ {g:Bool} {x:AX} {K K':W7},(∀p,K p->K' p)->vg g s x K->vg g s x K':=by
  intro g x K K' hh hv;unfold vg at*;split at hv
  ·exact⟨hv.1,hh _ hv.2⟩
  ·exact hh _ hv
 have hvs:∀ {g:Bool} {xs:ZP} {K K':WG->Prop},(∀p,K p->K' p)->wh g s xs K->wh g s xs K':=by
  intro g xs;induction xs with
  |nil=>intro K K' hh hv;exact hh _ hv
  |cons x xs ih=>intro K K' hh hq;exact hv (λp hp=>ih (λq hq=>hh _ hq) hp) hq
 refine hv (λpf hq=>hvs (λps hr=> ?_) hq) h;split at hr
 case h_2=>exact hr.elim
 rename_i fid first cap
 obtain⟨v,⟨h1,h2⟩,hc,hK⟩:=hr;refine⟨[],[],[],(λr fp=>r=v∧fp=[]),rfl,by simp,by simp,di (by simp) _ h1,rfl,?_,?_⟩
 ·rw[me h1];exact hc
 ·rintro r fp ⟨rfl,rfl⟩;refine⟨⟨rfl,e9 (by simp) _ h2,rfl⟩,?_⟩;rw[iT h2];exact hK
end Go.Ab
namespace Go.Ab
variable [cM]
variable {P:Program} {nt:Nat} {ds:List Deferred} {s:St} {Γ:Cx} {a:Act} {w:World} [gQ]
def Dt {α:Type} (C:(α->Prop)->Prop):Prop:=∀K,C K->∃p,K p∧∀K':α->Prop,K' p->C K'
def Dt.ret {α:Type} (v:α):Dt (λK=>K v):=λ_ h=>⟨v,h,λ_ h=>h⟩
def Dt.no {α:Type}:Dt (λ_:α->Prop=>False):=λ_ h=>h.elim
def Dt.bind {α β:Type} {C:(α->Prop)->Prop} {D:α->(β->Prop)->Prop} (hc:Dt C) (hd:∀p,Dt (D p)):Dt (λK=>C (λp=>D p K)):=by
 intro K h;obtain⟨p,hp,hk⟩:=hc _ h;obtain⟨q,hq,BO⟩:=hd p _ hp;exact⟨q,hq,λK' h'=>hk _ (BO _ h')⟩
def Dt.and {α:Type} {c:Prop} {C:(α->Prop)->Prop} (hc:Dt C):Dt (λK=>c∧C K):=by
 intro K h;obtain⟨p,hp,hk⟩:=hc _ h.2;exact⟨p,hp,λK' h'=>⟨h.1,hk _ h'⟩⟩
def rO (g:Bool) (s:St) (x:AX):Dt (vg g s x):=by
 unfold vg;split
 ·exact Dt.and (Dt.ret _)
 ·exact Dt.ret _
theorem sE (g:Bool) (s:St):∀xs,Dt (wh g s xs)
 |[]=>Dt.ret _
 |
  x::xs=>by
  show Dt λK=>wh g s (x::xs) K
  simp only[wh]
  exact Dt.bind (rO g s x) λp=>Dt.bind (sE g s xs) λps=>Dt.ret _
theorem yM (g:Bool) (s:St):∀xs,Dt (Bf g s xs)
 |[]=>Dt.ret _
 |
  (i,x)::xs=>by
  show Dt λK=>Bf g s ((i,x)::xs) K
  simp only[Bf]
  exact Dt.bind (rO g s x) λp=>Dt.bind (yM g s xs) λps=>Dt.ret _
def qo (p:PV):Dt (mS p):=by
 unfold mS;split
 ·exact Dt.ret _
 ·exact Dt.no
theorem Hx (mx:Bool):∀l a,Dt (lX mx a l)
 |[],a=>Dt.ret _
 |
  p::r,a=>by
  show Dt λK=>lX mx a (p::r) K
  simp only[lX]
  exact Dt.bind (qo p) λb=>Hx mx r _
def Vo (op:BinOp) (k:IntKind) (a b:Int):Dt (qj op k a b):=by
 cases op<;>first|exact Dt.ret _|exact Dt.and (Dt.ret _)
def Vp (op:BinOp) (a b:Zz):Dt (yE op a b):=by
 cases op<;>first|exact Dt.ret _|exact Dt.and (Dt.ret _)|exact Dt.no
def u7 (op:BinOp) (b:Bool):Dt (su op b):=by
 cases op<;>first|exact Dt.ret _|exact Dt.no
def Vq (s:St) (op:BinOp) (eqs:ET) (p q:PV):Dt (qN s op eqs p q):=by
 show Dt λK=>qN s op eqs p q K;cases eqs<;>simp only[qN]
 case no=>split<;>first|exact Dt.and (Vo _ _ _ _)|exact Vp _ _ _|exact Dt.no
 case sh x=>exact Dt.and (u7 _ _)
 case bl=>split<;>first|exact u7 _ _|exact Dt.no
 case fnc=>split<;>first|exact u7 _ _|exact Dt.no
 case ptr=>
  split
  ·exact u7 _ _
  ·split
   ·exact Dt.and (u7 _ _)
   ·exact Dt.no
  ·exact u7 _ _
  ·exact Dt.no
def AW {α β:Type} (C:(α->β->Prop)->Prop):Prop:=∀K,C K->∃p q,K p q∧∀K':α->β->Prop,K' p q->C K'
def AW.ret {α β:Type} (v:α) (u:β):AW (λK=>K v u):=λ_ h=>⟨v,u,h,λ_ h=>h⟩
def AW.no {α β:Type}:AW (λ_:α->β->Prop=>False):=λ_ h=>h.elim
def AW.and {α β:Type} {c:Prop} {C:(α->β->Prop)->Prop} (hc:AW C):AW (λK=>c∧C K):=by
 intro K h;obtain⟨p,q,hp,hk⟩:=hc _ h.2;exact⟨p,q,hp,λK' h'=>⟨h.1,hk _ h'⟩⟩
def AW.of {α β γ:Type} {C:(α->Prop)->Prop} {D:α->(β->γ->Prop)->Prop} (hc:Dt C) (hd:∀p,AW (D p)):AW (λK=>C (λp=>D p K)):=by
 intro K h;obtain⟨p,hp,hk⟩:=hc _ h;obtain⟨q,r,hq,BO⟩:=hd p _ hp;exact⟨q,r,hq,λK' h'=>hk _ (BO _ h')⟩
def Dt.Aq {α β γ:Type} {C:(α->β->Prop)->Prop} {D:α->β->(γ->Prop)->Prop} (hc:AW C) (hd:∀p q,Dt (D p q)):Dt (λK=>C (λp q=>D p q K)):=by
 intro K h;obtain⟨p,q,hp,hk⟩:=hc _ h;obtain⟨r,hq,BO⟩:=hd p q _ hp;exact⟨r,hq,λK' h'=>hk _ (BO _ h')⟩
def pE (s:St) (p:PV):AW (content s p):=by
 show AW λK=>content s p K
 cases p<;>simp only[content]<;>first
  |exact AW.ret _ _|exact AW.no
  |(split<;>first|exact AW.and (AW.ret _ _)|exact AW.no|(split<;>first|exact AW.and (AW.ret _ _)|exact AW.no))
def sF (g:Bool) (s:St) (lo hi:Option AX) (len cap:Nat):AW (jX g s lo hi len cap):=by
 unfold jX;refine AW.of (C:=match hi with|none=>λ(J:Nat->Prop)=>J len|some x=>λJ=>vg g s x λp=>mS p λh=>(0≤h∧h≤cap)∧J h.toNat) ?_ λh=> ?_
 ·cases hi with
  |none=>exact Dt.ret _
  |some x=>exact Dt.bind (rO g s x) λp=>Dt.bind (qo p) λh=>Dt.and (Dt.ret _)
 ·refine AW.of (C:=match lo with|none=>λ(J:Nat->Prop)=>J 0|some x=>λJ=>vg g s x λp=>mS p λl=>(0≤l∧l≤h)∧J l.toNat) ?_ λl=>AW.ret _ _;cases lo with
  |none=>exact Dt.ret _
  |some x=>exact Dt.bind (rO g s x) λp=>Dt.bind (qo p) λh=>Dt.and (Dt.ret _)
theorem tD (g:Bool) (s:St) (k:AK):Dt (ev g s k):=by
 have V:=rO g s;have I:=qo;show Dt λK=>ev g s k K;cases k with
 |mv x=>exact V x
 |
  pick c a b=>
  simp only[ev]
  refine Dt.bind (V c) λp=> ?_
  split
  ·split<;>first|exact Dt.ret _|exact Dt.and (Dt.ret _)|exact Dt.no
  ·exact Dt.no
 |
  build z parts=>
  simp only[ev]
  refine Dt.bind (yM g s parts) λp=> ?_
  split<;>first|exact Dt.no|(split<;>first|exact Dt.ret _|exact Dt.no)
 |
  load agg w x=>
  simp only[ev]
  refine Dt.bind (V x) λp=> ?_
  split
  ·split
   ·split<;>first|exact Dt.and (Dt.ret _)|exact Dt.no
   ·exact Dt.no
  ·split<;>first|exact Dt.and (Dt.ret _)|exact Dt.no
  ·exact Dt.no
 |
  nilCheck x=>
  simp only[ev]
  refine Dt.bind (V x) λp=> ?_
  split
  ·split<;>first|exact Dt.and (Dt.ret _)|exact Dt.no
  all_goals first|exact Dt.ret _|exact Dt.no
 |bin op eqs x y=>simp only[ev];exact Dt.bind (V x) λp=>Dt.bind (V y) λq=>Vq _ _ _ _ _
 |
  un op x=>
  simp only[ev]
  refine Dt.bind (V x) λp=> ?_
  split<;>first|exact Dt.ret _|exact Dt.no
 |convI k x=>simp only[ev];exact Dt.bind (V x) λp=>Dt.bind (I p) λn=>Dt.ret _
 |
  convS x=>
  simp only[ev]
  refine Dt.bind (V x) λp=>Dt.Aq (pE s p) λsz l=>Dt.and ?_
  split<;>first|exact Dt.ret _|exact Dt.no
 |mkFunc f first cap=>simp only[ev];exact Dt.bind (sE g s first) λp=>Dt.bind (sE g s cap) λq=>Dt.and (Dt.ret _)
 |
  slice k x lo hi mx=>
  cases k with
  |
   str=>
   simp only[ev]
   refine Dt.bind (V x) λp=> ?_
   split
   ·exact Dt.and (Dt.Aq (sF _ _ _ _ _ _) λl h=>Dt.ret _)
   ·exact Dt.no
  |
   sl sz=>
   simp only[ev]
   refine Dt.bind (V x) λp=> ?_
   split
   ·split
    ·exact Dt.Aq (sF _ _ _ _ _ _) λl h=>Dt.and (Dt.ret _)
    ·exact Dt.bind (V _) λq=>Dt.bind (I q) λm=>Dt.and (Dt.Aq (sF _ _ _ _ _ _) λl h=>Dt.and (Dt.ret _))
   ·split
    ·refine Dt.and ?_
     split
     ·exact Dt.Aq (sF _ _ _ _ _ _) λl h=>Dt.ret _
     ·exact Dt.bind (V _) λq=>Dt.bind (I q) λm=>Dt.and (Dt.Aq (sF _ _ _ _ _ _) λl h=>Dt.ret _)
    ·exact Dt.no
   ·exact Dt.no
  |
   ar n sz=>
   simp only[ev]
   refine Dt.bind (V x) λp=> ?_
   split
   ·split
    ·exact Dt.and (Dt.and (Dt.Aq (sF _ _ _ _ _ _) λl h=>Dt.ret _))
    ·exact Dt.no
   ·split
    ·exact Dt.and (Dt.Aq (sF _ _ _ _ _ _) λl h=>Dt.ret _)
    ·exact Dt.no
   ·exact Dt.no
 |
  fieldA i off x=>
  simp only[ev]
  refine Dt.bind (V x) λp=> ?_
  split
  ·split<;>first|exact Dt.and (Dt.ret _)|exact Dt.no
  all_goals first|exact Dt.ret _|exact Dt.no
 |
  s2a n sz x=>
  simp only[ev]
  refine Dt.bind (V x) λp=> ?_
  split
  ·exact Dt.and (Dt.ret _)
  ·split<;>first|exact Dt.and (Dt.ret _)|exact Dt.no
  all_goals first|exact Dt.ret _|exact Dt.no
 |
  field i off agg w x=>
  simp only[ev]
  refine Dt.bind (V x) λp=> ?_
  split
  ·split<;>first|exact Dt.and (Dt.ret _)|exact Dt.no
  ·exact Dt.no
 |
  indexA k x i=>
  cases k with
  |str=>simp only[ev];exact Dt.no
  |
   sl sz=>
   simp only[ev]
   refine Dt.bind (V x) λp=>Dt.bind (V i) λq=>Dt.bind (I q) λj=> ?_
   split
   ·exact Dt.and (Dt.ret _)
   ·split<;>first|exact Dt.and (Dt.ret _)|exact Dt.no
   ·exact Dt.no
  |
   ar n sz=>
   simp only[ev]
   refine Dt.bind (V x) λp=>Dt.bind (V i) λq=>Dt.bind (I q) λj=>Dt.and ?_
   split
   ·split<;>first|exact Dt.and (Dt.ret _)|exact Dt.no
   all_goals first|exact Dt.ret _|exact Dt.no
 |
  index agg n w x i=>
  simp only[ev]
  refine Dt.bind (V x) λp=>Dt.bind (V i) λq=>Dt.bind (I q) λj=> ?_
  split
  ·split<;>first|exact Dt.and (Dt.ret _)|exact Dt.no
  ·exact Dt.no
 |
  indexS x i=>
  simp only[ev]
  refine Dt.bind (V x) λp=>Dt.bind (V i) λq=>Dt.bind (I q) λj=> ?_
  split
  ·split<;>first|exact Dt.and (Dt.ret _)|exact Dt.no
  ·exact Dt.no
 |
  extract i x=>
  simp only[ev]
  split
  ·split<;>first|exact Dt.ret _|exact Dt.no
  ·exact Dt.no
 |
  len x=>
  simp only[ev]
  refine Dt.bind (V x) λp=> ?_
  split
  ·exact Dt.ret _
  ·split<;>first|exact Dt.and (Dt.ret _)|exact Dt.no
  ·exact Dt.no
 |
  cap x=>
  simp only[ev]
  refine Dt.bind (V x) λp=> ?_
  split
  ·split<;>first|exact Dt.and (Dt.ret _)|exact Dt.no
  ·exact Dt.no
 |
  lenS x=>
  simp only[ev]
  refine Dt.bind (V x) λp=> ?_
  split<;>first|exact Dt.ret _|exact Dt.no
 |lenC n=>simp only[ev];exact Dt.ret _
 |
  mm mx xs=>
  simp only[ev]
  refine Dt.bind (sE g s xs) λps=> ?_
  split
  ·exact Dt.bind (Hx _ _ _) λn=>Dt.ret _
  ·exact Dt.no
 |_=>simp only[ev];exact Dt.no
end Go.Ab
namespace Go.Ab
variable [cM]
variable {P:Program} {nt:Nat} {ds:List Deferred} {s s':St} {Γ:Cx} {a:Act} {w:World} [gQ]
def AX.reads:AX->Yx
 | .t n=>[n]
 | .c _=>[]
def axs:ZP->Yx
 |[]=>[]
 |x::r=>x.reads++axs r
def axo:Option AX->Yx
 |none=>[]
 |some x=>x.reads
def axp:List (Nat×AX)->Yx
 |[]=>[]
 |(_,x)::r=>x.reads++axp r
def AK.reads:AK->Yx
 | .mv x| .load _ _ x| .nilCheck x| .un _ x| .convI _ x| .convS x| .convB x| .convL x| .fieldA _ _ x| .s2a _ _ x| .field _ _ _ _ x| .extract _ x| .len x| .lenS x| .cap x| .box x=>x.reads
 | .pick c a b=>c.reads++a.reads++b.reads
 | .build _ parts| .buildSlice _ _ _ _ parts=>axp parts
 | .bin _ _ x y| .indexA _ x y| .index _ _ _ x y| .indexS x y| .store _ x y| .append _ _ _ x y| .appendZ _ _ _ x y| .copy _ x y| .makeSlice _ _ _ x y=>x.reads++y.reads
 | .mkFunc _ a b=>axs a++axs b
 | .slice _ x lo hi mx=>x.reads++(axo lo++(axo hi++axo mx))
 | .lenC _| .alloc _| .mkMap .. =>[]
 | .mapGet _ _ _ _ m x=>m.reads++x.reads
 | .mapSet _ _ m x y=>m.reads++(x.reads++y.reads)
 | .mm _ xs=>axs xs
 | .call f args| .callq f args=>f.reads++axs args
 | .isNil _ x| .fill _ _ x=>x.reads
def cO (s s':St) (l:Yx):Prop:=∀n∈l,get s'.env n=get s.env n
def cO.left {l m:Yx} (h:cO s s' (l++m)):cO s s' l:=λn hn=>h n (JaX.2 (.inl hn))
def cO.right {l m:Yx} (h:cO s s' (l++m)):cO s s' m:=λn hn=>h n (JaX.2 (.inr hn))
theorem kT {x:AX} (h:cO s s' x.reads):vx s' x=vx s x:=by
 cases x with
 |t n=>simp only[vx];rw[h n (by simp[AX.reads])]
 |c p=>rfl
def aF {g:Bool} {x:AX} (h:cO s s' x.reads):vg g s' x=vg g s x:=by
 funext K;unfold vg;rw[kT h]
theorem fk {g:Bool}:∀ {xs:ZP},cO s s' (axs xs)->wh g s' xs=wh g s xs
 |[],_=>rfl
 |
  x::xs,h=>by
  funext K;simp only[wh];rw[aF (x:=x) h.left,fk (xs:=xs) h.right]
theorem nb {g:Bool}:∀ {xs:List (Nat×AX)},cO s s' (axp xs)->Bf g s' xs=Bf g s xs
 |[],_=>rfl
 |
  (i,x)::xs,h=>by
  funext K;simp only[Bf];rw[aF (x:=x) h.left,nb (xs:=xs) h.right]
def vQ (hb:s'.bx=s.bx) (p:PV):content s' p=content s p:=by
 funext K;cases p<;>simp only[content,hb]
def JP (hb:s'.bx=s.bx) (op:BinOp) (e:ET) (p q:PV):qN s' op e p q=qN s op e p q:=by
 funext K;unfold qN;rw[hb]
def Cl {g:Bool} {lo hi:Option AX} (h1:cO s s' (axo lo)) (h2:cO s s' (axo hi)) (n c:Nat):jX g s' lo hi n c=jX g s lo hi n c:=by
 funext K;cases lo<;>cases hi<;>simp only[jX]
 ·rw[aF h2]
 ·rw[aF h1]
 ·rw[aF h2];simp only[aF h1]
theorem Cm {g:Bool} {k:AK} (hb:s'.bx=s.bx) (h:cO s s' k.reads):ev g s' k=ev g s k:=by
 funext K;cases k with
 |mv x=>simp only[ev];rw[aF h]
 |pick c a b=>simp only[ev];rw[aF h.left.left,kT h.left.right,kT h.right]
 |build z parts=>simp only[ev];rw[nb h]
 |load agg w x=>simp only[ev];rw[aF h,hb]
 |nilCheck x=>simp only[ev];rw[aF h,hb]
 |bin op e x y=>simp only[ev];rw[aF h.left,aF h.right];simp only[JP hb]
 |un op x=>simp only[ev];rw[aF h]
 |convI k x=>simp only[ev];rw[aF h]
 |convS x=>simp only[ev];rw[aF h];simp only[vQ hb]
 |mkFunc f a b=>simp only[ev];rw[fk h.left,fk h.right]
 |
  slice k x lo hi mx=>
  have hx:=aF (g:=g) h.left
  have hl:=λn c=>Cl (g:=g) h.right.left h.right.right.left n c
  have hm:=h.right.right.right
  cases k<;>cases mx<;>simp only[ev,hx,hl,hb]
  rw[aF (x:=_) hm]
 |fieldA i off x=>simp only[ev];rw[aF h,hb]
 |s2a n sz x=>simp only[ev];rw[aF h,hb]
 |field i off agg w x=>simp only[ev];rw[aF h]
 |
  indexA k x i=>
  have hx:=aF (g:=g) h.left
  have hi:=aF (g:=g) h.right
  cases k<;>simp only[ev,hx,hi,hb]
 |index agg n w x i=>simp only[ev];rw[aF h.left,aF h.right]
 |indexS x i=>simp only[ev];rw[aF h.left,aF h.right]
 |extract i x=>simp only[ev];rw[kT h]
 |len x=>simp only[ev];rw[aF h,hb]
 |lenS x=>simp only[ev];rw[aF h]
 |cap x=>simp only[ev];rw[aF h,hb]
 |lenC n=>rfl
 |mm mx xs=>simp only[ev];rw[fk h]
 |_=>rfl
def AO.quiet (o:AO):Bool:=
 match o.k with
 | .call .. =>false
 | .callq .. =>true
 | .buildSlice own .. => !own
 |k=> !og k
def AO.reads (o:AO):Yx:=(match o.guard with|some (n,_)=>[n]|none=>[])++o.k.reads
def Qe {d:Option Nat} {f:AX} {args:ZP} {K:UD} (h:nR P s d f args K):
  ∃v,K (s.put d v)∧∀s',s'.bx=s.bx->cO s s' (AK.callq f args).reads->∀K':UD,K' (s'.put d v)->nR P s' d f args K':=by
 unfold nR at h;obtain⟨pf,h,h1⟩:=rO _ _ _ _ h;obtain⟨ps,h,h2⟩:=sE _ _ _ _ h;split at h
 case h_2=>exact h.elim
 rename_i fid first cap
 obtain⟨v,GZ,Eg,hK⟩:=h;refine⟨v,hK,λs' hb ha K' kC=> ?_⟩;unfold nR;rw[aF ha.left];refine h1 _ ?_;rw[fk ha.right];exact h2 _ ⟨v,GZ,Eg,kC⟩
def Qg {d:Option Nat} {sz n:Nat} {z:PV} {parts:List (Nat×AX)} {K:UD} (h:ex s d (.buildSlice false sz z n parts) K):
  ∃v,K (s.put d v)∧∀s',s'.bx=s.bx->cO s s' (AK.buildSlice false sz z n parts).reads->∀K':UD,K' (s'.put d v)->ex s' d (.buildSlice false sz z n parts) K':=by
 simp only[ex]at h;obtain⟨ps,h,h1⟩:=yM _ _ _ _ h;split at h
 case h_2=>exact h.elim
 rename_i l hl;simp only[fJ,if_false]at h;refine⟨_,h,λs' hb ha K' kC=> ?_⟩;simp only[ex];rw[nb ha];refine h1 _ ?_;simp only[hl,fJ,if_false];exact kC
theorem JQ {o:AO} {K:UD} (hq:o.quiet=true) (h:ko P s o K):
  ∃v,K (s.put o.dst v)∧∀s',s'.bx=s.bx->cO s s' o.k.reads->∀K':UD,K' (s'.put o.dst v)->ko P s' o K':=by
 obtain⟨dst,guard,mg,k⟩:=o;cases k with
 |call f args=>simp[AO.quiet]at hq
 |callq f args=>exact Qe h
 |
  buildSlice own sz z n parts=>
  simp only[AO.quiet,JfW]at hq
  subst hq
  simp only[ko,og,if_true]at h⊢
  exact Qg h
 |
  _=>
  first
  |(simp[AO.quiet,og]at hq;done)
  |(simp only[ko,og,fJ,if_false]at h⊢
    obtain⟨v,hK,hv⟩:=tD _ _ _ _ h
    refine⟨v,hK,λs' hb ha K' kC=> ?_⟩
    rw[Cm hb ha]
    exact hv _ kC)
theorem JR {o:AO} {K:UD} (hq:o.quiet=true) (h:fA P s o K):
  ∃v,K (s.put o.dst v)∧∀s',s'.bx=s.bx->cO s s' o.reads->∀K':UD,K' (s'.put o.dst v)->fA P s' o K':=by
 unfold fA at h;cases hg:o.guard with
 |
  none=>
  rw[hg]at h
  obtain⟨v,hK,hv⟩:=JQ hq h
  refine⟨v,hK,λs' hb ha K' kC=> ?_⟩
  unfold fA;rw[hg]
  exact hv s' hb ha.right K' kC
 |
  some gw=>
  obtain⟨sl,want⟩:=gw
  rw[hg]at h
  simp only at h
  have cA:∀ {s':St},cO s s' o.reads->get s'.env sl=get s.env sl:=λha=>ha sl (by simp[AO.reads,hg])
  split at h
  ·rename_i b hb
   split at h
   ·rename_i hm
    obtain⟨v,hK,hv⟩:=tD _ _ _ _ h
    refine⟨_,hK,λs' lj ha K' kC=> ?_⟩
    unfold fA;rw[hg];simp only[cA ha,hb,hm,if_true]
    rw[Cm lj ha.right]
    exact hv _ kC
   ·rename_i hm
    by_cases oT:b=want
    ·obtain⟨v,hK,hv⟩:=JQ hq (h.1 oT)
     refine⟨v,hK,λs' lj ha K' kC=> ?_⟩
     unfold fA;rw[hg];simp only[cA ha,hb,hm]
     exact⟨λ_=>hv s' lj ha.right K' kC,λhn=>absurd oT hn⟩
    ·refine⟨.un,h.2 oT,λs' lj ha K' kC=> ?_⟩
     unfold fA;rw[hg];simp only[cA ha,hb,hm]
     exact⟨λhn=>absurd hn oT,λ_=>kC⟩
  ·rename_i g b hb
   split at h
   ·rename_i hm
    obtain⟨v,hK,hv⟩:=tD _ _ _ _ h
    refine⟨_,hK,λs' lj ha K' kC=> ?_⟩
    unfold fA;rw[hg];simp only[cA ha,hb,hm,if_true]
    rw[Cm lj ha.right]
    exact hv _ kC
   ·rename_i hm
    by_cases oT:g=true∧b=want
    ·obtain⟨v,hK,hv⟩:=JQ hq (h.1 oT.1 oT.2)
     refine⟨v,hK,λs' lj ha K' kC=> ?_⟩
     unfold fA;rw[hg];simp only[cA ha,hb,hm]
     exact⟨λ_ _=>hv s' lj ha.right K' kC,λhn=>absurd oT.2 (hn oT.1)⟩
    ·refine⟨.un,h.2 (λh1 h2=>oT ⟨h1,h2⟩),λs' lj ha K' kC=> ?_⟩
     unfold fA;rw[hg];simp only[cA ha,hb,hm]
     exact⟨λh1 h2=>absurd ⟨h1,h2⟩ oT,λ_=>kC⟩
  ·exact h.elim
theorem put_comm {α:Type} {n m:Nat} (h:n≠m) (x y:α):∀l:List (Nat×α),put (put l n x) m y=put (put l m y) n x
 |
  []=>by
  simp only[put]
  by_cases h1:n<m
  ·simp[h,Ne.symm h,show¬m<n by omega,h1]
  ·simp[h,Ne.symm h,show m<n by omega,h1]
 |
  (k,v)::r=>by
  have ih:=put_comm h x y r
  grind [put]
theorem St.put_comm {d e:Option Nat} (h:∀k,d=some k->e≠some k) (v u:PV):(s.put d v).put e u=(s.put e u).put d v:=by
 cases d with
 |none=>rfl
 |
  some d=>
  cases e with
  |none=>rfl
  |
   some e=>
   have:d≠e:=λhh=>h d rfl (by rw[hh])
   simp only[St.put,Ab.put_comm this]
def AO.apart (x y:AO):Bool:=
 (match x.dst with|some d=> !y.reads.contains d&&y.dst !=some d|none=>true)&&
 (match y.dst with|some d=> !x.reads.contains d|none=>true)
theorem cO.put {d:Option Nat} {v:PV} {l:Yx} (h:∀k,d=some k->k∉l):cO s (s.put d v) l:=by
 intro n hn;cases d with
 |none=>rfl
 |
  some d=>
  have:d≠n:=λe=>h d rfl (e▸hn)
  simp[St.put,bG _ _ _ _ this]
def cO.aju {d:Option Nat} {v:PV} {l:Yx} (h:∀k,d=some k->k∉l):cO (s.put d v) s l:=λn hn=>((cO.put h) n hn).symm
def iF (d:Option Nat) (v:PV):(s.put d v).bx=s.bx:=by cases d<;>rfl
def Qh {x y:AO} {K:UD} (hx:x.quiet=true) (hy:y.quiet=true) (fL:x.apart y=true) (h:fA P s x λs1=>fA P s1 y K):fA P s y λs2=>fA P s2 x K:=by
 have h1:∀d,x.dst=some d->d∉y.reads:=λd hd=>by simp[AO.apart,hd]at fL;exact fL.1.1
 have h2:∀d,x.dst=some d->y.dst≠some d:=λd hd=>by simp[AO.apart,hd]at fL;exact fL.1.2
 have h3:∀d,y.dst=some d->d∉x.reads:=λd hd=>by simp[AO.apart,hd]at fL;exact fL.2
 obtain⟨v,h,hv⟩:=JR hx h;obtain⟨u,h,hu⟩:=JR hy h;refine hu s (iF _ _).symm (cO.aju h1) _ ?_;refine hv _ (iF _ _) (cO.put h3) _ ?_;rw[St.put_comm (λk hk he=>h2 k he hk)];exact h
end Go.Ab
namespace Go.Ab
variable [cM]
variable {P:Program} {nt:Nat} {ds:List Deferred} {s s':St} {Γ:Cx} {a:Act} {w:World} [gQ]
theorem sG {ro:Option Nat} {ops:Array Oper} {o:Oper} {i:Nat} {Q:Exit->Act->World->Prop} {K:Act->World->Prop} (hi:ops[i]? =some o) (h1:Region.wanted o (yielded ops a.tmps)=true->o.wpIn (FW ro) 0 P a w K Q) (h2:Region.wanted o (yielded ops a.tmps)=false->K (a.put o.dst undef) w):wpOpIn (FW ro) 0 P ops Q i K a w:=by
 unfold wpOpIn;rw[hi];simp only;cases h:Region.wanted o (yielded ops a.tmps)with
 |true=>simp only[if_true];exact h1 h
 |false=>simp only[fJ,if_false];exact⟨λ_ _=>trivial,h2 h⟩
def xt {b:Builtin} {xs:ZI} {ts:List TypeId} {f:AX} {l:ZP} (h:b8 P b xs ts=some (.call f l)):False:=by
 unfold b8 at h;split at h;all_goals (repeat' (split at h))
 all_goals first|(simp at h;done)|contradiction
def wx {b:Builtin} {xs:ZI} {ts:List TypeId} {f:AX} {l:ZP} (h:b8 P b xs ts=some (.callq f l)):False:=by
 unfold b8 at h;split at h;all_goals (repeat' (split at h))
 all_goals first|(simp at h;done)|contradiction
def FK {own:Bool} {op:Op} {f:AX} {l:ZP} (h:kr P own op=some (.callq f l)):False:=by
 unfold kr at h;split at h;all_goals first|(exact wx h)|skip
 all_goals (repeat' (split at h))
 all_goals first|(simp at h;done)|contradiction
theorem aN.slz {z z':Nat} {v:Value} (h:aN Γ (.sl z [] true) v):aN Γ (.sl z' [] true) v:=by
 simp only[aN]at h⊢;cases h with
 |
  sl _ _ _ ad bg h1 h2 h3 h4 h5 h6=>
  have:=aC.sl (Γ:=Γ) z' [] true ad bg .nil (by simp) h3 h4 (λh=>absurd rfl h) .nil
  exact this
def Qi {o:Oper} {k:AK} {own draw:Bool} {ty:TypeId} {K:W7} (hk:kr P own o.op=some k) (hs:fW nt ds s Γ a) (hw:w.heap=Γ.heap) (he:ev true s (xr P draw ty k) K):
  ∃p v,K p∧(execOp a.eval o).run P w= .ok (.value v) w∧aN Γ p v:=by
 unfold xr at he;split at he
 ·split at he<;>simp[ev]at he
 ·split at he
  ·rename_i e _;obtain⟨p,v,rfl,ia,hr⟩:=B0 (K:=λp=>p= .sl 0 [] true) hk hs hw rfl (by simp[ev,vg,vx]);simp only[ev,vg,vx]at he;exact⟨_,v,he,ia,hr.slz⟩
  ·exact B0 hk hs hw rfl he
 ·exact B0 hk hs hw rfl he
def Qj {draw:Bool} {ty:TypeId} {k:AK}:og (xr P draw ty k)=og k:=by
 unfold xr;split
 ·split<;>rfl
 ·split<;>rfl
 ·rfl
def acd {draw:Bool} {ty:TypeId} {k:AK} (h:og k=true):xr P draw ty k=k:=by
 unfold xr;split
 ·simp[og]at h
 ·simp[og]at h
 ·rfl
def yN {ro:Option Nat} {o:Oper} {ao:AO} {ops:Array Oper} {own sp:Yx} {draw:Bool} {K:UD} {Kr:Act->World->Prop} {Q:Exit->Act->World->Prop} (ht:oh P nt ops own sp draw o=some ao) (hs:fW nt ds s Γ a) (hw:w.heap=Γ.heap)
  (hY:Ex P Γ) (h:ko P s ao K) (hk:Hu P nt ds Γ w K Kr):o.wpIn (FW ro) 0 P a w Kr Q:=by
 unfold oh at ht;generalize (draw&& !Vn own o.dst)=dr at ht;split at ht
 case h_2=>simp at ht
 rename_i k g rl hg;split at ht
 case isFalse=>simp at ht
 rename_i hd;simp only[sJ]at ht;by_cases hc:∃f args,k= .call f args
 ·obtain⟨f,args,rfl⟩:=hc
  have h':kD P s o.dst f args K:=by
   rw[←ht]at h;cases dr with
   |true=>simp only[xr,if_true,ko]at h;exact Ck h
   |false=>simp only[xr,fJ,if_false,ko]at h;exact h
  have Jk:∀j,o.dst=some j->j<nt:=by
   intro j hj;rw[hj]at hd;simpa[xq]using hd
  --the operation is a call
  obtain⟨f0,vS,asc,ho,hf0,ha0⟩:∃f0 vS asc,o.op= .call {callee:= .value f0,args:=vS,argTypes:=asc}∧eH f0=some f∧sv vS.toList=some args:=by
   cases ox:o.op with
   |
    call c=>
    obtain⟨callee,vS,tys⟩:=c
    rw[ox]at rl
    cases callee with
    |
     value f0=>
     simp only[kr]at rl
     split at rl<;>simp only[sJ,reduceCtorEq,AK.call.injEq]at rl
     rename_i g0 l0 e1 e2
     exact⟨f0,vS,tys,rfl,by rw[e1,rl.1],by rw[e2,rl.2]⟩
    |invoke r m=>simp[kr]at rl
    |
     builtin b=>
     exfalso
     simp only[kr]at rl
     exact xt rl
   |
    binOp op t x y yt=>
    exfalso
    rw[ox]at rl;simp only[kr]at rl
    repeat (split at rl<;>(try contradiction))
    all_goals first|(simp at rl;done)|(split at rl<;>first|(simp at rl;done)|(split at rl<;>first|(simp at rl;done)|(split at rl<;>first|(simp at rl;done)|(split at rl<;>simp at rl))))
   |
    _=>
    exfalso
    rw[ox]at rl
    first
    |(simp only[kr,reduceCtorEq]at rl;done)
    |(simp only[kr]at rl
      repeat (split at rl<;>(try contradiction))
      all_goals first|(simp at rl;done)|(split at rl<;>first|(simp at rl;done)|(split at rl<;>first|(simp at rl;done)|(split at rl<;>simp at rl))))
  exact Hw ho hf0 ha0 hs hw Jk hY h' hk
 ·by_cases hx:og k=true
  ·have e:ko P s ao K=ex s o.dst k K:=by
    rw[←ht];unfold ko;rw[acd hx];split
    ·rename_i heq;exact absurd ⟨_,_,heq⟩ hc
    ·rename_i heq;simp only at heq;rw[heq]at hx;simp[og]at hx
    ·rw[if_pos hx]
   rw[e]at h;exact Oper.Ap rl (Qc rl hs hw hd h) hk
  ·have e:ko P s ao K->ev true s (xr P dr o.type k) λp=>K (s.put o.dst p):=by
    rw[←ht];unfold ko;intro h;simp only at h;split at h
    ·rename_i heq;exfalso;unfold xr at heq;split at heq
     ·exact absurd ⟨_,_,rfl⟩ hc
     ·split at heq<;>simp at heq
     ·exact absurd ⟨_,_,heq⟩ hc
    ·rename_i heq;exfalso;unfold xr at heq;split at heq
     ·exact absurd ⟨_,_,rfl⟩ hc
     ·split at heq<;>simp at heq
     ·rw[heq]at rl;exact FK rl
    ·rw[if_neg (by rw[Qj];exact hx)]at h;exact h
   have he:=e h;obtain⟨p,v,hK,ia,hr⟩:=Qi rl hs hw he;refine Oper.Ap rl (sA hs (λj hj=> ?_) (Le.refl Γ) hs.mem rfl ia hw (WF.refl w) hr hK) hk;rw[hj]at hd;unfold xq at hd;split at hd
   ·rename_i heq;simp[og]at hx
   ·rename_i heq _;simp at heq;subst heq;simpa using hd
   ·rename_i heq;simp at heq
def DS:aN Γ .un undef:=by simp[aN]
def FL {ops:Array Oper} {j sl:Nat} {want abR:Bool} (h:u6 ops (some (j,want))=some (some (sl,abR))):(ops[j]?).bind (·.dst)=some sl∧abR=want:=by
 unfold u6 at h;simp only at h;split at h<;>simp at h;rename_i d hd;obtain⟨rfl,rfl⟩:=h;exact⟨hd,rfl⟩
theorem oV {ro:Option Nat} {ops:Array Oper} {i:Nat} {o:Oper} {ao:AO} {own sp:Yx} {draw:Bool} {K:UD} {Kr:Act->World->Prop} {Q:Exit->Act->World->Prop} (hi:ops[i]? =some o) (ht:oh P nt ops own sp draw o=some ao) (hs:fW nt ds s Γ a) (hw:w.heap=Γ.heap)
  (hY:Ex P Γ) (h:fA P s ao K) (hk:Hu P nt ds Γ w K Kr):wpOpIn (FW ro) 0 P ops Q i Kr a w:=by
 have ht0:=ht;unfold oh at ht;generalize (draw&& !Vn own o.dst)=dr at ht;split at ht
 case h_2=>simp at ht
 rename_i k g rl hg;split at ht
 case isFalse=>simp at ht
 rename_i hd;simp only[sJ]at ht;have hkd:ao.k=xr P dr o.type k:=by rw[←ht]
 have PC:ao.dst=o.dst:=by rw[←ht]
 have Pl:ao.guard=g:=by rw[←ht]
 have hmg:ao.mg=true->rN k=true:=by
  rw[←ht];intro hm;simp only[aJ]at hm;exact hm.1
 have El:∀ {p:PV} {v:Value},(∀x y z,k≠ .store x y z)->aN Γ p v->K (s.put o.dst p)->Kr (a.put o.dst v) w:=by
  intro p v bY hr hK;refine hk _ _ _ _ (hs.put (λj hj=> ?_) hr) hw (Le.refl Γ) (WF.refl w) hK;rw[hj]at hd;unfold xq at hd;split at hd
  ·exact absurd rfl (bY _ _ _)
  ·rename_i heq _;simp at heq;subst heq;simpa using hd
  ·rename_i heq;simp at heq
 have Ub:K (s.put o.dst .un)->Kr (a.put o.dst undef) w:=by
  intro hK;refine hk _ _ _ _ (hs.put (λj hj=> ?_) DS) hw (Le.refl Γ) (WF.refl w) hK;rw[hj]at hd;unfold xq at hd;split at hd
  ·simp at hd
  ·rename_i heq _;simp at heq;subst heq;simpa using hd
  ·rename_i heq;simp at heq
 unfold fA at h;cases hog:o.guard with
 |
  none=>
  rw[hog]at hg;simp only[u6,sJ]at hg
  rw[Pl,←hg]at h
  refine sG hi (λ_=>yN ht0 hs hw hY h hk) (λhn=> ?_)
  simp[Region.wanted,hog]at hn
 |
  some jw=>
  obtain⟨j,aFo⟩:=jw
  rw[hog]at hg
  obtain⟨sl,want,rfl⟩:∃sl want,g=some (sl,want):=by
   unfold u6 at hg;simp only at hg;split at hg<;>simp at hg;exact⟨_,_,hg.symm⟩
  obtain⟨DE,rfl⟩:=FL hg
  have No:Region.wanted o (yielded ops a.tmps)=(yielded ops a.tmps j==some want):=by unfold Region.wanted;rw[hog]
  have hy:∀v,a.tmps.getD sl undef=v->yielded ops a.tmps j=(match v with| .bool b=>some b|_=>none):=by
   intro v hv;unfold yielded;rw[DE];simp only[JkJ];rw[JbQ]at hv;cases ho:a.tmps[sl]?with
   |none=>rw[ho]at hv;subst hv;rfl
   |some u=>rw[ho]at hv;subst hv;cases u<;>rfl
  rw[Pl]at h
  simp only at h
  have hev:∀ {gg:Bool},ao.mg=true->ev gg s ao.k (λp=>K (s.put ao.dst (.gd gg p)))->(Region.wanted o (yielded ops a.tmps)=gg)->wpOpIn (FW ro) 0 P ops Q i Kr a w:=by
   intro gg hm he hwg;have UZ:rN k=true:=hmg hm;have bY:∀x y z,k≠ .store x y z:=by rintro x y z rfl;simp[rN]at UZ
   rw[hkd,PC]at he;refine sG hi (λh1=> ?_) (λh1=> ?_)
   ·rw[hwg]at h1;subst h1;obtain⟨p,v,hK,ia,hr⟩:=Qi rl hs hw he;refine⟨λ_ _=>trivial,?_⟩;rw[Oper.semAt_eq _ _ _ (Ao rl),ia];exact El bY (p:= .gd true p) (by rw[aN];exact⟨λ_=>hr,by simp⟩) hK
   ·rw[hwg]at h1;subst h1;obtain⟨p,hK,_⟩:=tD _ _ _ _ he;exact El bY (p:= .gd false p) (by rw[aN];exact⟨by simp,λ_=>rfl⟩) hK
  split at h
  ·rename_i b hb
   have hbv:a.tmps.getD sl undef= .bool b:=by
    cases hgs:get s.env sl with
    |none=>rw[hgs]at hb;simp at hb
    |
     some q=>
     rw[hgs]at hb;simp only[Option.getD_some]at hb;subst hb
     have:=hs.env sl _ hgs
     simp only[aN]at this
     generalize a.tmps.getD sl undef=v at this
     cases this;rfl
   have hyb:yielded ops a.tmps j=some b:=by rw[hy _ hbv]
   split at h
   ·rename_i hm
    exact hev hm h (by rw[No,hyb];rfl)
   ·refine sG hi (λh1=> ?_) (λh1=> ?_)
    ·rw[No,hyb]at h1
     exact yN ht0 hs hw hY (h.1 (by simpa using h1)) hk
    ·rw[No,hyb]at h1
     exact Ub (by rw[←PC];exact h.2 (by simpa using h1))
  ·rename_i gg b hb
   have hbv:(gg=true->a.tmps.getD sl undef= .bool b)∧(gg=false->a.tmps.getD sl undef=undef):=by
    cases hgs:get s.env sl with
    |none=>rw[hgs]at hb;simp at hb
    |
     some q=>
     rw[hgs]at hb;simp only[Option.getD_some]at hb;subst hb
     have:=hs.env sl _ hgs
     rw[aN]at this
     refine⟨λhg=> ?_,this.2⟩
     have:=this.1 hg
     simp only[aN]at this
     generalize a.tmps.getD sl undef=v at this
     cases this;rfl
   have hwg:Region.wanted o (yielded ops a.tmps)=(gg&&b==want):=by
    rw[No];cases gg with
    |true=>rw[hy _ (hbv.1 rfl)];rfl
    |false=>rw[hy _ (hbv.2 rfl)];simp[undef]
   split at h
   ·rename_i hm
    exact hev hm h hwg
   ·refine sG hi (λh1=> ?_) (λh1=> ?_)
    ·rw[hwg]at h1
     simp only[aJ,beq_iff_eq]at h1
     exact yN ht0 hs hw hY (h.1 h1.1 h1.2) hk
    ·rw[hwg]at h1
     have h2:=h.2 (λhg oT=>by rw[hg,oT]at h1;simp at h1)
     exact Ub (by rw[←PC];exact h2)
  ·exact h.elim
end Go.Ab
namespace Go.Ab
variable [cM]
variable {P:Program} {nt:Nat} {ds:List Deferred} {s s':St} [gQ]
def AK.free:AK->Bool
 | .mv _| .pick .. | .build .. | .un .. | .convI .. | .mkFunc .. | .field .. | .index .. | .indexS .. | .extract .. | .lenS _| .lenC _| .mm .. =>true
 |_=>false
def AO.free (o:AO):Bool:=o.k.free
def AO.qp (o:AO):Bool:=o.dst.isNone&&(match o.k with| .store .. =>true|_=>false)
theorem FM {g:Bool} {k:AK} {K:W7} (hf:k.free=true) (h:cO s s' k.reads) (he:ev g s k K):ev g s' k K:=by
 cases k with
 |mv x=>simp only[ev]at he⊢;rw[aF h];exact he
 |pick c a b=>simp only[ev]at he⊢;rw[aF h.left.left,kT h.left.right,kT h.right];exact he
 |build z parts=>simp only[ev]at he⊢;rw[nb h];exact he
 |un op x=>simp only[ev]at he⊢;rw[aF h];exact he
 |convI k x=>simp only[ev]at he⊢;rw[aF h];exact he
 |mkFunc f a b=>simp only[ev]at he⊢;rw[fk h.left];simp only[fk h.right];exact he
 |field i off agg w x=>simp only[ev]at he⊢;rw[aF h];exact he
 |index agg n w x i=>simp only[ev]at he⊢;rw[aF h.left,aF h.right];exact he
 |indexS x i=>simp only[ev]at he⊢;rw[aF h.left,aF h.right];exact he
 |extract i x=>simp only[ev]at he⊢;rw[kT h];exact he
 |lenS x=>simp only[ev]at he⊢;rw[aF h];exact he
 |lenC n=>simp only[ev]at he⊢;exact he
 |mm mx xs=>simp only[ev]at he⊢;rw[fk h];exact he
 |_=>simp[AK.free]at hf
def JS {o:AO} (h:o.free=true):o.quiet=true:=by
 obtain⟨d,g,m,k⟩:=o;cases k<;>simp[AO.free,AK.free]at h<;>rfl
def Cn {o:AO} {K:UD} (hf:o.free=true) (h:ko P s o K):
  ∃v,K (s.put o.dst v)∧∀s',cO s s' o.k.reads->∀K':UD,K' (s'.put o.dst v)->ko P s' o K':=by
 obtain⟨dst,guard,mg,k⟩:=o
 have e:∀(s:St) K,ko P s ⟨dst,guard,mg,k⟩ K=ev true s k λp=>K (s.put dst p):=by
  intro s K;cases k<;>first|rfl|(simp[AO.free,AK.free]at hf;done)
 rw[e]at h;obtain⟨v,hK,hv⟩:=tD _ _ _ _ h;refine⟨v,hK,λs' ha K' kC=> ?_⟩;rw[e];exact FM hf ha (hv _ kC)
def Qf (P:Program) (r:St) (o:AO) (v:PV):Prop:=∀s':St,cO r s' o.reads->∀K':UD,K' (s'.put o.dst v)->fA P s' o K'
theorem Hy {o:AO} {K:UD} (hq:o.free=true) (h:fA P s o K):∃v,K (s.put o.dst v)∧Qf P s o v:=by
 unfold fA at h;cases hg:o.guard with
 |
  none=>
  rw[hg]at h
  obtain⟨v,hK,hv⟩:=Cn hq h
  refine⟨v,hK,λs' ha K' kC=> ?_⟩
  unfold fA;rw[hg]
  exact hv s' ha.right K' kC
 |
  some gw=>
  obtain⟨sl,want⟩:=gw
  rw[hg]at h
  simp only at h
  have cA:∀ {s':St},cO s s' o.reads->get s'.env sl=get s.env sl:=λha=>ha sl (by simp[AO.reads,hg])
  split at h
  ·rename_i b hb
   split at h
   ·rename_i hm
    obtain⟨v,hK,hv⟩:=tD _ _ _ _ h
    refine⟨_,hK,λs' ha K' kC=> ?_⟩
    unfold fA;rw[hg];simp only[cA ha,hb,hm,if_true]
    exact FM hq ha.right (hv _ kC)
   ·rename_i hm
    by_cases oT:b=want
    ·obtain⟨v,hK,hv⟩:=Cn hq (h.1 oT)
     refine⟨v,hK,λs' ha K' kC=> ?_⟩
     unfold fA;rw[hg];simp only[cA ha,hb,hm]
     exact⟨λ_=>hv s' ha.right K' kC,λhn=>absurd oT hn⟩
    ·refine⟨.un,h.2 oT,λs' ha K' kC=> ?_⟩
     unfold fA;rw[hg];simp only[cA ha,hb,hm]
     exact⟨λhn=>absurd hn oT,λ_=>kC⟩
  ·rename_i g b hb
   split at h
   ·rename_i hm
    obtain⟨v,hK,hv⟩:=tD _ _ _ _ h
    refine⟨_,hK,λs' ha K' kC=> ?_⟩
    unfold fA;rw[hg];simp only[cA ha,hb,hm,if_true]
    exact FM hq ha.right (hv _ kC)
   ·rename_i hm
    by_cases oT:g=true∧b=want
    ·obtain⟨v,hK,hv⟩:=Cn hq (h.1 oT.1 oT.2)
     refine⟨v,hK,λs' ha K' kC=> ?_⟩
     unfold fA;rw[hg];simp only[cA ha,hb,hm]
     exact⟨λ_ _=>hv s' ha.right K' kC,λhn=>absurd oT.2 (hn oT.1)⟩
    ·refine⟨.un,h.2 (λh1 h2=>oT ⟨h1,h2⟩),λs' ha K' kC=> ?_⟩
     unfold fA;rw[hg];simp only[cA ha,hb,hm]
     exact⟨λh1 h2=>absurd ⟨h1,h2⟩ oT,λ_=>kC⟩
  ·exact h.elim
def FN {o:AO} {K:UD} (hq:o.qp=true) (h:ko P s o K):
  ∃b,K {s with bx:=b}∧∀s',s'.bx=s.bx->cO s s' o.k.reads->∀K':UD,K' {s' with bx:=b}->ko P s' o K':=by
 obtain⟨dst,guard,mg,k⟩:=o;simp only[AO.qp,aJ]at hq;cases k<;>simp at hq;rename_i n x y;simp only[ko,og,if_true,ex]at h⊢;obtain⟨p,h,h1⟩:=rO _ _ _ _ h;obtain⟨v,h,h2⟩:=rO _ _ _ _ h;cases p<;>simp only at h
 case pt k pth aD=>
  split at h
  case h_2=>exact h.elim
  rename_i blk hb;split at h
  case h_2=>exact h.elim
  rename_i bL tB;obtain⟨hc,hK⟩:=h;refine⟨_,hK,λs' lj ha K' kC=> ?_⟩;rw[aF ha.left];refine h1 _ ?_;rw[aF ha.right];refine h2 _ ?_;simp only[lj,hb,tB];exact⟨hc,kC⟩
theorem yO {o:AO} {K:UD} (hq:o.qp=true) (h:fA P s o K):
  ∃b,K {s with bx:=b}∧∀s',s'.bx=s.bx->cO s s' o.reads->∀K':UD,K' {s' with bx:=b}->fA P s' o K':=by
 have hd:o.dst=none:=by simp[AO.qp]at hq;exact hq.1
 have El:∀(s:St) p,s.put o.dst p=s:=by intro s p;rw[hd];rfl
 have Uc:∀(g:Bool) (s:St) K,ev g s o.k K->False:=by
  intro g s K h;obtain⟨dst,guard,mg,k⟩:=o;cases k<;>simp[AO.qp]at hq;simp[ev]at h
 unfold fA at h;cases hg:o.guard with
 |
  none=>
  rw[hg]at h
  obtain⟨b,hK,hv⟩:=FN hq h
  refine⟨b,hK,λs' hb ha K' kC=> ?_⟩
  unfold fA;rw[hg]
  exact hv s' hb ha.right K' kC
 |
  some gw=>
  obtain⟨sl,want⟩:=gw
  rw[hg]at h
  simp only at h
  have cA:∀ {s':St},cO s s' o.reads->get s'.env sl=get s.env sl:=λha=>ha sl (by simp[AO.reads,hg])
  split at h
  ·rename_i b hb
   split at h
   ·exact(Uc _ _ _ h).elim
   ·rename_i hm
    by_cases oT:b=want
    ·obtain⟨v,hK,hv⟩:=FN hq (h.1 oT)
     refine⟨v,hK,λs' lj ha K' kC=> ?_⟩
     unfold fA;rw[hg];simp only[cA ha,hb,hm]
     exact⟨λ_=>hv s' lj ha.right K' kC,λhn=>absurd oT hn⟩
    ·refine⟨s.bx,by have:=h.2 oT;rw[El]at this;exact this,λs' lj ha K' kC=> ?_⟩
     unfold fA;rw[hg];simp only[cA ha,hb,hm]
     exact⟨λhn=>absurd hn oT,λ_=>by rw[El];rw[←lj]at kC;exact kC⟩
  ·rename_i g b hb
   split at h
   ·exact(Uc _ _ _ h).elim
   ·rename_i hm
    by_cases oT:g=true∧b=want
    ·obtain⟨v,hK,hv⟩:=FN hq (h.1 oT.1 oT.2)
     refine⟨v,hK,λs' lj ha K' kC=> ?_⟩
     unfold fA;rw[hg];simp only[cA ha,hb,hm]
     exact⟨λ_ _=>hv s' lj ha.right K' kC,λhn=>absurd oT.2 (hn oT.1)⟩
    ·refine⟨s.bx,by have:=h.2 (λh1 h2=>oT ⟨h1,h2⟩);rw[El]at this;exact this,λs' lj ha K' kC=> ?_⟩
     unfold fA;rw[hg];simp only[cA ha,hb,hm]
     exact⟨λh1 h2=>absurd ⟨h1,h2⟩ oT,λ_=>by rw[El];rw[←lj]at kC;exact kC⟩
  ·exact h.elim
def Hz {d:Option Nat} {v:PV} {b:List (Nat×aU)}:({s with bx:=b}:St).put d v= {s.put d v with bx:=b}:=by cases d<;>rfl
def cO.bx {l:Yx} {b:List (Nat×aU)}:cO s {s with bx:=b} l:=λ_ _=>rfl
def cO.yJ {l:Yx} {b:List (Nat×aU)}:cO {s with bx:=b} s l:=λ_ _=>rfl
def AO.comm (y x:AO):Bool:=y.apart x&&(y.quiet&&x.quiet||y.free&&x.qp||y.qp&&x.free)
def Qk {y x:AO} {K:UD} (h:y.comm x=true) (hh:fA P s y λs1=>fA P s1 x K):fA P s x λs2=>fA P s2 y K:=by
 simp only[AO.comm,aJ,JhQ]at h;obtain⟨fL,h⟩:=h;have h1:∀d,y.dst=some d->d∉x.reads:=λd hd=>by simp[AO.apart,hd]at fL;exact fL.1.1
 have h3:∀d,x.dst=some d->d∉y.reads:=λd hd=>by simp[AO.apart,hd]at fL;exact fL.2
 rcases h with(h|h)|h
 ·exact Qh h.1 h.2 fL hh
 ·obtain⟨v,hh,hv⟩:=Hy h.1 hh;obtain⟨b,hh,hb⟩:=yO h.2 hh;refine hb s (iF _ _).symm (cO.aju h1) _ ?_;refine hv _ cO.bx _ ?_;rw[Hz];exact hh
 ·obtain⟨b,hh,hb⟩:=yO h.1 hh;obtain⟨v,hh,hv⟩:=Hy h.2 hh;refine hv s cO.yJ _ ?_;refine hb _ (iF _ _) (cO.put h3) _ ?_;rw[Hz]at hh;exact hh
def NR {y x:AO} {K K':UD} (h:y.comm x=true) (hk:∀s,K s->K' s) (hh:fA P s y K):fA P s y K':=by
 simp only[AO.comm,aJ,JhQ]at h;obtain⟨_,h⟩:=h
 have hq:y.quiet=true∨y.qp=true:=by
  rcases h with(h|h)|h
  ·exact .inl h.1
  ·exact .inl (JS h.1)
  ·exact .inr h.1
 rcases hq with hq|hq
 ·obtain⟨v,h1,h2⟩:=JR hq hh;exact h2 s rfl (λ_ _=>rfl) _ (hk _ h1)
 ·obtain⟨b,h1,h2⟩:=yO hq hh;exact h2 s rfl (λ_ _=>rfl) _ (hk _ h1)
end Go.Ab
namespace Go.Ab
variable [cM]
variable {P:Program} {nt:Nat} {ds:List Deferred} {s s':St} {Γ:Cx} {a:Act} {w:World} {Q:Exit->Act->World->Prop} [gQ]
def JT (P:Program) (s:St):List AO->(UD)->Prop
 |[],K=>K s
 |o::r,K=>fA P s o λs'=>JT P s' r K
def Pw (P:Program) (aos:List AO) (s:St):Yx->(UD)->Prop
 |[],K=>K s
 |
  i::r,K=>match aos[i]?with
  |some o=>fA P s o λs'=>Pw P aos s' r K
  |none=>False
theorem wy {aos:List AO} {K:UD}:∀(n i:Nat) (s:St),i+n=aos.length->(JT P s (aos.drop i) K↔Pw P aos s (List.range' i n) K)
 |0,i,s,h=>by simp only[List.range'_zero,Pw];rw[JiZ (by omega)];rfl
 |
  n+1,i,s,h=>by
  have dx:i<aos.length:=by omega
  rw[List.range'_succ,List.drop_eq_getElem_cons dx]
  simp only[JT,Pw,gJ dx]
  have:(λs'=>JT P s' (aos.drop (i+1)) K)=λs'=>Pw P aos s' (List.range' (i+1) n) K:=funext λs'=>propext (wy n (i+1) s' (by omega))
  rw[this]
noncomputable def jS (P:Program) (nt:Nat) (ops:Array Oper) (own sp:Yx) (draw:Bool):List Oper->Option (List AO)
 |[]=>some []
 |o::r=>match oh P nt ops own sp draw o,jS P nt ops own sp draw r with|some x,some l=>some (x::l)|_,_=>none
theorem pF {ops:Array Oper} {own sp:Yx} {draw:Bool}:∀ {os:List Oper} {aos:List AO},jS P nt ops own sp draw os=some aos->aos.length=os.length∧∀(i:Nat) o,os[i]? =some o->∃ao,aos[i]? =some ao∧oh P nt ops own sp draw o=some ao
 |[],aos,h=>by simp[jS]at h;subst h;simp
 |
  o::r,aos,h=>by
  simp only[jS]at h
  split at h
  ·rename_i x l hx hl
   simp only[sJ]at h;subst h
   obtain⟨h1,h2⟩:=pF hl
   refine⟨by simp[h1],λi o' hi=> ?_⟩
   cases i with
   |zero=>simp at hi;subst hi;exact⟨x,rfl,hx⟩
   |succ i=>simp at hi;simpa using h2 i o' hi
  ·simp at h
def Hu.trans {Γ1:Cx} {w1:World} {K:UD} {Kr:Act->World->Prop} (h1:Le Γ Γ1) (h2:WF w w1) (h:Hu P nt ds Γ w K Kr):Hu P nt ds Γ1 w1 K Kr:=
 λs' Γ' a' w' a1 a2 a3 a4 a5=>h s' Γ' a' w' a1 a2 (h1.trans a3) (h2.trans a4) a5
theorem Ey {ro:Option Nat} {ops:Array Oper} {aos:List AO} {own sp:Yx} {draw:Bool} (ox:∀(i:Nat) o,ops[i]? =some o->∃ao,aos[i]? =some ao∧oh P nt ops own sp draw o=some ao) (hlen:aos.length=ops.size) {K:UD}:
  ∀(l:Yx) {s:St} {Γ:Cx} {a:Act} {w:World},fW nt ds s Γ a->w.heap=Γ.heap->Ex P Γ->Pw P aos s l K->Hu P nt ds Γ w K (Q .normal)->wpOpsIn (FW ro) 0 P ops Q l a w
 |[],s,Γ,a,w,hs,hw,_,h,hk=>hk _ _ _ _ hs hw (Le.refl Γ) (WF.refl w) h
 |
  i::r,s,Γ,a,w,hs,hw,hY,h,hk=>by
  rw[wpOpsIn_cons]
  simp only[Pw]at h
  split at h
  case h_2=>exact h.elim
  rename_i ao BP
  have hi:i<ops.size:=by rw[←hlen];exact(iJ.1 BP).1
  obtain⟨ao',h1,h2⟩:=ox i ops[i] (Array.getElem?_eq_getElem hi)
  rw[BP]at h1;cases h1
  refine oV (Array.getElem?_eq_getElem hi) h2 hs hw hY h ?_
  intro s' Γ' a' w' b1 b2 b3 b4 b5
  exact Ey ox hlen r b1 b2 (hY.le b3) b5 (hk.trans b3 b4)
def FO {ro:Option Nat} {ops:Array Oper} {aos:List AO} {own sp:Yx} {id:Nat} (ht:jS P nt ops own sp false ops.toList=some aos) {K:UD} (hs:fW nt ds s Γ a) (hw:w.heap=Γ.heap) (hY:Ex P Γ) (h:JT P s aos K) (hk:Hu P nt ds Γ w K (Q .normal)):
  (Code.region id ops false).wpIn (FW ro) 0 P Q a w:=by
 obtain⟨h1,h2⟩:=pF ht;refine wpIn_region (Ey (λi o hi=>h2 i o (by simpa using hi)) (by simpa using h1) _ hs hw hY ?_ hk);rw[JoV];exact(wy (P:=P) ops.size 0 s (by simpa using h1.symm)).1 (by simpa using h)
inductive Vr (ops:Array Oper):Nat->Nat->Prop
 |dir {i:Nat} {o:Oper} {e:Edge}:ops[i]? =some o->e∈o.after->Region.binds .any e=true->Vr ops i e.on
 |tr {i j:Nat} {o:Oper} {e:Edge}:ops[i]? =some o->e∈o.after->Region.binds .any e=true->Vr ops e.on j->Vr ops i j
def FP (ms:Yx):List Edge->Nat->Nat
 |[],m=>m
 |e::r,m=>FP ms r (if Region.binds .any e=true then m|||2^e.on|||ms.getD e.on 0 else m)
def fS:List Oper->Yx->Yx
 |[],ms=>ms
 |o::r,ms=>fS r (ms++[FP ms o.after.toList 0])
theorem Ar {ms:Yx} {B:Nat->Prop}:∀(l:List Edge) (m:Nat),(∀e∈l,Region.binds .any e=true->B e.on∧∀j,(ms.getD e.on 0).testBit j=true->B j)->(∀j,m.testBit j=true->B j)->
  ∀j,(FP ms l m).testBit j=true->B j
 |[],m,_,hm,j,h=>hm j h
 |
  e::r,m,hl,hm,j,h=>by
  simp only[FP]at h
  refine Ar r _ (λe he=>hl e (by simp[he])) ?_ j h
  intro j hj
  split at hj
  ·rename_i hb
   obtain⟨h1,h2⟩:=hl e (by simp) hb
   rw[Nat.testBit_or,Nat.testBit_or,JhQ,JhQ,Nat.testBit_two_pow]at hj
   rcases hj with(hj|hj)|hj
   ·exact hm j hj
   ·simp only[decide_eq_true_eq]at hj;subst hj;exact h1
   ·exact h2 j hj
  ·exact hm j hj
theorem Co {ops:Array Oper}:∀(l done:List Oper) (ms:Yx),ops.toList=done++l->ms.length=done.length->(∀(i:Nat) m,ms[i]? =some m->∀j,m.testBit j=true->Vr ops i j)->
  ∀(i:Nat) m,(fS l ms)[i]? =some m->∀j,m.testBit j=true->Vr ops i j
 |[],_,ms,_,_,h=>h
 |
  o::r,done,ms,hd,hl,h=>by
  refine Co r (done++[o]) _ (by simp[hd]) (by simp[hl]) ?_
  intro i m hi j hj
  rw[List.getElem?_append]at hi
  split at hi
  ·exact h i m hi j hj
  ·rename_i Em
   have hi0:i=ms.length:=by
    have:=(iJ.1 hi).1;simp at this;omega
   subst hi0
   simp at hi
   subst hi
   have ho:ops[ms.length]? =some o:=by
    rw[←Array.getElem?_toList,hd,hl];simp
   refine Ar (B:=λj=>Vr ops ms.length j) _ 0 (λe he hb=>⟨.dir ho (by simpa using he) hb,λj hj=> .tr ho (by simpa using he) hb ?_⟩) (by simp) j hj
   cases hx:ms[e.on]?with
   |none=>rw[JfQ,hx]at hj;simp at hj
   |some m=>rw[JfQ,hx]at hj;exact h _ m hx j hj
def As (ms:Yx) (i j:Nat):Bool:=(ms.getD i 0).testBit j
theorem Cp {ops:Array Oper} {i j:Nat} (h:As (fS ops.toList []) i j=true):Vr ops i j:=by
 unfold As at h;cases hx:(fS ops.toList [])[i]?with
 |none=>rw[JfQ,hx]at h;simp at h
 |
  some m=>
  rw[JfQ,hx]at h
  exact Co ops.toList [] [] (by simp) rfl (by simp) i m hx j h
def LV (ops:Array Oper) (aos:List AO) (ms:Yx):Bool:=
 (List.range ops.size).all λi=>match ops[i]?,aos[i]?with
  |some o,some x=>(o.after.all λe=> !Region.binds .any e||decide (e.on<i))&&
    (List.range i).all λj=>As ms i j||(match aos[j]?with|some y=>y.comm x|none=>false)
  |_,_=>false
def Cq (ops:Array Oper) (aos:List AO):Bool:=LV ops aos (fS ops.toList [])
def qO (ops:Array Oper) (listed:Array Bool):Prop:=
 ∀(k:Nat) o,ops[k]? =some o->listed.getD k true=true->∀e∈o.after,Region.binds .any e=true->listed.getD e.on false=true
theorem JU {ops:Array Oper} {listed:Array Bool} (hc:qO ops listed) {i j:Nat} (h:Vr ops i j):listed.getD i false=true->listed.getD j false=true:=by
 have up:∀i:Nat,listed.getD i false=true->listed.getD i true=true:=by
  intro i hl
  have hi:i<listed.size:=by
   rcases Nat.lt_or_ge i listed.size with h'|h'
   ·exact h'
   ·simp[Array.getElem?_eq_none h']at hl
  simpa[JbQ,Array.getElem?_eq_getElem hi]using hl
 induction h with
 |dir ho he hb=>intro hl;exact hc _ _ ho (up _ hl) _ he hb
 |tr ho he hb _ ih=>intro hl;exact ih (hc _ _ ho (up _ hl) _ he hb)
theorem yP {ops:Array Oper} {listed:Array Bool} (hc:qO ops listed) {i j:Nat} (h:Vr ops i j) (hr:i∈Region.ready .any ops listed):listed.getD j false=true:=by
 obtain⟨_,o,ho,cU⟩:=mem_ready.1 hr;cases h with
 |dir ho' he hb=>rw[ho]at ho';cases ho';exact cU _ he hb
 |tr ho' he hb h2=>rw[ho]at ho';cases ho';exact JU hc h2 (cU _ he hb)
theorem Ez {aos:List AO} {K:UD} {i:Nat} {x:AO} (hi:aos[i]? =some x) (l2:Yx):∀(l1:Yx) (s:St),
  (∀j∈l1,∃y,aos[j]? =some y∧y.comm x=true)->Pw P aos s (l1++i::l2) K->fA P s x λs'=>Pw P aos s' (l1++l2) K
 |[],s,_,h=>by simpa[Pw,hi]using h
 |
  j::l1,s,cU,h=>by
  obtain⟨y,hy,fL⟩:=cU j (by simp)
  simp only[JdV,Pw,hy]at h⊢
  exact Qk fL (NR fL (λs' h'=>Ez hi l2 l1 s' (λk hk=>cU k (by simp[hk])) h') h)
theorem avR {ro:Option Nat} {ops:Array Oper} {aos:List AO} {own sp:Yx} (ox:∀(i:Nat) o,ops[i]? =some o->∃ao,aos[i]? =some ao∧oh P nt ops own sp true o=some ao) (hlen:aos.length=ops.size) (cL:Cq ops aos=true) {K:UD}:
  ∀
   (n:Nat) (listed:Array Bool) {s:St} {Γ:Cx} {a:Act} {w:World},listed.size=ops.size->qO ops listed->((List.range ops.size).filter λi=> !listed.getD i true).length=n->
   fW nt ds s Γ a->w.heap=Γ.heap->Ex P Γ->Pw P aos s ((List.range ops.size).filter λi=> !listed.getD i true) K->Hu P nt ds Γ w K (Q .normal)->wpAnyIn (FW ro) 0 P .any ops Q n listed a w:=by
 simp only[Cq,LV,JbJ,JkZ]at cL;have hoi:=cL
 --what is first is ready
 have LH:∀listed:Array Bool,listed.size=ops.size->Region.ready .any ops listed=[]->((List.range ops.size).filter λi=> !listed.getD i true)=[]:=by
  intro listed fP hr;cases hl:(List.range ops.size).filter λi=> !listed.getD i true with
  |nil=>rfl
  |
   cons i l=>
   exfalso
   have hm:∀j,j∈i::l↔j<ops.size∧listed.getD j true=false:=by intro j;rw[←hl];simp
   have Np:(i::l).Pairwise (·<·):=by rw[←hl];exact(List.pairwise_lt_range).filter _
   obtain⟨hi,Fq⟩:=(hm i).1 (by simp)
   have LI:=hoi i hi
   obtain⟨ao,BP,_⟩:=ox i ops[i] (Array.getElem?_eq_getElem hi)
   rw[Array.getElem?_eq_getElem hi,BP]at LI
   simp only[aJ,Array.all_eq_true_iff_forall_mem,JhQ,JfW,decide_eq_true_eq]at LI
   have:i∈Region.ready .any ops listed:=by
    rw[mem_ready];refine⟨Fq,ops[i],Array.getElem?_eq_getElem hi,λe he hb=> ?_⟩;have dx:=(LI.1 e he).resolve_left (by simp[hb]);cases hx:listed.getD e.on false with
    |true=>rfl
    |
     false=>
     have afP:e.on<listed.size:=by omega
     have hu:listed.getD e.on true=false:=by
      simpa[JbQ,Array.getElem?_eq_getElem afP]using hx
     have fQ:=(hm e.on).2 ⟨by omega,hu⟩
     rcases cJ.1 fQ with h|h
     ·omega
     ·have:=JgW Np h;omega
   rw[hr]at this;simp at this
 intro n;induction n with
 |
  zero=>
  intro listed s Γ a w fP hc hn hs hw hY h hk
  have hl:=JfZ.1 hn
  rw[hl]at h
  refine⟨?_,hk _ _ _ _ hs hw (Le.refl Γ) (WF.refl w) h⟩
  rw[List.eq_nil_iff_forall_not_mem]
  intro i hi
  have h0:=(mem_ready.1 hi)
  obtain⟨h1,o,ho,_⟩:=h0
  have:i∈(List.range ops.size).filter λi=> !listed.getD i true:=by
   rw[JgQ,JkZ];exact⟨(Array.getElem?_eq_some_iff.1 ho).1,by rw[h1];rfl⟩
  rw[hl]at this;simp at this
 |
  succ n ih=>
  intro listed s Γ a w fP hc hn hs hw hY h hk
  refine⟨λhr=> ?_,λi hi=> ?_⟩
  ·rw[LH listed fP hr]at hn;simp at hn
  ·obtain⟨Fq,o,ho,cU⟩:=mem_ready.1 hi
   have dx:=(Array.getElem?_eq_some_iff.1 ho).1
   obtain⟨ao,BP,htr⟩:=ox i o ho
   have fQ:i∈(List.range ops.size).filter λi=> !listed.getD i true:=by
    rw[JgQ,JkZ];exact⟨dx,by rw[Fq];rfl⟩
   obtain⟨l1,l2,hl⟩:=List.append_of_mem fQ
   have Np:(l1++i::l2).Pairwise (·<·):=by rw[←hl];exact(List.pairwise_lt_range).filter _
   have u9:(l1++i::l2).Nodup:=Np.imp (λh=>Nat.ne_of_lt h)
   have n8:(List.range ops.size).filter (λj=> !(listed.setIfInBounds i true).getD j true)=l1++l2:=by
    have e:(λj=> !(listed.setIfInBounds i true).getD j true)=λj=>(decide (j≠i))&& !listed.getD j true:=by
     funext j;by_cases Fs:i=j
     ·subst Fs;simp[JbQ,uJ (by omega:i<listed.size)]
     ·rw[getD_set_ne true Fs];simp[Ne.symm Fs]
    rw[e,←List.filter_filter,hl,JhJ,JoW];simp only[ne_eq,not_true,decide_false,fJ,if_false];have Ft:=JeQ.1 u9;rw[JdQ.2,JdQ.2]
    ·intro x hx;simp;rintro rfl;exact(JiQ.1 Ft.2.1).1 hx
    ·intro x hx;simp;rintro rfl;exact Ft.2.2 x hx x (by simp) rfl
   rw[hl]at h hn
   have asf:∀j∈l1,j<i:=λj hj=>by
    have:=(JcW.1 Np).2.2 j hj i (by simp);exact this
   have aBX:∀j∈l1,listed.getD j true=false:=λj hj=>by
    have:j∈(List.range ops.size).filter λi=> !listed.getD i true:=by rw[hl];simp[hj]
    simpa using(JgQ.1 this).2
   have LI:=hoi i dx
   rw[ho,BP]at LI
   simp only[aJ,JbJ,JkZ,JhQ]at LI
   have hf:=Ez (P:=P) (K:=K) BP l2 l1 s (λj hj=>by
    have Ek:=LI.2 j (asf j hj);rcases Ek with hb|hb
    ·have:=yP hc (Cp hb) hi;have hx:=aBX j hj;have Bb:j<listed.size:=by have:=asf j hj;omega
     simp[JbQ,Array.getElem?_eq_getElem Bb]at this hx;rw[this]at hx;simp at hx
    ·split at hb
     ·rename_i y hy;exact⟨y,hy,hb⟩
     ·simp at hb) h
   refine oV ho htr hs hw hY hf ?_
   intro s' Γ' a' w' b1 b2 b3 b4 b5
   refine ih (listed.setIfInBounds i true) (by simp[fP]) ?_ (by rw[n8];simp at hn⊢;omega) b1 b2 (hY.le b3) (by rw[n8];exact b5) (hk.trans b3 b4)
   intro k ok uX uY e he hb
   by_cases Fp:i=k
   ·subst Fp;rw[ho]at uX;cases uX;exact getD_set_true (cU e he hb)
   ·rw[getD_set_ne true Fp]at uY;exact getD_set_true (hc k ok uX uY e he hb)
def xu {ro:Option Nat} {ops:Array Oper} {aos:List AO} {own sp:Yx} {id:Nat} (hm:P.follows .mixedOrders=true) (ht:jS P nt ops own sp true ops.toList=some aos) (cL:Cq ops aos=true) {K:UD} (hs:fW nt ds s Γ a) (hw:w.heap=Γ.heap) (hY:Ex P Γ) (h:JT P s aos K) (hk:Hu P nt ds Γ w K (Q .normal)):
  (Code.region id ops true).wpIn (FW ro) 0 P Q a w:=by
 obtain⟨h1,h2⟩:=pF ht
 have e:((List.range ops.size).filter λi=> !(Array.replicate ops.size false).getD i true)=List.range ops.size:=by
  rw[JdQ];intro i hi;rw[JkZ]at hi;simp[JbQ,hi]
 refine wpIn_region_any hm (avR (s:=s) (Γ:=Γ) (K:=K) (λi o hi=>h2 i o (by simpa using hi)) (by simpa using h1) cL _ _ (by simp) ?_ (by rw[e];simp) hs hw hY ?_ ?_)
 ·intro k o hko hl;have:=(Array.getElem?_eq_some_iff.1 hko).1;simp[JbQ,this]at hl
 ·rw[e,JoV];exact(wy (P:=P) ops.size 0 s (by simpa using h1.symm)).1 (by simpa using h)
 ·intro s' Γ' a' w' b1 b2 b3 b4 b5;exact hk s' Γ' a' w' b1 b2 b3 ⟨b4.os,b4.tape,b4.output⟩ b5
end Go.Ab
namespace Go.Ab
variable [cM]
variable {P:Program} {nt:Nat} {ds:List Deferred} {s:St} {Γ Δ:Cx} {a:Act} {w:World}
mutual
def eG (k sz:Nat) (l0:WG):PV->PV
 | .rs k' p off len aD bu c=>if k'=k then(if aD=l0.length∧p=[]∧bu=sz∧off+len≤l0.length then .sl sz ((l0.drop off).take len) (decide (c= .clip))else .un)else .rs k' p off len aD bu c
 | .pt k' p aD=>if k'=k then(if aD=l0.length then .fp sz l0 p else .un)else .pt k' p aD
 | .st w l=> .st w (fF k sz l0 l)
 | .ar z n l=> .ar z n (fF k sz l0 l)
 | .tup l=> .tup (fF k sz l0 l)
 | .sl z l c=> .sl z (fF k sz l0 l) c
 | .fp z l p=> .fp z (fF k sz l0 l) p
 | .fn f x y=> .fn f (fF k sz l0 x) (fF k sz l0 y)
 | .gd b p=> .gd b (eG k sz l0 p)
 | .ifc t p=> .ifc t (eG k sz l0 p)
 |p=>p
def fF (k sz:Nat) (l0:WG):WG->WG
 |[]=>[]
 |p::l=>eG k sz l0 p::fF k sz l0 l
end
def wz (k sz:Nat) (l0:WG):aU->aU
 | .box v=> .box (eG k sz l0 v)
 | .arr z l=> .arr z (fF k sz l0 l)
 | .map b ks vs l=> .map b ks vs l
variable {k sz:Nat} {l0:WG}
def vc (p:PV):(eG k sz l0 p).width=p.width:=by
 cases p<;>simp only[eG]<;>(try split)<;>(try split)<;>simp[PV.width]
def nc (p:PV):(eG k sz l0 p).isAgg=p.isAgg:=by
 cases p<;>simp only[eG]<;>(try split)<;>(try split)<;>simp[PV.isAgg]
def nS (l:WG):(fF k sz l0 l).length=l.length:=by induction l<;>simp[fF, *]
theorem rR {l:WG} {q:PV} (h:q∈fF k sz l0 l):∃p∈l,q=eG k sz l0 p:=by
 induction l with
 |nil=>simp[fF]at h
 |
  cons x l ih=>
  simp only[fF,cJ]at h
  rcases h with h|h
  ·exact⟨x,by simp,h⟩
  ·obtain⟨p,hp,e⟩:=ih h;exact⟨p,by simp[hp],e⟩
def xv (b:aU):(wz k sz l0 b).aD=b.aD:=by cases b<;>simp[wz,aU.aD,nS]
mutual
theorem FQ:∀p,ae (λj=>decide (j≠k)) p=true->eG k sz l0 p=p
 | .rs k' _ _ _ _ _ _,hp=>by simp only[ae,decide_eq_true_eq]at hp;simp[eG,hp]
 | .pt k' _ _,hp=>by simp only[ae,decide_eq_true_eq]at hp;simp[eG,hp]
 | .st _ l,hp=>by simp only[ae]at hp;simp[eG,nO l hp]
 | .ar _ _ l,hp=>by simp only[ae]at hp;simp[eG,nO l hp]
 | .tup l,hp=>by simp only[ae]at hp;simp[eG,nO l hp]
 | .sl _ l _,hp=>by simp only[ae]at hp;simp[eG,nO l hp]
 | .fp _ l _,hp=>by simp only[ae]at hp;simp[eG,nO l hp]
 | .fn _ x y,hp=>by simp only[ae,aJ]at hp;simp[eG,nO x hp.1,nO y hp.2]
 | .gd _ p,hp=>by simp only[ae]at hp;simp[eG,FQ p hp]
 | .ifc _ p,hp=>by simp only[ae]at hp;simp[eG,FQ p hp]
 | .un,_=>by simp[eG]
 | .bl _,_=>by simp[eG]
 | .int _ _,_=>by simp[eG]
 | .str _,_=>by simp[eG]
 | .np,_=>by simp[eG]
 | .nf,_=>by simp[eG]
 | .ni,_=>by simp[eG]
 | .mp ..,_=>by simp[eG]
theorem nO:∀l,al (λj=>decide (j≠k)) l=true->fF k sz l0 l=l
 |[],_=>rfl
 |p::l,hp=>by simp only[al,aJ]at hp;simp[fF,FQ p hp.1,nO l hp.2]
end
structure Frz (Γ Δ:Cx) (k sz:Nat) (l0:WG):Prop where
 heap:Δ.heap=Γ.heap
 own:∀b,b<Γ.heap.size->¬Γ.own b->¬Δ.own b
 ref:∀k' blk,k'≠k->get Γ.bx k'=some blk->∃bL,get Δ.bx k'=some bL∧bL.aD=blk.aD∧Δ.ι k'=Γ.ι k'
 here:∀blk,get Γ.bx k=some blk->blk= .arr sz l0
 wd:∀x∈l0,x.width=sz
 cells:∀b,Γ.ι k=some b->b<Γ.heap.size∧¬Δ.own b∧∃c e cs rest,Γ.heap[b]? =some (.cells c e (0,0))∧c.toList=cs++rest∧aC Δ l0 cs
theorem aC.eG (hf:Frz Γ Δ k sz l0) {l:WG} {cs:UE} (h:aC Γ l cs):aC Δ (fF k sz l0 l) cs:=by
 induction h with
 |nil=>exact .nil
 |un h hr ih=>exact .un h ih
 |bl x hr ih=>exact .bl x ih
 |int k n hr ih=>exact .int k n ih
 |str l s h hr ih=>exact .str l s h ih
 |st w l hl hw hr ihl ih=>exact .st w _ ihl hw ih
 |
  ar z n l hl hn hw hr ihl ih=>
  refine .ar z n _ ihl (by rw[nS];exact hn) (λx hx=> ?_) ih
  obtain⟨p,hp,rfl⟩:=rR hx
  rw[vc];exact hw p hp
 |
  sl z l clip ad bg hl hw hc hk hb hr ihl ih=>
  have:=aC.sl (Γ:=Δ) z (fF k sz l0 l) clip ad bg ihl (λx hx=>by obtain⟨p,hp,rfl⟩:=rR hx;rw[vc];exact hw p hp) (by rw[nS];exact hc) (by rw[nS];exact hk)
   (λbY=>by
    obtain⟨b,o,h1,h2,h3,h4⟩:=hb (by intro h;subst h;simp[fF]at bY);exact⟨b,o,h1,by rw[hf.heap];exact h2,hf.own b h2 h3,by rw[hf.heap];exact h4⟩) ih
  rw[nS]at this
  exact this
 |
  rs k' p off len aD bu c v blk hg h1 hv hr ih=>
  simp only[fF,Ab.eG]
  by_cases hk:k'=k
  ·rw[if_pos hk]
   subst hk
   have kP:=hf.here blk hg.1
   subst kP
   split
   ·rename_i hc
    obtain⟨ht,hp,fP,hle⟩:=hc
    subst hp fP
    obtain⟨ad,bg,rfl,U3⟩:=hv (by simpa[aU.aD]using ht)
    have hlen:((l0.drop off).take len).length=len:=by simp;omega
    unfold iD at U3
    cases hι:Γ.ι k' with
    |
     none=>
     rw[hι]at U3
     obtain⟨rfl,rfl,_⟩:=U3
     have:=aC.sl (Γ:=Δ) bu ((l0.drop off).take 0) (decide (c= .clip)) ad 0 (cs:=[]) (by simpa using aC.nil) (by simp) (by simp) (by simp) (by simp) ih
     simpa using this
    |
     some b=>
     rw[hι]at U3
     obtain⟨hlr,had,vL,_⟩:=U3
     obtain⟨JG,vM,cc,e,cs,rest,hh,Fj,Hd⟩:=hf.cells b hι
     have od:=(Hd.Zq hf.wd off (by omega)).Hr (λx hx=>hf.wd x (JbW hx)) len (by simp;omega)
     have Pp:cs.length=l0.length*bu:=by rw[Hd.length,bD hf.wd]
     have:=aC.sl (Γ:=Δ) bu ((l0.drop off).take len) (decide (c= .clip)) ad bg od (λx hx=>hf.wd x (JbW (JaW hx))) (by rw[hlen];exact hlr) (by rw[hlen];intro e;exact oy.clip vL (of_decide_eq_true e))
      (λbY=>by
       have aFr:len≠0:=by rintro rfl;simp at bY
       refine⟨b,off*bu,?_,by rw[hf.heap];exact JG,vM,λi x hi=> ?_⟩
       ·rcases had with h|h
        ·omega
        ·simpa[bU]using h
       ·rw[List.getElem?_take]at hi;split at hi
        ·rw[List.getElem?_drop]at hi;simp only[cell,hf.heap,hh];rw[←Array.getElem?_toList,Fj];have dx:=(iJ.1 hi).1;rw[List.getElem?_append_left dx];exact hi
        ·simp at hi) ih
     rw[hlen]at this
     exact this
   ·exact .un h1 ih
  ·rw[if_neg hk]
   obtain⟨bL,g1,g2,g3⟩:=hf.ref k' blk hk hg.1
   refine .rs k' p off len aD bu c v bL ⟨g1,by rw[g2];exact hg.2⟩ h1 (λht=> ?_) ih
   obtain⟨ad,bg,e1,e2⟩:=hv (by rw[ht,g2])
   exact⟨ad,bg,e1,e2.aI g3 hf.heap⟩
 |np hr ih=>exact .np ih
 |
  pt k' p aD v blk hg h1 hv hr ih=>
  simp only[fF,Ab.eG]
  by_cases hk:k'=k
  ·rw[if_pos hk]
   subst hk
   have kP:=hf.here blk hg.1
   subst kP
   split
   ·rename_i ht
    obtain⟨b,hι,rfl⟩:=hv (by simpa[aU.aD]using ht)
    obtain⟨JG,vM,cc,e,cs,rest,hh,Fj,Hd⟩:=hf.cells b hι
    have:=aC.fp (Γ:=Δ) sz l0 p b 0 Hd hf.wd ⟨by rw[hf.heap];exact JG,vM⟩ (λi x hi=>by
     simp only[cell,hf.heap,hh];rw[←Array.getElem?_toList,Fj,JhX];have dx:=(iJ.1 hi).1;rw[List.getElem?_append_left dx];exact hi) ih
    simpa using this
   ·exact .un h1 ih
  ·rw[if_neg hk]
   obtain⟨bL,g1,g2,g3⟩:=hf.ref k' blk hk hg.1
   refine .pt k' p aD v bL ⟨g1,by rw[g2];exact hg.2⟩ h1 (λht=> ?_) ih
   obtain⟨b,e1,e2⟩:=hv (by rw[ht,g2])
   exact⟨b,by rw[g3,e1],e2⟩
 |
  fp z l p b o hl hw hm hc hr ihl ih=>
  exact .fp z _ p b o ihl (λx hx=>by obtain⟨p,hp,rfl⟩:=rR hx;rw[vc];exact hw p hp) ⟨by rw[hf.heap];exact hm.1,hf.own b hm.1 hm.2⟩ (by rw[hf.heap];exact hc) ih
 |
  fn g first cap h1 h2 h3 h4 hr i1 i2 ih=>
  exact .fn g _ _ i1 i2 (λx hx=>by obtain⟨p,hp,rfl⟩:=rR hx;rw[nc];exact h3 p hp) (λx hx=>by obtain⟨p,hp,rfl⟩:=rR hx;rw[nc];exact h4 p hp) ih
 |nf hr ih=>exact .nf ih
 |
  ifc t v h1 h2 hr i1 ih=>
  simp only[fF]at i1
  exact .ifc t _ i1 (by rw[nc];exact h2) ih
 |ni hr ih=>exact .ni ih
 |mp k b hr ih=>exact .mp k b ih
def aC.Cr (hf:Frz Γ Δ k sz l0) {p:PV} {cs:UE} (h:aC Γ [p] cs):aC Δ [Ab.eG k sz l0 p] cs:=by
 have:=h.eG hf;simpa only[fF]using this
def aC.ajv {p:PV} {v:Value} (h:aC Γ [p] [v]) (ha:p.isAgg=false):iK Γ p v:=by
 cases p<;>simp[PV.isAgg]at ha<;>first|(simp only[iK];done)|(simp only[iK];exact h)
def iK.eG (hf:Frz Γ Δ k sz l0) {p:PV} {v:Value} (h:iK Γ p v):iK Δ (Ab.eG k sz l0 p) v:=by
 cases p
 case un=>trivial
 case st w l=>obtain⟨cs,h1,h2⟩:=h;exact⟨cs,h1,h2.Cr hf⟩
 case ar z n l=>obtain⟨cs,h1,h2⟩:=h;exact⟨cs,h1,h2.Cr hf⟩
 case rs=>exact(aC.Cr hf h).ajv (by rw[nc];rfl)
 case pt=>exact(aC.Cr hf h).ajv (by rw[nc];rfl)
 all_goals exact aC.Cr hf h
theorem aN.eG (hf:Frz Γ Δ k sz l0):∀ {p:PV} {v:Value},aN Γ p v->aN Δ (Ab.eG k sz l0 p) v:=by
 have h2:∀ {l:WG} {vs:UE},jU Γ l vs->jU Δ (fF k sz l0 l) vs:=by
  intro l;induction l with
  |nil=>intro vs h;cases vs<;>simp_all [jU,fF]
  |
   cons p l ih=>
   intro vs h
   cases vs with
   |nil=>simp[jU]at h
   |cons v vs=>simp only[jU,fF]at h⊢;exact⟨h.1.eG hf,ih h.2⟩
 intro p;induction p using PV.rec (motive_2:=λ_=>True)with
 |gd b p ih=>intro v h;simp only[Ab.eG];rw[aN]at h⊢;exact⟨λhb=>ih (h.1 hb),h.2⟩
 |tup l=>intro v h;simp only[aN,Ab.eG]at h⊢;obtain⟨vs,e,h⟩:=h;exact⟨vs,e,h2 h⟩
 |un=>intro v h;simp[aN,Ab.eG]
 |st w l=>intro v h;obtain⟨cs,e,h⟩:=h;exact⟨cs,e,h.Cr hf⟩
 |ar z n l=>intro v h;obtain⟨cs,e,h⟩:=h;exact⟨cs,e,h.Cr hf⟩
 |nil=>trivial
 |cons=>trivial
 |rs=>intro v h;exact(aC.Cr hf h).toV (by rw[nc];rfl)
 |pt=>intro v h;exact(aC.Cr hf h).toV (by rw[nc];rfl)
 |_=>intro v h;exact aC.Cr hf h
theorem aU.xe.eG (hf:Frz Γ Δ k sz l0) {blk:aU} {ob:Option Nat} (h:blk.xe Γ ob):(wz k sz l0 blk).xe Δ ob:=by
 cases blk with
 |
  box v=>
  obtain⟨b,c,e,h1,h2,h3⟩:=h
  exact⟨b,c,e,h1,by rw[hf.heap];exact h2,h3.Cr hf⟩
 |
  arr z l=>
  obtain⟨h1,h2,h3⟩:=h
  refine⟨λx hx=>by obtain⟨p,hp,rfl⟩:=rR hx;rw[vc];exact h1 p hp,h2,?_⟩
  cases ob with
  |none=>trivial
  |
   some b=>
   obtain⟨c,e,cs,rest,h4,h5,h6,h7⟩:=h3
   exact⟨c,e,cs,rest,by rw[hf.heap];exact h4,h5,h6.eG hf,h7⟩
 |
  map b ks vs l=>
  obtain⟨h1,h2⟩:=h
  exact⟨h1,by rw[hf.heap];exact h2⟩
end Go.Ab
namespace Go.Ab
variable [cM]
variable {P:Program} {nt:Nat} {ds:List Deferred} {s:St} {Γ Δ Γ0:Cx} {a:Act} {w:World} {k sz:Nat} {l0:WG}
def del {α:Type}:List (Nat×α)->Nat->List (Nat×α)
 |[],_=>[]
 |(j,v)::r,k=>if j=k then del r k else(j,v)::del r k
def fX {α:Type} (f:α->α):List (Nat×α)->List (Nat×α)
 |[]=>[]
 |(j,v)::r=>(j,f v)::fX f r
def j2 {α:Type} (sl:Yx):List (Nat×α)->List (Nat×α)
 |[]=>[]
 |(j,v)::r=>if sl.contains j=true then(j,v)::j2 sl r else j2 sl r
theorem gK {α:Type} (l:List (Nat×α)) (k j:Nat):get (del l k) j=if j=k then none else get l j:=by
 induction l with
 |nil=>simp[del,get]
 |
  cons x r ih=>
  obtain⟨i,v⟩:=x
  simp only[del]
  split
  ·rename_i h;subst h;rw[ih];simp only[get];split
   ·rfl
   ·rename_i h2;rw[if_neg (λe=>h2 e.symm)]
  ·simp only[get,ih]
   split
   ·rename_i h h2;subst h2;rw[if_neg h]
   ·rfl
theorem dM {α:Type} (f:α->α) (l:List (Nat×α)) (j:Nat):get (fX f l) j=(get l j).map f:=by
 induction l with
 |nil=>rfl
 |cons x r ih=>obtain⟨i,v⟩:=x;simp only[fX,get,ih];split<;>rfl
theorem NS {α:Type} (sl:Yx) (l:List (Nat×α)) (j:Nat) {v:α} (h:get (j2 sl l) j=some v):get l j=some v:=by
 induction l with
 |nil=>simp[j2,get]at h
 |
  cons x r ih=>
  obtain⟨i,u⟩:=x
  simp only[j2]at h
  split at h
  ·simp only[get]at h⊢
   split
   ·rename_i h2;rw[if_pos h2]at h;exact h
   ·rename_i h2;rw[if_neg h2]at h;exact ih h
  ·rename_i hc
   have h3:=ih h
   simp only[get]
   split
   ·rename_i h2;subst h2
    exfalso
    have:∀r:List (Nat×α),get (j2 sl r) i=none:=by
     intro r;induction r with
     |nil=>rfl
     |
      cons y r ih2=>
      obtain⟨m,q⟩:=y
      simp only[j2]
      split
      ·rename_i h4
       simp only[get]
       rw[if_neg (by rintro rfl;exact hc h4)];exact ih2
      ·exact ih2
    rw[this]at h;simp at h
   ·exact h3
def HK (Γ:Cx):Prop:=∀k blk,get Γ.bx k=some blk->KB≤k
def qu (nt:Nat) (ds:List Deferred) (Γ0 Γ:Cx) (a:Act) (K:UD):Prop:=∃s' Γ',fW nt ds s' Γ' a∧Γ'.heap=Γ.heap∧Le Γ0 Γ'∧K s'
theorem xw (hm:Mem Γ) (f:aU->aU) (hft:∀b,(f b).aD=b.aD):tW (λj=>decide (j≠k)) id Γ {Γ with bx:=fX f (del Γ.bx k)} where
 heap:=rfl
 own b _ hn:=by
  rintro(⟨j,blk,h1,h2⟩|h)
  ·simp only[dM,gK]at h1;split at h1
   ·simp at h1
   ·obtain⟨b0,g1,_⟩:=mJ.1 h1;exact hn (.inl ⟨j,b0,g1,h2⟩)
  ·exact hn (.inr h)
 ref j blk hj hb:=by
  simp only[decide_eq_true_eq]at hj;exact⟨f blk,by simp[dM,gK,hj,hb],hft _,rfl⟩
def Cs {f:Nat->Bool} {l:WG} (h:al f l=true):bw id l=l:=nN (f:=f) (λ_ _=>rfl) l h
def xx {f:Nat->Bool} {p:PV} (h:ae f p=true):aI id p=p:=Cb (f:=f) (λ_ _=>rfl) p h
def Ql (hle:Le Γ0 Γ) (mX:HK Γ0) (hkb:k<KB) (f:aU->aU) (hft:∀b,(f b).aD=b.aD):Le Γ0 {Γ with bx:=fX f (del Γ.bx k)} where
 heap:=hle.heap
 fM b hb h:=by
  obtain⟨j,blk,h1,h2⟩:=h;simp only[dM,gK]at h1;split at h1
  ·simp at h1
  ·obtain⟨b0,g1,_⟩:=mJ.1 h1;exact hle.fM b hb ⟨j,b0,g1,h2⟩
 cI:=hle.cI
 size:=hle.size
 ref j blk hj:=by
  obtain⟨bL,h1,h2,h3⟩:=hle.ref j blk hj;have:=mX j blk hj;have bY:j≠k:=by omega
  exact⟨f bL,by simp[dM,gK,bY,h1],by rw[hft];exact h2,λht=>h3 (by rw[←ht,hft])⟩
theorem JV (hm:Mem Γ) (hg:get Γ.bx k=some (.arr sz l0)) (hr:al (λj=>decide (j≠k)) l0=true):Frz Γ {Γ with bx:=fX (wz k sz l0) (del Γ.bx k)} k sz l0 where
 heap:=rfl
 own:=(xw hm _ xv).own
 ref j blk hj hb:=by
  obtain⟨b',h1,h2,h3⟩:=(xw (k:=k) hm _ (xv (k:=k) (sz:=sz) (l0:=l0))).ref j blk (by simpa using hj) hb;exact⟨b',h1,h2,h3⟩
 here blk hb:=by rw[hg]at hb;exact(Option.some.inj hb).symm
 wd:=(hm.blk k _ hg).1
 cells b hb:=by
  have h:=hm.blk k _ hg;obtain⟨h1,h2,h3⟩:=h;rw[hb]at h3;obtain⟨c,e,cs,rest,h4,h5,h6,_⟩:=h3;refine⟨b9 h4,?_,c,e,cs,rest,h4,h5,?_⟩
  ·rintro(⟨j,blk,g1,g2⟩|g)
   ·simp only[dM,gK]at g1;split at g1
    ·simp at g1
    ·rename_i bY;obtain⟨b0,g3,_⟩:=mJ.1 g1;exact bY (hm.inj j k b (by simp[g3]) (by simp[hg]) g2 hb)
   ·exact hm.apart b ⟨k,_,hg,hb⟩ g
  ·have:=h6.aI (xw (k:=k) hm _ (xv (k:=k) (sz:=sz) (l0:=l0))) hr;rwa [Cs hr]at this
def Bi (hm:Mem Γ) (f:aU->aU) (hf:∀j blk,j≠k->get Γ.bx j=some blk->(f blk).xe {Γ with bx:=fX f (del Γ.bx k)} (Γ.ι j)):Mem {Γ with bx:=fX f (del Γ.bx k)} where
 blk j blk hb:=by
  simp only[dM,gK]at hb;split at hb
  ·simp at hb
  ·rename_i bY;obtain⟨b0,g1,rfl⟩:=mJ.1 hb;exact hf j b0 bY g1
 inj i j b hi hj h1 h2:=by
  have:∀x,(get (fX f (del Γ.bx k)) x).isSome=true->(get Γ.bx x).isSome=true:=by
   intro x hx;simp only[dM,gK]at hx;split at hx
   ·simp at hx
   ·simpa using hx
  exact hm.inj i j b (this i hi) (this j hj) h1 h2
 cI:=hm.cI
 apart b h hp:=by
  refine hm.apart b ?_ hp;obtain⟨j,blk,h1,h2⟩:=h;simp only[dM,gK]at h1;split at h1
  ·simp at h1
  ·obtain⟨b0,g1,_⟩:=mJ.1 h1;exact⟨j,b0,g1,h2⟩
 xj b cs h:=by
  obtain⟨h1,h2⟩:=hm.xj b cs h;refine⟨λhb=>h1 ?_,h2⟩;obtain⟨j,blk,h1,h2⟩:=hb;simp only[dM,gK]at h1;split at h1
  ·simp at h1
  ·obtain⟨b0,g1,_⟩:=mJ.1 h1;exact⟨j,b0,g1,h2⟩
def fz1 (k:Nat) (s:St) (K:UD):Prop:=
 match get s.bx k with
 |some (.arr sz l)=>(al (λj=>decide (j≠k)) l=true∧k<KB)∧K {env:=fX (eG k sz l) s.env,bx:=fX (wz k sz l) (del s.bx k)}
 |_=>False
def NT {K:UD} (hs:fW nt ds s Γ a) (hle:Le Γ0 Γ) (mX:HK Γ0) (h:fz1 k s K):qu nt ds Γ0 Γ a K:=by
 unfold fz1 at h;split at h
 ·rename_i sz l hg;obtain⟨⟨hr,hkb⟩,hK⟩:=h;rw[←hs.bx]at hg;have hf:=JV hs.mem hg hr;refine⟨_,{Γ with bx:=fX (wz k sz l) (del Γ.bx k)},⟨by simp[hs.bx],hs.size,hs.defers,λj p hj=> ?_,Bi hs.mem _ (λj blk bY hb=>(hs.mem.blk j blk hb).eG hf)⟩,rfl,Ql hle mX hkb _ xv,hK⟩;simp only[dM]at hj;obtain⟨q,g1,rfl⟩:=mJ.1 hj;exact(hs.env j q g1).eG hf
 ·exact h.elim
def aW (f:Nat->Bool):List (Nat×PV)->Bool
 |[]=>true
 |(_,p)::r=>ae f p&&aW f r
def bA (f:Nat->Bool):List (Nat×aU)->Bool
 |[]=>true
 |(_,b)::r=>af f b&&bA f r
theorem At {f:Nat->Bool}:∀ {l:List (Nat×PV)} {j:Nat} {p:PV},aW f l=true->get l j=some p->ae f p=true
 |[],_,_,_,h=>by simp[get]at h
 |
  (i,q)::r,j,p,hr,h=>by
  simp only[aW,aJ]at hr
  simp only[get]at h
  split at h
  ·cases h;exact hr.1
  ·exact At hr.2 h
theorem Ct {f:Nat->Bool}:∀ {l:List (Nat×aU)} {j:Nat} {p:aU},bA f l=true->get l j=some p->af f p=true
 |[],_,_,_,h=>by simp[get]at h
 |
  (i,q)::r,j,p,hr,h=>by
  simp only[bA,aJ]at hr
  simp only[get]at h
  split at h
  ·cases h;exact hr.1
  ·exact Ct hr.2 h
theorem LW {α:Type}:∀l:List (Nat×α),fX id l=l
 |[]=>rfl
 |(j,v)::r=>by simp[fX,LW r]
def dr1 (k:Nat) (s:St) (K:UD):Prop:=
 (aW (λj=>decide (j≠k)) s.env=true∧bA (λj=>decide (j≠k)) (del s.bx k)=true∧k<KB)∧K {s with bx:=del s.bx k}
theorem HA {f:Nat->Bool} {b:aU} (h:af f b=true):aG id b=b:=by
 cases b with
 |box v=>simp only[aG,xx (f:=f) h]
 |arr sz l=>simp only[aG,Cs (f:=f) h]
 |map b ks vs l=>rfl
def NU {K:UD} (hs:fW nt ds s Γ a) (hle:Le Γ0 Γ) (mX:HK Γ0) (h:dr1 k s K):qu nt ds Γ0 Γ a K:=by
 obtain⟨⟨h1,h2,h3⟩,hK⟩:=h;have oA:=xw (k:=k) hs.mem id (λ_=>rfl);refine⟨_,{Γ with bx:=fX id (del Γ.bx k)},⟨by simp[hs.bx,LW],hs.size,hs.defers,λj p hj=> ?_,Bi hs.mem _ (λj blk bY hb=> ?_)⟩,rfl,Ql hle mX h3 _ (λ_=>rfl),hK⟩
 ·have hr:=At h1 hj;have:=(hs.env j p hj).aI oA hr;rwa [xx hr]at this
 ·have hr:af (λj=>decide (j≠k)) blk=true:=by
   refine Ct (j:=j) h2 ?_;rw[gK,if_neg bY,←hs.bx];exact hb
  have:=(hs.mem.blk j blk hb).aI oA hr;rwa [HA hr]at this
def JW {K:UD} {sl:Yx} (hs:fW nt ds s Γ a) (hle:Le Γ0 Γ) (h:K {s with env:=j2 sl s.env}):qu nt ds Γ0 Γ a K:=
 ⟨{s with env:=j2 sl s.env},Γ,⟨hs.bx,hs.size,hs.defers,λj p hj=>hs.env j p (NS sl _ _ hj),hs.mem⟩,rfl,hle,h⟩
def vt1 (n k sz:Nat) (s:St) (K:UD):Prop:=
 match get s.env n with
 |some (.sl _ [] true)=>(get s.bx k=none∧0<sz)∧K {env:=put s.env n (.rs k [] 0 0 0 sz .tip),bx:=put s.bx k (.arr sz [])}
 |_=>False
def NV {n:Nat} {K:UD} (hs:fW nt ds s Γ a) (hle:Le Γ0 Γ) (h:vt1 n k sz s K):qu nt ds Γ0 Γ a K:=by
 unfold vt1 at h;split at h
 ·rename_i z hg;obtain⟨⟨jl,fP⟩,hK⟩:=h;rw[←hs.bx]at jl;have hl:=u5 Γ (.arr sz []) jl;have hm:=B4 hs.mem jl (blk:= .arr sz []) ⟨by simp,fP,trivial⟩;refine⟨_,Γ.lR k (.arr sz []),⟨by simp[Cx.lR,hs.bx],hs.size,hs.defers,λj p hj=> ?_,hm⟩,rfl,hle.trans hl,hK⟩;simp only[dc]at hj;split at hj
  ·rename_i hnj;subst hnj;simp only[sJ]at hj;subst hj;have h0:=hs.env n _ hg;simp only[aN]at h0⊢;generalize a.tmps.getD n undef=v at h0;cases h0 with
   |
    @sl _ _ cs _ _ _ ad bg h1 h2 h3 h4 h5 h6=>
    have hr0:bg=0:=h4 rfl
    subst hr0
    refine .rs k [] 0 0 0 sz .tip _ (.arr sz []) ⟨by simp[Cx.lR,cm],by simp[aU.aD]⟩ rfl (λ_=>⟨ad,0,rfl,?_⟩) .nil
    unfold iD
    simp[Cx.lR,oy]
  ·exact(hs.env j p hj).mono hl
 ·exact h.elim
mutual
theorem lH:∀p:PV,ae (λ_=>true) p=true
 | .st _ l| .ar _ _ l| .tup l| .sl _ l _| .fp _ l _=>by simp only[ae];exact mf l
 | .fn _ x y=>by simp only[ae,mf x,mf y,Bool.and_self]
 | .gd _ p| .ifc _ p=>by simp only[ae];exact lH p
 | .rs .. | .pt .. | .un| .bl _| .int .. | .str _| .np| .nf| .ni| .mp .. =>by simp only[ae]
theorem mf:∀l:WG,al (λ_=>true) l=true
 |[]=>rfl
 |p::l=>by simp only[al,lH p,mf l,Bool.and_self]
end
def oD (b:aU):af (λ_=>true) b=true:=by cases b<;>simp[af,lH,mf]
def wA (k k':Nat) (j:Nat):Nat:=if j=k then k' else j
def mv1 (k k':Nat) (s:St) (K:UD):Prop:=
 match get s.bx k with
 |some b=>(get s.bx k'=none∧k<KB∧k'<KB∧k≠k')∧K {env:=fX (aI (wA k k')) s.env,bx:=put (fX (aG (wA k k')) (del s.bx k)) k' (aG (wA k k') b)}
 |none=>False
def Cx.mv (Γ:Cx) (k k':Nat) (b:aU):Cx:=
 {heap:=Γ.heap,ι:=λj=>if j=k' then Γ.ι k else Γ.ι j,bx:=put (fX (aG (wA k k')) (del Γ.bx k)) k' (aG (wA k k') b),cI:=Γ.cI}
def yQ {k k':Nat} {b:aU} (bY:k≠k') (j:Nat):get (Γ.mv k k' b).bx j=if j=k' then some (aG (wA k k') b)else if j=k then none else(get Γ.bx j).map (aG (wA k k')):=by
 simp only[Cx.mv,dc,dM,gK];by_cases h:k'=j
 ·subst h;simp
 ·have h':¬j=k':=λe=>h e.symm;rw[if_neg h,if_neg h'];by_cases h2:j=k
  ·simp[h2]
  ·simp[h2]
def Bj {k k':Nat} {b:aU} (hg:get Γ.bx k=some b) (bY:k≠k') {x:Nat} (h:(Γ.mv k k' b).fM x):Γ.fM x:=by
 obtain⟨j,blk,h1,h2⟩:=h;rw[yQ bY]at h1;simp only[Cx.mv]at h2;by_cases hj:j=k'
 ·rw[if_pos hj]at h2;exact⟨k,b,hg,h2⟩
 ·rw[if_neg hj]at h1 h2;by_cases Ek:j=k
  ·rw[if_pos Ek]at h1;cases h1
  ·rw[if_neg Ek]at h1;obtain⟨b0,g1,_⟩:=mJ.1 h1;exact⟨j,b0,g1,h2⟩
theorem FR {k k':Nat} {b:aU} (hg:get Γ.bx k=some b) (hf:get Γ.bx k'=none) (bY:k≠k'):tW (λ_=>true) (wA k k') Γ (Γ.mv k k' b) where
 heap:=rfl
 own x _ hn:=by
  rintro(h|h)
  ·exact hn (.inl (Bj hg bY h))
  ·exact hn (.inr h)
 ref j blk _ hb:=by
  by_cases hj:j=k
  ·subst hj;rw[hg]at hb;cases hb;exact⟨aG (wA j k') b,by rw[yQ bY];simp[wA],jy _ _,by simp[wA,Cx.mv]⟩
  ·have Ek:j≠k':=by rintro rfl;rw[hf]at hb;cases hb
   exact⟨aG (wA k k') blk,by rw[yQ bY];simp[wA,hj,Ek,hb],jy _ _,by simp[wA,Cx.mv,hj,Ek]⟩
def ach (hm:Mem Γ) {k k':Nat} {b:aU} (hg:get Γ.bx k=some b) (hf:get Γ.bx k'=none) (bY:k≠k'):Mem (Γ.mv k k' b) where
 blk j blk hb:=by
  rw[yQ bY]at hb;by_cases hj:j=k'
  ·rw[if_pos hj]at hb;cases hb;have:=(hm.blk k b hg).aI (FR hg hf bY) (oD b);simpa[Cx.mv,hj]using this
  ·rw[if_neg hj]at hb;by_cases Ek:j=k
   ·rw[if_pos Ek]at hb;cases hb
   ·rw[if_neg Ek]at hb;obtain⟨b0,g1,rfl⟩:=mJ.1 hb;have:=(hm.blk j b0 g1).aI (FR hg hf bY) (oD b0);have hι:(Γ.mv k k' b).ι j=Γ.ι j:=by simp[Cx.mv,hj]
    rw[hι];exact this
 inj i j x hi hj h1 h2:=by
  have back:∀y,(get (Γ.mv k k' b).bx y).isSome=true->(Γ.mv k k' b).ι y=some x->(get Γ.bx (if y=k' then k else y)).isSome=true∧Γ.ι (if y=k' then k else y)=some x∧(y≠k'->y≠k):=by
   intro y hy hx;rw[yQ bY]at hy;simp only[Cx.mv]at hx;by_cases U4:y=k'
   ·rw[if_pos U4]at hx⊢;exact⟨by simp[hg],hx,λh=>absurd U4 h⟩
   ·rw[if_neg U4]at hx hy⊢;by_cases hy2:y=k
    ·rw[if_pos hy2]at hy;cases hy
    ·rw[if_neg hy2]at hy;exact⟨by simpa using hy,hx,λ_=>hy2⟩
  obtain⟨a1,a2,a3⟩:=back i hi h1;obtain⟨c1,c2,c3⟩:=back j hj h2;have:=hm.inj _ _ x a1 c1 a2 c2;by_cases gP:i=k'
  ·by_cases wa:j=k'
   ·rw[gP,wa]
   ·rw[if_pos gP,if_neg wa]at this;exact absurd this.symm (c3 wa)
  ·by_cases wa:j=k'
   ·rw[if_neg gP,if_pos wa]at this;exact absurd this (a3 gP)
   ·rw[if_neg gP,if_neg wa]at this;exact this
 cI:=hm.cI
 apart x h hp:=hm.apart x (Bj hg bY h) hp
 xj x cs h:=by
  obtain⟨h1,h2⟩:=hm.xj x cs h;exact⟨λhb=>h1 (Bj hg bY hb),h2⟩
def NW {k k':Nat} {K:UD} (hs:fW nt ds s Γ a) (hle:Le Γ0 Γ) (mX:HK Γ0) (h:mv1 k k' s K):qu nt ds Γ0 Γ a K:=by
 unfold mv1 at h;split at h
 ·rename_i b hg;obtain⟨⟨hf,hkb,aIx,bY⟩,hK⟩:=h;rw[←hs.bx]at hg hf;refine⟨_,Γ.mv k k' b,⟨by simp[Cx.mv,hs.bx],hs.size,hs.defers,λj p hj=> ?_,ach hs.mem hg hf bY⟩,rfl,?_,hK⟩
  ·simp only[dM]at hj;obtain⟨q,g1,rfl⟩:=mJ.1 hj;exact(hs.env j q g1).aI (FR hg hf bY) (lH q)
  ·refine⟨hle.heap,λx hx h=>hle.fM x hx (Bj hg bY h),hle.cI,hle.size,λj blk hj=> ?_⟩;obtain⟨bL,h1,h2,h3⟩:=hle.ref j blk hj;have wa:=mX j blk hj;have hj1:j≠k:=by omega
   have Ek:j≠k':=by omega
   refine⟨aG (wA k k') bL,by rw[yQ bY];simp[hj1,Ek,h1],by rw[jy];exact h2,λht=> ?_⟩;rw[jy]at ht;obtain⟨g1,g2⟩:=h3 ht;exact⟨by simp only[Cx.mv];rw[if_neg Ek];exact g1,g2⟩
 ·exact h.elim
def LX (sz:Nat):PV:= .st sz (List.replicate sz .un)
@[simp] theorem agA (sz:Nat):(LX sz).width=sz:=rfl
theorem HB:∀ {vs:UE},(∀v∈vs,ew v=true)->aC Γ (List.replicate vs.length .un) vs
 |[],_=> .nil
 |v::vs,h=> .un (h v (by simp)) (HB λx hx=>h x (by simp[hx]))
theorem EA {sz:Nat}:∀ {j:Nat} {vs:UE},vs.length=j*sz->(∀v∈vs,ew v=true)->aC Γ (List.replicate j (LX sz)) vs
 |
  0,vs,h,_=>by
  have:vs=[]:=JdJ (by simpa using h)
  subst this;exact .nil
 |
  j+1,vs,h,h1=>by
  rw[JgV,Nat.one_mul]at h
  have hl:(vs.take sz).length=sz:=by rw[lJ];omega
  have hr:=aC.st (Γ:=Γ) sz (List.replicate sz .un) (by have:=HB (Γ:=Γ) (vs:=vs.take sz) (λv hv=>h1 v (JaW hv));rwa [hl]at this) hl
   (EA (sz:=sz) (j:=j) (vs:=vs.drop sz) (by rw[JdX];omega) (λv hv=>h1 v (JbW hv)))
  rw[JbV]at hr
  exact hr
def mt1 (n:Nat) (s:St) (K:UD):Prop:=
 match get s.env n with
 |
  some (.rs k [] 0 len aD sz .tip)=>(match get s.bx k with
  |some (.arr bu l)=>(bu=sz∧aD=l.length)∧∀c j:Nat,(c=l.length+j∨(c=0∧j=0∧len=0))->
    K {env:=put s.env n (.rs k [] 0 len (l.length+j) sz (.full c)),bx:=put s.bx k (.arr sz (l++List.replicate j (LX sz)))}
  |_=>False)
 |_=>False
def Qm {l l':WG} {b:Nat} (hm:Mem Γ) (hg:get Γ.bx k=some (.arr sz l)) (hb:Γ.ι k=some b) (ht:l.length≤l'.length)
  (hr:Le Γ {Γ with bx:=put Γ.bx k (.arr sz l')}->(aU.arr sz l').xe {Γ with bx:=put Γ.bx k (.arr sz l')} (some b)):
  Le Γ {Γ with bx:=put Γ.bx k (.arr sz l')}∧Mem {Γ with bx:=put Γ.bx k (.arr sz l')}:=by
 have cA:∀j,get (put Γ.bx k (.arr sz l')) j=if k=j then some (.arr sz l')else get Γ.bx j:=λj=>dc _ _ _ _
 have jf:∀j,(get (put Γ.bx k (.arr sz l')) j).isSome=true->(get Γ.bx j).isSome=true:=by
  intro j hj;rw[cA]at hj;split at hj
  ·rename_i e;subst e;simp[hg]
  ·exact hj
 have hl:Le Γ {Γ with bx:=put Γ.bx k (.arr sz l')}:=by
  refine⟨λ_ _ _=>rfl,λb hb hm=> ?_,rfl,JaQ _,λj blk hj=> ?_⟩
  ·obtain⟨j,blk,h1,h2⟩:=hm;have:=jf j (by rw[h1];rfl);obtain⟨b0,h3⟩:=JaZ.1 this;exact⟨j,b0,h3,h2⟩
  ·by_cases e:k=j
   ·subst e;rw[hg]at hj;cases hj;exact⟨.arr sz l',by rw[cA,if_pos rfl],by simpa[aU.aD]using ht,λ_=>⟨rfl,λb hb cs e hh=>⟨cs,hh,rfl⟩⟩⟩
   ·exact⟨blk,by rw[cA,if_neg e];exact hj,JaQ _,λ_=>⟨rfl,λb hb cs e hh=>⟨cs,hh,rfl⟩⟩⟩
 refine⟨hl,λj blk hj=> ?_,λi j b hi hj h1 h2=>hm.inj i j b (jf i hi) (jf j hj) h1 h2,hm.cI,λb hb hp=>hm.apart b ?_ hp,hm.kH hl⟩
 ·rw[cA]at hj;split at hj
  ·rename_i e;subst e;cases hj;have:=hr hl;rw[←hb]at this;exact this
  ·exact(hm.blk j blk hj).mono hl (λb hb=>rfl)
 ·obtain⟨j,blk,h1,h2⟩:=hb;have:=jf j (by rw[h1];rfl);obtain⟨b0,h3⟩:=JaZ.1 this;exact⟨j,b0,h3,h2⟩
theorem NX {n:Nat} {K:UD} (hs:fW nt ds s Γ a) (hle:Le Γ0 Γ) (h:mt1 n s K):qu nt ds Γ0 Γ a K:=by
 unfold mt1 at h;split at h
 case h_2=>exact h.elim
 rename_i k len aD sz he;split at h
 case h_2=>exact h.elim
 rename_i bu l hg;obtain⟨⟨rfl,rfl⟩,hK⟩:=h;have kQ:=hg;rw[←hs.bx]at kQ;obtain⟨ad,bg,hv,cL⟩:=(hs.env n _ he).rs kQ rfl;obtain⟨mM,jh,kP⟩:=hs.mem.blk k _ kQ;have aIy:=cL;unfold iD at cL;cases hι:Γ.ι k with
 |
  none=>
  rw[hι]at cL
  obtain⟨rfl,rfl,_⟩:=cL
  have hK:=hK 0 0 (.inr ⟨rfl,rfl,rfl⟩)
  rw[List.replicate_zero,JdW,JmZ]at hK
  have kF:=mc kQ
  have q1:=hs.le (pC kF) (B7 hs.mem kF) (yJ:=put s.bx k (.arr bu l)) (by rw[hs.bx])
  refine⟨{env:=put s.env n (.rs k [] 0 0 l.length bu (.full 0)),bx:=put s.bx k (.arr bu l)},{Γ with bx:=put Γ.bx k (.arr bu l)},⟨q1.bx,q1.size,q1.defers,λj p hj=> ?_,q1.mem⟩,rfl,hle.trans (pC kF),hK⟩
  simp only[dc]at hj
  split at hj
  ·rename_i e;subst e;cases hj
   rw[hv]
   simp only[aN]
   refine .rs k [] 0 0 l.length bu _ _ (.arr bu l) ⟨by rw[kF];exact kQ,by simp[aU.aD]⟩ rfl (λ_=>⟨ad,0,rfl,?_⟩) .nil
   unfold iD
   rw[show({Γ with bx:=put Γ.bx k (.arr bu l)}:Cx).ι k=none from hι]
   exact⟨rfl,rfl,rfl⟩
  ·exact q1.env j p hj
 |
  some b=>
  rw[hι]at cL kP
  obtain⟨o1,o2,_,o4⟩:=cL
  obtain⟨_,JE,e0,q1,q2⟩:=o4 rfl
  obtain⟨c,ce,cs,rest,h7,h8,h9,JC⟩:=kP
  rw[q1]at h7
  simp only[sJ,Obj.cells.injEq]at h7
  obtain⟨rfl,rfl,_⟩:=h7
  have vL:cs.length=l.length*bu:=by rw[h9.length,bD mM]
  have T4:JE.size=cs.length+rest.length:=by rw[←JbX,h8];simp
  rw[JhX]at q2
  have hlr:l.length≤bg:=by
   refine Nat.le_of_not_lt λdx=> ?_;have:bg*bu<l.length*bu:=Nat.mul_lt_mul_of_pos_right dx jh;omega
  obtain⟨j,rfl⟩:∃j,bg=l.length+j:=⟨bg-l.length,by omega⟩
  have Hd:rest.length=j*bu:=by rw[JgV]at q2;omega
  have hK:=hK (l.length+j) j (.inl rfl)
  have JF:(l++List.replicate j (LX bu)).length=l.length+j:=by simp
  obtain⟨g1,g2⟩:=Qm (l':=l++List.replicate j (LX bu)) hs.mem kQ hι (by rw[JF];omega) (λhl=>
   ⟨λx hx=>(JaX.1 hx).elim (mM x) (λhx=>by rw[(JnV.1 hx).2];rfl),jh,JE,e0,cs++rest,[],q1,by rw[JdW];exact h8,(h9.mono hl).append (EA Hd JC),by simp⟩)
  have t1:=hs.le g1 g2 (yJ:=put s.bx k (.arr bu (l++List.replicate j (LX bu)))) (by rw[hs.bx])
  refine⟨{env:=put s.env n (.rs k [] 0 len (l.length+j) bu (.full (l.length+j))),bx:=put s.bx k (.arr bu (l++List.replicate j (LX bu)))},_,⟨t1.bx,t1.size,t1.defers,λi p hj=> ?_,g2⟩,rfl,hle.trans g1,hK⟩
  simp only[dc]at hj
  split at hj
  ·rename_i e;subst e;cases hj
   rw[hv]
   simp only[aN]
   refine .rs k [] 0 len _ bu _ _ (.arr bu (l++List.replicate j (LX bu))) ⟨by simp[cm],by simp[aU.aD]⟩ rfl (λ_=>⟨ad,_,rfl,?_⟩) .nil
   unfold iD
   rw[show({Γ with bx:=put Γ.bx k (.arr bu (l++List.replicate j (LX bu)))}:Cx).ι k=some b from hι]
   exact⟨o1,o2,rfl,λhc=>by cases hc⟩
  ·exact t1.env i p hj
inductive Cut
 |fz (k:Nat)
 |dr (k:Nat)
 |keep (sl:Yx)
 |vt (n k sz:Nat)
 |wk (n:Nat)
 |wb (k:Nat)
 |vb (b:Nat) (p:Zy) (k sz:Nat)
 |mv (k k':Nat)
 |mt (n:Nat)
 |es (k:Nat) (l:WG)
 |ba (n k:Nat)
def Qn (n:Nat) (s:St) (K:UD):Prop:=
 match get s.env n with
 |some p=>K {s with env:=put s.env n (wk p)}
 |none=>False
def NY {n:Nat} {K:UD} (hs:fW nt ds s Γ a) (hle:Le Γ0 Γ) (h:Qn n s K):qu nt ds Γ0 Γ a K:=by
 unfold Qn at h;split at h
 ·rename_i p hp;refine⟨{s with env:=put s.env n (Ab.wk p)},Γ,⟨hs.bx,hs.size,hs.defers,λj q hj=> ?_,hs.mem⟩,rfl,hle,h⟩;simp only[dc]at hj;split at hj
  ·rename_i hnj;subst hnj;cases hj;exact(hs.env _ p hp).wk
  ·exact hs.env j q hj
 ·exact h.elim
def wb1 (k:Nat) (s:St) (K:UD):Prop:=
 match get s.bx k with
 |some (.box v)=>K {s with bx:=put s.bx k (.box (wk v))}
 |_=>False
def NZ {K:UD} (hs:fW nt ds s Γ a) (hle:Le Γ0 Γ) (h:wb1 k s K):qu nt ds Γ0 Γ a K:=by
 unfold wb1 at h;split at h
 ·rename_i v hg;rw[←hs.bx]at hg;have cA:∀j,get (put Γ.bx k (.box (Ab.wk v))) j=if k=j then some (.box (Ab.wk v))else get Γ.bx j:=λj=>dc _ _ _ _
  have jf:∀j,(get (put Γ.bx k (.box (Ab.wk v))) j).isSome=true->(get Γ.bx j).isSome=true:=by
   intro j hj;rw[cA]at hj;split at hj
   ·rename_i e;subst e;simp[hg]
   ·exact hj
  have hl:Le Γ {Γ with bx:=put Γ.bx k (.box (Ab.wk v))}:=by
   refine⟨λ_ _ _=>rfl,λb hb hm=> ?_,rfl,JaQ _,λj blk hj=> ?_⟩
   ·obtain⟨j,blk,h1,h2⟩:=hm;have:=jf j (by rw[h1];rfl);obtain⟨b0,h3⟩:=JaZ.1 this;exact⟨j,b0,h3,h2⟩
   ·by_cases e:k=j
    ·subst e;rw[hg]at hj;cases hj;exact⟨.box (Ab.wk v),by rw[cA,if_pos rfl],JaQ _,λ_=>⟨rfl,λb hb cs e hh=>⟨cs,hh,rfl⟩⟩⟩
    ·exact⟨blk,by rw[cA,if_neg e];exact hj,JaQ _,λ_=>⟨rfl,λb hb cs e hh=>⟨cs,hh,rfl⟩⟩⟩
  have hm:Mem {Γ with bx:=put Γ.bx k (.box (Ab.wk v))}:=by
   refine⟨λj blk hj=> ?_,λi j b hi hj h1 h2=>hs.mem.inj i j b (jf i hi) (jf j hj) h1 h2,hs.mem.cI,λb hb hp=>hs.mem.apart b ?_ hp,hs.mem.kH hl⟩
   ·rw[cA]at hj;split at hj
    ·rename_i e;subst e;cases hj;obtain⟨b,c,e,h1,h2,h3⟩:=hs.mem.blk _ _ hg;exact⟨b,c,e,h1,h2,h3.wk.mono hl⟩
    ·exact(hs.mem.blk j blk hj).mono hl (λb hb=>rfl)
   ·obtain⟨j,blk,h1,h2⟩:=hb;have:=jf j (by rw[h1];rfl);obtain⟨b0,h3⟩:=JaZ.1 this;exact⟨j,b0,h3,h2⟩
  exact⟨{s with bx:=put s.bx k (.box (Ab.wk v))},_,⟨by simp[hs.bx],hs.size,hs.defers,λj q hj=>(hs.env j q hj).mono hl,hm⟩,rfl,hle.trans hl,h⟩
 ·exact h.elim
def vb1 (b:Nat) (p:Zy) (k sz:Nat) (s:St) (K:UD):Prop:=
 match get s.bx b with
 |
  some (.box v)=>(match aO v p,cu v p (.rs k [] 0 0 0 sz .tip)with
  |some (.sl _ [] true),some v'=>(get s.bx k=none∧0<sz)∧K {s with bx:=put (put s.bx k (.arr sz [])) b (.box v')}
  |_,_=>False)
 |_=>False
def Qo {v v':PV} (hm:Mem Γ) (hg:get Γ.bx k=some (.box v)) (hv:∀cs,aC Γ [v] cs->aC Γ [v'] cs):
  Le Γ {Γ with bx:=put Γ.bx k (.box v')}∧Mem {Γ with bx:=put Γ.bx k (.box v')}:=by
 have cA:∀j,get (put Γ.bx k (.box v')) j=if k=j then some (.box v')else get Γ.bx j:=λj=>dc _ _ _ _
 have jf:∀j,(get (put Γ.bx k (.box v')) j).isSome=true->(get Γ.bx j).isSome=true:=by
  intro j hj;rw[cA]at hj;split at hj
  ·rename_i e;subst e;simp[hg]
  ·exact hj
 have hl:Le Γ {Γ with bx:=put Γ.bx k (.box v')}:=by
  refine⟨λ_ _ _=>rfl,λb hb hm=> ?_,rfl,JaQ _,λj blk hj=> ?_⟩
  ·obtain⟨j,blk,h1,h2⟩:=hm;have:=jf j (by rw[h1];rfl);obtain⟨b0,h3⟩:=JaZ.1 this;exact⟨j,b0,h3,h2⟩
  ·by_cases e:k=j
   ·subst e;rw[hg]at hj;cases hj;exact⟨.box v',by rw[cA,if_pos rfl],JaQ _,λ_=>⟨rfl,λb hb cs e hh=>⟨cs,hh,rfl⟩⟩⟩
   ·exact⟨blk,by rw[cA,if_neg e];exact hj,JaQ _,λ_=>⟨rfl,λb hb cs e hh=>⟨cs,hh,rfl⟩⟩⟩
 refine⟨hl,λj blk hj=> ?_,λi j b hi hj h1 h2=>hm.inj i j b (jf i hi) (jf j hj) h1 h2,hm.cI,λb hb hp=>hm.apart b ?_ hp,hm.kH hl⟩
 ·rw[cA]at hj;split at hj
  ·rename_i e;subst e;cases hj;obtain⟨b,c,e,h1,h2,h3⟩:=hm.blk _ _ hg;exact⟨b,c,e,h1,h2,(hv _ h3).mono hl⟩
  ·exact(hm.blk j blk hj).mono hl (λb hb=>rfl)
 ·obtain⟨j,blk,h1,h2⟩:=hb;have:=jf j (by rw[h1];rfl);obtain⟨b0,h3⟩:=JaZ.1 this;exact⟨j,b0,h3,h2⟩
theorem N0 {b:Nat} {p:Zy} {K:UD} (hs:fW nt ds s Γ a) (hle:Le Γ0 Γ) (h:vb1 b p k sz s K):qu nt ds Γ0 Γ a K:=by
 unfold vb1 at h;split at h
 case h_2=>exact h.elim
 rename_i v hg;split at h
 case h_2=>exact h.elim
 rename_i z v' LB G1;obtain⟨⟨jl,fP⟩,hK⟩:=h;rw[←hs.bx]at jl hg;have hl:=u5 Γ (.arr sz []) jl;have hm:=B4 hs.mem jl (blk:= .arr sz []) ⟨by simp,fP,trivial⟩;have U5:b≠k:=by rintro rfl;rw[hg]at jl;simp at jl
 have hg2:get (Γ.lR k (.arr sz [])).bx b=some (.box v):=by
  simp only[Cx.lR];rw[bG _ _ _ _ (λh=>U5 h.symm)];exact hg
 obtain⟨h1,h2⟩:=Qo (v':=v') hm hg2 (by
  intro cs hc;obtain⟨T5,hr⟩:=rB p hc LB;have hw:(PV.sl z [] true).width=1:=rfl;rw[hw]at T5 hr
  obtain⟨x,hx⟩:∃x,(cs.drop (bU p)).take 1=[x]:=by
   have hlen:((cs.drop (bU p)).take 1).length=1:=by rw[lJ,JdX];omega
   exact JoJ.1 hlen
  rw[hx]at hr
  have U3:aC (Γ.lR k (.arr sz [])) [.rs k [] 0 0 0 sz .tip] [x]:=by
   cases hr with
   |
    @sl _ _ cs _ _ _ ad bg h1 h2 h3 h4 h5 h6=>
    have hr0:bg=0:=h4 rfl
    subst hr0
    refine .rs k [] 0 0 0 sz .tip _ (.arr sz []) ⟨by simp[Cx.lR,cm],by simp[aU.aD]⟩ rfl (λ_=>⟨ad,0,rfl,?_⟩) .nil
    unfold iD
    simp[Cx.lR,oy]
  obtain⟨g1,g2,g3⟩:=BT U3 p hc G1
  have e:bC cs (bU p) [x]=cs:=by
   unfold bC;rw[←hx,lJ,JdX,JdZ (by omega),JfX];rw[←JlX,JbV,JbV]
  rwa [e]at g3)
 refine⟨{s with bx:=put (put s.bx k (.arr sz [])) b (.box v')},_,⟨by simp[Cx.lR,hs.bx],hs.size,hs.defers,λj q hj=>((hs.env j q hj).mono hl).mono h1,h2⟩,rfl,(hle.trans hl).trans h1,hK⟩
inductive FT:WG->WG->Prop
 |nil:FT [] []
 |same {p:PV} {l m:WG}:FT l m->FT (p::l) (p::m)
 |emp {a b:Nat} {c:Bool} {l m:WG}:FT l m->FT (.sl a [] c::l) (.sl b [] c::m)
 |st {w:Nat} {x y l m:WG}:FT x y->FT l m->FT (.st w x::l) (.st w y::m)
theorem FT.refl:∀l:WG,FT l l
 |[]=> .nil
 |_::l=> .same (FT.refl l)
theorem FT.len {l m:WG} (h:FT l m):l.length=m.length:=by
 induction h with
 |nil=>rfl
 |same _ ih=>simp[ih]
 |emp _ ih=>simp[ih]
 |st _ _ _ ih=>simp[ih]
theorem FT.width {sz:Nat} {l m:WG} (h:FT l m):(∀x∈l,x.width=sz)->∀x∈m,x.width=sz:=by
 induction h with
 |nil=>intro h x hx;cases hx
 |
  same _ ih=>
  intro h x hx
  rcases cJ.1 hx with rfl|hx
  ·exact h _ (by simp)
  ·exact ih (λy hy=>h y (by simp[hy])) x hx
 |
  emp _ ih=>
  intro h x hx
  rcases cJ.1 hx with rfl|hx
  ·have:=h _ (JkV);simpa[PV.width]using this
  ·exact ih (λy hy=>h y (by simp[hy])) x hx
 |
  st _ _ _ ih=>
  intro h x hx
  rcases cJ.1 hx with rfl|hx
  ·have:=h _ (JkV);simpa[PV.width]using this
  ·exact ih (λy hy=>h y (by simp[hy])) x hx
theorem FT.rep {Γ:Cx} {l m:WG} (h:FT l m):∀ {cs:UE},aC Γ l cs->aC Γ m cs:=by
 induction h with
 |nil=>intro cs h;exact h
 |
  @same p l m _ ih=>
  intro cs h
  obtain⟨c1,c2,rfl,h1,h2⟩:=aC.split (ps:=[p]) (qs:=l) h
  exact h1.cons (ih h2)
 |
  @emp a b c l m _ ih=>
  intro cs h
  obtain⟨c1,c2,rfl,h1,h2⟩:=aC.split (ps:=[.sl a [] c]) (qs:=l) h
  refine aC.cons ?_ (ih h2)
  cases h1 with
  |sl _ _ _ ad bg g1 g2 g3 g4 g5 g6=>exact aC.sl _ _ _ ad bg g1 (by simp) g3 g4 g5 g6
 |
  @st w x y l m _ _ ihx ih=>
  intro cs h
  obtain⟨c1,c2,rfl,h1,h2⟩:=aC.split (ps:=[.st w x]) (qs:=l) h
  refine aC.cons ?_ (ih h2)
  cases h1 with
  |st _ _ g1 g2 g3=>exact aC.st _ _ (ihx g1) g2 g3
def Qp {sz:Nat} {l m:WG} (hm:Mem Γ) (hg:get Γ.bx k=some (.arr sz l)) (hv:FT l m):
  Le Γ {Γ with bx:=put Γ.bx k (.arr sz m)}∧Mem {Γ with bx:=put Γ.bx k (.arr sz m)}:=by
 have cA:∀j,get (put Γ.bx k (.arr sz m)) j=if k=j then some (.arr sz m)else get Γ.bx j:=λj=>dc _ _ _ _
 have jf:∀j,(get (put Γ.bx k (.arr sz m)) j).isSome=true->(get Γ.bx j).isSome=true:=by
  intro j hj;rw[cA]at hj;split at hj
  ·rename_i e;subst e;simp[hg]
  ·exact hj
 have hl:Le Γ {Γ with bx:=put Γ.bx k (.arr sz m)}:=by
  refine⟨λ_ _ _=>rfl,λb hb hm=> ?_,rfl,JaQ _,λj blk hj=> ?_⟩
  ·obtain⟨j,blk,h1,h2⟩:=hm;have:=jf j (by rw[h1];rfl);obtain⟨b0,h3⟩:=JaZ.1 this;exact⟨j,b0,h3,h2⟩
  ·by_cases e:k=j
   ·subst e;rw[hg]at hj;cases hj;exact⟨.arr sz m,by rw[cA,if_pos rfl],by simp[aU.aD,hv.len],λ_=>⟨rfl,λb hb cs e hh=>⟨cs,hh,rfl⟩⟩⟩
   ·exact⟨blk,by rw[cA,if_neg e];exact hj,JaQ _,λ_=>⟨rfl,λb hb cs e hh=>⟨cs,hh,rfl⟩⟩⟩
 refine⟨hl,λj blk hj=> ?_,λi j b hi hj h1 h2=>hm.inj i j b (jf i hi) (jf j hj) h1 h2,hm.cI,λb hb hp=>hm.apart b ?_ hp,hm.kH hl⟩
 ·rw[cA]at hj;split at hj
  ·rename_i e;subst e;cases hj;obtain⟨w1,w2,w3⟩:=hm.blk _ _ hg;refine aU.xe.mono hl (λb hb=>rfl) (blk:= .arr sz m) (ob:=Γ.ι k) ⟨hv.width w1,w2,?_⟩;cases hi:Γ.ι k with
   |none=>trivial
   |
    some b=>
    rw[hi]at w3
    obtain⟨c,e,cs,rest,g1,g2,g3,g4⟩:=w3
    exact⟨c,e,cs,rest,g1,g2,hv.rep g3,g4⟩
  ·exact(hm.blk j blk hj).mono hl (λb hb=>rfl)
 ·obtain⟨j,blk,h1,h2⟩:=hb;have:=jf j (by rw[h1];rfl);obtain⟨b0,h3⟩:=JaZ.1 this;exact⟨j,b0,h3,h2⟩
def es1 (k:Nat) (m:WG) (s:St) (K:UD):Prop:=
 match get s.bx k with
 |some (.arr sz l)=>FT l m∧K {s with bx:=put s.bx k (.arr sz m)}
 |_=>False
def N1 {m:WG} {K:UD} (hs:fW nt ds s Γ a) (hle:Le Γ0 Γ) (h:es1 k m s K):qu nt ds Γ0 Γ a K:=by
 unfold es1 at h;split at h
 ·rename_i sz l hg;rw[←hs.bx]at hg;obtain⟨h1,h2⟩:=Qp hs.mem hg h.1;exact⟨{s with bx:=put s.bx k (.arr sz m)},_,⟨by simp[hs.bx],hs.size,hs.defers,λj q hj=>(hs.env j q hj).mono h1,h2⟩,rfl,hle.trans h1,h.2⟩
 ·exact h.elim
def ba1 (n k:Nat) (s:St) (K:UD):Prop:=
 match get s.bx k with
 |some (.box v)=>(get s.env n=some (.pt k [] 0)∧0<v.width)∧K {env:=put s.env n (.pt k [.i 0 v.width] 1),bx:=put s.bx k (.arr v.width [v])}
 |_=>False
def N3 {n:Nat} {K:UD} (hs:fW nt ds s Γ a) (hle:Le Γ0 Γ) (h:ba1 n k s K):qu nt ds Γ0 Γ a K:=by
 unfold ba1 at h;split at h
 ·rename_i v hg;obtain⟨⟨he,hw⟩,hK⟩:=h;rw[←hs.bx]at hg;have hm:=hs.mem;have cA:∀j,get (put Γ.bx k (.arr v.width [v])) j=if k=j then some (.arr v.width [v])else get Γ.bx j:=λj=>dc _ _ _ _
  have jf:∀j,(get (put Γ.bx k (.arr v.width [v])) j).isSome=true->(get Γ.bx j).isSome=true:=by
   intro j hj;rw[cA]at hj;split at hj
   ·rename_i e;subst e;simp[hg]
   ·exact hj
  have hl:Le Γ {Γ with bx:=put Γ.bx k (.arr v.width [v])}:=by
   refine⟨λ_ _ _=>rfl,λb hb hm=> ?_,rfl,JaQ _,λj blk hj=> ?_⟩
   ·obtain⟨j,blk,h1,h2⟩:=hm;have:=jf j (by rw[h1];rfl);obtain⟨b0,h3⟩:=JaZ.1 this;exact⟨j,b0,h3,h2⟩
   ·by_cases e:k=j
    ·subst e;rw[hg]at hj;cases hj;exact⟨.arr v.width [v],by rw[cA,if_pos rfl],by simp[aU.aD],λht=>by simp[aU.aD]at ht⟩
    ·exact⟨blk,by rw[cA,if_neg e];exact hj,JaQ _,λ_=>⟨rfl,λb hb cs e hh=>⟨cs,hh,rfl⟩⟩⟩
  have vE:Mem {Γ with bx:=put Γ.bx k (.arr v.width [v])}:=by
   refine⟨λj blk hj=> ?_,λi j b hi hj h1 h2=>hm.inj i j b (jf i hi) (jf j hj) h1 h2,hm.cI,λb hb hp=>hm.apart b ?_ hp,hm.kH hl⟩
   ·rw[cA]at hj;split at hj
    ·rename_i e;subst e;cases hj;obtain⟨b,c,e,h1,h2,h3⟩:=hm.blk _ _ hg;show aU.xe _ (Γ.ι k) _;rw[h1];exact⟨by simp,hw,c,e,c.toList,[],h2,by simp,h3.mono hl,by simp⟩
    ·exact(hm.blk j blk hj).mono hl (λb hb=>rfl)
   ·obtain⟨j,blk,h1,h2⟩:=hb;have:=jf j (by rw[h1];rfl);obtain⟨b0,h3⟩:=JaZ.1 this;exact⟨j,b0,h3,h2⟩
  refine⟨_,_,⟨by simp[hs.bx],hs.size,hs.defers,λj q hj=> ?_,vE⟩,rfl,hle.trans hl,hK⟩;simp only[dc]at hj;split at hj
  ·rename_i e;subst e;cases hj;obtain⟨b,h1,h2⟩:=(hs.env _ _ he).pt hg (by simp[aU.aD]);simp only[aN];exact .pt k _ 1 _ (.arr v.width [v]) ⟨by rw[cA,if_pos rfl],by simp[aU.aD]⟩ (by rw[h2];rfl) (λ_=>⟨b,h1,by rw[h2];simp[bU]⟩) .nil
  ·exact(hs.env j q hj).mono hl
 ·exact h.elim
def gT:Cut->St->(UD)->Prop
 | .fz k,s,K=>fz1 k s K
 | .dr k,s,K=>dr1 k s K
 | .keep sl,s,K=>K {s with env:=j2 sl s.env}
 | .vt n k sz,s,K=>vt1 n k sz s K
 | .wk n,s,K=>Qn n s K
 | .wb k,s,K=>wb1 k s K
 | .vb b p k sz,s,K=>vb1 b p k sz s K
 | .mv k k',s,K=>mv1 k k' s K
 | .mt n,s,K=>mt1 n s K
 | .es k l,s,K=>es1 k l s K
 | .ba n k,s,K=>ba1 n k s K
def fG:List Cut->St->(UD)->Prop
 |[],s,K=>K s
 |c::r,s,K=>gT c s λs'=>fG r s' K
theorem pG {K:UD} (mX:HK Γ0):∀(c:List Cut) {s:St} {Γ:Cx},fW nt ds s Γ a->Le Γ0 Γ->fG c s K->qu nt ds Γ0 Γ a K
 |[],s,Γ,hs,hle,h=>⟨s,Γ,hs,rfl,hle,h⟩
 |
  c::r,s,Γ,hs,hle,h=>by
  have:qu nt ds Γ0 Γ a λs'=>fG r s' K:=by
   cases c with
   |fz k=>exact NT hs hle mX h
   |dr k=>exact NU hs hle mX h
   |keep sl=>exact JW hs hle h
   |vt n k sz=>exact NV hs hle h
   |wk n=>exact NY hs hle h
   |wb k=>exact NZ hs hle h
   |vb b p k sz=>exact N0 hs hle h
   |mv k k'=>exact NW hs hle mX h
   |mt n=>exact NX hs hle h
   |es k l=>exact N1 hs hle h
   |ba n k=>exact N3 hs hle h
  obtain⟨s',Γ',h1,h2,h3,h4⟩:=this
  obtain⟨s2,Γ2,g1,g2,g3,g4⟩:=pG mX r h1 h3 h4
  exact⟨s2,Γ2,g1,by rw[g2,h2],g3,g4⟩
end Go.Ab
namespace Go.Ab
variable [cM]
variable {P:Program} {nt:Nat} {ds:List Deferred} {s s':St} {Γ:Cx} {a:Act} {w:World} {Q:Exit->Act->World->Prop} [gQ]
def HC:aU:= .map 0 (.i .u8) (.i .u8) []
def Sub (b c:List (Nat×aU)):Prop:=∀k blk,get b k=some blk->get c k=some blk∨blk=HC∧∃v,get c k=some (.box v)
def Sub.refl (b:List (Nat×aU)):Sub b b:=λ_ _ h=> .inl h
def Sub.trans {a b c:List (Nat×aU)} (h:Sub a b) (h':Sub b c):Sub a c:=by
 intro k blk hk;rcases h k blk hk with h1|⟨h1,v,h2⟩
 ·exact h' k blk h1
 ·rcases h' k _ h2 with h3|⟨h3,_⟩
  ·exact .inr ⟨h1,v,h3⟩
  ·simp[HC]at h3
theorem HD (hb:Sub s.bx s'.bx) {p:PV} {K:Nat->WG->Prop} (h:content s p K):content s' p K:=by
 cases p<;>simp only[content]at h⊢<;>first|exact h|skip
 rename_i k p off len aD sz c;cases hg:get s.bx k with
 |none=>rw[hg]at h;exact h.elim
 |
  some b=>
  rw[hg]at h
  rcases hb k b hg with h1|⟨rfl,v1,h1⟩
  ·rw[h1];exact h
  ·rw[h1];simp only[HC]at h⊢<;>exact h
theorem Qq (hb:Sub s.bx s'.bx) {op:BinOp} {e:ET} {p q:PV} {K:W7} (h:qN s op e p q K):qN s' op e p q K:=by
 cases e<;>simp only[qN]at h⊢<;>first|exact h|skip
 cases p<;>cases q<;>simp only at h⊢<;>first|exact h|skip
 rename_i k _ _;cases hg:get s.bx k with
 |none=>rw[hg]at h;exact h.elim
 |
  some b=>
  rw[hg]at h
  rcases hb k b hg with h1|⟨rfl,v1,h1⟩
  ·rw[h1];exact h
  ·rw[h1];simp only[HC,aU.aD]at h⊢<;>exact h
def bP {g:Bool} {x:AX} {K K':W7} (hk:vg g s x K) (h:∀p,K p->K' p):vg g s x K':=by
 obtain⟨p,h1,h2⟩:=rO g s x K hk;exact h2 K' (h p h1)
def pH {p:PV} {K K':Int->Prop} (hk:mS p K) (h:∀n,K n->K' n):mS p K':=by
 obtain⟨n,h1,h2⟩:=qo p K hk;exact h2 K' (h n h1)
theorem JX {g:Bool} {k:AK} {K:W7} (hb:Sub s.bx s'.bx) (h:cO s s' k.reads) (he:ev g s k K):ev g s' k K:=by
 cases k with
 |mv x=>simp only[ev]at he⊢;rw[aF h];exact he
 |pick c a b=>simp only[ev]at he⊢;rw[aF h.left.left,kT h.left.right,kT h.right];exact he
 |build z parts=>simp only[ev]at he⊢;rw[nb h];exact he
 |
  load agg w x=>
  simp only[ev]at he⊢;rw[aF h]
  refine bP he λp hp=> ?_
  cases p<;>simp only at hp⊢<;>first|exact hp|skip
  rename_i k _ _
  cases hg:get s.bx k with
  |none=>rw[hg]at hp;exact hp.elim
  |
   some b=>
   rw[hg]at hp
   rcases hb k b hg with h1|⟨rfl,v1,h1⟩
   ·rw[h1];exact hp
   ·rw[h1];simp only[HC,lW]at hp⊢<;>exact hp
 |
  nilCheck x=>
  simp only[ev]at he⊢;rw[aF h]
  refine bP he λp hp=> ?_
  cases p<;>first|exact hp|(rename_i f _ _;cases f<;>exact hp)|skip
  rename_i k _ _
  simp only at hp⊢
  cases hg:get s.bx k with
  |none=>rw[hg]at hp;exact hp.elim
  |
   some b=>
   rw[hg]at hp
   rcases hb k b hg with h1|⟨rfl,v1,h1⟩
   ·rw[h1];exact hp
   ·rw[h1];simp only[HC,aU.aD]at hp⊢<;>exact hp
 |bin op e x y=>simp only[ev]at he⊢;rw[aF h.left];refine bP he λp hp=> ?_;rw[aF h.right];exact bP hp λq hq=>Qq hb hq
 |un op x=>simp only[ev]at he⊢;rw[aF h];exact he
 |convI k x=>simp only[ev]at he⊢;rw[aF h];exact he
 |convS x=>simp only[ev]at he⊢;rw[aF h];exact bP he λp hp=>HD hb hp
 |mkFunc f a b=>simp only[ev]at he⊢;rw[fk h.left];simp only[fk h.right];exact he
 |
  slice k x lo hi mx=>
  have hx:=aF (g:=g) h.left
  have hl:=λn c=>Cl (g:=g) h.right.left h.right.right.left n c
  have hm:=h.right.right.right
  cases k with
  |str=>simp only[ev,hx,hl]at he⊢;exact he
  |
   sl sz=>
   simp only[ev,hx,hl]at he⊢
   refine bP he λp hp=> ?_
   cases p<;>simp only at hp⊢<;>first|exact hp|skip
   ·cases mx with
    |none=>exact hp
    |some m=>simp only at hp⊢;rw[aF (x:=m) hm];exact hp
   ·rename_i k _ _ _ _ _ _
    cases hg:get s.bx k with
    |none=>rw[hg]at hp;exact hp.elim
    |
     some b=>
     rw[hg]at hp
     rcases hb k b hg with h1|⟨rfl,v1,h1⟩
     ·rw[h1]
      cases mx with
      |none=>exact hp
      |some m=>simp only at hp⊢;rw[aF (x:=m) hm];exact hp
     ·rw[h1];simp only[HC,aU.aD]at hp⊢
      cases mx with
      |none=>exact hp
      |some m=>simp only at hp⊢;rw[aF (x:=m) hm];exact hp
  |
   ar n sz=>
   simp only[ev,hx,hl]at he⊢
   refine bP he λp hp=> ?_
   cases p<;>simp only at hp⊢<;>first|exact hp|skip
   rename_i k _ _
   cases hg:get s.bx k with
   |none=>rw[hg]at hp;exact hp.elim
   |
    some b=>
    rw[hg]at hp
    rcases hb k b hg with h1|⟨rfl,v1,h1⟩
    ·rw[h1];exact hp
    ·rw[h1];simp only[HC,aU.aD]at hp⊢<;>exact hp
 |
  fieldA i off x=>
  simp only[ev]at he⊢;rw[aF h]
  refine bP he λp hp=> ?_
  cases p<;>simp only at hp⊢<;>first|exact hp|skip
  rename_i k _ _
  cases hg:get s.bx k with
  |none=>rw[hg]at hp;exact hp.elim
  |
   some b=>
   rw[hg]at hp
   rcases hb k b hg with h1|⟨rfl,v1,h1⟩
   ·rw[h1];exact hp
   ·rw[h1];simp only[HC,aU.aD]at hp⊢<;>exact hp
 |
  s2a n sz x=>
  simp only[ev]at he⊢;rw[aF h]
  refine bP he λp hp=> ?_
  cases p<;>simp only at hp⊢<;>first|exact hp|skip
  rename_i k _ _ _ _ _ _
  cases hg:get s.bx k with
  |none=>rw[hg]at hp;exact hp.elim
  |
   some b=>
   rw[hg]at hp
   rcases hb k b hg with h1|⟨rfl,v1,h1⟩
   ·rw[h1];exact hp
   ·rw[h1];simp only[HC,aU.aD]at hp⊢<;>exact hp
 |field i off agg w x=>simp only[ev]at he⊢;rw[aF h];exact he
 |
  indexA k x i=>
  have hx:=aF (g:=g) h.left
  have hi:=aF (g:=g) h.right
  cases k with
  |str=>simp only[ev]at he
  |
   sl sz=>
   simp only[ev,hx,hi]at he⊢
   refine bP he λp hp=>bP hp λq hq=>pH hq λj hj=> ?_
   cases p<;>simp only at hj⊢<;>first|exact hj|skip
   rename_i k _ _ _ _ _ _
   cases hg:get s.bx k with
   |none=>rw[hg]at hj;exact hj.elim
   |
    some b=>
    rw[hg]at hj
    rcases hb k b hg with h1|⟨rfl,v1,h1⟩
    ·rw[h1];exact hj
    ·rw[h1];simp only[HC,aU.aD]at hj⊢<;>exact hj
  |
   ar n sz=>
   simp only[ev,hx,hi]at he⊢
   refine bP he λp hp=>bP hp λq hq=>pH hq λj hj=>⟨hj.1,?_⟩
   have hj:=hj.2
   cases p<;>simp only at hj⊢<;>first|exact hj|skip
   rename_i k _ _ _
   cases hg:get s.bx k with
   |none=>rw[hg]at hj;exact hj.elim
   |
    some b=>
    rw[hg]at hj
    rcases hb k b hg with h1|⟨rfl,v1,h1⟩
    ·rw[h1];exact hj
    ·rw[h1];simp only[HC,aU.aD]at hj⊢<;>exact hj
 |index agg n w x i=>simp only[ev]at he⊢;rw[aF h.left,aF h.right];exact he
 |indexS x i=>simp only[ev]at he⊢;rw[aF h.left,aF h.right];exact he
 |extract i x=>simp only[ev]at he⊢;rw[kT h];exact he
 |
  len x=>
  simp only[ev]at he⊢;rw[aF h]
  refine bP he λp hp=> ?_
  cases p<;>simp only at hp⊢<;>first|exact hp|skip
  rename_i k _ _ _ _ _ _
  cases hg:get s.bx k with
  |none=>rw[hg]at hp;exact hp.elim
  |
   some b=>
   rw[hg]at hp
   rcases hb k b hg with h1|⟨rfl,v1,h1⟩
   ·rw[h1];exact hp
   ·rw[h1];simp only[HC,aU.aD]at hp⊢<;>exact hp
 |
  cap x=>
  simp only[ev]at he⊢;rw[aF h]
  refine bP he λp hp=> ?_
  split at hp
  ·rename_i k p off len aD sz n
   cases hg:get s.bx k with
   |none=>rw[hg]at hp;exact hp.elim
   |
    some b=>
    rw[hg]at hp
    rcases hb k b hg with h1|⟨rfl,v1,h1⟩
    ·rw[h1];exact hp
    ·rw[h1];simp only[HC,aU.aD]at hp⊢<;>exact hp
  ·exact hp.elim
 |lenS x=>simp only[ev]at he⊢;rw[aF h];exact he
 |lenC n=>simp only[ev]at he⊢;exact he
 |mm mx xs=>simp only[ev]at he⊢;rw[fk h];exact he
 |_=>simp only[ev]at he
def Qv (P:Program) (r:St) (o:AO) (v:PV):Prop:=∀s':St,Sub r.bx s'.bx->cO r s' o.reads->∀K':UD,K' (s'.put o.dst v)->fA P s' o K'
theorem FU {o:AO} {K:UD} (hq:o.quiet=true) (h:ko P s o K):
  ∃v,K (s.put o.dst v)∧∀s',Sub s.bx s'.bx->cO s s' o.k.reads->∀K':UD,K' (s'.put o.dst v)->ko P s' o K':=by
 obtain⟨dst,guard,mg,k⟩:=o;cases k with
 |call f args=>simp[AO.quiet]at hq
 |
  callq f args=>
  simp only[ko]at h⊢
  unfold nR at h
  obtain⟨pf,h,h1⟩:=rO _ _ _ _ h
  obtain⟨ps,h,h2⟩:=sE _ _ _ _ h
  split at h
  case h_2=>exact h.elim
  rename_i fid first cap
  obtain⟨v,GZ,Eg,hK⟩:=h
  refine⟨v,hK,λs' hb ha K' kC=> ?_⟩
  unfold nR
  rw[aF ha.left]
  refine h1 _ ?_
  rw[fk ha.right]
  exact h2 _ ⟨v,GZ,Eg,kC⟩
 |
  buildSlice own sz z n parts=>
  simp only[AO.quiet,JfW]at hq
  subst hq
  simp only[ko,og,if_true]at h⊢
  simp only[ex]at h
  obtain⟨ps,h,h1⟩:=yM _ _ _ _ h
  split at h
  case h_2=>exact h.elim
  rename_i l hl
  simp only[fJ,if_false]at h
  refine⟨_,h,λs' hb ha K' kC=> ?_⟩
  simp only[ex]
  rw[nb ha]
  refine h1 _ ?_
  simp only[hl,fJ,if_false]
  exact kC
 |
  _=>
  first
  |(simp[AO.quiet,og]at hq;done)
  |(simp only[ko,og,fJ,if_false]at h⊢
    obtain⟨v,hK,hv⟩:=tD _ _ _ _ h
    refine⟨v,hK,λs' hb ha K' kC=> ?_⟩
    exact JX hb ha (hv _ kC))
theorem ve {o:AO} {K:UD} (hq:o.quiet=true) (h:fA P s o K):∃v,K (s.put o.dst v)∧Qv P s o v:=by
 unfold fA at h;cases hg:o.guard with
 |
  none=>
  rw[hg]at h
  obtain⟨v,hK,hv⟩:=FU hq h
  refine⟨v,hK,λs' hb ha K' kC=> ?_⟩
  unfold fA;rw[hg]
  exact hv s' hb ha.right K' kC
 |
  some gw=>
  obtain⟨sl,want⟩:=gw
  rw[hg]at h
  simp only at h
  have cA:∀ {s':St},cO s s' o.reads->get s'.env sl=get s.env sl:=λha=>ha sl (by simp[AO.reads,hg])
  split at h
  ·rename_i b hb
   split at h
   ·rename_i hm
    obtain⟨v,hK,hv⟩:=tD _ _ _ _ h
    refine⟨_,hK,λs' lj ha K' kC=> ?_⟩
    unfold fA;rw[hg];simp only[cA ha,hb,hm,if_true]
    exact JX lj ha.right (hv _ kC)
   ·rename_i hm
    by_cases oT:b=want
    ·obtain⟨v,hK,hv⟩:=FU hq (h.1 oT)
     refine⟨v,hK,λs' lj ha K' kC=> ?_⟩
     unfold fA;rw[hg];simp only[cA ha,hb,hm]
     exact⟨λ_=>hv s' lj ha.right K' kC,λhn=>absurd oT hn⟩
    ·refine⟨.un,h.2 oT,λs' lj ha K' kC=> ?_⟩
     unfold fA;rw[hg];simp only[cA ha,hb,hm]
     exact⟨λhn=>absurd hn oT,λ_=>kC⟩
  ·rename_i g b hb
   split at h
   ·rename_i hm
    obtain⟨v,hK,hv⟩:=tD _ _ _ _ h
    refine⟨_,hK,λs' lj ha K' kC=> ?_⟩
    unfold fA;rw[hg];simp only[cA ha,hb,hm,if_true]
    exact JX lj ha.right (hv _ kC)
   ·rename_i hm
    by_cases oT:g=true∧b=want
    ·obtain⟨v,hK,hv⟩:=FU hq (h.1 oT.1 oT.2)
     refine⟨v,hK,λs' lj ha K' kC=> ?_⟩
     unfold fA;rw[hg];simp only[cA ha,hb,hm]
     exact⟨λ_ _=>hv s' lj ha.right K' kC,λhn=>absurd oT.2 (hn oT.1)⟩
    ·refine⟨.un,h.2 (λh1 h2=>oT ⟨h1,h2⟩),λs' lj ha K' kC=> ?_⟩
     unfold fA;rw[hg];simp only[cA ha,hb,hm]
     exact⟨λh1 h2=>absurd ⟨h1,h2⟩ oT,λ_=>kC⟩
  ·exact h.elim
end Go.Ab
namespace Go.Ab
variable [cM]
variable {P:Program} {nt:Nat} {ds:List Deferred} {s s':St} [gQ]
def tE (d:Option Nat) (s t:St):Prop:=∀n,d≠some n->get t.env n=get s.env n
def ic {k:Nat} {v:PV} {b:List (Nat×aU)}:tE (some k) s {env:=put s.env k v,bx:=b}:=by
 intro n hn;rw[bG];intro e;exact hn (by rw[e])
theorem j3 {d:Option Nat} {v:PV} {b:List (Nat×aU)}:tE d s ({s with bx:=b}.put d v):=by
 cases d with
 |none=>intro n _;rfl
 |some k=>exact ic
def HE {d:Option Nat} {b:List (Nat×aU)}:tE d s {s with bx:=b}:=λ_ _=>rfl
def mh {e k:Nat} {u v:PV} {b:List (Nat×aU)} (h:k≠e):({env:=put (put s.env e u) k v,bx:=b}:St)=St.put {env:=put s.env k v,bx:=b} (some e) u:=by
 simp only[St.put];rw[Ab.put_comm (Ne.symm h)]
theorem pI {e:Nat} {d:Option Nat} {u v:PV} {b:List (Nat×aU)} (h:d≠some e):St.put {s.put (some e) u with bx:=b} d v=St.put (St.put {s with bx:=b} d v) (some e) u:=by
 cases d with
 |none=>rfl
 |
  some k=>
  have:k≠e:=λh'=>h (by rw[h'])
  simp only[St.put];rw[Ab.put_comm (Ne.symm this)]
def Au {e:Nat} {u:PV} {p:PV}:content (s.put (some e) u) p=content s p:=vQ rfl p
def LY {e:Nat} {u:PV} {str:Bool} {sz:Nat} {q:PV} {K:WG->Prop}:src (s.put (some e) u) str sz q K=src s str sz q K:=by
 unfold src;simp only[Au]
theorem xy {e:Nat} {u:PV} {d:Option Nat} {sz bytes:Nat} {p:PV} {ys:WG} {K:UD} (hd:d≠some e) (h:eO (s.put (some e) u) d sz bytes p ys K):
  eO s d sz bytes p ys λt=>K (t.put (some e) u)∧tE d s t:=by
 cases d with
 |none=>exact h.elim
 |
  some k=>
  have hk:k≠e:=λh'=>hd (by rw[h'])
  unfold eO at h⊢
  simp only at h⊢
  split at h
  ·refine⟨h.1,?_,ic⟩
   rw[←mh hk];exact h.2
  ·have lj:(s.put (some e) u).bx=s.bx:=rfl
   rw[lj]at h
   split at h
   ·refine⟨h.1,?_,ic⟩
    rw[←mh hk];exact h.2
   ·exact h.elim
  ·have lj:(s.put (some e) u).bx=s.bx:=rfl
   rw[lj]at h
   split at h
   ·refine⟨h.1,λhle=>⟨?_,ic⟩,λdx=>⟨?_,ic⟩⟩
    ·rw[←mh hk];exact h.2.1 hle
    ·rw[←mh hk];exact h.2.2 dx
   ·exact h.elim
  ·rw[Au]at h
   obtain⟨bu,l,h,h2⟩:∃bu l,_∧_:=by
    have:=h;exact pE _ _ _ this
   exact h2 _ ⟨h.1,by rw[←mh hk];exact h.2,ic⟩
  ·exact h.elim
theorem JY {e:Nat} {u:PV} {d:Option Nat} {sz bytes:Nat} {z p:PV} {m:Int} {K:UD} (hd:d≠some e) (h:pA (s.put (some e) u) d sz bytes z p m K):
  pA s d sz bytes z p m λt=>K (t.put (some e) u)∧tE d s t:=by
 cases d with
 |none=>exact h.elim
 |
  some k=>
  have hk:k≠e:=λh'=>hd (by rw[h'])
  unfold pA at h⊢
  simp only at h⊢
  split at h
  ·have lj:(s.put (some e) u).bx=s.bx:=rfl
   rw[lj]at h
   split at h
   ·refine⟨h.1,?_,ic⟩
    rw[←mh hk];exact h.2
   ·exact h.elim
  ·exact h.elim
theorem wB {e:Nat} {u:PV} {d:Option Nat} {sz:Nat} {p:PV} {ys:WG} {K:UD} (hd:d≠some e) (h:iE (s.put (some e) u) d sz p ys K):
  iE s d sz p ys λt=>K (t.put (some e) u)∧tE d s t:=by
 have lj:(s.put (some e) u).bx=s.bx:=rfl;cases p<;>simp only[iE]at h⊢<;>first|exact h|skip
 rename_i k pth off len aD bu c;rw[lj]at h;split at h
 ·refine⟨h.1,?_,j3⟩;rw[←pI hd];exact h.2
 ·rename_i v hv;split at h
  ·rename_i sz'' n l hg;split at h
   ·rename_i v' hs;refine⟨h.1,?_,j3⟩;rw[←pI hd];exact h.2
   ·exact h.elim
  ·exact h.elim
 ·exact h.elim
theorem Qr {e:Nat} {u:PV} {d:Option Nat} {k:AK} {K:UD} (hd:d≠some e) (hr:e∉k.reads) (h:ex (s.put (some e) u) d k K):
  ex s d k λt=>K (t.put (some e) u)∧tE d s t:=by
 have ag:cO s (s.put (some e) u) k.reads:=cO.put (λj hj=>by cases hj;exact hr);have lj:(s.put (some e) u).bx=s.bx:=rfl;cases k with
 |
  alloc z=>
  cases d with
  |none=>exact h.elim
  |
   some k=>
   have hk:k≠e:=λh'=>hd (by rw[h'])
   simp only[ex]at h⊢
   refine⟨h.1,?_,ic⟩
   rw[←mh hk];exact h.2
 |
  box x=>
  cases d with
  |none=>exact h.elim
  |
   some k=>
   have hk:k≠e:=λh'=>hd (by rw[h'])
   simp only[ex]at h⊢
   rw[aF ag]at h
   refine bP h λp hp=>⟨hp.1,?_,ic⟩
   rw[←mh hk];exact hp.2
 |
  buildSlice own sz z n parts=>
  simp only[ex]at h⊢
  rw[nb ag]at h
  obtain⟨ps,h,h1⟩:=yM _ _ _ _ h
  refine h1 _ ?_
  split at h
  ·split at h
   ·cases d with
    |none=>exact h.elim
    |
     some k=>
     have hk:k≠e:=λh'=>hd (by rw[h'])
     rename_i l hl ho
     simp only[hl,if_true]
     refine⟨h.1,?_,ic⟩
     rw[←mh hk];exact h.2
   ·rename_i l hl ho
    simp only[if_neg ho]
    refine⟨?_,j3 (b:=s.bx)⟩
    have:=pI (s:=s) (b:=s.bx) (u:=u) (v:= .sl sz l true) hd
    exact this▸h
  ·exact h.elim
 |
  makeSlice sz bytes z len cap=>
  cases d with
  |
   none=>
   simp only[ex]at h
   obtain⟨p,h,_⟩:=rO _ _ _ _ h
   obtain⟨l,h,_⟩:=qo _ _ h
   obtain⟨q,h,_⟩:=rO _ _ _ _ h
   obtain⟨c,h,_⟩:=qo _ _ h
   exact h.elim
  |
   some k=>
   have hk:k≠e:=λh'=>hd (by rw[h'])
   simp only[ex]at h⊢
   rw[aF ag.left]at h
   refine bP h λp hp=>pH hp λl hl=> ?_
   rw[aF ag.right]at hl
   refine bP hl λq hq=>pH hq λc hc=>⟨hc.1,?_,ic⟩
   rw[←mh hk];exact hc.2
 |
  store n x y=>
  simp only[ex]at h⊢
  rw[aF ag.left]at h
  refine bP h λp hp=> ?_
  rw[aF ag.right]at hp
  refine bP hp λv hv=> ?_
  cases p<;>simp only at hv⊢
  rename_i k pth aD
  rw[lj]at hv
  split at hv
  ·split at hv
   ·exact⟨hv.1,hv.2,HE⟩
   ·exact hv.elim
  ·exact hv.elim
 |
  isNil ng x=>
  simp only[ex]at h⊢
  rw[aF ag]at h
  refine bP h λp hp=> ?_
  cases p<;>simp only at hp⊢
  ·intro b hb
   refine⟨?_,j3 (b:=s.bx)⟩
   have:=pI (s:=s) (b:=s.bx) (u:=u) (v:= .bl (b !=ng)) hd
   exact this▸hp b hb
  ·rename_i k _ _ _ _ _ _
   rw[lj]at hp
   split at hp
   ·refine⟨hp.1,λb hb=>⟨?_,j3 (b:=s.bx)⟩⟩
    have:=pI (s:=s) (b:=s.bx) (u:=u) (v:= .bl (b !=ng)) hd
    exact this▸hp.2 b hb
   ·exact hp.elim
 |
  appendZ sz bytes z x y=>
  simp only[ex]at h⊢
  rw[aF ag.left]at h
  refine bP h λp hp=> ?_
  rw[aF ag.right]at hp
  refine bP hp λq hq=>pH hq λm hm=>JY hd hm
 |
  append sz bytes str x y=>
  simp only[ex]at h⊢
  rw[aF ag.left]at h
  refine bP h λp hp=> ?_
  rw[aF ag.right]at hp
  refine bP hp λq hq=> ?_
  rw[LY]at hq
  unfold src at hq⊢
  split at hq
  ·rename_i hs
   simp only[hs,if_true]
   cases q<;>simp only at hq⊢
   exact⟨hq.1,xy hd hq.2⟩
  ·rename_i hs
   simp only[hs]
   obtain⟨z,l,hq,h2⟩:=pE _ _ _ hq
   exact h2 _ ⟨hq.1,xy hd hq.2⟩
 |
  copy sz x y=>
  simp only[ex]at h⊢
  rw[aF ag.left]at h
  refine bP h λp hp=> ?_
  rw[aF ag.right]at hp
  refine bP hp λq hq=> ?_
  have Y5:∀str,src (s.put (some e) u) str sz q (λys=>iE (s.put (some e) u) d sz p ys K)->src s str sz q (λys=>iE s d sz p ys λt=>K (t.put (some e) u)∧tE d s t):=by
   intro str hq;rw[LY]at hq;unfold src at hq⊢;split at hq
   ·rename_i hs;simp only[hs,if_true];cases q<;>simp only at hq⊢;exact⟨hq.1,wB hd hq.2⟩
   ·rename_i hs;simp only[hs];obtain⟨z,l,hq,h2⟩:=pE _ _ _ hq;exact h2 _ ⟨hq.1,wB hd hq.2⟩
  cases q<;>exact Y5 _ hq
 |
  fill sz z x=>
  simp only[ex]at h⊢
  rw[aF ag]at h
  refine bP h λp hp=> ?_
  obtain⟨h1,h2⟩:=hp
  subst h1
  refine⟨rfl,?_⟩
  cases p<;>simp only at h2⊢<;>first|exact h2.elim|skip
  exact wB hd h2
 |
  mkMap ks vs=>
  cases d with
  |none=>exact h.elim
  |
   some k=>
   have hk:k≠e:=λh'=>hd (by rw[h'])
   simp only[ex]at h⊢
   refine⟨h.1,λb=>⟨?_,ic⟩⟩
   rw[←mh hk];exact h.2 b
 |
  mapGet ks vs z ok m x=>
  simp only[ex]at h⊢
  rw[aF ag.left]at h
  refine bP h λpm hp=> ?_
  rw[aF ag.right]at hp
  refine bP hp λp hq=> ?_
  cases pm<;>simp only at hq⊢<;>first|exact hq.elim|skip
  rw[lj]at hq
  split at hq
  ·rename_i b' ks' vs' l hg
   refine⟨hq.1,?_,j3 (b:=s.bx)⟩
   have:=pI (s:=s) (b:=s.bx) (u:=u) (v:=if ok=true then .tup [(lkp p l).getD z,.bl (lkp p l).isSome]else(lkp p l).getD z) hd
   exact this▸hq.2
  ·exact hq.elim
 |
  mapSet ks vs m x y=>
  simp only[ex]at h⊢
  rw[aF ag.left]at h
  refine bP h λpm hp=> ?_
  rw[aF ag.right.left]at hp
  refine bP hp λp hq=> ?_
  rw[aF ag.right.right]at hq
  refine bP hq λv hv=> ?_
  cases pm<;>simp only at hv⊢<;>first|exact hv.elim|skip
  rw[lj]at hv
  split at hv
  ·exact⟨hv.1,hv.2,HE⟩
  ·exact hv.elim
 |
  convL x=>
  simp only[ex]at h⊢
  rw[aF ag]at h
  refine bP h λp hp=> ?_
  cases p<;>simp only at hp⊢<;>first|exact hp.elim|skip
  rename_i k pth off len aD sz c
  rw[lj]at hp
  split at hp
  ·rename_i bu l hg
   refine⟨hp.1,?_,j3 (b:=put s.bx k (.arr 1 (l++[.int .u8 0])))⟩
   have:=pI (s:=s) (b:=put s.bx k (.arr 1 (l++[.int .u8 0]))) (u:=u) (v:= .sl 1 l false) hd
   exact this▸hp.2
  ·exact hp.elim
 |
  convB x=>
  simp only[ex]at h⊢
  rw[aF ag]at h
  refine bP h λp hp=> ?_
  cases p<;>simp only at hp⊢<;>first|exact hp.elim|skip
  rename_i bs
  refine⟨?_,j3 (b:=s.bx)⟩
  have:=pI (s:=s) (b:=s.bx) (u:=u) (v:= .sl 1 (bs.map u8) false) hd
  exact this▸hp
 |_=>exact h.elim
def HF {e:Nat} {u:PV} {d:Option Nat} {f:AX} {args:ZP} {K:UD} (hd:d≠some e) (hr:e∉(AK.call f args).reads) (h:kD P (s.put (some e) u) d f args K):
  kD P s d f args λt=>K (t.put (some e) u)∧tE d s t:=by
 have ag:cO s (s.put (some e) u) (AK.call f args).reads:=cO.put (λj hj=>by cases hj;exact hr);unfold kD at h⊢;rw[aF ag.left]at h;refine bP h λpf hpf=> ?_;rw[fk ag.right]at hpf;obtain⟨ps,hp,h2⟩:=sE _ _ _ _ hpf;refine h2 _ ?_;split at hp
 ·obtain⟨ks,os,bf,R,a1,a2,a3,a4,a5,a6,a7⟩:=hp;refine⟨ks,os,bf,R,a1,a2,a3,a4,a5,a6,λr fp hR=>⟨(a7 r fp hR).1,?_,j3⟩⟩;rw[←pI hd];exact(a7 r fp hR).2
 ·obtain⟨bf,R,a1,a2,a3,a4,a5⟩:=hp;refine⟨bf,R,a1,a2,a3,a4,λfp hR=>⟨(a5 fp hR).1,?_,j3⟩⟩;rw[←pI hd];exact(a5 fp hR).2
 ·exact hp.elim
end Go.Ab
namespace Go.Ab
variable [cM]
variable {P:Program} {s:St} [gQ]
def Bk {g:Bool} {k:AK} {K K':W7} (h:∀p,K p->K' p) (hk:ev g s k K):ev g s k K':=by
 obtain⟨p,h1,h2⟩:=tD g s k K hk;exact h2 K' (h p h1)
def eL {g:Bool} {x:AX} {K K':W7} (h:∀p,K p->K' p) (hk:vg g s x K):vg g s x K':=by
 obtain⟨p,h1,h2⟩:=rO g s x K hk;exact h2 K' (h p h1)
def HG {g:Bool} {xs:ZP} {K K':WG->Prop} (h:∀p,K p->K' p) (hk:wh g s xs K):wh g s xs K':=by
 obtain⟨p,h1,h2⟩:=sE g s xs K hk;exact h2 K' (h p h1)
def Qs {g:Bool} {xs:List (Nat×AX)} {K K':List (Nat×PV)->Prop} (h:∀p,K p->K' p) (hk:Bf g s xs K):Bf g s xs K':=by
 obtain⟨p,h1,h2⟩:=yM g s xs K hk;exact h2 K' (h p h1)
def yR {p:PV} {K K':Int->Prop} (h:∀p,K p->K' p) (hk:mS p K):mS p K':=by
 obtain⟨p,h1,h2⟩:=qo p K hk;exact h2 K' (h p h1)
def xz {p:PV} {K K':Nat->WG->Prop} (h:∀a b,K a b->K' a b) (hk:content s p K):content s p K':=by
 obtain⟨a,b,h1,h2⟩:=pE s p K hk;exact h2 K' (h a b h1)
def Cu {str:Bool} {sz:Nat} {q:PV} {K K':WG->Prop} (h:∀p,K p->K' p) (hk:src s str sz q K):src s str sz q K':=by
 unfold src at hk⊢;split at hk
 ·rename_i hs;rw[if_pos hs];split at hk
  ·exact⟨hk.1,h _ hk.2⟩
  ·exact hk.elim
 ·rename_i hs;rw[if_neg hs];exact xz (λa b hab=>⟨hab.1,h _ hab.2⟩) hk
def DT {d:Option Nat} {sz b:Nat} {p:PV} {ys:WG} {K K':UD} (h:∀p,K p->K' p) (hk:eO s d sz b p ys K):eO s d sz b p ys K':=by
 unfold eO at hk⊢;split at hk
 ·exact hk.elim
 ·split at hk
  ·exact⟨hk.1,h _ hk.2⟩
  ·split at hk
   ·exact⟨hk.1,h _ hk.2⟩
   ·exact hk.elim
  ·split at hk
   ·exact⟨hk.1,λhle=>h _ (hk.2.1 hle),λdx=>h _ (hk.2.2 dx)⟩
   ·exact hk.elim
  ·exact xz (λa b hab=>⟨hab.1,h _ hab.2⟩) hk
  ·exact hk.elim
def HH {d:Option Nat} {sz b:Nat} {z p:PV} {m:Int} {K K':UD} (h:∀p,K p->K' p) (hk:pA s d sz b z p m K):pA s d sz b z p m K':=by
 unfold pA at hk⊢;split at hk
 ·exact hk.elim
 ·split at hk
  ·split at hk
   ·exact⟨hk.1,h _ hk.2⟩
   ·exact hk.elim
  ·exact hk.elim
def tZ {d:Option Nat} {sz:Nat} {p:PV} {ys:WG} {K K':UD} (h:∀p,K p->K' p) (hk:iE s d sz p ys K):iE s d sz p ys K':=by
 unfold iE at hk⊢;split at hk
 ·split at hk
  ·exact⟨hk.1,h _ hk.2⟩
  ·split at hk
   ·split at hk
    ·exact⟨hk.1,h _ hk.2⟩
    ·exact hk.elim
   ·exact hk.elim
  ·exact hk.elim
 ·exact hk.elim
theorem Vs {d:Option Nat} {k:AK} {K K':UD} (h:∀p,K p->K' p) (hk:ex s d k K):ex s d k K':=by
 cases k with
 |alloc z=>simp only[ex]at hk⊢;split at hk;exact⟨hk.1,h _ hk.2⟩;exact hk.elim
 |box x=>simp only[ex]at hk⊢;split at hk;exact eL (λp hp=>⟨hp.1,h _ hp.2⟩) hk;exact hk.elim
 |
  buildSlice own sz z n parts=>
  simp only[ex]at hk⊢
  refine Qs (λps hp=> ?_) hk
  split at hp
  ·split at hp
   ·rename_i ho;rw[if_pos ho]
    split at hp
    ·exact⟨hp.1,h _ hp.2⟩
    ·exact hp.elim
   ·rename_i ho;rw[if_neg ho];exact h _ hp
  ·exact hp.elim
 |
  makeSlice sz b z l c=>
  simp only[ex]at hk⊢
  refine eL (λp hp=>yR (λn hn=>eL (λq hq=>yR (λm hm=> ?_) hq) hn) hp) hk
  split at hm
  ·exact⟨hm.1,h _ hm.2⟩
  ·exact hm.elim
 |
  store n x y=>
  simp only[ex]at hk⊢
  refine eL (λp hp=>eL (λv hv=> ?_) hp) hk
  split at hv
  ·split at hv
   ·split at hv
    ·exact⟨hv.1,h _ hv.2⟩
    ·exact hv.elim
   ·exact hv.elim
  ·exact hv.elim
 |
  isNil ng x=>
  simp only[ex]at hk⊢
  refine eL (λp hp=> ?_) hk
  split at hp
  ·exact λb hb=>h _ (hp b hb)
  ·split at hp
   ·exact⟨hp.1,λb hb=>h _ (hp.2 b hb)⟩
   ·exact hp.elim
  ·exact hp.elim
 |
  append sz b str x y=>
  simp only[ex]at hk⊢
  exact eL (λp hp=>eL (λq hq=>Cu (λys hy=>DT h hy) hq) hp) hk
 |
  copy sz x y=>
  simp only[ex]at hk⊢
  refine eL (λp hp=>eL (λq hq=> ?_) hp) hk
  split at hq
  ·exact Cu (λys hy=>tZ h hy) hq
  ·exact Cu (λys hy=>tZ h hy) hq
 |
  appendZ sz b z x y=>
  simp only[ex]at hk⊢
  exact eL (λp hp=>eL (λq hq=>yR (λm hm=>HH h hm) hq) hp) hk
 |
  fill sz z x=>
  simp only[ex]at hk⊢
  refine eL (λp hp=> ?_) hk
  obtain⟨h1,h2⟩:=hp
  refine⟨h1,?_⟩
  cases p<;>simp only at h2⊢<;>first|exact h2.elim|exact tZ h h2
 |mkMap ks vs=>simp only[ex]at hk⊢;split at hk;exact⟨hk.1,λb=>h _ (hk.2 b)⟩;exact hk.elim
 |
  mapGet ks vs z ok m x=>
  simp only[ex]at hk⊢
  refine eL (λpm hp=>eL (λp hq=> ?_) hp) hk
  cases pm<;>simp only at hq⊢<;>first|exact hq.elim|skip
  split at hq
  ·exact⟨hq.1,h _ hq.2⟩
  ·exact hq.elim
 |
  mapSet ks vs m x y=>
  simp only[ex]at hk⊢
  refine eL (λpm hp=>eL (λp hq=>eL (λv hv=> ?_) hq) hp) hk
  cases pm<;>simp only at hv⊢<;>first|exact hv.elim|skip
  split at hv
  ·exact⟨hv.1,h _ hv.2⟩
  ·exact hv.elim
 |
  convL x=>
  simp only[ex]at hk⊢
  refine eL (λp hp=> ?_) hk
  cases p<;>simp only at hp⊢<;>first|exact hp.elim|skip
  split at hp
  ·exact⟨hp.1,h _ hp.2⟩
  ·exact hp.elim
 |
  convB x=>
  simp only[ex]at hk⊢
  refine eL (λp hp=> ?_) hk
  cases p<;>simp only at hp⊢<;>first|exact hp.elim|exact h _ hp
 |_=>simp only[ex]at hk
def JZ {d:Option Nat} {f:FuncId} {l:WG} {ks os:Yx} {K K':UD} (h:∀p,K p->K' p) (hk:vP P s d f l ks os K):vP P s d f l ks os K':=by
 obtain⟨b,R,h1,h2,h3,h4,h5,h6,h7⟩:=hk;exact⟨b,R,h1,h2,h3,h4,h5,h6,λr fp hr=>⟨(h7 r fp hr).1,h _ (h7 r fp hr).2⟩⟩
def J0 {d:Option Nat} {f:AX} {l:ZP} {K K':UD} (h:∀p,K p->K' p) (hk:kD P s d f l K):kD P s d f l K':=by
 unfold kD at hk⊢;refine eL (λpf hf=>HG (λps hp=> ?_) hf) hk;split at hp
 ·obtain⟨ks,os,hc⟩:=hp;exact⟨ks,os,JZ h hc⟩
 ·obtain⟨bf,R,a1,a2,a3,a4,a5⟩:=hp;exact⟨bf,R,a1,a2,a3,a4,λfp hR=>⟨(a5 fp hR).1,h _ (a5 fp hR).2⟩⟩
 ·exact hp.elim
def J1 {d:Option Nat} {f:AX} {l:ZP} {K K':UD} (h:∀p,K p->K' p) (hk:nR P s d f l K):nR P s d f l K':=by
 unfold nR at hk⊢;refine eL (λpf hf=>HG (λps hp=> ?_) hf) hk;split at hp
 ·obtain⟨v,h1,h2,h3⟩:=hp;exact⟨v,h1,h2,h _ h3⟩
 ·exact hp.elim
def Cv {o:AO} {K K':UD} (h:∀p,K p->K' p) (hk:ko P s o K):ko P s o K':=by
 unfold ko at hk⊢;split at hk
 ·exact J0 h hk
 ·exact J1 h hk
 ·split at hk
  ·rename_i he;rw[if_pos he];exact Vs h hk
  ·rename_i he;rw[if_neg he];exact Bk (λp hp=>h _ hp) hk
def cr {o:AO} {K K':UD} (h:∀p,K p->K' p) (hk:fA P s o K):fA P s o K':=by
 unfold fA at hk⊢;split at hk
 ·exact Cv h hk
 ·split at hk
  ·split at hk
   ·rename_i hm;rw[if_pos hm];exact Bk (λp hp=>h _ hp) hk
   ·rename_i hm;rw[if_neg hm];exact⟨λe=>Cv h (hk.1 e),λe=>h _ (hk.2 e)⟩
  ·split at hk
   ·rename_i hm;rw[if_pos hm];exact Bk (λp hp=>h _ hp) hk
   ·rename_i hm;rw[if_neg hm];exact⟨λe e'=>Cv h (hk.1 e e'),λe=>h _ (hk.2 e)⟩
  ·exact hk.elim
end Go.Ab
namespace Go.Ab
variable [cM]
variable {P:Program} {nt:Nat} {ds:List Deferred} {s s':St} [gQ]
def AO.eA:AO->Option Nat
 |⟨some k,none,_,.alloc _⟩=>some k
 |⟨some k,none,_,.makeSlice _ b _ (.c (.int _ l)) (.c (.int _ c))⟩=>if 0≤l∧l≤c∧c*b≤281474976710656∧c≤9223372036854775807 then some k else none
 |_=>none
def AO.alq (y:AO):Bool:=y.guard.isNone&&((match y.k with| .call .. =>true|_=>false)||y.eA.isSome)
def qP (k:Nat) (z:PV×aU) (s:St):St:= {env:=put s.env k z.1,bx:=put s.bx k z.2}
def Qt {k:Nat} {z:PV×aU} {l:Yx} (h:k∉l):cO s (qP k z s) l:=by
 intro n hn;simp only[qP];rw[bG];rintro rfl;exact h hn
theorem vf {k:Nat} {b:aU}:∀ {ks:Yx} {bx:List (Nat×aU)} {l:WD},get bx k=none->getAll bx ks=some l->getAll (put bx k b) ks=some l
 |[],bx,l,_,h=>h
 |
  x::ks,bx,l,hn,h=>by
  simp only[getAll]at h⊢
  split at h
  ·rename_i u v hu hv
   have bY:k≠x:=by rintro rfl;rw[hn]at hu;simp at hu
   rw[bG _ _ _ _ bY,hu,vf hn hv]
   exact h
  ·simp at h
theorem yT {k:Nat} {b:aU}:∀ {ks:Yx} {bx:List (Nat×aU)} {l:WD},k∉ks->aQ (put bx k b) ks l=put (aQ bx ks l) k b
 |[],bx,l,_=>by cases l<;>rfl
 |x::ks,bx,[],_=>rfl
 |
  x::ks,bx,y::l,h=>by
  simp only[aQ]
  rw[Ab.put_comm (n:=k) (m:=x) (by rintro rfl;simp at h),yT (λh'=>h (by simp[h']))]
theorem sH {k:Nat}:∀ {ks:Yx} {bx:List (Nat×aU)} {l:WD},get bx k=none->getAll bx ks=some l->k∉ks
 |[],_,_,_,_=>by simp
 |
  x::ks,bx,l,hn,h=>by
  simp only[getAll]at h
  split at h
  ·rename_i u v hu hv
   intro hm
   rcases cJ.1 hm with rfl|hm
   ·rw[hn]at hu;simp at hu
   ·exact sH hn hv hm
  ·simp at h
theorem Zs {k:Nat} {z:PV×aU} {d:Option Nat} {v:PV} {b:List (Nat×aU)} (hd:d≠some k):St.put {env:=put s.env k z.1,bx:=put b k z.2} d v=qP k z (St.put {s with bx:=b} d v):=by
 cases d with
 |none=>rfl
 |
  some j=>
  have:j≠k:=λh=>hd (by rw[h])
  simp only[St.put,qP]
  rw[Ab.put_comm (Ne.symm this)]
def Qu {d:Option Nat} {f:FuncId} {args:WG} {ks os:Yx} {k:Nat} {z:PV×aU} {K:UD} (hd:d≠some k) (hn:get s.bx k=none) (h:vP P s d f args ks os λt=>get t.bx k=none∧K (qP k z t)):∃os',vP P (qP k z s) d f args ks os' K:=by
 obtain⟨bf,R,a1,a2,a3,a4,a5,a6,a7⟩:=h;have hk:=sH hn a1;by_cases hR:∃r fp,R r fp
 ·obtain⟨r0,fp0,hR0⟩:=hR
  have hko:k∉os:=by
   intro hm;obtain⟨⟨b1,_,_⟩,b2,_⟩:=a7 r0 fp0 hR0;have e:({s with bx:=aQ s.bx (ks++os) (fp0.map (aG (cN (ks++os))))}.put d (aI (cN (ks++os)) r0)).bx=aQ s.bx (ks++os) (fp0.map (aG (cN (ks++os)))):=by cases d<;>rfl
   rw[e,sB k a2 (by simpa using b1)]at b2;cases hi:idx (ks++os) k with
   |none=>exact Hs hi (by simp[hm])
   |
    some i=>
    rw[hi]at b2
    have:=(iJ.1 (k9 hi)).1
    simp at b2
    omega
  refine⟨os,bf,R,vf hn a1,a2,λo ho=> ?_,a4,a5,a6,λr fp hr=>⟨(a7 r fp hr).1,?_⟩⟩
  ·simp only[qP];rw[bG]
   ·exact a3 o ho
   ·rintro rfl;exact hko ho
  ·have:=(a7 r fp hr).2.2;simp only[qP]at this⊢;rw[yT (by simp[hk,hko]),Zs hd];exact this
 ·exact⟨[],bf,R,vf hn a1,by simpa using(JeQ.1 a2).1,by simp,a4,a5,a6,λr fp hr=>absurd ⟨r,fp,hr⟩ hR⟩
def Qw {d:Option Nat} {f:AX} {args:ZP} {k:Nat} {z:PV×aU} {K:UD} (hd:d≠some k) (hn:get s.bx k=none) (hr:k∉(AK.call f args).reads) (h:kD P s d f args λt=>get t.bx k=none∧K (qP k z t)):kD P (qP k z s) d f args K:=by
 have ag:cO s (qP k z s) (AK.call f args).reads:=Qt hr;unfold kD at h⊢;rw[aF ag.left];refine bP h λpf hpf=> ?_;rw[fk ag.right];obtain⟨ps,hp,h2⟩:=sE _ _ _ _ hpf;refine h2 _ ?_;split at hp
 ·obtain⟨ks,os,hc⟩:=hp;obtain⟨os',GY⟩:=Qu hd hn hc;exact⟨ks,os',GY⟩
 ·obtain⟨bf,R,a1,a2,a3,a4,a5⟩:=hp;have hk:=sH hn a1;refine⟨bf,R,vf hn a1,a2,a3,a4,λfp hR=>⟨(a5 fp hR).1,?_⟩⟩;have:=(a5 fp hR).2.2;simp only[qP]at this⊢;rw[yT hk,Zs hd];exact this
 ·exact hp.elim
theorem pJ {x:AO} {k:Nat} (hx:x.eA=some k):∃z,x.dst=some k∧∀(s:St) (K:UD),fA P s x K↔(get s.bx k=none∧K (qP k z s)):=by
 unfold AO.eA at hx;split at hx
 ·rename_i k' mg z;simp only[sJ]at hx;subst hx;exact⟨(.pt k' [] 0,.box z),rfl,λs K=>Iff.rfl⟩
 ·rename_i k' mg sz b z kl l kc c;split at hx
  ·rename_i hc;simp only[sJ]at hx;subst hx;refine⟨(.rs k' [] 0 l.toNat l.toNat sz .tip,.arr sz (List.replicate l.toNat z)),rfl,λs K=> ?_⟩;have e:fA P s ⟨some k',none,mg,.makeSlice sz b z (.c (.int kl l)) (.c (.int kc c))⟩ K↔((get s.bx k'=none∧0≤l∧l≤c∧c*b≤281474976710656∧c≤9223372036854775807)∧K (qP k' (.rs k' [] 0 l.toNat l.toNat sz .tip,.arr sz (List.replicate l.toNat z)) s)):=Iff.rfl;rw[e];exact⟨λh=>⟨h.1.1,h.2⟩,λh=>⟨⟨h.1,hc⟩,h.2⟩⟩
  ·simp at hx
 ·simp at hx
theorem J2 {y:AO} {k:Nat} {z:PV×aU} {K:UD} (hy:y.alq=true) (hd:y.dst≠some k) (hr:k∉y.reads) (hn:get s.bx k=none) (h:fA P s y λt=>get t.bx k=none∧K (qP k z t)):fA P (qP k z s) y K:=by
 unfold AO.alq at hy;simp only[aJ]at hy;cases qm:y.eA with
 |
  some j=>
  obtain⟨z',DE,hw⟩:=pJ (P:=P) qm
  have wa:j≠k:=λh=>hd (by rw[DE,h])
  have h:get s.bx j=none∧get (qP j z' s).bx k=none∧K (qP k z (qP j z' s)):=(hw _ _).1 h
  refine(hw _ _).2 ⟨by simp only[qP];rw[bG _ _ _ _ (Ne.symm wa)];exact h.1,?_⟩
  have e:qP j z' (qP k z s)=qP k z (qP j z' s):=by
   simp only[qP];rw[Ab.put_comm (Ne.symm wa),Ab.put_comm (Ne.symm wa)]
  rw[e];exact h.2.2
 |
  none=>
  obtain⟨dst,guard,mg,ak⟩:=y
  rw[qm]at hy
  cases guard with
  |some g=>simp at hy
  |
   none=>
   cases ak with
   |call f args=>exact Qw hd hn (λh=>hr (by simp[AO.reads,h])) h
   |_=>simp at hy
end Go.Ab
namespace Go.Ab
variable [cM]
variable {P:Program} {nt:Nat} {ds:List Deferred} {s s':St} [gQ]
def FX:Yx->Bool
 |a::b::_=>a==b
 |_=>false
def vF (W:Yx) (k:Nat) (b:aU):aU:=match b with| .box v=>if FX W=true∧W.contains k=true then HC else .box v|b=>b
def St.less (s:St) (W:Yx):St:= {s with bx:=(s.bx.filter λp=>FX W|| !W.contains p.1).map λp=>(p.1,vF W p.1 p.2)}
def Fr (W:Yx) (s t:St):Prop:=∀k b,(FX W|| !W.contains k)=true->get s.bx k=some b->∃b',get t.bx k=some b'∧vF W k b'=vF W k b
theorem get_filter {c:Nat->Bool} (k:Nat):∀l:List (Nat×aU),get (l.filter λp=>c p.1) k=if c k=true then get l k else none
 |[]=>by simp[get]
 |
  (n,v)::r=>by
  have ih:=get_filter (c:=c) k r
  by_cases hn:c n=true
  ·rw[JjQ (by simpa using hn)]
   simp only[get,ih]
   by_cases hk:n=k
   ·subst hk;rw[if_pos rfl,if_pos hn,if_pos rfl]
   ·rw[if_neg hk,if_neg hk]
  ·rw[List.filter_cons_of_neg (by simpa using hn),ih]
   by_cases hk:n=k
   ·subst hk;rw[if_neg hn,if_neg hn]
   ·simp only[get,if_neg hk]
theorem LZ {W:Yx} (k:Nat):∀l:List (Nat×aU),get (l.map λp=>(p.1,vF W p.1 p.2)) k=(get l k).map (vF W k)
 |[]=>rfl
 |
  (n,v)::r=>by
  simp only[JcQ,get]
  by_cases hk:n=k
  ·subst hk;simp
  ·rw[if_neg hk,if_neg hk];exact LZ k r
def Cw {W:Yx} (k:Nat):get (s.less W).bx k=if(FX W|| !W.contains k)=true then(get s.bx k).map (vF W k)else none:=by
 simp only[St.less,LZ];rw[get_filter (c:=λn=>FX W|| !W.contains n)];split<;>rfl
def Qx (W:Yx):Sub (s.less W).bx s.bx:=by
 intro k b h;rw[Cw]at h;split at h
 ·cases hg:get s.bx k with
  |none=>rw[hg]at h;simp at h
  |
   some c=>
   rw[hg]at h
   simp only[JkW,sJ]at h
   cases c with
   |
    box v=>
    simp only[vF]at h
    split at h
    ·exact .inr ⟨h.symm,v,rfl⟩
    ·exact .inl (by rw[h])
   |arr sz l=>exact .inl (by rw[←h];rfl)
   |map b ks vs l=>exact .inl (by rw[←h];rfl)
 ·simp at h
def Bl {W:Yx} (h:Fr W s s'):Sub (s.less W).bx (s'.less W).bx:=by
 intro k b hk;rw[Cw]at hk;split at hk
 ·rename_i hw;cases hg:get s.bx k with
  |none=>rw[hg]at hk;simp at hk
  |
   some c=>
   obtain⟨b',h1,h2⟩:=h k c hw hg
   rw[hg]at hk
   left
   rw[Cw,if_pos hw,h1,JkW,h2]
   exact hk
 ·simp at hk
def Qy {W:Yx} {d:Option Nat} {v:PV}:(s.put d v).less W=(s.less W).put d v:=by cases d<;>rfl
def yU {W:Yx} {d:Option Nat} {v:PV}:({((s.less W).put d v)with bx:=s.bx}:St)=s.put d v:=by cases d<;>rfl
def ig (P:Program) (W:Yx) (f:Bool) (s:St) (o:AO) (K:UD):Prop:=
 if o.quiet=true then(if f=true then fA P (s.less W) o (λt=>K {t with bx:=s.bx})else fA P s o K)else fA P s o (λt=>(f=true->Fr W s t)∧K t)
def dX (aos:List AO) (s:St) (l:Yx):Bool:=l.all λi=>match aos[i]?with|some o=>(match o.eA with|some k=>(get s.bx k).isNone|none=>true)|none=>true
def gL (P:Program) (aos:List AO) (fl:Nat->Bool) (W:Yx) (s:St):Yx->(UD)->Prop
 |[],K=>K s
 |
  i::r,K=>match aos[i]?with
  |some o=>dX aos s (i::r)=true∧ig P W (fl i) s o λt=>gL P aos fl W t r K
  |none=>False
theorem yV {aos:List AO} {fl:Nat->Bool} {W:Yx} {K:UD}:∀ {l:Yx} {s:St},gL P aos fl W s l K->dX aos s l=true
 |[],s,_=>rfl
 |
  i::r,s,h=>by
  simp only[gL]at h
  split at h
  ·exact h.1
  ·exact h.elim
def j4 {aos:List AO} {s s':St} (h:s'.bx=s.bx) (l:Yx):dX aos s' l=dX aos s l:=by unfold dX;rw[h]
def bX {aos:List AO} {s:St} {i:Nat} {l:Yx}:dX aos s (i::l)=(dX aos s [i]&&dX aos s l):=by simp[dX]
def nj {aos:List AO} {s:St} {l m:Yx}:dX aos s (l++m)=(dX aos s l&&dX aos s m):=by simp[dX]
def L2 {aos:List AO} {s:St} {i j:Nat} {l m:Yx} (h:dX aos s (j::(l++i::m))=true):dX aos s [j]=true∧dX aos s l=true∧dX aos s [i]=true∧dX aos s m=true:=by
 rw[bX (l:=l++i::m),nj,bX (l:=m)]at h;simpa only[aJ]using h
def L3 {aos:List AO} {s:St} {j:Nat} {l m:Yx} (h1:dX aos s [j]=true) (h2:dX aos s l=true) (h3:dX aos s m=true):dX aos s (j::(l++m))=true:=by
 rw[bX (l:=l++m),nj,h1,h2,h3];rfl
def rT {aos:List AO} {s:St} {i:Nat} {x:AO} {k:Nat} (hi:aos[i]? =some x) (hx:x.eA=some k):dX aos s [i]=true↔get s.bx k=none:=by simp[dX,hi,hx]
def kt {aos:List AO} {s:St} {i:Nat} {x:AO} (hi:aos[i]? =some x) (hx:x.eA=none):dX aos s [i]=true:=by simp[dX,hi,hx]
theorem eB {x:AO} (hx:x.quiet=true):x.eA=none:=by
 cases h:x.eA with
 |none=>rfl
 |
  some k=>
  exfalso
  unfold AO.eA at h
  split at h
  ·simp[AO.quiet,og]at hx
  ·simp[AO.quiet,og]at hx
  ·simp at h
def pK (W:Yx) (f:Bool) (s:St):St:=if f=true then s.less W else s
theorem ku {W:Yx} {f:Bool} {o:AO} {K:UD} (hq:o.quiet=true) (h:ig P W f s o K):∃v,K (s.put o.dst v)∧Qv P (pK W f s) o v:=by
 unfold ig at h;rw[if_pos hq]at h;cases f with
 |
  true=>
  simp only[if_true]at h
  obtain⟨v,h1,h2⟩:=ve hq h
  rw[yU]at h1
  exact⟨v,h1,h2⟩
 |
  false=>
  simp only[fJ,if_false]at h
  obtain⟨v,h1,h2⟩:=ve hq h
  exact⟨v,h1,h2⟩
theorem rU {W:Yx} {f:Bool} {o:AO} {v:PV} {r:St} {K:UD} (hq:o.quiet=true) (h:Qv P r o v) (hs:Sub r.bx (pK W f s).bx) (ha:cO r s o.reads) (hk:K (s.put o.dst v)):ig P W f s o K:=by
 unfold ig;rw[if_pos hq];cases f with
 |
  true=>
  simp only[if_true]
  refine h _ hs ha _ ?_
  show K {((s.less W).put o.dst v)with bx:=s.bx}
  rw[yU];exact hk
 |
  false=>
  simp only[fJ,if_false]
  exact h _ hs ha _ hk
def HI {W:Yx} {f:Bool}:Sub (pK W f s).bx s.bx:=by
 unfold pK;split
 ·exact Qx W
 ·exact Sub.refl _
def HJ {W:Yx} {f:Bool} {d:Option Nat} {v:PV}:(pK W f (s.put d v)).bx=(pK W f s).bx:=by
 unfold pK;split
 ·rw[Qy,iF]
 ·rw[iF]
def ua {W:Yx} {f:Bool}:(pK W f s).env=s.env:=by unfold pK;split<;>rfl
def vh {W:Yx} {f:Bool} {l:Yx} (h:cO s s' l):cO (pK W f s) s' l:=by
 intro n hn;rw[ua];exact h n hn
def AK.iU:AK->Bool
 | .mv _| .extract _ _| .mm _ _| .un _ _| .convI _ _| .field _ _ _ _ _| .build _ _=>true
 | .bin _ e _ _=>match e with| .ptr=>false|_=>true
 |_=>false
def AO.iU (o:AO):Bool:=o.guard.isNone&&o.k.iU
def Qz {b:List (Nat×aU)} (x:AX):vx {s with bx:=b} x=vx s x:=by cases x<;>rfl
def FY {b:List (Nat×aU)} {g:Bool} (x:AX):vg g {s with bx:=b} x=vg g s x:=by
 funext K;unfold vg;rw[Qz]
theorem L4 {b:List (Nat×aU)} {g:Bool}:∀(l:ZP),wh g {s with bx:=b} l=wh g s l
 |[]=>rfl
 |x::l=>by funext K;simp only[wh,FY,L4 l]
theorem L5 {b:List (Nat×aU)} {g:Bool}:∀(l:List (Nat×AX)),Bf g {s with bx:=b} l=Bf g s l
 |[]=>rfl
 |(n,x)::l=>by funext K;simp only[Bf,FY,L5 l]
def QA {b:List (Nat×aU)} {o:BinOp} {e:ET} (he:(match e with| .ptr=>false|_=>true)=true) (p q:PV):qN {s with bx:=b} o e p q=qN s o e p q:=by
 funext K;cases e<;>first|rfl|simp at he
def aci {b:List (Nat×aU)} {g:Bool} {k:AK} (hk:k.iU=true) (K:W7):ev g {s with bx:=b} k K=ev g s k K:=by
 cases k<;>first|(simp[AK.iU]at hk;done)|skip
 case bin o e x y=>
  simp only[ev,FY];simp only[AK.iU]at hk;have:=λp q=>QA (s:=s) (b:=b) (o:=o) hk p q;simp only[this]
 all_goals simp only[ev,FY,L4,L5,Qz]
def HL {k:AK} (h:k.iU=true):og k=false:=by
 cases k<;>first|rfl|simp[AK.iU]at h
def Av {r:St} {o:AO} {v:PV} (hf:o.iU=true) (hv:Qv P r o v) (s':St) (ha:cO r s' o.reads) (K':UD) (hk:K' (s'.put o.dst v)):fA P s' o K':=by
 have h:=hv {s' with bx:=r.bx} (Sub.refl _) ha (λt=>K' {t with bx:=s'.bx}) (by
  have e:({(({s' with bx:=r.bx}:St).put o.dst v)with bx:=s'.bx}:St)=s'.put o.dst v:=by cases o.dst<;>rfl
  show K' _;rw[e];exact hk)
 obtain⟨dst,guard,mg,k⟩:=o;have e:∀p,({(({s' with bx:=r.bx}:St).put dst p)with bx:=s'.bx}:St)=s'.put dst p:=by intro p;cases dst<;>rfl
 simp only[AO.iU,aJ,Option.isNone_iff_eq_none]at hf;obtain⟨hg,Fk⟩:=hf;subst hg;have hx:=HL Fk;cases k<;>first|(simp[AK.iU]at Fk;done)|skip
 all_goals
  simp only[fA,ko,hx,fJ,if_false,aci Fk,e]at h⊢
  exact h
theorem yW {W:Yx} {f:Bool} {o:AO} {v:PV} {r:St} {K:UD} (hq:o.quiet=true) (hf:o.iU=true) (h:Qv P r o v) (ha:cO r s o.reads) (hk:K (s.put o.dst v)):ig P W f s o K:=by
 unfold ig;rw[if_pos hq];cases f with
 |
  true=>
  simp only[if_true]
  refine Av hf h (s.less W) (λn hn=>ha n hn) _ ?_
  show K {((s.less W).put o.dst v)with bx:=s.bx}
  rw[yU];exact hk
 |
  false=>
  simp only[fJ,if_false]
  exact Av hf h _ ha _ hk
def gU (aos:List AO) (fl:Nat->Bool) (j i:Nat):Bool:=match aos[j]?,aos[i]?with
 |some y,some x=>y.quiet&&y.dst.isSome&&y.apart x&&(x.quiet||y.iU||(x.eA.isSome||fl j&&fl i))|| !y.quiet&&y.alq&&(match x.eA with|some k=>y.dst !=some k&& !y.reads.contains k|none=>false)
 |_,_=>false
def pL (aos:List AO) (j i:Nat):Bool:=match aos[j]?,aos[i]?with
 |some y,some x=>(match y.eA,x.eA with|some a,some b=>a !=b|_,_=>true)
 |_,_=>true
theorem J3 {aos:List AO} {fl:Nat->Bool} {W:Yx} {K:UD} {i:Nat} {x:AO} (hi:aos[i]? =some x) (hx:x.quiet=true) (l2:Yx):∀(l1:Yx) (s:St),
  (∀j∈l1,gU aos fl j i=true)->gL P aos fl W s (l1++i::l2) K->∃v,gL P aos fl W (s.put x.dst v) (l1++l2) K∧Qv P s x v
 |
  [],s,_,h=>by
  simp only[JjJ,gL,hi]at h
  obtain⟨v,h1,h2⟩:=ku hx h.2
  exact⟨v,h1,λs' hb ha K' hk=>h2 s' (HI.trans hb) (vh ha) K' hk⟩
 |
  j::l1,s,cU,h=>by
  have hp:=cU j (by simp)
  unfold gU at hp
  cases hy:aos[j]?with
  |none=>rw[hy]at hp;simp at hp
  |
   some y=>
   rw[hy,hi]at hp
   simp only[eB hx,Bool.and_false,Bool.or_false,aJ]at hp
   obtain⟨⟨⟨qh,_⟩,fL⟩,_⟩:=hp
   have h1:∀d,y.dst=some d->d∉x.reads:=λd hd=>by simp[AO.apart,hd]at fL;exact fL.1.1
   have h2:∀d,y.dst=some d->x.dst≠some d:=λd hd=>by simp[AO.apart,hd]at fL;exact fL.1.2
   have h3:∀d,x.dst=some d->d∉y.reads:=λd hd=>by simp[AO.apart,hd]at fL;exact fL.2
   simp only[JdV,gL,hy]at h⊢
   obtain⟨n7,h⟩:=h
   obtain⟨v,h,hv⟩:=ku qh h
   obtain⟨u,h,hu⟩:=J3 hi hx l2 l1 _ (λk hk=>cU k (by simp[hk])) h
   refine⟨u,⟨?_,rU qh hv (by rw[HJ];exact Sub.refl _) (vh (cO.put h3)) ?_⟩,?_⟩
   ·have n7:=L2 n7
    rw[j4 (iF _ _)]
    exact L3 n7.1 n7.2.1 n7.2.2.2
   ·rw[St.put_comm (λk hk he=>h2 k he hk)];exact h
   ·intro s' hb ha K' hk
    refine hu s' (by rw[iF];exact hb) (λn hn=> ?_) K' hk
    rw[ha n hn]
    exact((cO.put h1) n hn).symm
theorem yX {o:AO} {e:Nat} {u:PV} {K:UD} (hq:o.quiet=false) (hd:o.dst≠some e) (hr:e∉o.k.reads) (h:ko P (s.put (some e) u) o K):ko P s o λt=>K (t.put (some e) u)∧tE o.dst s t:=by
 obtain⟨dst,guard,mg,k⟩:=o;cases k with
 |call f args=>exact HF hd hr h
 |callq f args=>simp[AO.quiet]at hq
 |
  _=>
  first
  |(simp[AO.quiet,og]at hq;done)
  |(simp only[ko,og,if_true]at h⊢;exact Qr hd hr h)
theorem oW {o:AO} {e:Nat} {u:PV} {K:UD} (hq:o.quiet=false) (hd:o.dst≠some e) (hr:e∉o.reads) (h:fA P (s.put (some e) u) o K):fA P s o λt=>K (t.put (some e) u)∧tE o.dst s t:=by
 have hrk:e∉o.k.reads:=λh=>hr (by simp[AO.reads,h])
 have Fq:K ((s.put (some e) u).put o.dst .un)->K ((s.put o.dst .un).put (some e) u)∧tE o.dst s (s.put o.dst .un):=by
  intro hk;refine⟨?_,j3 (b:=s.bx)⟩;have:=pI (s:=s) (b:=s.bx) (u:=u) (v:= .un) hd;exact this▸hk
 have Uc:∀(g:Bool) (s:St) K,ev g s o.k K->False:=by
  intro g s K h;obtain⟨dst,guard,mg,k⟩:=o;cases k<;>first|(simp[AO.quiet,og]at hq;done)|(simp[ev]at h;done)
 unfold fA at h⊢;cases hg:o.guard with
 |
  none=>
  rw[hg]at h
  exact yX hq hd hrk h
 |
  some gw=>
  obtain⟨sl,want⟩:=gw
  rw[hg]at h
  have xd:get (s.put (some e) u).env sl=get s.env sl:=by
   simp only[St.put];rw[bG];rintro rfl;exact hr (by simp[AO.reads,hg])
  simp only[xd]at h⊢
  split at h
  ·split at h
   ·exact(Uc _ _ _ h).elim
   ·rename_i hm
    rw[if_neg hm]
    exact⟨λe1=>yX hq hd hrk (h.1 e1),λe1=>Fq (h.2 e1)⟩
  ·split at h
   ·exact(Uc _ _ _ h).elim
   ·rename_i hm
    rw[if_neg hm]
    exact⟨λe1 e2=>yX hq hd hrk (h.1 e1 e2),λe1=>Fq (h.2 e1)⟩
  ·exact h.elim
def xA {aos:List AO} {k:Nat} {z:PV×aU} {i:Nat} {x:AO} (hi:aos[i]? =some x) (hx:x.eA=some k) {l:Yx} (bY:∀j∈l,pL aos j i=true) (h:dX aos s l=true):dX aos (qP k z s) l=true:=by
 simp only[dX,JbJ]at h⊢;intro j hj;have h1:=h j hj;have h2:=bY j hj;unfold pL at h2;rw[hi]at h2;split
 ·rename_i y hy;rw[hy]at h1 h2;simp only at h1 h2⊢;split
  ·rename_i b hb;rw[hb]at h1 h2;rw[hx]at h2;simp only[bne_iff_ne,ne_eq]at h1 h2⊢;simp only[qP];rw[bG _ _ _ _ (λh=>h2 h.symm)];exact h1
  ·rfl
 ·rfl
def EB {W:Yx} {k:Nat} {z:PV×aU} (hn:get s.bx k=none):Fr W s (qP k z s):=by
 intro j b _ hb;refine⟨b,?_,rfl⟩;simp only[qP];rw[bG]
 ·exact hb
 ·rintro rfl;rw[hn]at hb;simp at hb
def J4 {W:Yx} {k:Nat} {z:PV×aU} {t:St} (h:Fr W s t):Fr W (qP k z s) (qP k z t):=by
 intro j b hw hb;simp only[qP,dc]at hb⊢;split
 ·rename_i e;rw[if_pos e]at hb;exact⟨b,hb,rfl⟩
 ·rename_i e;rw[if_neg e]at hb;exact h j b hw hb
def FZ {W:Yx} {f g:Bool} {y x:AO} {k e:Nat} {v:PV} {R:UD} (qh:y.quiet=true) (hk:x.eA=some k) (he:y.dst=some e) (h2:x.dst≠some e) (h3:∀d,x.dst=some d->d∉y.reads) (hn:get s.bx k=none) (hv:Qv P (pK W f s) y v)
  (ih:fA P (s.put (some e) v) x λt=>(g=true->Fr W (s.put (some e) v) t)∧R t):fA P s x λt=>(g=true->Fr W s t)∧R (t.put (some e) v)∧ig P W f t y R:=by
 obtain⟨z,DE,qm⟩:=pJ (P:=P) hk;obtain⟨_,_,hR⟩:=(qm _ _).1 ih;have hek:k≠e:=λh=>h2 (by rw[DE,h])
 have ec:qP k z (s.put (some e) v)=(qP k z s).put (some e) v:=by
  simp only[qP,St.put];rw[Ab.put_comm hek]
 rw[ec]at hR;refine(qm s _).2 ⟨hn,λ_=>EB hn,hR,rU (r:=pK W f s) qh hv ?_ (λn Hb=> ?_) (by rw[he];exact hR)⟩
 ·cases f with
  |true=>simpa[pK]using Bl (EB (W:=W) (z:=z) hn)
  |
   false=>
   intro j b hj
   simp only[pK,fJ,if_false]at hj⊢
   refine .inl ?_
   simp only[qP]
   rw[bG]
   ·exact hj
   ·rintro rfl;rw[hn]at hj;simp at hj
 ·rw[ua];simp only[qP];rw[bG];rintro rfl;exact h3 _ DE Hb
theorem yY {aos:List AO} {fl:Nat->Bool} {W:Yx} {K:UD} {i:Nat} {x:AO} (hi:aos[i]? =some x) (hx:x.quiet=false) (l2:Yx):∀(l1:Yx) (s:St),
  (∀j∈l1,gU aos fl j i=true)->(∀j∈l1++l2,pL aos j i=true)->gL P aos fl W s (l1++i::l2) K->fA P s x λt=>(fl i=true->Fr W s t)∧gL P aos fl W t (l1++l2) K
 |
  [],s,_,_,h=>by
  simp only[JjJ,gL,hi]at h
  have h:=h.2
  unfold ig at h
  rw[if_neg (by rw[hx];simp)]at h
  exact h
 |
  j::l1,s,cU,bY,h=>by
  have hp:=cU j (by simp)
  unfold gU at hp
  cases hy:aos[j]?with
  |none=>rw[hy]at hp;simp at hp
  |
   some y=>
   rw[hy,hi]at hp
   simp only[JdV,gL,hy]at h⊢
   obtain⟨n7,h⟩:=h
   have n7:=L2 n7
   rcases JiW.1 hp with hp|hp
   ·simp only[aJ,hx,Bool.false_or]at hp
    obtain⟨⟨⟨qh,Fl⟩,fL⟩,Jl⟩:=hp
    obtain⟨e,he⟩:=JaZ.1 Fl
    have h1:e∉x.reads:=by simp[AO.apart,he]at fL;exact fL.1.1
    have h2:x.dst≠some e:=by simp[AO.apart,he]at fL;exact fL.1.2
    have h3:∀d,x.dst=some d->d∉y.reads:=λd hd=>by simp[AO.apart,hd]at fL;exact fL.2
    rcases JiW.1 Jl with hso|Jl
    ·obtain⟨v,h,hv⟩:=ku qh h
     have ih:=yY hi hx l2 l1 _ (λk hk=>cU k (by simp[hk])) (λk hk=>bY k (by simp only[JdV,cJ];exact .inr hk)) h
     rw[he]at ih
     refine cr (λt ht=> ?_) (oW hx h2 h1 ih)
     obtain⟨⟨hf,hk⟩,uZ⟩:=ht
     refine⟨λyv=>λk b hw hb=>hf yv k b hw hb,?_,yW (r:=pK W (fl j) s) qh hso hv (λn hn=> ?_) (by rw[he];exact hk)⟩
     ·rw[bX,kt hy (eB qh),JhW]
      have:=yV hk
      rwa [j4 (iF _ _)]at this
     ·rw[ua];exact uZ n (λhd=>h3 n hd hn)
    ·rcases JiW.1 Jl with hia|Jl
     ·obtain⟨k,hk⟩:=JaZ.1 hia
      obtain⟨v,h,hv⟩:=ku qh h
      have ih:=yY hi hx l2 l1 _ (λk hk=>cU k (by simp[hk])) (λk hk=>bY k (by simp only[JdV,cJ];exact .inr hk)) h
      rw[he]at ih
      refine cr (λt ht=> ?_) (FZ qh hk he h2 h3 ((rT hi hk).1 n7.2.2.1) hv ih)
      refine⟨ht.1,?_,ht.2.2⟩
      rw[bX,kt hy (eB qh),JhW]
      have:=yV ht.2.1
      rw[j4 (iF _ _)]at this
      exact this
     ·obtain⟨Ud,yv⟩:=Bool.and_eq_true_iff.1 Jl
      rw[Ud]at h⊢
      obtain⟨v,h,hv⟩:=ku qh h
      have ih:=yY hi hx l2 l1 _ (λk hk=>cU k (by simp[hk])) (λk hk=>bY k (by simp only[JdV,cJ];exact .inr hk)) h
      rw[he]at ih
      refine cr (λt ht=> ?_) (oW hx h2 h1 ih)
      obtain⟨⟨hf,hk⟩,uZ⟩:=ht
      have hf':Fr W s t:=λk b hw hb=>hf yv k b hw hb
      refine⟨λ_=>hf',?_,rU (r:=s.less W) qh (by simpa[pK]using hv) (by simpa[pK]using Bl hf') (λn hn=> ?_) (by rw[he];exact hk)⟩
      ·rw[bX,kt hy (eB qh),JhW]
       have:=yV hk
       rwa [j4 (iF _ _)]at this
      ·exact uZ n (λhd=>h3 n hd hn)
   ·simp only[aJ,JfW]at hp
    obtain⟨⟨qh,hya⟩,hp⟩:=hp
    split at hp
    case h_2=>simp at hp
    rename_i k hk
    simp only[aJ,bne_iff_ne,ne_eq,JfW,List.contains_eq_mem,decide_eq_false_iff_not]at hp
    obtain⟨z,DE,qm⟩:=pJ (P:=P) hk
    have hn:get s.bx k=none:=(rT hi hk).1 n7.2.2.1
    unfold ig at h
    rw[if_neg (by rw[qh];simp)]at h
    have h':fA P s y λt=>get t.bx k=none∧(λt'=>(fl j=true->Fr W (qP k z s) t')∧gL P aos fl W t' (l1++l2) K) (qP k z t):=by
     refine cr (λt ht=> ?_) h;obtain⟨hf,ht⟩:=ht;have ih:=yY hi hx l2 l1 _ (λk hk=>cU k (by simp[hk])) (λk hk=>bY k (by simp only[JdV,cJ];exact .inr hk)) ht;obtain⟨i1,_,i3⟩:=(qm t _).1 ih;exact⟨i1,λe=>J4 (hf e),i3⟩
    refine(qm s _).2 ⟨hn,λ_=>EB hn,?_,?_⟩
    ·refine xA hi hk (λm hm=>bY m (by simpa using hm)) ?_
     exact L3 n7.1 n7.2.1 n7.2.2.2
    ·unfold ig
     rw[if_neg (by rw[qh];simp)]
     exact J2 hya hp.1 hp.2 hn h'
end Go.Ab
namespace Go.Ab
variable [cM]
variable {P:Program} {nt:Nat} {ds:List Deferred} {s s':St} {Γ:Cx} {a:Act} {w:World} {Q:Exit->Act->World->Prop} [gQ]
def vi (ops:Array Oper):Yx->Yx->Bool
 |_,[]=>true
 |done,i::r=>(match ops[i]?with|some o=>(o.after.all λe=> !Region.binds .any e||done.contains e.on)|none=>false)&&vi ops (i::done) r
def sI (ms:Yx) (aos:List AO) (fl:Nat->Bool):Yx->Bool
 |[]=>true
 |j::r=>(r.all λi=>j !=i&&pL aos j i&&(As ms i j||gU aos fl j i))&&sI ms aos fl r
def vj (ops:Array Oper) (aos:List AO) (ord us:Yx):Bool:=
 vi ops [] ord&&sI (fS ops.toList []) aos us.contains ord&&ord.length==ops.size&&(ord.all λi=>decide (i<ops.size))&&(List.range ops.size).all λi=>ord.contains i
theorem sK {ops:Array Oper}:∀(p:Yx) (done:Yx) {i:Nat} {q:Yx},vi ops done (p++i::q)=true->∀o,ops[i]? =some o->∀e∈o.after,Region.binds .any e=true->e.on∈done∨e.on∈p
 |
  [],done,i,q,h,o,ho,e,he,hb=>by
  simp only[JjJ,vi,ho,aJ,Array.all_eq_true_iff_forall_mem]at h
  have:=h.1 e he
  simp[hb]at this
  exact .inl this
 |
  x::p,done,i,q,h,o,ho,e,he,hb=>by
  simp only[JdV,vi,aJ]at h
  rcases sK p (x::done) h.2 o ho e he hb with h1|h1
  ·rcases cJ.1 h1 with h2|h2
   ·exact .inr (by simp[h2])
   ·exact .inl h2
  ·exact .inr (by simp[h1])
theorem sL {ms:Yx} {aos:List AO} {fl:Nat->Bool}:∀ {l:Yx},sI ms aos fl l=true->l.Pairwise λj i=>(j≠i∧pL aos j i=true)∧(As ms i j=true∨gU aos fl j i=true)
 |[],_=> .nil
 |
  j::r,h=>by
  simp only[sI,aJ,JbJ]at h
  refine .cons (λi hi=> ?_) (sL h.2)
  have:=h.1 i hi
  simpa using this
def lI {aos:List AO} {i j:Nat} (h:pL aos i j=true):pL aos j i=true:=by
 unfold pL at*;cases h1:aos[i]? <;>cases h2:aos[j]? <;>simp only[h1,h2]at h⊢;rename_i x y;cases h3:x.eA<;>cases h4:y.eA<;>simp only[h3,h4,bne_iff_ne]at h⊢;exact λe=>h e.symm
def qv (ops:Array Oper) (ord:Yx):Bool:=
 vi ops [] ord&&ord.length==ops.size&&(ord.all λi=>decide (i<ops.size))&&(List.range ops.size).all λi=>ord.contains i
def qw (ops:Array Oper) (aos:List AO) (fl:Nat->Bool) (j i:Nat):Prop:=(j≠i∧pL aos j i=true)∧(As (fS ops.toList []) i j=true∨gU aos fl j i=true)
theorem ajz {ro:Option Nat} {ops:Array Oper} {aos:List AO} {own sp:Yx} {ord us:Yx} {W:Yx} (ox:∀(i:Nat) o,ops[i]? =some o->∃ao,aos[i]? =some ao∧oh P nt ops own sp true o=some ao) (cL:qv ops ord=true) {K:UD}:
  ∀
   (n:Nat) (listed:Array Bool) {s:St} {Γ:Cx} {a:Act} {w:World},listed.size=ops.size->qO ops listed->(ord.filter λi=> !listed.getD i true).Pairwise (qw ops aos us.contains)->(ord.filter λi=> !listed.getD i true).length=n->
   fW nt ds s Γ a->w.heap=Γ.heap->Ex P Γ->gL P aos us.contains W s (ord.filter λi=> !listed.getD i true) K->Hu P nt ds Γ w K (Q .normal)->wpAnyIn (FW ro) 0 P .any ops Q n listed a w:=by
 simp only[qv,aJ,JbJ,decide_eq_true_eq,JkZ]at cL;obtain⟨⟨⟨hE,_⟩,dx⟩,cU⟩:=cL
 have LH:∀listed:Array Bool,listed.size=ops.size->Region.ready .any ops listed=[]->(ord.filter λi=> !listed.getD i true)=[]:=by
  intro listed fP hr;cases hl:ord.filter λi=> !listed.getD i true with
  |nil=>rfl
  |
   cons i l=>
   exfalso
   obtain⟨p,q,LJ,hp,hi,_⟩:=List.filter_eq_cons_iff.1 hl
   have hio:i<ops.size:=dx i (by rw[LJ];simp)
   have:i∈Region.ready .any ops listed:=by
    rw[mem_ready];refine⟨by simpa using hi,ops[i],Array.getElem?_eq_getElem hio,λe he hb=> ?_⟩;rw[LJ]at hE;rcases sK p [] hE _ (Array.getElem?_eq_getElem hio) e he hb with h1|h1
    ·simp at h1
    ·have h2:=hp _ h1;have h3:e.on<listed.size:=by rw[fP];exact dx _ (by rw[LJ];simp[h1])
     simp[JbQ,Array.getElem?_eq_getElem h3]at h2⊢;exact h2
   rw[hr]at this;simp at this
 intro n;induction n with
 |
  zero=>
  intro listed s Γ a w fP hc _ hn hs hw hY h hk
  have hl:=JfZ.1 hn
  rw[hl]at h
  refine⟨?_,hk _ _ _ _ hs hw (Le.refl Γ) (WF.refl w) h⟩
  rw[List.eq_nil_iff_forall_not_mem]
  intro i hi
  obtain⟨h1,o,ho,_⟩:=mem_ready.1 hi
  have:i∈ord.filter λi=> !listed.getD i true:=by
   rw[JgQ];exact⟨by simpa using cU i (Array.getElem?_eq_some_iff.1 ho).1,by rw[h1];rfl⟩
  rw[hl]at this;simp at this
 |
  succ n ih=>
  intro listed s Γ a w fP hc hPw hn hs hw hY h hk
  refine⟨λhr=> ?_,λi hi=> ?_⟩
  ·rw[LH listed fP hr]at hn;simp at hn
  ·obtain⟨Fq,o,ho,Jm⟩:=mem_ready.1 hi
   have Y6:=(Array.getElem?_eq_some_iff.1 ho).1
   obtain⟨ao,BP,htr⟩:=ox i o ho
   have fQ:i∈ord.filter λi=> !listed.getD i true:=by
    rw[JgQ];exact⟨by simpa using cU i Y6,by rw[Fq];rfl⟩
   obtain⟨l1,l2,hl⟩:=List.append_of_mem fQ
   have U6:(l1++i::l2).Pairwise λj i=>(j≠i∧pL aos j i=true)∧(As (fS ops.toList []) i j=true∨gU aos us.contains j i=true):=by rw[←hl];exact hPw
   have u9:(l1++i::l2).Nodup:=U6.imp (λh=>h.1.1)
   have n8:ord.filter (λj=> !(listed.setIfInBounds i true).getD j true)=l1++l2:=by
    have e:(λj=> !(listed.setIfInBounds i true).getD j true)=λj=>(decide (j≠i))&& !listed.getD j true:=by
     funext j;by_cases Fs:i=j
     ·subst Fs;simp[JbQ,uJ (by omega:i<listed.size)]
     ·rw[getD_set_ne true Fs];simp[Ne.symm Fs]
    rw[e,←List.filter_filter,hl,JhJ,JoW];simp only[ne_eq,not_true,decide_false,fJ,if_false];have Ft:=JeQ.1 u9;rw[JdQ.2,JdQ.2]
    ·intro x hx;simp;rintro rfl;exact(JiQ.1 Ft.2.1).1 hx
    ·intro x hx;simp;rintro rfl;exact Ft.2.2 x hx x (by simp) rfl
   rw[hl]at h hn
   have tK:∀j∈l1,gU aos us.contains j i=true:=by
    intro j hj;have h1:=(JcW.1 U6).2.2 j hj i (by simp);rcases h1.2 with hb|hb
    ·exfalso;have hjm:j∈ord.filter λi=> !listed.getD i true:=by rw[hl];simp[hj]
     obtain⟨hjo,Y7⟩:=JgQ.1 hjm;have:=yP hc (Cp hb) hi;have Bb:j<listed.size:=by rw[fP];exact dx j hjo
     simp[JbQ,Array.getElem?_eq_getElem Bb]at this Y7;rw[this]at Y7;simp at Y7
    ·exact hb
   have bY:∀j∈l1++l2,pL aos j i=true:=by
    intro j hj;rcases JaX.1 hj with hj|hj
    ·exact((JcW.1 U6).2.2 j hj i (by simp)).1.2
    ·have h1:=(JgW (JcW.1 U6).2.1 hj).1.2;exact lI h1
   have hf:fA P s ao λt=>gL P aos us.contains W t (l1++l2) K:=by
    cases hx:ao.quiet with
    |
     true=>
     obtain⟨v,h1,h2⟩:=J3 BP hx l2 l1 s tK h
     exact h2 s (Sub.refl _) (λ_ _=>rfl) _ h1
    |false=>exact cr (λt ht=>ht.2) (yY BP hx l2 l1 s tK bY h)
   refine oV ho htr hs hw hY hf ?_
   intro s' Γ' a' w' b1 b2 b3 b4 b5
   refine ih (listed.setIfInBounds i true) (by simp[fP]) ?_ (by rw[n8];exact U6.sublist (List.Sublist.append (List.Sublist.refl l1) (List.sublist_cons_self i l2))) (by rw[n8];simp at hn⊢;omega) b1 b2 (hY.le b3) (by rw[n8];exact b5) (hk.trans b3 b4)
   intro k ok uX uY e he hb
   by_cases Fp:i=k
   ·subst Fp;rw[ho]at uX;cases uX;exact getD_set_true (Jm e he hb)
   ·rw[getD_set_ne true Fp]at uY;exact getD_set_true (hc k ok uX uY e he hb)
def QB {ops:Array Oper} {aos:List AO} {ord us:Yx} (h:vj ops aos ord us=true):qv ops ord=true:=by
 simp only[vj,qv,aJ]at h⊢;exact⟨⟨⟨h.1.1.1.1,h.1.1.2⟩,h.1.2⟩,h.2⟩
def wC {ro:Option Nat} {ops:Array Oper} {aos:List AO} {own sp:Yx} {ord us:Yx} {id:Nat} (hm:P.follows .mixedOrders=true) (ht:jS P nt ops own sp true ops.toList=some aos) (cL:vj ops aos ord us=true) {K:UD} (hs:fW nt ds s Γ a) (hw:w.heap=Γ.heap)
  (hY:Ex P Γ) (h:∃W,gL P aos us.contains W s ord K) (hk:Hu P nt ds Γ w K (Q .normal)):(Code.region id ops true).wpIn (FW ro) 0 P Q a w:=by
 obtain⟨W,h⟩:=h;obtain⟨h1,h2⟩:=pF ht;have Y8:=cL;simp only[vj,aJ,JbJ,decide_eq_true_eq,JkZ,beq_iff_eq]at Y8
 have e:(ord.filter λi=> !(Array.replicate ops.size false).getD i true)=ord:=by
  rw[JdQ];intro i hi;have:=Y8.1.2 i hi;simp[JbQ,this]
 refine wpIn_region_any hm (ajz (s:=s) (Γ:=Γ) (K:=K) (W:=W) (λi o hi=>h2 i o (by simpa using hi)) (QB cL) _ _ (by simp) ?_ (by rw[e];exact sL Y8.1.1.1.2) (by rw[e];exact Y8.1.1.2) hs hw hY (by rw[e];exact h) ?_)
 ·intro k o hko hl;have:=(Array.getElem?_eq_some_iff.1 hko).1;simp[JbQ,this]at hl
 ·intro s' Γ' a' w' b1 b2 b3 b4 b5;exact hk s' Γ' a' w' b1 b2 b3 ⟨b4.os,b4.tape,b4.output⟩ b5
def QC (ops:Array Oper) (done:Yx) (i:Nat):Bool:= !done.contains i&&match ops[i]?with|some o=>o.after.all λe=> !Region.binds .any e||done.contains e.on|none=>false
def qQ (aos:List AO) (i:Nat):Bool:=match aos[i]?with|some x=>x.quiet|none=>false
def acj (ops:Array Oper) (aos:List AO):Nat->Yx->Yx
 |0,done=>done.reverse
 |
  n+1,done=>match(List.range ops.size).find? (λi=>QC ops done i&&qQ aos i)with
  |some i=>acj ops aos n (i::done)
  |
   none=>match(List.range ops.size).find? (QC ops done)with
   |some i=>acj ops aos n (i::done)
   |none=>done.reverse
def soB (aos:List AO) (i:Nat):Bool:=match aos[i]?with|some x=>x.iU|none=>false
def early (ms:Yx) (aos:List AO):Yx->Yx
 |[]=>[]
 |j::r=>if(qQ aos j&& !soB aos j&&r.any λi=> !qQ aos i&& !As ms i j)=true then j::early ms aos r else early ms aos r
def ub (ops:Array Oper) (aos:List AO):Yx:=acj ops aos ops.size []
def QD (ms:Yx) (aos:List AO):Yx->Yx->Yx
 |_,[]=>[]
 |done,i::r=>if(!qQ aos i&&done.any λj=>qQ aos j&& !soB aos j&& !As ms i j)=true then i::QD ms aos (i::done) r else QD ms aos (i::done) r
def Bm (ops:Array Oper) (aos:List AO):Yx:=early (fS ops.toList []) aos (ub ops aos)++QD (fS ops.toList []) aos [] (ub ops aos)
end Go.Ab
namespace Go.Ab
variable [cM]
variable {P:Program} {nt:Nat} {ds:List Deferred} {s:St} {Γ Γ0:Cx} {a:Act} {w w0:World}
def Cx.out (Γ:Cx) (ks:Yx) (bf:WD):Cx:=
 {
  heap:=Γ.heap,ι:=λk=>if KB≤k then(match ks[k-KB]?with|some j=>Γ.ι j|none=>none)else none,
  bx:=az 0 (bf.map (aG (bV ks))),cI:=Γ.cI}
def Cx.xB {ks:Yx} {bf:WD} (hg:getAll Γ.bx ks=some bf) {b:Nat}:(Γ.out ks bf).fM b↔∃(i:Nat) (k:Nat),ks[i]? =some k∧Γ.ι k=some b:=Cx.lG (Γ:=Γ) hg
theorem Cx.HM {ks:Yx} {bf:WD} (hg:getAll Γ.bx ks=some bf):tW (cW ks) (bV ks) Γ (Γ.out ks bf) where
 heap:=rfl
 own b hb hn:=by
  rintro(h|h)
  ·obtain⟨i,k,h1,h2⟩:=(Cx.xB hg).1 h;obtain⟨_,cA⟩:=df hg;obtain⟨b',g1,_⟩:=cA _ _ h1;exact hn (.inl ⟨k,b',g1,h2⟩)
  ·exact hn (.inr h)
 ref:=(Cx.rL hg).ref
def Cx.Vt (hm:Mem Γ) {ks:Yx} {bf:WD} (hg:getAll Γ.bx ks=some bf) (hn:ks.Nodup) (cL:bf.all (af (cW ks))=true):Mem (Γ.out ks bf) where
 blk k blk hk:=by
  obtain⟨hl,cA⟩:=df hg;simp only[Cx.out,eS]at hk;split at hk
  ·rename_i hle;rw[List.getElem?_map,mJ]at hk;obtain⟨b0,Fo,rfl⟩:=hk;have hi:=(iJ.1 Fo).1;obtain⟨j,hj⟩:∃j,ks[k-KB]? =some j:=⟨_,gJ (by omega)⟩
   obtain⟨b1,g1,g2⟩:=cA _ _ hj;simp only[Nat.sub_zero]at Fo;rw[Fo]at g2;cases g2;have:=(hm.blk j b0 g1).aI (Cx.HM hg) (JbJ.1 cL b0 (JcX Fo));have e:(Γ.out ks bf).ι k=Γ.ι j:=by simp only[Cx.out];rw[if_pos (by omega),hj]
   rw[e];exact this
  ·simp at hk
 inj:=(Cx.Cd hm hg hn cL).inj
 cI:=hm.cI
 apart b h hp:=by
  obtain⟨i,k,h1,h2⟩:=(Cx.xB hg).1 h;obtain⟨_,cA⟩:=df hg;obtain⟨b',g1,_⟩:=cA _ _ h1;exact hm.apart b ⟨k,b',g1,h2⟩ hp
 xj b cs h:=by
  obtain⟨h1,h2⟩:=hm.xj b cs h;refine⟨λhb=>h1 ?_,h2⟩;obtain⟨i,k,g1,g2⟩:=(Cx.xB hg).1 hb;obtain⟨b',g3,_⟩:=(df hg).2 i k g1;exact⟨k,b',g3,g2⟩
def Cx.ack {ks:Yx} {bf fp:WD} (hle:Le Γ0 Γ) (h0:Γ0.bx=az 0 fp) (hg:getAll Γ.bx ks=some bf) (hks:ks.take fp.length=dE fp.length):Le Γ0 (Γ.out ks bf) where
 heap:=hle.heap
 fM b hb h:=by
  obtain⟨i,k,h1,h2⟩:=(Cx.xB hg).1 h;obtain⟨_,cA⟩:=df hg;obtain⟨b',g1,_⟩:=cA _ _ h1;exact hle.fM b hb ⟨k,b',g1,h2⟩
 cI:=hle.cI
 size:=hle.size
 ref k blk hk:=by
  obtain⟨bL,h1,h2,h3⟩:=hle.ref k blk hk;rw[h0,eS]at hk;split at hk
  ·rename_i hkb;have hi:=(iJ.1 hk).1
   have e:ks[k-KB]? =some k:=by
    have:(ks.take fp.length)[k-KB]? =some k:=by
     rw[hks,dE,List.getElem?_map,List.getElem?_range (by omega)];simp;omega
    rw[List.getElem?_take]at this;split at this
    ·exact this
    ·simp at this
   obtain⟨hl,cA⟩:=df hg;obtain⟨b1,g1,g2⟩:=cA _ _ e;rw[h1]at g1;cases g1;refine⟨aG (bV ks) bL,?_,by rw[jy];exact h2,λht=> ?_⟩
   ·simp only[Cx.out,eS];rw[if_pos (by omega),List.getElem?_map,show k-KB-0=k-KB by omega,g2];rfl
   ·rw[jy]at ht;obtain⟨h4,h5⟩:=h3 ht;exact⟨by simp only[Cx.out];rw[if_pos (by omega),e];exact h4,h5⟩
  ·simp at hk
def DH (Q:Exit->UD) (K:UD):Exit->UD
 | .normal,s=>K s
 |e,s=>Q e s
def QE (id:Nat) (Q:Exit->UD):Exit->UD
 | .exit id',s=>if id'=id then Q .normal s else Q (.exit id') s
 |e,s=>Q e s
def lift (nt:Nat) (Γ0:Cx) (w0:World) (Q:Exit->UD):Exit->Act->World->Prop:=
 λe a w=>∃ds s Γ,fW nt ds s Γ a∧rM Γ0.heap.size Γ ds∧w.heap=Γ.heap∧Le Γ0 Γ∧WF w0 w∧Q e s
def Cy {Q:Exit->UD} {K:UD} {e:Exit} (h:lift nt Γ0 w0 (DH Q K) e a w):Exit.then (lift nt Γ0 w0 (λ_=>K) .normal) (lift nt Γ0 w0 Q) e a w:=by
 cases e<;>exact h
theorem QF {Q:Exit->UD} {id:Nat} {e:Exit} (h:lift nt Γ0 w0 (QE id Q) e a w):Exit.inBlock id (lift nt Γ0 w0 Q) e a w:=by
 cases e with
 |
  exit id'=>
  obtain⟨ds,s,Γ,h1,hd,h2,h3,h4,h5⟩:=h
  simp only[Exit.inBlock,QE]at h5⊢
  split at h5
  ·rename_i hid;rw[if_pos hid];exact⟨ds,s,Γ,h1,hd,h2,h3,h4,h5⟩
  ·rename_i hid;rw[if_neg hid];exact⟨ds,s,Γ,h1,hd,h2,h3,h4,h5⟩
 |_=>exact h
theorem fE.length:∀ {l:WG} {vs:UE},fE Γ l vs->vs.length=l.length
 |[],[],_=>rfl
 |[],_::_,h=>by simp[fE]at h
 |_::_,[],h=>by simp[fE]at h
 |_::_,_::_,h=>by simp[fE.length h.2]
theorem fE.mono {Γ':Cx} (hle:Le Γ Γ'):∀ {l:WG} {vs:UE},fE Γ l vs->fE Γ' l vs
 |[],[],_=>trivial
 |p::l,v::vs,h=>⟨h.1.mono hle,h.2.mono hle⟩
 |[],_::_,h=>h.elim
 |_::_,[],h=>h.elim
end Go.Ab
namespace Go.Ab
variable [cM]
variable {P:Program} {nt:Nat} {ds:List Deferred} {s s':St} [gQ]
def lq (P:Program) (aos:List AO) (fl:Nat->Bool) (W E:Yx) (s:St):Yx->(UD)->Prop
 |[],K=>dX aos s E=true∧K s
 |
  i::r,K=>match aos[i]?with
  |some o=>dX aos s (i::(r++E))=true∧ig P W (fl i) s o λt=>lq P aos fl W E t r K
  |none=>False
theorem oX {aos:List AO} {fl:Nat->Bool} {W E:Yx} {K:UD}:∀ {l:Yx} {s:St},lq P aos fl W E s l K->dX aos s (l++E)=true
 |[],s,h=>by simpa using h.1
 |
  i::r,s,h=>by
  simp only[lq]at h
  split at h
  ·simpa using h.1
  ·exact h.elim
theorem L6 {aos:List AO} {fl:Nat->Bool} {W E:Yx} {K:UD} {i:Nat} {x:AO} (hi:aos[i]? =some x) (hx:x.quiet=true) (l2:Yx):∀(l1:Yx) (s:St),
  (∀j∈l1,gU aos fl j i=true)->lq P aos fl W E s (l1++i::l2) K->∃v,lq P aos fl W E (s.put x.dst v) (l1++l2) K∧Qv P s x v
 |
  [],s,_,h=>by
  simp only[JjJ,lq,hi]at h
  obtain⟨v,h1,h2⟩:=ku hx h.2
  exact⟨v,h1,λs' hb ha K' hk=>h2 s' (HI.trans hb) (vh ha) K' hk⟩
 |
  j::l1,s,cU,h=>by
  have hp:=cU j (by simp)
  unfold gU at hp
  cases hy:aos[j]?with
  |none=>rw[hy]at hp;simp at hp
  |
   some y=>
   rw[hy,hi]at hp
   simp only[eB hx,Bool.and_false,Bool.or_false,aJ]at hp
   obtain⟨⟨⟨qh,_⟩,fL⟩,_⟩:=hp
   have h1:∀d,y.dst=some d->d∉x.reads:=λd hd=>by simp[AO.apart,hd]at fL;exact fL.1.1
   have h2:∀d,y.dst=some d->x.dst≠some d:=λd hd=>by simp[AO.apart,hd]at fL;exact fL.1.2
   have h3:∀d,x.dst=some d->d∉y.reads:=λd hd=>by simp[AO.apart,hd]at fL;exact fL.2
   simp only[JdV,lq,hy,JfX]at h⊢
   obtain⟨n7,h⟩:=h
   obtain⟨v,h,hv⟩:=ku qh h
   obtain⟨u,h,hu⟩:=L6 hi hx l2 l1 _ (λk hk=>cU k (by simp[hk])) h
   refine⟨u,⟨?_,rU qh hv (by rw[HJ];exact Sub.refl _) (vh (cO.put h3)) ?_⟩,?_⟩
   ·have n7:=L2 n7
    rw[j4 (iF _ _)]
    exact L3 n7.1 n7.2.1 n7.2.2.2
   ·rw[St.put_comm (λk hk he=>h2 k he hk)];exact h
   ·intro s' hb ha K' hk
    refine hu s' (by rw[iF];exact hb) (λn hn=> ?_) K' hk
    rw[ha n hn]
    exact((cO.put h1) n hn).symm
theorem xC {aos:List AO} {fl:Nat->Bool} {W E:Yx} {K:UD} {i:Nat} {x:AO} (hi:aos[i]? =some x) (hx:x.quiet=false) (l2:Yx):∀(l1:Yx) (s:St),
  (∀j∈l1,gU aos fl j i=true)->(∀j∈l1++(l2++E),pL aos j i=true)->lq P aos fl W E s (l1++i::l2) K->fA P s x λt=>(fl i=true->Fr W s t)∧lq P aos fl W E t (l1++l2) K
 |
  [],s,_,_,h=>by
  simp only[JjJ,lq,hi]at h
  have h:=h.2
  unfold ig at h
  rw[if_neg (by rw[hx];simp)]at h
  exact h
 |
  j::l1,s,cU,bY,h=>by
  have hp:=cU j (by simp)
  unfold gU at hp
  cases hy:aos[j]?with
  |none=>rw[hy]at hp;simp at hp
  |
   some y=>
   rw[hy,hi]at hp
   simp only[JdV,lq,hy,JfX]at h⊢
   obtain⟨n7,h⟩:=h
   have n7:=L2 n7
   rcases JiW.1 hp with hp|hp
   ·simp only[aJ,hx,Bool.false_or]at hp
    obtain⟨⟨⟨qh,Fl⟩,fL⟩,Jl⟩:=hp
    obtain⟨e,he⟩:=JaZ.1 Fl
    have h1:e∉x.reads:=by simp[AO.apart,he]at fL;exact fL.1.1
    have h2:x.dst≠some e:=by simp[AO.apart,he]at fL;exact fL.1.2
    have h3:∀d,x.dst=some d->d∉y.reads:=λd hd=>by simp[AO.apart,hd]at fL;exact fL.2
    rcases JiW.1 Jl with hso|Jl
    ·obtain⟨v,h,hv⟩:=ku qh h
     have ih:=xC hi hx l2 l1 _ (λk hk=>cU k (by simp[hk])) (λk hk=>bY k (by simp only[JdV,cJ];exact .inr hk)) h
     rw[he]at ih
     refine cr (λt ht=> ?_) (oW hx h2 h1 ih)
     obtain⟨⟨hf,hk⟩,uZ⟩:=ht
     refine⟨λyv=>λk b hw hb=>hf yv k b hw hb,?_,yW (r:=pK W (fl j) s) qh hso hv (λn hn=> ?_) (by rw[he];exact hk)⟩
     ·rw[bX,kt hy (eB qh),JhW]
      have:=oX hk
      rw[j4 (iF _ _),JfX]at this
      exact this
     ·rw[ua];exact uZ n (λhd=>h3 n hd hn)
    ·rcases JiW.1 Jl with hia|Jl
     ·obtain⟨k,hk⟩:=JaZ.1 hia
      obtain⟨v,h,hv⟩:=ku qh h
      have ih:=xC hi hx l2 l1 _ (λk hk=>cU k (by simp[hk])) (λk hk=>bY k (by simp only[JdV,cJ];exact .inr hk)) h
      rw[he]at ih
      refine cr (λt ht=> ?_) (FZ qh hk he h2 h3 ((rT hi hk).1 n7.2.2.1) hv ih)
      refine⟨ht.1,?_,ht.2.2⟩
      rw[bX,kt hy (eB qh),JhW]
      have:=oX ht.2.1
      rw[j4 (iF _ _),JfX]at this
      exact this
     ·obtain⟨Ud,yv⟩:=Bool.and_eq_true_iff.1 Jl
      rw[Ud]at h⊢
      obtain⟨v,h,hv⟩:=ku qh h
      have ih:=xC hi hx l2 l1 _ (λk hk=>cU k (by simp[hk])) (λk hk=>bY k (by simp only[JdV,cJ];exact .inr hk)) h
      rw[he]at ih
      refine cr (λt ht=> ?_) (oW hx h2 h1 ih)
      obtain⟨⟨hf,hk⟩,uZ⟩:=ht
      have hf':Fr W s t:=λk b hw hb=>hf yv k b hw hb
      refine⟨λ_=>hf',?_,rU (r:=s.less W) qh (by simpa[pK]using hv) (by simpa[pK]using Bl hf') (λn hn=> ?_) (by rw[he];exact hk)⟩
      ·rw[bX,kt hy (eB qh),JhW]
       have:=oX hk
       rw[j4 (iF _ _),JfX]at this
       exact this
      ·exact uZ n (λhd=>h3 n hd hn)
   ·simp only[aJ,JfW]at hp
    obtain⟨⟨qh,hya⟩,hp⟩:=hp
    split at hp
    case h_2=>simp at hp
    rename_i k hk
    simp only[aJ,bne_iff_ne,ne_eq,JfW,List.contains_eq_mem,decide_eq_false_iff_not]at hp
    obtain⟨z,DE,qm⟩:=pJ (P:=P) hk
    have hn:get s.bx k=none:=(rT hi hk).1 n7.2.2.1
    unfold ig at h
    rw[if_neg (by rw[qh];simp)]at h
    have h':fA P s y λt=>get t.bx k=none∧(λt'=>(fl j=true->Fr W (qP k z s) t')∧lq P aos fl W E t' (l1++l2) K) (qP k z t):=by
     refine cr (λt ht=> ?_) h;obtain⟨hf,ht⟩:=ht;have ih:=xC hi hx l2 l1 _ (λk hk=>cU k (by simp[hk])) (λk hk=>bY k (by simp only[JdV,cJ];exact .inr hk)) ht;obtain⟨i1,_,i3⟩:=(qm t _).1 ih;exact⟨i1,λe=>J4 (hf e),i3⟩
    refine(qm s _).2 ⟨hn,λ_=>EB hn,?_,?_⟩
    ·refine xA hi hk (λm hm=>bY m (by simpa using hm)) ?_
     exact L3 n7.1 n7.2.1 n7.2.2.2
    ·unfold ig
     rw[if_neg (by rw[qh];simp)]
     exact J2 hya hp.1 hp.2 hn h'
def Aw {W:Yx} {f:Bool} {o:AO} {K K':UD} (h:∀t,K t->K' t) (hk:ig P W f s o K):ig P W f s o K':=by
 unfold ig at hk⊢;split at hk
 ·rename_i hq;rw[if_pos hq];split at hk
  ·rename_i hf;rw[if_pos hf];exact cr (λt ht=>h _ ht) hk
  ·rename_i hf;rw[if_neg hf];exact cr h hk
 ·rename_i hq;rw[if_neg hq];exact cr (λt ht=>⟨ht.1,h t ht.2⟩) hk
def J5 {aos:List AO} {s:St} {p q:Nat} {l:Yx}:dX aos s (q::p::l)=dX aos s (p::q::l):=by
 have h1:=bX (aos:=aos) (s:=s) (i:=q) (l:=p::l);have h2:=bX (aos:=aos) (s:=s) (i:=p) (l:=l);have h3:=bX (aos:=aos) (s:=s) (i:=p) (l:=q::l);have h4:=bX (aos:=aos) (s:=s) (i:=q) (l:=l);rw[h1,h2,h3,h4];exact Bool.and_left_comm _ _ _
theorem Cz {aos:List AO} {fl:Nat->Bool} {W E E':Yx} {K:UD} (hE:∀s,dX aos s E'=dX aos s E):∀ {l:Yx} {s:St},lq P aos fl W E s l (λt=>gL P aos fl W t E' K)->gL P aos fl W s (l++E') K
 |[],s,h=>h.2
 |
  i::r,s,h=>by
  simp only[lq]at h
  simp only[JdV,gL]
  cases ho:aos[i]?with
  |none=>rw[ho]at h;exact h.elim
  |
   some o=>
   rw[ho]at h
   simp only at h⊢
   refine⟨?_,Aw (λt ht=>Cz hE ht) h.2⟩
   have:=h.1
   rw[bX,nj]at this⊢
   rw[hE];exact this
end Go.Ab
namespace Go.Ab
variable [cM]
variable {P:Program} {nt:Nat} {ds:List Deferred} {s s':St} {Γ:Cx} {a:Act} {w:World} {Q:Exit->Act->World->Prop} [gQ]
def CA {listed:Array Bool} {ord l1 l2:Yx} {i:Nat} (hi:i<listed.size) (hl:(ord.filter λi=> !listed.getD i true)=l1++i::l2) (u9:(l1++i::l2).Nodup):ord.filter (λj=> !(listed.setIfInBounds i true).getD j true)=l1++l2:=by
 have e:(λj=> !(listed.setIfInBounds i true).getD j true)=λj=>(decide (j≠i))&& !listed.getD j true:=by
  funext j;by_cases Fs:i=j
  ·subst Fs;simp[JbQ,uJ hi]
  ·rw[getD_set_ne true Fs];simp[Ne.symm Fs]
 rw[e,←List.filter_filter,hl,JhJ,JoW];simp only[ne_eq,not_true,decide_false,fJ,if_false];have Ft:=JeQ.1 u9;rw[JdQ.2,JdQ.2]
 ·intro x hx;simp;rintro rfl;exact(JiQ.1 Ft.2.1).1 hx
 ·intro x hx;simp;rintro rfl;exact Ft.2.2 x hx x (by simp) rfl
theorem J6 {aos:List AO} {us:Yx} {W:Yx} {i:Nat} {ao:AO} {l1 l2:Yx} {K:UD} (BP:aos[i]? =some ao) (tK:∀j∈l1,gU aos us.contains j i=true) (bY:∀j∈l1++l2,pL aos j i=true)
  (h:gL P aos us.contains W s (l1++i::l2) K):fA P s ao λt=>gL P aos us.contains W t (l1++l2) K:=by
 cases hx:ao.quiet with
 |
  true=>
  obtain⟨v,h1,h2⟩:=J3 BP hx l2 l1 s tK h
  exact h2 s (Sub.refl _) (λ_ _=>rfl) _ h1
 |false=>exact cr (λt ht=>ht.2) (yY BP hx l2 l1 s tK bY h)
theorem Vu {aos:List AO} {us:Yx} {W E:Yx} {i:Nat} {ao:AO} {l1 l2:Yx} {K:UD} (BP:aos[i]? =some ao) (tK:∀j∈l1,gU aos us.contains j i=true) (bY:∀j∈l1++(l2++E),pL aos j i=true)
  (h:lq P aos us.contains W E s (l1++i::l2) K):fA P s ao λt=>lq P aos us.contains W E t (l1++l2) K:=by
 cases hx:ao.quiet with
 |
  true=>
  obtain⟨v,h1,h2⟩:=L6 BP hx l2 l1 s tK h
  exact h2 s (Sub.refl _) (λ_ _=>rfl) _ h1
 |false=>exact cr (λt ht=>ht.2) (xC BP hx l2 l1 s tK bY h)
def J7 {ops:Array Oper} {listed:Array Bool} {i:Nat} {o:Oper} (hc:qO ops listed) (ho:ops[i]? =some o) (Jm:∀e∈o.after,Region.binds .any e=true->listed.getD e.on false=true):qO ops (listed.setIfInBounds i true):=by
 intro k ok uX uY e he hb;by_cases Fp:i=k
 ·subst Fp;rw[ho]at uX;cases uX;exact getD_set_true (Jm e he hb)
 ·rw[getD_set_ne true Fp]at uY;exact getD_set_true (hc k ok uX uY e he hb)
def Vv {ops:Array Oper} {listed:Array Bool} {i j:Nat} (fP:listed.size=ops.size) (hc:qO ops listed) (hi:i∈Region.ready .any ops listed) (hj:j<ops.size) (hb:As (fS ops.toList []) i j=true) (Y7:(!listed.getD j true)=true):False:=by
 have:=yP hc (Cp hb) hi;have Bb:j<listed.size:=by rw[fP];exact hj
 simp[JbQ,Array.getElem?_eq_getElem Bb]at this Y7;rw[this]at Y7;simp at Y7
def L7 {ops:Array Oper} {ord:Yx} (h:qv ops ord=true):(∀i∈ord,i<ops.size)∧∀i,i<ops.size->i∈ord:=by
 simp only[qv,aJ,JbJ,decide_eq_true_eq,JkZ]at h;exact⟨h.1.2,λi hi=>by simpa using h.2 i hi⟩
theorem J8 {ops:Array Oper} {ord:Yx} (cL:qv ops ord=true):∀listed:Array Bool,listed.size=ops.size->Region.ready .any ops listed=[]->(ord.filter λi=> !listed.getD i true)=[]:=by
 simp only[qv,aJ,JbJ,decide_eq_true_eq,JkZ]at cL;obtain⟨⟨⟨hE,_⟩,dx⟩,cU⟩:=cL;intro listed fP hr;cases hl:ord.filter λi=> !listed.getD i true with
 |nil=>rfl
 |
  cons i l=>
  exfalso
  obtain⟨p,q,LJ,hp,hi,_⟩:=List.filter_eq_cons_iff.1 hl
  have hio:i<ops.size:=dx i (by rw[LJ];simp)
  have:i∈Region.ready .any ops listed:=by
   rw[mem_ready];refine⟨by simpa using hi,ops[i],Array.getElem?_eq_getElem hio,λe he hb=> ?_⟩;rw[LJ]at hE;rcases sK p [] hE _ (Array.getElem?_eq_getElem hio) e he hb with h1|h1
   ·simp at h1
   ·have h2:=hp _ h1;have h3:e.on<listed.size:=by rw[fP];exact dx _ (by rw[LJ];simp[h1])
    simp[JbQ,Array.getElem?_eq_getElem h3]at h2⊢;exact h2
  rw[hr]at this;simp at this
theorem xD {aos:List AO} {fl:Nat->Bool} {W E:Yx}:∀ {l:Yx} {s:St} {K K':UD},(∀p,K p->K' p)->lq P aos fl W E s l K->lq P aos fl W E s l K'
 |[],s,K,K',h,hk=>⟨hk.1,h _ hk.2⟩
 |
  i::l,s,K,K',h,hk=>by
  simp only[lq]at hk⊢
  split at hk
  ·exact⟨hk.1,Aw (λt ht=>xD h ht) hk.2⟩
  ·exact hk.elim
def J9 {l m:Yx} {p q:Nat} (h:(l++p::q::m).Nodup):(l++q::p::m).Nodup:=by
 refine(List.Perm.nodup_iff (List.Perm.append_left l (List.Perm.swap q p m))).1 h
def EC {ops:Array Oper} {aos:List AO} {fl:Nat->Bool} {l:Yx} (h:sI (fS ops.toList []) aos fl l=true):l.Pairwise (qw ops aos fl):=sL h
theorem uc {aos:List AO} {fl:Nat->Bool} {W E E':Yx} {K K':UD} {i k:Nat} {x:AO} (hi:aos[i]? =some x) (hk:x.eA=some k) (hx:x.quiet=false) (hE:∀s,dX aos s E=true->get s.bx k=none∧dX aos s E'=true) (hnE:∀j∈E',pL aos j i=true) (hK:∀s,K s->fA P s x K'):∀(l1:Yx) (s:St),
  (∀j∈l1,gU aos fl j i=true)->(∀j∈l1,pL aos j i=true)->lq P aos fl W E s l1 K->fA P s x λt=>(fl i=true->Fr W s t)∧lq P aos fl W E' t l1 K'
 |
  [],s,_,_,h=>by
  obtain⟨z,DE,qm⟩:=pJ (P:=P) hk
  obtain⟨hn,hf⟩:=hE s h.1
  exact(qm s _).2 ⟨hn,λ_=>EB hn,xA hi hk hnE hf,((qm s _).1 (hK s h.2)).2⟩
 |
  j::l1,s,cU,bY,h=>by
  have hp:=cU j (by simp)
  unfold gU at hp
  cases hy:aos[j]?with
  |none=>rw[hy]at hp;simp at hp
  |
   some y=>
   rw[hy,hi]at hp
   simp only[lq,hy]at h⊢
   obtain⟨n7,h⟩:=h
   rw[bX,nj,aJ,aJ]at n7
   obtain⟨hf1,hf2,hf3⟩:=n7
   obtain⟨hn,hfE⟩:=hE s hf3
   rcases JiW.1 hp with hp|hp
   ·simp only[aJ,hx,Bool.false_or]at hp
    obtain⟨⟨⟨qh,Fl⟩,fL⟩,Jl⟩:=hp
    obtain⟨e,he⟩:=JaZ.1 Fl
    have h1:e∉x.reads:=by simp[AO.apart,he]at fL;exact fL.1.1
    have h2:x.dst≠some e:=by simp[AO.apart,he]at fL;exact fL.1.2
    have h3:∀d,x.dst=some d->d∉y.reads:=λd hd=>by simp[AO.apart,hd]at fL;exact fL.2
    rcases JiW.1 Jl with hso|Jl
    ·obtain⟨v,h,hv⟩:=ku qh h
     have ih:=uc hi hk hx hE hnE hK l1 _ (λk hk=>cU k (by simp[hk])) (λk hk=>bY k (by simp[hk])) h
     rw[he]at ih
     refine cr (λt ht=> ?_) (oW hx h2 h1 ih)
     obtain⟨⟨hf,hk⟩,uZ⟩:=ht
     refine⟨λyv=>λk b hw hb=>hf yv k b hw hb,?_,yW (r:=pK W (fl j) s) qh hso hv (λn hn=> ?_) (by rw[he];exact hk)⟩
     ·rw[bX,kt hy (eB qh),JhW]
      have:=oX hk
      rw[j4 (iF _ _)]at this
      exact this
     ·rw[ua];exact uZ n (λhd=>h3 n hd hn)
    ·rcases JiW.1 Jl with hia|Jl
     ·obtain⟨v,h,hv⟩:=ku qh h
      have ih:=uc hi hk hx hE hnE hK l1 _ (λk hk=>cU k (by simp[hk])) (λk hk=>bY k (by simp[hk])) h
      rw[he]at ih
      refine cr (λt ht=> ?_) (FZ qh hk he h2 h3 hn hv ih)
      refine⟨ht.1,?_,ht.2.2⟩
      rw[bX,kt hy (eB qh),JhW]
      have:=oX ht.2.1
      rw[j4 (iF _ _)]at this
      exact this
     ·obtain⟨Ud,yv⟩:=Bool.and_eq_true_iff.1 Jl
      rw[Ud]at h⊢
      obtain⟨v,h,hv⟩:=ku qh h
      have ih:=uc hi hk hx hE hnE hK l1 _ (λk hk=>cU k (by simp[hk])) (λk hk=>bY k (by simp[hk])) h
      rw[he]at ih
      refine cr (λt ht=> ?_) (oW hx h2 h1 ih)
      obtain⟨⟨hf,hk⟩,uZ⟩:=ht
      have hf':Fr W s t:=λk b hw hb=>hf yv k b hw hb
      refine⟨λ_=>hf',?_,rU (r:=s.less W) qh (by simpa[pK]using hv) (by simpa[pK]using Bl hf') (λn hn=> ?_) (by rw[he];exact hk)⟩
      ·rw[bX,kt hy (eB qh),JhW]
       have:=oX hk
       rw[j4 (iF _ _)]at this
       exact this
      ·exact uZ n (λhd=>h3 n hd hn)
   ·simp only[aJ,JfW]at hp
    obtain⟨⟨qh,hya⟩,hp⟩:=hp
    rw[hk]at hp
    simp only[aJ,bne_iff_ne,ne_eq,JfW,List.contains_eq_mem,decide_eq_false_iff_not]at hp
    obtain⟨z,DE,qm⟩:=pJ (P:=P) hk
    unfold ig at h
    rw[if_neg (by rw[qh];simp)]at h
    have h':fA P s y λt=>get t.bx k=none∧(λt'=>(fl j=true->Fr W (qP k z s) t')∧lq P aos fl W E' t' l1 K') (qP k z t):=by
     refine cr (λt ht=> ?_) h;obtain⟨hf,ht⟩:=ht;have ih:=uc hi hk hx hE hnE hK l1 _ (λk hk=>cU k (by simp[hk])) (λk hk=>bY k (by simp[hk])) ht;obtain⟨i1,_,i3⟩:=(qm t _).1 ih;exact⟨i1,λe=>J4 (hf e),i3⟩
    refine(qm s _).2 ⟨hn,λ_=>EB hn,?_,?_⟩
    ·refine xA hi hk (λm hm=> ?_) ?_
     ·rcases cJ.1 hm with rfl|hm
      ·exact bY _ (by simp)
      ·rcases JaX.1 hm with hm|hm
       ·exact bY m (by simp[hm])
       ·exact hnE m hm
     ·rw[bX,nj,hf1,hf2,hfE];rfl
    ·unfold ig
     rw[if_neg (by rw[qh];simp)]
     exact J2 hya hp.1 hp.2 hn h'
def CB (aos:List AO) (i:Nat):Bool:=match aos[i]?with|some o=>o.eA.isSome|none=>false
def Bn (ops:Array Oper) (aos:List AO) (pre:Yx) (p q:Nat) (suf us:Yx):Bool:=
 qv ops (pre++p::q::suf)&&qv ops (pre++q::p::suf)&&sI (fS ops.toList []) aos us.contains (pre++p::suf)&&sI (fS ops.toList []) aos us.contains (pre++q::suf)&&p !=q&&pL aos p q&&suf.all λi=>As (fS ops.toList []) i p||(As (fS ops.toList []) i q||CB aos i)
theorem ajB {ro:Option Nat} {ops:Array Oper} {aos:List AO} {own sp:Yx} {pre suf us:Yx} {p q:Nat} {W:Yx} (ox:∀(i:Nat) o,ops[i]? =some o->∃ao,aos[i]? =some ao∧oh P nt ops own sp true o=some ao)
  (afU:qv ops (pre++p::q::suf)=true) (uX:qv ops (pre++q::p::suf)=true) (AQ:(pre++p::suf).Pairwise (qw ops aos us.contains)) (xc:(pre++q::suf).Pairwise (qw ops aos us.contains)) (Pq:p≠q) (qm:pL aos p q=true) (Y9:∀i∈suf,As (fS ops.toList []) i p=true∨As (fS ops.toList []) i q=true∨CB aos i=true) {K:UD}:
  ∀
   (n:Nat) (listed:Array Bool) {s:St} {Γ:Cx} {a:Act} {w:World},listed.size=ops.size->qO ops listed->(!listed.getD p true)=true->(!listed.getD q true)=true->(pre.filter λi=> !listed.getD i true).length+(suf.filter λi=> !listed.getD i true).length=n->
   fW nt ds s Γ a->w.heap=Γ.heap->Ex P Γ->lq P aos us.contains W (p::q::suf.filter λi=> !listed.getD i true) s (pre.filter λi=> !listed.getD i true) (λt=>gL P aos us.contains W t (p::q::suf.filter λi=> !listed.getD i true) K∧gL P aos us.contains W t (q::p::suf.filter λi=> !listed.getD i true) K)->Hu P nt ds Γ w K (Q .normal)->wpAnyIn (FW ro) 0 P .any ops Q (n+1+1) listed a w:=by
 obtain⟨dx,cU⟩:=L7 afU
 have LK:(pre++p::q::suf).Nodup:=by
  have a1:=AQ.imp (λh=>h.1.1);have a2:=xc.imp (λh=>h.1.1);obtain⟨b1,b2,b3⟩:=JcW.1 a1;obtain⟨c1,c2,c3⟩:=JcW.1 a2;refine JcW.2 ⟨b1,.cons (λx hx=> ?_) c2,λx hx y hy=> ?_⟩
  ·rcases cJ.1 hx with rfl|hx
   ·exact Pq
   ·exact JgW b2 hx
  ·rcases cJ.1 hy with rfl|hy
   ·exact b3 x hx _ (by simp)
   ·exact c3 x hx y hy
 have xh:p∉suf:=λh=>(JiQ.1 (JeQ.1 LK).2.1).1 (by simp[h]);have hqs:q∉suf:=λh=>(JiQ.1 (JiQ.1 (JeQ.1 LK).2.1).2).1 h;have Ag:p∉pre:=λh=>(JeQ.1 LK).2.2 _ h p (by simp) rfl;have hqp:q∉pre:=λh=>(JeQ.1 LK).2.2 _ h q (by simp) rfl;have Za:∀i∈pre,i∉suf:=λi h h'=>(JeQ.1 LK).2.2 _ h i (by simp[h']) rfl
 --what is not listed yet,in both orders
 have hE1:∀listed:Array Bool,(!listed.getD p true)=true->(!listed.getD q true)=true->((pre++p::q::suf).filter λi=> !listed.getD i true)=(pre.filter λi=> !listed.getD i true)++p::q::suf.filter λi=> !listed.getD i true:=by
  intro listed h h';rw[JhJ,JjQ (by exact h),JjQ (by exact h')]
 have hE2:∀listed:Array Bool,(!listed.getD p true)=true->(!listed.getD q true)=true->((pre++q::p::suf).filter λi=> !listed.getD i true)=(pre.filter λi=> !listed.getD i true)++q::p::suf.filter λi=> !listed.getD i true:=by
  intro listed h h';rw[JhJ,JjQ (by exact h'),JjQ (by exact h)]
 --one step
 have stepP:∀ {n:Nat},(∀m,m+1=n->∀(listed:Array Bool) {s:St} {Γ:Cx} {a:Act} {w:World},listed.size=ops.size->qO ops listed->(!listed.getD p true)=true->(!listed.getD q true)=true->(pre.filter λi=> !listed.getD i true).length+(suf.filter λi=> !listed.getD i true).length=m->
   fW nt ds s Γ a->w.heap=Γ.heap->Ex P Γ->lq P aos us.contains W (p::q::suf.filter λi=> !listed.getD i true) s (pre.filter λi=> !listed.getD i true) (λt=>gL P aos us.contains W t (p::q::suf.filter λi=> !listed.getD i true) K∧gL P aos us.contains W t (q::p::suf.filter λi=> !listed.getD i true) K)->Hu P nt ds Γ w K (Q .normal)->wpAnyIn (FW ro) 0 P .any ops Q (m+1+1) listed a w)->
  ∀
   {listed:Array Bool} {s:St} {Γ:Cx} {a:Act} {w:World},listed.size=ops.size->qO ops listed->(!listed.getD p true)=true->(!listed.getD q true)=true->(pre.filter λi=> !listed.getD i true).length+(suf.filter λi=> !listed.getD i true).length=n->
   fW nt ds s Γ a->w.heap=Γ.heap->Ex P Γ->lq P aos us.contains W (p::q::suf.filter λi=> !listed.getD i true) s (pre.filter λi=> !listed.getD i true) (λt=>gL P aos us.contains W t (p::q::suf.filter λi=> !listed.getD i true) K∧gL P aos us.contains W t (q::p::suf.filter λi=> !listed.getD i true) K)->Hu P nt ds Γ w K (Q .normal)->wpAnyIn (FW ro) 0 P .any ops Q (n+1+1) listed a w:=by
  intro n IH listed s Γ a w fP hc U7 U8 hn hs hw hY h hk
  refine⟨λhr=> ?_,λi hi=> ?_⟩
  ·exfalso
   have:=J8 afU listed fP hr
   rw[hE1 listed U7 U8]at this;simp at this
  ·obtain⟨Fq,o,ho,Jm⟩:=mem_ready.1 hi
   have Y6:=(Array.getElem?_eq_some_iff.1 ho).1
   have Ue:i<listed.size:=by rw[fP];exact Y6
   obtain⟨ao,BP,htr⟩:=ox i o ho
   have Ah:=hE1 listed U7 U8
   have LL:=hE2 listed U7 U8
   have afV:=J7 hc ho Jm
   have afW:(listed.setIfInBounds i true).size=ops.size:=by simp[fP]
   have Zb:(pre.filter λi=> !listed.getD i true).Sublist pre:=List.filter_sublist
   have hSs:(suf.filter λi=> !listed.getD i true).Sublist suf:=List.filter_sublist
   have hFu:∀j∈(pre.filter λi=> !listed.getD i true),(!listed.getD j true)=true:=λj hj=>(JgQ.1 hj).2
   have hSu:∀j∈(suf.filter λi=> !listed.getD i true),(!listed.getD j true)=true:=λj hj=>(JgQ.1 hj).2
   have asn:((pre.filter λi=> !listed.getD i true)++p::q::suf.filter λi=> !listed.getD i true).Nodup:=by rw[←Ah];exact LK.sublist List.filter_sublist
   have Ai:∀j,j∈pre++p::q::suf->(!listed.getD j true)=true->As (fS ops.toList []) i j=true->False:=λj hj Y7 hb=>Vv fP hc hi (dx j hj) hb Y7
   have fQ:i∈(pre.filter λi=> !listed.getD i true)++p::q::suf.filter λi=> !listed.getD i true:=by
    rw[←Ah,JgQ];exact⟨cU i Y6,by rw[Fq];rfl⟩
   have hpF:∀ {j x:Nat} {r:Yx},j∈(pre.filter λi=> !listed.getD i true)->(pre++x::r).Pairwise (qw ops aos us.contains)->qw ops aos us.contains j x:=λhj hp=>(JcW.1 hp).2.2 _ (Zb.subset hj) _ (by simp)
   --p or q:what comes then stands in one order
   have aso:∀(q':Nat),qv ops (pre++i::q'::suf)=true->((pre++i::q'::suf).filter λi=> !listed.getD i true)=(pre.filter λi=> !listed.getD i true)++i::q'::(suf.filter λi=> !listed.getD i true)->(pre++i::suf).Pairwise (qw ops aos us.contains)->(pre++q'::suf).Pairwise (qw ops aos us.contains)->pL aos q' i=true->((pre.filter λi=> !listed.getD i true)++i::q'::(suf.filter λi=> !listed.getD i true)).Nodup->
     gL P aos us.contains W s ((pre.filter λi=> !listed.getD i true)++i::q'::(suf.filter λi=> !listed.getD i true)) K->wpOpIn (FW ro) 0 P ops Q i (wpAnyIn (FW ro) 0 P .any ops Q (n+1) (listed.setIfInBounds i true)) a w:=by
    intro q' ok Ud Pr aB5 Zc u9 h
    have n8:=CA Ue Ud u9
    have tK:∀j∈(pre.filter λi=> !listed.getD i true),gU aos us.contains j i=true:=by
     intro j hj;rcases(hpF hj Pr).2 with hb|hb
     ·exact(Ai j (List.mem_append_left _ (Zb.subset hj)) (hFu j hj) hb).elim
     ·exact hb
    have bY:∀j∈(pre.filter λi=> !listed.getD i true)++(q'::suf.filter λi=> !listed.getD i true),pL aos j i=true:=by
     intro j hj;rcases JaX.1 hj with hj|hj
     ·exact(hpF hj Pr).1.2
     ·rcases cJ.1 hj with rfl|hj
      ·exact Zc
      ·exact lI (JgW (JcW.1 Pr).2.1 (hSs.subset hj)).1.2
    refine oV ho htr hs hw hY (J6 BP tK bY h) ?_
    intro s' Γ' a' w' b1 b2 b3 b4 b5
    refine ajz (W:=W) (us:=us) ox ok (n+1) (listed.setIfInBounds i true) afW afV ?_ ?_ b1 b2 (hY.le b3) ?_ (hk.trans b3 b4)
    ·rw[n8];exact aB5.sublist (List.Sublist.append Zb (hSs.cons_cons _))
    ·rw[n8,JaV];simp only[JbZ];omega
    ·rw[n8];exact b5
   have asp:=JeQ.1 asn
   rcases JaX.1 fQ with hiF|hiE
   ·--one of those ahead of both
    obtain⟨l1,l2,hl⟩:=List.append_of_mem hiF
    have u9:(l1++i::l2).Nodup:=by rw[←hl];exact asp.1
    have n8:=CA Ue hl u9
    have hip:i∈pre:=Zb.subset hiF
    have hrS:(suf.filter λj=> !(listed.setIfInBounds i true).getD j true)=suf.filter λj=> !listed.getD j true:=by
     refine List.filter_congr λj hj=> ?_;rw[getD_set_ne true (by rintro rfl;exact Za _ hip hj)]
    have U6:(pre.filter λi=> !listed.getD i true).Pairwise (qw ops aos us.contains):=(JcW.1 AQ).1.sublist Zb
    rw[hl]at U6
    have tK:∀j∈l1,gU aos us.contains j i=true:=by
     intro j hj;have hjF:j∈pre.filter λi=> !listed.getD i true:=by rw[hl];simp[hj]
     rcases((JcW.1 U6).2.2 j hj i (by simp)).2 with hb|hb
     ·exact(Ai j (List.mem_append_left _ (Zb.subset hjF)) (hFu j hjF) hb).elim
     ·exact hb
    have bY:∀j∈l1++(l2++p::q::suf.filter λi=> !listed.getD i true),pL aos j i=true:=by
     intro j hj;rcases JaX.1 hj with hj|hj
     ·exact((JcW.1 U6).2.2 j hj i (by simp)).1.2
     ·rcases JaX.1 hj with hj|hj
      ·exact lI (JgW (JcW.1 U6).2.1 hj).1.2
      ·rcases cJ.1 hj with rfl|hj
       ·exact lI (hpF hiF AQ).1.2
       ·rcases cJ.1 hj with rfl|hj
        ·exact lI (hpF hiF xc).1.2
        ·exact lI ((JcW.1 AQ).2.2 _ (Zb.subset hiF) _ (by simp[hSs.subset hj])).1.2
    rw[hl]at h hn
    refine oV ho htr hs hw hY (Vu BP tK bY h) ?_
    intro s' Γ' a' w' b1 b2 b3 b4 b5
    have afX:i≠p:=by rintro rfl;exact Ag hip
    have afY:i≠q:=by rintro rfl;exact hqp hip
    change wpAnyIn (FW ro) 0 P .any ops Q (n+1) _ _ _
    obtain⟨m,rfl⟩:∃m,n=m+1:=⟨n-1,by simp only[JaV,JbZ]at hn;omega⟩
    refine IH m rfl (listed.setIfInBounds i true) afW afV (by rw[getD_set_ne true afX];exact U7) (by rw[getD_set_ne true afY];exact U8) (by rw[n8,hrS];simp only[JaV,JbZ]at hn⊢;omega) b1 b2 (hY.le b3) (by rw[n8,hrS];exact b5) (hk.trans b3 b4)
   ·rcases cJ.1 hiE with rfl|hiE
    ·refine aso q afU Ah AQ xc (lI qm) asn ?_
     exact Cz (λ_=>rfl) (xD (λt ht=>ht.1) h)
    ·rcases cJ.1 hiE with rfl|hiE
     ·refine aso p uX LL xc AQ qm (by rw[←LL];exact(List.Nodup.sublist List.filter_sublist (J9 LK))) ?_
      exact Cz (λ_=>J5) (xD (λt ht=>ht.2) h)
     ·--something made,that waits for neither
      have his:i∈suf:=hSs.subset hiE
      have hnp:¬As (fS ops.toList []) i p=true:=λhb=>Ai p (by simp) U7 hb
      have hnq:¬As (fS ops.toList []) i q=true:=λhb=>Ai q (by simp) U8 hb
      have hia:CB aos i=true:=by
       rcases Y9 i his with hb|hb|hb
       ·exact absurd hb hnp
       ·exact absurd hb hnq
       ·exact hb
      simp only[CB,BP]at hia
      obtain⟨k,hka⟩:=JaZ.1 hia
      have Uf:ao.quiet=false:=by
       cases hxx:ao.quiet with
       |false=>rfl
       |true=>rw[eB hxx]at hka;cases hka
      obtain⟨S1,S2,hl⟩:=List.append_of_mem hiE
      have u9:(S1++i::S2).Nodup:=by rw[←hl];exact(JiQ.1 (JiQ.1 asp.2.1).2).2
      have n8:=CA Ue hl u9
      have hrF:(pre.filter λj=> !(listed.setIfInBounds i true).getD j true)=pre.filter λj=> !listed.getD j true:=by
       refine List.filter_congr λj hj=> ?_;rw[getD_set_ne true (by rintro rfl;exact Za _ hj his)]
      have hR1:=(JcW.1 AQ)
      have hR2:=(JcW.1 xc)
      have rP:qw ops aos us.contains p i:=JgW hR1.2.1 his
      have rQ:qw ops aos us.contains q i:=JgW hR2.2.1 his
      have oP:gU aos us.contains p i=true:=rP.2.resolve_left hnp
      have oQ:gU aos us.contains q i=true:=rQ.2.resolve_left hnq
      have af1:(suf.filter λi=> !listed.getD i true).Pairwise (qw ops aos us.contains):=(JfJ.1 hR1.2.1).2.sublist hSs
      rw[hl]at af1
      have rS:∀j∈S1,qw ops aos us.contains j i:=λj hj=>(JcW.1 af1).2.2 j hj i (by simp)
      have rS2:∀j∈S2,pL aos j i=true:=λj hj=>lI (JgW (JcW.1 af1).2.1 hj).1.2
      have oS:∀j∈S1,gU aos us.contains j i=true:=by
       intro j hj;have hjS:j∈suf.filter λi=> !listed.getD i true:=by rw[hl];simp[hj]
       rcases(rS j hj).2 with hb|hb
       ·exact(Ai j (by simp[hSs.subset hjS]) (hSu j hjS) hb).elim
       ·exact hb
      have oF:∀j∈(pre.filter λi=> !listed.getD i true),qw ops aos us.contains j i:=λj hj=>hR1.2.2 _ (Zb.subset hj) _ (by simp[his])
      have af2:∀j∈p::q::(S1++S2),pL aos j i=true:=by
       intro j hj;rcases cJ.1 hj with rfl|hj
       ·exact rP.1.2
       ·rcases cJ.1 hj with rfl|hj
        ·exact rQ.1.2
        ·rcases JaX.1 hj with hj|hj
         ·exact(rS j hj).1.2
         ·exact rS2 j hj
      rw[hl]at h hn
      have hgo:=uc (P:=P) (E':=p::q::(S1++S2)) (K':=λt=>gL P aos us.contains W t (p::q::(S1++S2)) K∧gL P aos us.contains W t (q::p::(S1++S2)) K) BP hka Uf ?_ af2 ?_ _ s (λj hj=> ?_) (λj hj=>(oF j hj).1.2) h
      ·refine oV ho htr hs hw hY (cr (λt ht=>ht.2) hgo) ?_
       intro s' Γ' a' w' b1 b2 b3 b4 b5
       have afX:i≠p:=by rintro rfl;exact xh his
       have afY:i≠q:=by rintro rfl;exact hqs his
       change wpAnyIn (FW ro) 0 P .any ops Q (n+1) _ _ _
       obtain⟨m,rfl⟩:∃m,n=m+1:=⟨n-1,by simp only[JaV,JbZ]at hn;omega⟩
       refine IH m rfl (listed.setIfInBounds i true) afW afV (by rw[getD_set_ne true afX];exact U7) (by rw[getD_set_ne true afY];exact U8) (by rw[n8,hrF];simp only[JaV,JbZ]at hn⊢;omega) b1 b2 (hY.le b3) (by rw[n8,hrF];exact b5) (hk.trans b3 b4)
      ·intro s hf
       rw[bX,bX (l:=S1++i::S2),nj,bX (l:=S2)]at hf
       simp only[aJ]at hf
       refine⟨(rT BP hka).1 hf.2.2.2.1,?_⟩
       rw[bX,bX (l:=S1++S2),nj,hf.1,hf.2.1,hf.2.2.1,hf.2.2.2.2];rfl
      ·intro s hs
       obtain⟨z,DE,qm⟩:=pJ (P:=P) hka
       have f1:=J6 (s:=s) (l1:=p::q::S1) (l2:=S2) BP (λj hj=>by
        rcases cJ.1 hj with rfl|hj
        ·exact oP
        ·rcases cJ.1 hj with rfl|hj
         ·exact oQ
         ·exact oS j hj) (by simpa using af2) hs.1
       have f2:=J6 (s:=s) (l1:=q::p::S1) (l2:=S2) BP (λj hj=>by
        rcases cJ.1 hj with rfl|hj
        ·exact oQ
        ·rcases cJ.1 hj with rfl|hj
         ·exact oP
         ·exact oS j hj) (λj hj=>af2 j (by simp at hj⊢;rcases hj with h|h|h|h<;>simp[h])) hs.2
       exact(qm s _).2 ⟨((qm s _).1 f1).1,((qm s _).1 f1).2,((qm s _).1 f2).2⟩
      ·rcases(oF j hj).2 with hb|hb
       ·exact(Ai j (List.mem_append_left _ (Zb.subset hj)) (hFu j hj) hb).elim
       ·exact hb
 intro n;induction n with
 |
  zero=>
  intro listed s Γ a w fP hc U7 U8 hn hs hw hY h hk
  exact stepP (λ_ Hb=>absurd Hb (by omega)) fP hc U7 U8 hn hs hw hY h hk
 |
  succ n ih=>
  intro listed s Γ a w fP hc U7 U8 hn hs hw hY h hk
  exact stepP (λm hm=>by
                obtain rfl:m=n:=by omega
                exact ih) fP hc U7 U8 hn hs hw hY h hk
def wD {ro:Option Nat} {ops:Array Oper} {aos:List AO} {own sp:Yx} {pre suf us:Yx} {p q:Nat} {id:Nat} (hm:P.follows .mixedOrders=true) (ht:jS P nt ops own sp true ops.toList=some aos) (cL:Bn ops aos pre p q suf us=true) {K:UD} (hs:fW nt ds s Γ a) (hw:w.heap=Γ.heap)
  (hY:Ex P Γ) (h:∃W,lq P aos us.contains W (p::q::suf) s pre (λt=>gL P aos us.contains W t (p::q::suf) K∧gL P aos us.contains W t (q::p::suf) K)) (hk:Hu P nt ds Γ w K (Q .normal)):(Code.region id ops true).wpIn (FW ro) 0 P Q a w:=by
 obtain⟨W,h⟩:=h;obtain⟨h1,h2⟩:=pF ht;simp only[Bn,aJ,bne_iff_ne,ne_eq,JbJ,JhQ]at cL;obtain⟨⟨⟨⟨⟨⟨k1,k2⟩,k3⟩,k4⟩,k5⟩,k6⟩,k7⟩:=cL;obtain⟨dx,cU⟩:=L7 k1
 have hg:∀i∈pre++p::q::suf,(!(Array.replicate ops.size false).getD i true)=true:=by
  intro i hi;have:=dx i hi;simp[JbQ,this]
 have e:(pre.filter λi=> !(Array.replicate ops.size false).getD i true)=pre:=by
  rw[JdQ];intro i hi;exact hg i (by simp[hi])
 have e':(suf.filter λi=> !(Array.replicate ops.size false).getD i true)=suf:=by
  rw[JdQ];intro i hi;exact hg i (by simp[hi])
 have hlen:ops.size=pre.length+suf.length+1+1:=by
  simp only[qv,aJ,beq_iff_eq]at k1;have:=k1.1.1.2;simp at this;omega
 have hgo:=ajB (P:=P) (nt:=nt) (ds:=ds) (ro:=ro) (Q:=Q) (s:=s) (Γ:=Γ) (a:=a) (w:= {w with drawn:=w.drawn+1}) (K:=K) (W:=W) (λi o hi=>h2 i o (by simpa using hi)) k1 k2 (EC k3) (EC k4) k5 k6 k7 (pre.length+suf.length) (Array.replicate ops.size false) (by simp) ?_ (hg p (by simp)) (hg q (by simp)) (by rw[e,e']) hs hw hY (by rw[e,e'];exact h) ?_
 ·rw[←hlen]at hgo;exact wpIn_region_any hm hgo
 ·intro k o hko hl;have:=(Array.getElem?_eq_some_iff.1 hko).1;simp[JbQ,this]at hl
 ·intro s' Γ' a' w' b1 b2 b3 b4 b5;exact hk s' Γ' a' w' b1 b2 b3 ⟨b4.os,b4.tape,b4.output⟩ b5
def QG (ops:Array Oper) (aos:List AO) (p q i:Nat):Bool:=CB aos i&&(List.range ops.size).all λj=> !As (fS ops.toList []) j i||(As (fS ops.toList []) j p||As (fS ops.toList []) j q)
def F0 (ms:Yx) (aos:List AO):Yx->Yx
 |[]=>[]
 |j::r=>if(qQ aos j&& !soB aos j&&r.any λi=> !qQ aos i&&(!CB aos i&& !As ms i j))=true then j::F0 ms aos r else F0 ms aos r
def Vw (ms:Yx) (aos:List AO):Yx->Yx->Yx
 |_,[]=>[]
 |done,i::r=>if(!qQ aos i&&(!CB aos i&&done.any λj=>qQ aos j&& !soB aos j&& !As ms i j))=true then i::Vw ms aos (i::done) r else Vw ms aos (i::done) r
def ED (ops:Array Oper) (aos:List AO) (p q:Nat):Yx:=(ub ops aos).filter λi=> !(i==p||i==q||(As (fS ops.toList []) i p||(As (fS ops.toList []) i q||QG ops aos p q i)))
def EE (ops:Array Oper) (aos:List AO) (p q:Nat):Yx:=(ub ops aos).filter λi=> !(i==p||i==q)&&(As (fS ops.toList []) i p||(As (fS ops.toList []) i q||QG ops aos p q i))
def F1 (ops:Array Oper) (aos:List AO) (p q:Nat):Yx:=
 let l:=ED ops aos p q++p::EE ops aos p q
 let m:=ED ops aos p q++q::EE ops aos p q
 F0 (fS ops.toList []) aos l++Vw (fS ops.toList []) aos [] l++F0 (fS ops.toList []) aos m++Vw (fS ops.toList []) aos [] m
def ajC (own:Yx):Option (Nat×Nat):=match own.find? (λn=>decide (1000000≤n))with|some n=>some ((n-1000000)/1000,(n-1000000)%1000)|none=>none
def ajD (own:Yx) (aos:List AO):Option (Nat×Nat):=match ajC own with|some (p,q)=>if(!soB aos p&& !qQ aos q)=true then some (p,q)else none|none=>none
end Go.Ab
namespace Go.Ab
variable [cM]
variable {P:Program} {nt:Nat} {ds:List Deferred} {s:St} {Γ Δ Γ0:Cx} {a:Act} {w w0:World} [gQ]
inductive bT
 |skip
 |region (l:List AO)
 |regionD (l:List AO) (ord us:Yx)
 |regionE (l:List AO) (pre:Yx) (p q:Nat) (suf us:Yx)
 |seq (x y:bT)
 |cond (c:AX) (x y:bT)
 |block (id:Nat) (x:bT)
 |loop (x:bT)
 |exit (id:Nat)
 |ret
 |seqm (x y:bT)
def erase:bT->bT
 | .seq x y| .seqm x y=> .seq (erase x) (erase y)
 | .cond c x y=> .cond c (erase x) (erase y)
 | .block id x=> .block id (erase x)
 | .loop x=> .loop (erase x)
 | .skip=> .skip
 | .region l=> .region l
 | .regionD l o u=> .regionD l o u
 | .regionE l a p q b u=> .regionE l a p q b u
 | .exit id=> .exit id
 | .ret=> .ret
def xE:bT->Bool
 | .seq x y| .seqm x y| .cond _ x y=>xE x&&xE y
 | .block _ x| .loop x=>xE x
 |_=>true
theorem wE:∀c:bT,xE (erase c)=xE c
 | .seq x y| .seqm x y| .cond _ x y=>by simp[erase,xE,wE x,wE y]
 | .block _ x| .loop x=>by simp[erase,xE,wE x]
 | .skip| .region _| .regionD .. | .regionE .. | .exit _| .ret=>by simp[erase,xE]
noncomputable def dO (P:Program) (nt:Nat) (own sp:Yx):Code->Option bT
 | .skip=>some .skip
 | .region _ ops false=>match jS P nt ops own sp false ops.toList with|some l=>some (.region l)|none=>none
 | .region _ ops true=>match jS P nt ops own sp true ops.toList with|some l=>if P.follows .mixedOrders=true then(if Cq ops l=true then some (.region l)else match ajD own l with|some (p,q)=>(if Bn ops l (ED ops l p q) p q (EE ops l p q) (F1 ops l p q)=true then some (.regionE l (ED ops l p q) p q (EE ops l p q) (F1 ops l p q))else none)|none=>if vj ops l (ub ops l) (Bm ops l)=true then some (.regionD l (ub ops l) (Bm ops l))else none)else none|none=>none
 | .seq x y=>match dO P nt own sp x,dO P nt own sp y with|some x,some y=>some (.seq x y)|_,_=>none
 | .cond c x y=>match eH c,dO P nt own sp x,dO P nt own sp y with|some c,some x,some y=>some (.cond c x y)|_,_,_=>none
 | .block id x=>match dO P nt own sp x with|some x=>some (.block id x)|none=>none
 | .loop x=>match dO P nt own sp x with|some x=>some (.loop x)|none=>none
 | .exit id=>some (.exit id)
 | .ret=>some .ret
 |_=>none
theorem EF (own sp:Yx):∀(c:Code) {ac:bT},dO P nt own sp c=some ac->erase ac=ac:=by
 intro c;induction c with
 |
  seq x y ihx ihy=>
  intro ac h
  simp only[dO]at h
  split at h<;>simp only[sJ,reduceCtorEq]at h
  subst h
  rename_i hx hy
  simp only[erase,ihx hx,ihy hy]
 |
  cond c x y ihx ihy=>
  intro ac h
  simp only[dO]at h
  split at h<;>simp only[sJ,reduceCtorEq]at h
  subst h
  rename_i hx hy
  simp only[erase,ihx hx,ihy hy]
 |
  block id x ih=>
  intro ac h
  simp only[dO]at h
  split at h<;>simp only[sJ,reduceCtorEq]at h
  subst h
  rename_i hx
  simp only[erase,ih hx]
 |
  loop x ih=>
  intro ac h
  simp only[dO]at h
  split at h<;>simp only[sJ,reduceCtorEq]at h
  subst h
  rename_i hx
  simp only[erase,ih hx]
 |
  region id ops d=>
  intro ac h
  cases d<;>simp only[dO]at h<;>(repeat' split at h)<;>simp only[sJ,reduceCtorEq]at h<;>subst h<;>rfl
 |_=>intro ac h;simp only[dO,sJ,reduceCtorEq]at h;try(subst h;rfl)
structure LkF where
 f:bT->bT
 h:∀c,f c=c
theorem QH:Nonempty LkF:=⟨⟨id,λ_=>rfl⟩⟩
noncomputable abbrev lk:bT->bT:=(Classical.choice QH).f
def acm (c:bT):lk c=c:=(Classical.choice QH).h c
def L8:bT->Bool
 | .loop _=>true
 | .seq x y| .cond _ x y=>L8 x||L8 y
 | .block _ x=>L8 x
 |_=>false
def acn:bT->Bool
 | .skip| .exit _| .ret=>true
 | .seq x y=>acn x&&acn y
 |_=>false
noncomputable def N4:bT->bT
 | .seq x y=> .seq (N4 x) (bif L8 x&& !acn y then lk (N4 y)else N4 y)
 | .cond c x y=> .cond c (N4 x) (N4 y)
 | .block id x=> .block id (N4 x)
 | .loop x=> .loop (lk (N4 x))
 | .skip=> .skip
 | .region l=> .region l
 | .regionD l o u=> .regionD l o u
 | .regionE l a p q b u=> .regionE l a p q b u
 | .exit id=> .exit id
 | .ret=> .ret
 | .seqm x y=> .seqm x y
theorem wF:∀c,N4 c=c
 | .seq x y=>by simp only[N4,wF x,wF y,acm,Bool.cond_self]
 | .cond _ x y=>by simp only[N4,wF x,wF y]
 | .block _ x=>by simp only[N4,wF x]
 | .loop x=>by simp only[N4,wF x,acm]
 | .skip| .region _| .regionD .. | .regionE .. | .exit _| .ret| .seqm .. =>rfl
def Lp (body:(Exit->UD)->UD) (Q:Exit->UD) (s:St):Prop:=
 ∃(I:Nat->UD) (c:List Cut),(fG c s λs'=>∃n,I n s')∧∀n s,I n s->body (DH Q λs'=>∃c':List Cut,fG c' s' λs'=>∃m,m<n∧I m s') s
def Md (x y:(Exit->UD)->UD) (Q:Exit->UD) (s:St):Prop:=
 ∃M:UD,x (DH Q λs'=>∃c:List Cut,fG c s' M) s∧∀s',M s'->y Q s'
def aw (P:Program):bT->(Exit->UD)->UD
 | .skip,Q,s=>Q .normal s
 | .region l,Q,s=>JT P s l (Q .normal)
 | .regionD l o u,Q,s=>∃W,gL P l u.contains W s o (Q .normal)
 | .regionE l a p q b u,Q,s=>∃W,lq P l u.contains W (p::q::b) s a λt=>gL P l u.contains W t (p::q::b) (Q .normal)∧gL P l u.contains W t (q::p::b) (Q .normal)
 | .seq x y,Q,s=>aw P x (DH Q λs'=>aw P y Q s') s
 |
  .cond c x y,Q,s=>match vx s c with
  | .bl b=>(b=true->aw P x Q s)∧(b=false->aw P y Q s)
  | .gd g (.bl b)=>g=true∧(b=true->aw P x Q s)∧(b=false->aw P y Q s)
  |_=>False
 | .block id x,Q,s=>aw P x (QE id Q) s
 | .loop x,Q,s=>Lp (λQ s=>aw P x Q s) Q s
 | .exit id,Q,s=>Q (.exit id) s
 | .ret,Q,s=>Q .ret s
 | .seqm x y,Q,s=>Md (λQ s=>aw P x Q s) (λQ s=>aw P y Q s) Q s
theorem oE {p:Nat->Prop} (h:∃n,p n):∃n,p n∧∀m,m<n->¬p m:=by
 obtain⟨n,hn⟩:=h;induction n using Nat.strongRecOn with
 |
  _ n ih=>
  by_cases hex:∃m,m<n∧p m
  ·obtain⟨m,hm,hp⟩:=hex;exact ih m hm hp
  ·exact⟨n,hn,λm hm hp=>hex ⟨m,hm,hp⟩⟩
noncomputable def least (p:Nat->Prop):Nat:=by
 classical exact if h:∃n,p n then Classical.choose (oE h)else 0
def CC {p:Nat->Prop} (h:∃n,p n):p (least p)∧∀m,p m->least p≤m:=by
 unfold least;rw[dif_pos h];have:=Classical.choose_spec (oE h);exact⟨this.1,λm hm=>Nat.not_lt.1 λdx=>this.2 m dx hm⟩
theorem QI (own sp:Yx):∀(c:Code) {ro:Option Nat} {Γ0:Cx} {w0:World} {ac:bT} {Q:Exit->UD} {s:St} {Γ:Cx} {a:Act} {w:World} {ds:List Deferred},(ro.isSome=true->xE ac=true)->HK Γ0->Ex P Γ0->dO P nt own sp c=some (erase ac)->aw P ac Q s->fW nt ds s Γ a->rM Γ0.heap.size Γ ds->w.heap=Γ.heap->Le Γ0 Γ->WF w0 w->
  c.wpIn (FW ro) 0 P (lift nt Γ0 w0 Q) a w:=by
 have key:∀ {Γ0:Cx} {w0:World} {Γ:Cx} {a:Act} {w:World} {ds:List Deferred} {K:UD},w.heap=Γ.heap->WF w0 w->rM Γ0.heap.size Γ ds->qu nt ds Γ0 Γ a K->∃s' Γ',fW nt ds s' Γ' a∧rM Γ0.heap.size Γ' ds∧w.heap=Γ'.heap∧Le Γ0 Γ'∧WF w0 w∧K s':=by
  intro Γ0 w0 Γ a w ds K b2 b4 bd hg;obtain⟨s',Γ',g1,g2,g3,g4⟩:=hg;exact⟨s',Γ',g1,bd.heap g2,by rw[g2];exact b2,g3,b4,g4⟩
 intro c;induction c with
 |
  skip=>
  intro ro Γ0 w0 ac Q s Γ a w ds hr mX hY ht h hs hd hw hle ss
  simp only[dO,sJ]at ht
  cases ac<;>simp only[erase,reduceCtorEq]at ht
  exact wpIn_skip ⟨ds,s,Γ,hs,hd,hw,hle,ss,h⟩
 |
  exit id=>
  intro ro Γ0 w0 ac Q s Γ a w ds hr mX hY ht h hs hd hw hle ss
  simp only[dO,sJ]at ht
  cases ac<;>simp only[erase,reduceCtorEq,bT.exit.injEq]at ht
  subst ht
  exact wpIn_exit ⟨ds,s,Γ,hs,hd,hw,hle,ss,h⟩
 |
  ret=>
  intro ro Γ0 w0 ac Q s Γ a w ds hr mX hY ht h hs hd hw hle ss
  simp only[dO,sJ]at ht
  cases ac<;>simp only[erase,reduceCtorEq]at ht
  exact wpIn_ret ⟨ds,s,Γ,hs,hd,hw,hle,ss,h⟩
 |
  region id ops draw=>
  intro ro Γ0 w0 ac Q s Γ a w ds hr mX hY ht h hs hd hw hle ss
  have hk:Hu P nt ds Γ w (Q .normal) (lift nt Γ0 w0 Q .normal):=λs' Γ' a' w' b1 b2 b3 b4 b5=>⟨ds,s',Γ',b1,hd.le hs.mem b3,b2,hle.trans b3,ss.trans b4,b5⟩
  have hY':=hY.le hle
  cases draw with
  |
   false=>
   simp only[dO]at ht
   split at ht<;>simp only[sJ,reduceCtorEq]at ht
   rename_i l hl
   cases ac<;>simp only[erase,reduceCtorEq,bT.region.injEq]at ht
   subst ht
   exact FO hl hs hw hY' h hk
  |
   true=>
   simp only[dO]at ht
   split at ht
   ·rename_i l hl
    split at ht
    ·rename_i hm
     split at ht
     ·rename_i cL
      simp only[sJ]at ht
      cases ac<;>simp only[erase,reduceCtorEq,bT.region.injEq]at ht
      subst ht
      exact xu hm hl cL hs hw hY' h hk
     ·split at ht
      ·split at ht
       ·simp only[sJ]at ht
        rename_i cL
        cases ac<;>simp only[erase,reduceCtorEq,bT.regionE.injEq]at ht
        obtain⟨rfl,rfl,rfl,rfl,rfl,rfl⟩:=ht
        exact wD hm hl cL hs hw hY' h hk
       ·simp at ht
      ·split at ht
       ·simp only[sJ]at ht
        rename_i cL
        cases ac<;>simp only[erase,reduceCtorEq,bT.regionD.injEq]at ht
        obtain⟨rfl,rfl,rfl⟩:=ht
        exact wC hm hl cL hs hw hY' h hk
       ·simp at ht
    ·simp at ht
   ·simp at ht
 |
  seq x y ihx ihy=>
  intro ro Γ0 w0 ac Q s Γ a w ds hr mX hY ht h hs hd hw hle ss
  simp only[dO]at ht
  split at ht<;>simp only[sJ,reduceCtorEq]at ht
  rename_i ax ay hx hy
  cases ac<;>simp only[erase,reduceCtorEq,bT.seq.injEq]at ht
  ·obtain⟨rfl,rfl⟩:=ht
   simp only[aw]at h
   simp only[xE,aJ]at hr
   refine wpIn_seq (wpIn_mono (ihx (λe=>(hr e).1) mX hY hx h hs hd hw hle ss) λe a' w' he=> ?_)
   have:=Cy he
   cases e with
   |
    normal=>
    obtain⟨ds',s',Γ',b1,bd,b2,b3,b4,b5⟩:=this
    exact ihy (λe=>(hr e).2) mX hY hy b5 b1 bd b2 b3 b4
   |_=>exact this
  ·obtain⟨rfl,rfl⟩:=ht
   simp only[aw]at h
   simp only[xE,aJ]at hr
   obtain⟨M,h1,h2⟩:=h
   refine wpIn_seq (wpIn_mono (ihx (λe=>(hr e).1) mX hY hx h1 hs hd hw hle ss) λe a' w' he=> ?_)
   have:=Cy he
   cases e with
   |
    normal=>
    obtain⟨ds',s',Γ',b1,bd,b2,b3,b4,c,b5⟩:=this
    obtain⟨s3,Γ3,d1,dd,d2,d3,d4,d5⟩:=key (Γ:=Γ') b2 b4 bd (pG mX c b1 b3 b5)
    exact ihy (λe=>(hr e).2) mX hY hy (h2 _ d5) d1 dd d2 d3 d4
   |_=>exact this
 |
  cond c x y ihx ihy=>
  intro ro Γ0 w0 ac Q s Γ a w ds PD mX hY ht h hs hd hw hle ss
  simp only[dO]at ht
  split at ht<;>simp only[sJ,reduceCtorEq]at ht
  rename_i c' ax ay hc hx hy
  cases ac<;>simp only[erase,reduceCtorEq,bT.cond.injEq]at ht
  obtain⟨rfl,rfl,rfl⟩:=ht
  simp only[aw]at h
  simp only[xE,aJ]at PD
  have hr:=BX hc hs
  split at h
  ·rename_i b hb
   rw[hb]at hr
   simp only[aN]at hr
   have hcv:a.eval c= .bool b:=by generalize a.eval c=v at hr;cases hr;rfl
   exact wpIn_cond_split hcv (λhb=>ihx (λe=>(PD e).1) mX hY hx (h.1 hb) hs hd hw hle ss) (λhb=>ihy (λe=>(PD e).2) mX hY hy (h.2 hb) hs hd hw hle ss)
  ·rename_i g b hb
   rw[hb,aN]at hr
   have hr:=hr.1 h.1
   simp only[aN]at hr
   have hcv:a.eval c= .bool b:=by generalize a.eval c=v at hr;cases hr;rfl
   exact wpIn_cond_split hcv (λhb=>ihx (λe=>(PD e).1) mX hY hx (h.2.1 hb) hs hd hw hle ss) (λhb=>ihy (λe=>(PD e).2) mX hY hy (h.2.2 hb) hs hd hw hle ss)
  ·exact h.elim
 |
  block id x ih=>
  intro ro Γ0 w0 ac Q s Γ a w ds hr mX hY ht h hs hd hw hle ss
  simp only[dO]at ht
  split at ht<;>simp only[sJ,reduceCtorEq]at ht
  rename_i ax hx
  cases ac<;>simp only[erase,reduceCtorEq,bT.block.injEq]at ht
  obtain⟨rfl,rfl⟩:=ht
  simp only[aw]at h
  exact wpIn_block (wpIn_mono (ih (λe=>by simpa only[xE]using hr e) mX hY hx h hs hd hw hle ss) λe a' w' he=>QF he)
 |
  loop x ih=>
  intro ro Γ0 w0 ac Q s Γ a w ds PD mX hY ht h hs hd hw hle ss
  simp only[dO]at ht
  split at ht<;>simp only[sJ,reduceCtorEq]at ht
  rename_i ax hx
  cases ac<;>simp only[erase,reduceCtorEq,bT.loop.injEq]at ht
  subst ht
  simp only[aw]at h
  obtain⟨I,cs,h0,hr⟩:=h
  let J:Act->World->Nat->Prop:=λa w n=>∃ds s Γ,fW nt ds s Γ a∧rM Γ0.heap.size Γ ds∧w.heap=Γ.heap∧Le Γ0 Γ∧WF w0 w∧I n s
  refine wpIn_loop (λa w=>∃n,J a w n) (λa w=>least (J a w)) ?_ ?_
  ·obtain⟨s',Γ',b1,bd,b2,b3,b4,n,b5⟩:=key (Γ:=Γ) hw ss hd (pG mX cs hs hle h0)
   exact⟨n,ds,s',Γ',b1,bd,b2,b3,b4,b5⟩
  ·intro a1 w1 hJ
   obtain⟨⟨ds1,s1,Γ1,b1,bd,b2,b3,b4,b5⟩,Ug⟩:=CC hJ
   refine wpIn_mono (ih (λe=>by simpa only[xE]using PD e) mX hY hx (hr _ _ b5) b1 bd b2 b3 b4) λe a' w' he=> ?_
   have:=Cy he
   cases e with
   |
    normal=>
    obtain⟨ds2,s2,Γ2,c1,cd,c2,c3,c4,Fi,c5⟩:=this
    obtain⟨s3,Γ3,d1,dd,d2,d3,d4,m,dx,d5⟩:=key (Γ:=Γ2) c2 c4 cd (pG mX Fi c1 c3 c5)
    have hJm:J a' w' m:=⟨ds2,s3,Γ3,d1,dd,d2,d3,d4,d5⟩
    exact⟨⟨m,hJm⟩,Nat.lt_of_le_of_lt ((CC ⟨m,hJm⟩).2 m hJm) dx⟩
   |_=>exact this
 |_=>intro ro Γ0 w0 ac Q s Γ a w ds hr mX hY ht;simp[dO]at ht
end Go.Ab
namespace Go.Ab
variable [cM]
variable {P:Program} {nt:Nat} {ds:List Deferred} {s:St} {Γ Δ Γ0:Cx} {a:Act} {w w0:World}
def CD (P:Program):ResultVar->Option AK
 | .tmp t=>some (.mv (.t t))
 | .cell t ty=>match lD P ty,eK P ty with|some g,some n=>some (.load g n (.t t))|_,_=>none
structure dP where
 nt:Nat
 res:ZB
 code:bT
def dP.er (f:dP):dP:=⟨f.nt,f.res,erase f.code⟩
noncomputable def eI (P:Program) (own sp:Yx) (f:FuncId):Option dP:=
 match P.funcs[f]?with
 |
  some fn=>if(fn.name== "runtime.NumGoroutine")=false then(match fn.body with
  |
   some c=>match dO P fn.ntmps own sp c,allM (CD P) fn.results.toList with
   |some ac,some rs=>some ⟨fn.ntmps,rs,ac⟩
   |_,_=>none
  |none=>none)else none
 |none=>none
noncomputable def HN (P:Program) (own sp:Yx) (f:FuncId):Option dP:=
 match eI P own sp f with|some A=>some ⟨A.nt,A.res,N4 A.code⟩|none=>none
def aA {own sp:Yx} {f:FuncId} {A:dP} (h:HN P own sp f=some A):eI P own sp f=some A.er:=by
 unfold HN at h;split at h
 ·rename_i B hB;rw[hB];simp only[sJ]at h;subst h;rw[wF];have h2:=hB;unfold eI at h2;(repeat' split at h2)<;>simp only[sJ,reduceCtorEq]at h2;subst h2;rename_i hc _;simp only[dP.er,EF _ _ _ hc]
 ·simp at h
abbrev RF (P:Program) (own sp:Yx) (f:FuncId):= {A:dP//HN P own sp f=some A}
def G6 (s:St):ZB->(WG->Prop)->Prop
 |[],K=>K []
 |k::r,K=>ev true s k λp=>G6 s r λps=>K (p::ps)
def dN:WG->PV
 |[p]=>p
 |ps=> .tup ps
def PV.flat:PV->Bool
 | .gd _ _| .tup _=>false
 |_=>true
def QJ (n:Nat) (res:ZB) (R:PV->WD->Prop) (s:St):Prop:=
 ∃
  (c:List Cut) (ks:Yx),fG c s λs'=>G6 s' res λps=>∃bf,(getAll s'.bx ks=some bf∧ks.Nodup∧ks.take n=dE n)∧
  (ps.all PV.flat=true∧ae (cW ks) (dN ps)=true∧bf.all (af (cW ks))=true)∧R (aI (bV ks) (dN ps)) (bf.map (aG (bV ks)))
def ends (n:Nat) (res:ZB) (R:PV->WD->Prop):Exit->UD
 | .ret,s| .normal,s=>QJ n res R s
 |_,_=>False
def ah:Nat->WG->List (Nat×PV)
 |_,[]=>[]
 |i,p::r=>(i,p)::ah (i+1) r
theorem wG:∀(l:WG) (i k:Nat),get (ah i l) k=if i≤k then l[k-i]?else none
 |[],i,k=>by simp[ah,get]
 |
  p::l,i,k=>by
  simp only[ah,get,wG l (i+1) k]
  by_cases h:i=k
  ·subst h;simp
  ·rw[if_neg h]
   by_cases h2:i≤k
   ·rw[if_pos (by omega),if_pos h2,show k-i=(k-(i+1))+1 by omega,List.getElem?_cons_succ]
   ·rw[if_neg (by omega),if_neg h2]
theorem fE.at:∀ {l:WG} {vs:UE} {i:Nat} {p:PV},fE Γ l vs->l[i]? =some p->∃v,vs[i]? =some v∧aN Γ p v
 |[],_,_,_,_,h=>by simp at h
 |p::l,[],_,_,h,_=>by simp[fE]at h
 |p::l,v::vs,0,q,h,hi=>by simp at hi;subst hi;exact⟨v,rfl,h.1⟩
 |p::l,v::vs,i+1,q,h,hi=>by simp at hi;simpa using fE.at h.2 hi
def Ka {t:TypeId} {v r:Value} (h:(Instr.loadAt t v).run P w= .ok r w):((do loadVar t (←asAddr v)):Sem Value).run P w= .ok r w:=by
 unfold Instr.loadAt at h
 cases v<;>first
  |(rename_i ad;cases ad<;>first|exact h|(simp[Instr.sureAddr,stuck]at h))
  |(simp[Instr.sureAddr,stuck]at h)
def aN.ajE {p:PV} {v:Value} (h:aN Γ p v) (hf:p.flat=true):iK Γ p v:=by
 cases p<;>simp[PV.flat]at hf<;>first|exact h|(simp[iK])
def HO (tmps:Array Value):ResultVar->Sem Value
 | .tmp t=>pure (tmps.getD t undef)
 | .cell a t=>do loadVar t (←asAddr (tmps.getD a undef))
theorem L9 (hs:fW nt ds s Γ a) (hw:w.heap=Γ.heap):∀ {rs:List ResultVar} {ks:ZB} {K:WG->Prop},allM (CD P) rs=some ks->G6 s ks K->
  ∃ps vs,K ps∧(rs.mapM (HO a.tmps)).run P w= .ok vs w∧fE Γ ps vs
 |
  [],ks,K,h,he=>by
  simp only[allM,sJ]at h;subst h
  exact⟨[],[],he,rfl,trivial⟩
 |
  r::rs,ks,K,h,he=>by
  simp only[allM]at h
  split at h
  ·rename_i y l hy hl
   simp only[sJ]at h;subst h
   simp only[G6]at he
   have h1:∃p v,(G6 s l λps=>K (p::ps))∧(HO a.tmps r).run P w= .ok v w∧aN Γ p v:=by
    cases r with
    |
     tmp t=>
     simp only[CD,sJ]at hy;subst hy
     simp only[ev]at he
     obtain⟨p,hp,hr⟩:=bR (x:= .tmp t) rfl hs rfl he
     exact⟨p,_,hp,rfl,hr⟩
    |
     cell t ty=>
     simp only[CD]at hy
     split at hy<;>simp only[sJ,reduceCtorEq]at hy
     rename_i g n hg hn;subst hy
     obtain⟨p,v,hp,ia,hr⟩:=Hj (x:= .tmp t) rfl hs hw rfl hg hn he
     exact⟨p,v,hp,Ka ia,hr⟩
   obtain⟨p,v,hp,ia,hr⟩:=h1
   obtain⟨ps,vs,hK,asr,cU⟩:=L9 hs hw hl hp
   refine⟨p::ps,v::vs,hK,?_,hr,cU⟩
   rw[List.mapM_cons]
   simp only[bJ,ia,rJ,asr]
   rfl
  ·simp at h
theorem Ma:∀ {ps:WG} {vs:UE},fE Γ ps vs->ps.all PV.flat=true->jU Γ ps vs
 |[],[],_,_=>trivial
 |[],_::_,h,_=>by simp[fE]at h
 |_::_,[],h,_=>by simp[fE]at h
 |
  p::ps,v::vs,h,hf=>by
  simp only[JgX,aJ]at hf
  exact⟨h.1.ajE hf.1,Ma h.2 hf.2⟩
def ajF:UE->Value
 |[v]=>v
 |vs=> .tuple vs.toArray
theorem Kb (fn:Func) (tmps:Array Value) {vs:UE} (h:(fn.results.toList.mapM (HO tmps)).run P w= .ok vs w):
  (results fn tmps).run P w= .ok (ajF vs) w:=by
 have e:results fn tmps=(do
   let vs←fn.results.mapM (HO tmps)
   pure (if h:vs.size=1 then vs[0]else .tuple vs)):=by
  unfold results
  congr 1
 have h2:(fn.results.mapM (HO tmps)).run P w= .ok vs.toArray w:=by
  rw[Array.mapM_eq_mapM_toList,Sem.run_map,h];rfl
 rw[e,bJ,h2];simp only[rJ,JcZ];match vs with
 |[]=>rfl
 |[v]=>rfl
 |v::u::vs=>rfl
def N5 {fn:Func} {rs:ZB} {fp:WD} {R:PV->WD->Prop} (hr:allM (CD P) fn.results.toList=some rs) (h0:Γ0.bx=az 0 fp) (mX:HK Γ0) (hs:fW nt ds s Γ a) (hw:w.heap=Γ.heap) (hle:Le Γ0 Γ) (h:QJ fp.length rs R s):
  ∃v r mW Γ',(results fn a.tmps).run P w= .ok v w∧R r mW∧w.heap=Γ'.heap∧Mem Γ'∧Γ'.bx=az 0 mW∧aN Γ' r v∧Le Γ0 Γ':=by
 obtain⟨c,ks,h⟩:=h;obtain⟨s',Γ1,Ef,hh,aB9,h⟩:=pG mX c hs hle h;have AQ:w.heap=Γ1.heap:=by rw[hh];exact hw
 obtain⟨ps,vs,h,ia,cU⟩:=L9 Ef AQ hr h;obtain⟨bf,⟨hg,hn,hks⟩,⟨hf,hro,hbo⟩,hR⟩:=h;rw[←Ef.bx]at hg;have oA:=Cx.HM hg;refine⟨_,_,_,Γ1.out ks bf,Kb fn a.tmps ia,hR,AQ,Cx.Vt Ef.mem hg hn hbo,rfl,?_,Cx.ack aB9 h0 hg hks⟩
 have hv:aN Γ1 (dN ps) (ajF vs):=by
  have hl:=cU.length;match ps,vs,cU,hl with
  |[],[],_,_=>exact⟨[],rfl,trivial⟩
  |[p],[v],cU,_=>exact cU.1
  |p::q::ps,v::u::vs,cU,_=>exact⟨_,rfl,Ma cU hf⟩
 exact hv.aI oA hro
theorem sM {fn:Func} {rs:ZB} {fp:WD} {R:PV->WD->Prop} (hr:allM (CD P) fn.results.toList=some rs) (h0:Γ0.bx=az 0 fp) (mX:HK Γ0) (h:QJ fp.length rs R s):
  ∀
   (Ds:Yx) {ds:List Deferred} {Γ:Cx} {w:World},fW nt ds s Γ a->w.heap=Γ.heap->Le Γ0 Γ->WF w0 w->Ds.Nodup->(∀D∈Ds,Γ0.heap.size≤D∧Γ.heap[D]? =some (.deferred (some [])))->
   LeavesInM (FW none) 0 P fn a.tmps (λe w'=>∃v r mW Γ',e= .returned v∧R r mW∧w'.heap=Γ'.heap∧Mem Γ'∧Γ'.bx=az 0 mW∧aN Γ' r v∧Le Γ0 Γ'∧WF w0 w')
    (Ds.map λD=> {target:= .collected D,args:= #[]}) .returning w
 |
  [],ds,Γ,w,hs,hw,hle,ss,_,_=>by
  obtain⟨v,r,mW,Γ2,h1,h2,h3⟩:=N5 hr h0 mX hs hw hle h
  exact⟨v,h1,v,r,mW,Γ2,rfl,h2,h3.1,h3.2.1,h3.2.2.1,h3.2.2.2.1,h3.2.2.2.2,ss⟩
 |
  D::Ds,ds,Γ,w,hs,hw,hle,ss,hn,hd=>by
  obtain⟨LC,hh⟩:=hd D (by simp)
  have hp:Γ.jn D:=⟨_,hh,rfl⟩
  obtain⟨hnm,Hb⟩:=JiQ.1 hn
  refine⟨by simp,.inl ⟨D,w.putObj D (.deferred none),rfl,run_takeDeferred (by rw[hw];exact hh),?_⟩⟩
  refine sM hr h0 mX h Ds (hs.obj hp) (Qa hw) (FI hle LC hp) (ss.trans (WF.obj _ _ _)) Hb (λD' hD'=> ?_)
  obtain⟨h1,h2⟩:=hd D' (by simp[hD'])
  exact⟨h1,by rw[jL (l:=D) (b:=D') (by rintro rfl;exact hnm hD')];exact h2⟩
def EG [gQ] {f:FuncId} {A:dP} {own sp:Yx} {args:WG} {fp:WD} {R:PV->WD->Prop} (ht:eI P own sp f=some A.er) (hl:args.length≤A.nt)
  (h:aw P A.code (ends fp.length A.res R) ⟨ah 0 args,az 0 fp⟩):
  (∀(vs:Array Value) (w:World),(callFunc f vs).run P w= .ok (.enter f vs) w)∧∀(Γ:Cx) (w:World) (vs:UE),w.heap=Γ.heap->Mem Γ->Γ.bx=az 0 fp->Ex P Γ->fE Γ args vs->
   CallsIn (FW none) 0 P f vs.toArray w (λe w'=>∃v r mW Γ',e= .returned v∧R r mW∧w'.heap=Γ'.heap∧Mem Γ'∧Γ'.bx=az 0 mW∧aN Γ' r v∧Le Γ Γ'∧WF w w'):=by
 unfold eI at ht;split at ht
 case h_2=>simp at ht
 rename_i fn hfn;split at ht
 case isFalse=>simp at ht
 rename_i ass;split at ht
 case h_2=>simp at ht
 rename_i c hb;split at ht
 case h_2=>simp at ht
 rename_i ac rs hac U3;simp only[sJ,dP.er,dP.mk.injEq]at ht;obtain⟨hnt,Zd,ast⟩:=ht;subst Zd ast;refine⟨λvs w=> ?_,λΓ w vs hw hm lj hY cU=> ?_⟩
 ·unfold callFunc;simp only[bJ,run_program,rJ,hfn,ass,fJ,if_false,hb,Option.isNone_some,JcZ]
 ·have hlen:=cU.length
  have mX:HK Γ:=by
   intro k blk hk;rw[lj,eS]at hk;split at hk
   ·omega
   ·simp at hk
  refine callsIn_of_wp_marks hfn hb trivial (wpIn_mono (QI own sp c (ro:=none) (ds:=[]) (by simp) mX hY hac h (Γ:=Γ) (a:= {tmps:=vs.toArray++Array.replicate (fn.ntmps-vs.toArray.size) undef,defers:=[]}) ⟨lj,?_,rfl,?_,hm⟩ .nil hw (Le.refl Γ) (WF.refl w)) ?_)
  ·simp;omega
  ·intro k p hk;rw[wG]at hk;simp only[Nat.zero_le,if_true,Nat.sub_zero]at hk;obtain⟨v,hv,hr⟩:=cU.at hk;have dx:=(iJ.1 hv).1
   have e:(vs.toArray++Array.replicate (fn.ntmps-vs.toArray.size) undef).getD k undef=v:=by
    rw[JbQ,Array.getElem?_append_left (by simpa using dx)];simp[hv]
   simp only;rw[e];exact hr
  ·rintro e a' w' ⟨ds',s',Γ',Dv,⟨Ds,hD1,hD2,hD3⟩,hw',Ee,asu,he⟩;cases e with
   |ret=>show LeavesInM _ _ _ _ _ _ a'.defers _ _;rw[Dv.defers,hD1];exact sM U3 lj mX he Ds Dv hw' Ee asu hD2 hD3
   |normal=>show LeavesInM _ _ _ _ _ _ a'.defers _ _;rw[Dv.defers,hD1];exact sM U3 lj mX he Ds Dv hw' Ee asu hD2 hD3
   |_=>exact he.elim
def ab.intro {f:FuncId} {A:dP} {own sp:Yx} {args:WG} {fp:WD} {R:PV->WD->Prop} (ht:eI P own sp f=some A.er) (hl:args.length≤A.nt)
  (h:aw P A.code (ends fp.length A.res R) ⟨ah 0 args,az 0 fp⟩):ab P f args fp R:=
 λΓ w vs h1 h2 h3 h4=> .inl ⟨(EG ht hl h).1 _ _,NL ((EG ht hl h).2 Γ w vs h1 h2 h3 .no h4)⟩
abbrev UN:=List AO
end Go.Ab

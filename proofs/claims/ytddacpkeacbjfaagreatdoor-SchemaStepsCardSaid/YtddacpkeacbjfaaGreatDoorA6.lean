/- From the words of a statement to the abstract reading. No condition. -/
import Derived.Test.YtddacpkeacbjfaaGreatDoorA5
import Derived.ChangeReads
import Derived.ChangeSame
import Derived.ChangeOld
import Derived.RowKit3
import Derived.DataReads
import Derived.ChangeShapes
import Derived.OpenShut
import Derived.ChangeFn
set_option linter.all false
namespace Go.Ab
variable [cM]
variable {P:Program} {H:Type} {enc:TypeId×Value->H} {w:World} {Γ:Cx}
def HW (P:Program):Nat->List Field->Option Nat
 |o,[]=>some o
 |o,f::r=>if f.offset=o then HW P (o+P.cellsOf f.type) r else none
def iQ (P:Program):Nat->TypeId->Bool
 |0,_=>false
 |
  n+1,t=>match P.underlying t with
  |some .bool|some (.int _)|some .string=>decide (P.cellsOf t=1)
  |some (.slice e)=>decide (P.cellsOf t=1∧0<P.cellsOf e)&&iQ P n e
  |some (.struct fs)=>decide (HW P 0 fs.toList=some (P.cellsOf t))&&fs.toList.all λf=>iQ P n f.type
  |some (.array k e)=>decide (P.cellsOf t=k*P.cellsOf e)&&iQ P n e
  |_=>false
def Wd (f:TypeId->W7):List TypeId->WG->Prop
 |[],[]=>True
 |t::ts,p::ps=>f t p∧Wd f ts ps
 |_,_=>False
def A1 (P:Program):Nat->TypeId->W7
 |0,_,_=>False
 |
  n+1,t,p=>match P.underlying t with
  |some .bool=>∃b,p= .bl b
  |some (.int k)=>∃m,p= .int k m∧(Lit.int k m).wf=true
  |some .string=>∃l,p= .str l∧l.length≤maxLen
  |some (.slice e)=>∃l,p= .sl (P.cellsOf e) l false∧l.length≤maxLen∧∀x∈l,A1 P n e x
  |some (.struct fs)=>∃l,p= .st (P.cellsOf t) l∧Wd (A1 P n) (fs.toList.map (·.type)) l
  |some (.array k e)=>∃l,p= .ar (P.cellsOf e) k l∧l.length=k∧∀x∈l,A1 P n e x
  |_=>False
mutual
def sP:PV->Nat
 | .str l=>l.length+1
 | .sl _ l _=>j7 l+1
 | .st _ l=>j7 l+1
 | .ar _ _ l=>j7 l+1
 |_=>1
def j7:WG->Nat
 |[]=>0
 |p::l=>sP p+j7 l
end
structure CL (B:DataW H->Nat) (BL:List (DataW H)->Nat):Prop where
 str:∀l,B (.lit (.string l))=l.length+1
 lit:∀l,1≤B (.lit l)
 nil:B .nil=1
 slice:∀l s,B (.slice l s)=BL l+BL s+1
 agg:∀l,B (.agg l)=BL l+1
 axg:BL []=0
 HX:∀d l,BL (d::l)=B d+BL l
def add_add (a:Addr) (x y:Nat):(a.add x).add y=a.add (x+y):=by
 unfold Addr.add;by_cases hx:x=0<;>by_cases hy:y=0<;>simp[hx,hy,Nat.add_assoc]
def Of {a:Addr} {c:Value} (h:w.cell? a=some c):a.spot=none∧a.block<w.heap.size:=by
 simp only[World.cell?]at h;split at h
 ·rename_i hb;refine⟨?_,(Array.getElem?_eq_some_iff.1 hb).1⟩;cases hs:a.spot with
  |none=>rfl
  |some s=>simp[hs]at h
 ·simp at h
theorem qR {α β:Type} {f:α->Option β} {x:α} {l:List α} {r:List β} (h:(x::l).mapM f=some r):∃y r',f x=some y∧l.mapM f=some r'∧r=y::r':=by
 rw[List.mapM_cons]at h;cases hx:f x with
 |none=>simp[hx]at h
 |
  some y=>
  cases hl:l.mapM f with
  |none=>simp[hx,hl]at h
  |some r'=>simp[hx,hl]at h;exact⟨y,r',rfl,rfl,h.symm⟩
variable {B:DataW H->Nat} {BL:List (DataW H)->Nat} {sp:Nat->Bool} {hd:Bool}
theorem Q6 (hh:w.heap=Γ.heap) (yw:∀b,¬Γ.own b) (hB:CL B BL):∀(n m:Nat) (t:TypeId) (cs:UE) (d:DataW H) (ps:List MemPlace),iQ P n t=true->
  DataW.trod enc P w 0 sp hd m t cs=some (d,ps)->∃p,aC Γ [p] cs∧A1 P n t p∧sP p≤B d∧p.width=P.cellsOf t:=by
 intro n;induction n with
 |zero=>intro m t cs d ps hp;simp[iQ]at hp
 |
  succ n ih=>
  intro m t cs d ps hp h
  cases m with
  |zero=>simp[DataW.trod]at h
  |succ m=>
  rw[iQ]at hp
  unfold DataW.trod at h
  split at hp
  ·--bool
   rename_i hu
   rw[hu]at h
   simp only[decide_eq_true_eq]at hp
   split at h<;>simp_all
   rename_i b
   obtain⟨rfl,rfl⟩:=h
   exact⟨.bl b,.bl b .nil,by simp[A1,hu],by simpa[sP]using hB.lit _,rfl⟩
  ·rename_i k hu
   rw[hu]at h
   simp only[decide_eq_true_eq]at hp
   split at h<;>simp_all
   rename_i k' m' hkk
   subst hkk
   obtain⟨ss,rfl,rfl⟩:=h
   exact⟨.int _ m',.int _ m' .nil,by simp[A1,hu,ss],by simpa[sP]using hB.lit _,rfl⟩
  ·rename_i hu
   rw[hu]at h
   simp only[decide_eq_true_eq]at hp
   split at h<;>simp_all
   rename_i s
   obtain⟨hs,rfl,rfl⟩:=h
   exact⟨.str s.data.toList,.str _ s rfl .nil,by simp[A1,hu];exact hs,by simp[sP,hB.str],rfl⟩
  ·--slice
   rename_i e hu
   rw[hu]at h
   simp only[aJ,decide_eq_true_eq]at hp
   obtain⟨⟨GZ,jh⟩,Ps⟩:=hp
   split at h<;>simp only[reduceCtorEq,sJ,TypeDesc.slice.injEq]at*
   ·rename_i heq
    simp only[Prod.mk.injEq]at h
    obtain⟨rfl,rfl⟩:=h
    exact⟨.sl (P.cellsOf e) [] false,.sl _ [] false none 0 .nil (by simp) (by simp) (by simp) (by simp) .nil,by simp[A1,hu],by simp[sP,j7,hB.nil],by rw[GZ];rfl⟩
   ·rename_i e' a len cap heq
    subst heq
    split at h
    ·rename_i hb
     obtain⟨elems,he,h⟩:=JnQ.1 h
     obtain⟨rest,hr,h⟩:=mJ.1 h
     simp only[Prod.mk.injEq]at h
     obtain⟨rfl,rfl⟩:=h
     have key:∀(k i:Nat) (elems:List (DataW H×List MemPlace)),((List.range' i k).mapM λi=>(w.cells? 0 (a.add (i*P.cellsOf e)) (P.cellsOf e)).bind (DataW.trod enc P w 0 sp hd m e))=some elems->
       ∃(l:WG) (css:UE),l.length=k∧aC Γ l css∧(∀x∈l,A1 P n e x∧x.width=P.cellsOf e)∧(∀j c,css[j]? =some c->w.cell? (a.add (i*P.cellsOf e+j))=some c)∧j7 l≤BL (elems.map (·.1)):=by
      intro k
      induction k with
      |
       zero=>
       intro i elems h
       simp at h
       subst h
       exact⟨[],[],rfl,.nil,by simp,by simp,by simp[j7]⟩
      |
       succ k ihk=>
       intro i elems h
       rw[List.range'_succ]at h
       obtain⟨y,r',h1,h2,rfl⟩:=qR h
       obtain⟨csi,h3,h4⟩:=JnQ.1 h1
       obtain⟨y1,y2⟩:=y
       obtain⟨p,g1,g2,g3,g4⟩:=ih m e csi y1 y2 Ps h4
       obtain⟨l,css,f1,f2,f3,f4,f5⟩:=ihk (i+1) r' h2
       obtain⟨_,c2,c3⟩:=World.cells?_some h3
       refine⟨p::l,csi++css,by simp[f1],g1.cons f2,?_,?_,?_⟩
       ·intro x hx
        rcases cJ.1 hx with rfl|hx
        ·exact⟨g2,g4⟩
        ·exact f3 x hx
       ·intro j c hj
        rw[List.getElem?_append]at hj
        split at hj
        ·rename_i dx
         have:=c3 j (by omega)
         rw[add_add]at this
         rw[this,hj]
        ·rename_i Em
         have:=f4 _ c hj
         rw[JgV]at this
         rw[←this]
         congr 2;omega
       ·simp only[j7,JcQ,hB.HX];omega
     rw[JoV]at he
     obtain⟨l,css,f1,f2,f3,f4,f5⟩:=key len 0 elems he
     refine⟨.sl (P.cellsOf e) l false,?_,?_,?_,?_⟩
     ·have:=aC.sl (Γ:=Γ) (P.cellsOf e) l false (some a) cap f2 (λx hx=>(f3 x hx).2) (by omega) (by simp) (λbY=> ?_) .nil
      ·rw[f1]at this;exact this
      ·have vL:=f2.length
       rw[bD (λx hx=>(f3 x hx).2)]at vL
       have asw:0<l.length:=JiV.2 bY
       have asx:0<css.length:=by rw[vL];exact Nat.mul_pos asw jh
       have h0:=f4 0 css[0] (gJ asx)
       have ha0:a.add (0*P.cellsOf e+0)=a:=by simp[Addr.add]
       rw[ha0]at h0
       obtain⟨G1,JB⟩:=Of h0
       refine⟨a.block,a.off,by cases a;simp_all,by rw[←hh];exact JB,yw _,λj c hj=> ?_⟩
       have:=f4 j c hj
       have e2:a.add (0*P.cellsOf e+j)=⟨a.block,a.off+j,none⟩:=by
        unfold Addr.add;split
        ·rename_i hz;have:j=0:=by omega
         subst this;cases a;simp_all
        ·simp
       rw[e2,cell?_eq]at this
       rw[←hh];exact this
     ·rw[A1,hu];exact⟨l,rfl,by omega,λx hx=>(f3 x hx).1⟩
     ·simp only[sP,hB.slice];omega
     ·rw[GZ];rfl
    ·simp at h
   all_goals (rename_i h1 h2;simp_all)
  ·--struct
   rename_i fs hu
   rw[hu]at h
   simp only[aJ,decide_eq_true_eq,JbJ]at hp
   obtain⟨asy,cU⟩:=hp
   split at h<;>simp only[reduceCtorEq,sJ,TypeDesc.struct.injEq]at*
   ·rename_i cs _ _ fs' heq
    subst heq
    split at h
    ·rename_i hlen
     obtain⟨xs,hx,h⟩:=mJ.1 h
     simp only[Prod.mk.injEq]at h
     obtain⟨rfl,rfl⟩:=h
     have key:∀(fl:List Field) (o:Nat) (xs:List (DataW H×List MemPlace)),(∀f∈fl,iQ P n f.type=true)->HW P o fl=some cs.length->o≤cs.length->
       (fl.mapM λf=>DataW.trod enc P w 0 sp hd m f.type ((cs.drop f.offset).take (P.cellsOf f.type)))=some xs->
       ∃l:WG,aC Γ l (cs.drop o)∧Wd (A1 P n) (fl.map (·.type)) l∧j7 l≤BL (xs.map (·.1)):=by
      intro fl
      induction fl with
      |
       nil=>
       intro o xs _ hl _ hx
       simp only[HW,sJ]at hl
       simp at hx;subst hx
       exact⟨[],by rw[hl];simp;exact .nil,trivial,by simp[j7]⟩
      |
       cons f fl ihf=>
       intro o xs mV hl ho hx
       simp only[HW]at hl
       split at hl
       ·rename_i Jj
        obtain⟨y,r',h1,h2,rfl⟩:=qR hx
        obtain⟨y1,y2⟩:=y
        obtain⟨p,g1,g2,g3,g4⟩:=ih m f.type _ y1 y2 (mV f (by simp)) h1
        have AQ:=g1.gn
        rw[g4,Jj]at AQ
        have Fj:o+P.cellsOf f.type≤cs.length:=by
         by_cases h0:P.cellsOf f.type=0
         ·omega
         ·simp at AQ;omega
        obtain⟨l,f1,f2,f3⟩:=ihf (o+P.cellsOf f.type) r' (λg hg=>mV g (by simp[hg])) hl Fj h2
        refine⟨p::l,?_,⟨g2,f2⟩,?_⟩
        ·rw[Jj]at g1
         have:=g1.cons f1
         rwa [←JlX,JbV]at this
        ·simp only[j7,JcQ,hB.HX];omega
       ·simp at hl
     obtain⟨l,f1,f2,f3⟩:=key fs.toList 0 xs cU (by rw[asy,hlen]) (by omega) hx
     simp only[List.drop_zero]at f1
     exact⟨.st (P.cellsOf t) l,f1.st1 hlen,by rw[A1,hu];exact⟨l,rfl,f2⟩,by simp only[sP,hB.agg];omega,rfl⟩
    ·simp at h
   all_goals (rename_i h1 h2;simp_all)
  ·--array
   rename_i k e hu
   rw[hu]at h
   simp only[aJ,decide_eq_true_eq]at hp
   obtain⟨fP,Ps⟩:=hp
   split at h<;>simp only[reduceCtorEq,sJ,TypeDesc.array.injEq]at*
   ·rename_i cs _ _ k' e' heq
    obtain⟨rfl,rfl⟩:=heq
    split at h
    ·rename_i hlen
     obtain⟨xs,hx,h⟩:=mJ.1 h
     simp only[Prod.mk.injEq]at h
     obtain⟨rfl,rfl⟩:=h
     have key:∀(q i:Nat) (xs:List (DataW H×List MemPlace)),cs.length=(i+q)*P.cellsOf e->
       ((List.range' i q).mapM λi=>DataW.trod enc P w 0 sp hd m e ((cs.drop (i*P.cellsOf e)).take (P.cellsOf e)))=some xs->
       ∃l:WG,l.length=q∧aC Γ l (cs.drop (i*P.cellsOf e))∧(∀x∈l,A1 P n e x∧x.width=P.cellsOf e)∧j7 l≤BL (xs.map (·.1)):=by
      intro q
      induction q with
      |
       zero=>
       intro i xs hl hx
       simp at hx;subst hx
       exact⟨[],rfl,by rw[List.drop_eq_nil_of_le (by simp at hl;omega)];exact .nil,by simp,by simp[j7]⟩
      |
       succ q ihq=>
       intro i xs hl hx
       rw[List.range'_succ]at hx
       obtain⟨y,r',h1,h2,rfl⟩:=qR hx
       obtain⟨y1,y2⟩:=y
       obtain⟨p,g1,g2,g3,g4⟩:=ih m e _ y1 y2 Ps h1
       obtain⟨l,f1,f2,f3,f4⟩:=ihq (i+1) r' (by rw[hl];congr 1;omega) h2
       refine⟨p::l,by simp[f1],?_,?_,?_⟩
       ·have:=g1.cons f2
        rwa [JgV,Nat.one_mul,←JlX,JbV]at this
       ·intro x hx
        rcases cJ.1 hx with rfl|hx
        ·exact⟨g2,g4⟩
        ·exact f3 x hx
       ·simp only[j7,JcQ,hB.HX];omega
     rw[JoV]at hx
     obtain⟨l,f1,f2,f3,f4⟩:=key k 0 xs (by rw[hlen,fP];simp) hx
     simp only[Nat.zero_mul,List.drop_zero]at f2
     refine⟨.ar (P.cellsOf e) k l,f2.Zo f1 (λx hx=>(f3 x hx).2),by rw[A1,hu];exact⟨l,rfl,f1,λx hx=>(f3 x hx).1⟩,by simp only[sP,hB.agg];omega,by rw[fP];rfl⟩
    ·simp at h
   all_goals (rename_i h1 h2;simp_all)
  ·simp at hp
end Go.Ab
namespace Go.Ab
variable [cM]
open Go.ChangeShapes
variable {P:Program} {H:Type} {enc:TypeId×Value->H} {w:World} {Γ:Cx}
theorem We {sp:Nat->Bool}:∀(n m:Nat) (t:TypeId) (cs:UE) (x:DataW H×List MemPlace),iQ P n t=true->
  DataW.trod enc P w 0 (λ_=>true) true m t cs=some x->(∀p∈x.2,sp p.block=true)->DataW.trod enc P w 0 sp true m t cs=some x:=by
 intro n;induction n with
 |zero=>intro m t cs x hp;simp[iQ]at hp
 |
  succ n ih=>
  intro m t cs x hp h hs
  cases m with
  |zero=>simp[DataW.trod]at h
  |succ m=>
  rw[iQ]at hp
  unfold DataW.trod at h⊢
  split at hp
  ·rename_i hu;simp only[hu]at h⊢;split at h<;>simp_all
  ·rename_i k hu;simp only[hu]at h⊢;split at h<;>simp_all
  ·rename_i hu;simp only[hu]at h⊢;split at h<;>simp_all
  ·rename_i e hu
   simp only[aJ,decide_eq_true_eq]at hp
   obtain⟨⟨GZ,jh⟩,Ps⟩:=hp
   simp only[hu]at h⊢
   split at h<;>simp only[reduceCtorEq,sJ,TypeDesc.slice.injEq]at*
   ·exact h
   ·rename_i e' a len cap heq
    subst heq
    split at h
    ·rename_i hb
     rw[if_pos hb]
     simp only[if_true]at h
     obtain⟨elems,he,h⟩:=JnQ.1 h
     obtain⟨rest,hr,h⟩:=mJ.1 h
     subst h
     simp only at hs
     have one:∀(i:Nat) (y:DataW H×List MemPlace),y∈elems++rest->(w.cells? 0 (a.add (i*P.cellsOf e)) (P.cellsOf e)).bind (DataW.trod enc P w 0 (λ_=>true) true m e)=some y->
       (w.cells? 0 (a.add (i*P.cellsOf e)) (P.cellsOf e)).bind (DataW.trod enc P w 0 sp true m e)=some y:=by
      intro i y hy hv
      simp only[JnQ]at hv⊢
      obtain⟨Fi,GY,hy'⟩:=hv
      refine⟨Fi,GY,ih m e Fi y Ps hy' λp hp=>hs p ?_⟩
      simp only[JaX,JlV]
      exact .inr ⟨y,by simpa using hy,hp⟩
     rw[mapM_carry he (λi y _ hy hv=>one i y (by simp[hy]) hv)]
     simp only[JkJ]
     by_cases G1:sp a.block=true
     ·rw[if_pos G1,mapM_carry hr (λi y _ hy hv=>one (len+i) y (by simp[hy]) hv)]
      rfl
     ·rw[if_neg G1]
      have aFD:elems.length=len:=by simpa using mapM_some_length he
      have Nj:rest.length=cap-len:=by simpa using mapM_some_length hr
      have h0:elems.length+rest.length=0:=by
       rcases JnX (elems.length+rest.length)with h0|h0
       ·exact h0
       ·exfalso;apply G1;refine hs (.cell a.block (a.off+0)) ?_;simp only[JaX];exact .inl (MemPlace.mem_row.2 ⟨0,Nat.mul_pos h0 jh,rfl⟩)
      have:rest=[]:=JfZ.1 (by omega)
      subst this
      rfl
    ·simp at h
   all_goals (first|exact h|simp_all)
  ·rename_i fs hu
   simp only[aJ,decide_eq_true_eq,JbJ]at hp
   obtain⟨asy,cU⟩:=hp
   simp only[hu]at h⊢
   split at h
   ·rename_i hlen
    rw[if_pos hlen]
    obtain⟨xs,hx,h⟩:=mJ.1 h
    subst h
    rw[mapM_carry hx (λf y hf hy hv=>ih m f.type _ y (cU f hf) hv λp hp=>hs p (by simp only[JlV];exact⟨y,hy,hp⟩))]
    rfl
   ·simp at h
  ·rename_i k e hu
   simp only[aJ,decide_eq_true_eq]at hp
   obtain⟨fP,Ps⟩:=hp
   simp only[hu]at h⊢
   split at h
   ·rename_i hlen
    rw[if_pos hlen]
    obtain⟨xs,hx,h⟩:=mJ.1 h
    subst h
    rw[mapM_carry hx (λf y hf hy hv=>ih m e _ y Ps hv λp hp=>hs p (by simp only[JlV];exact⟨y,hy,hp⟩))]
    rfl
   ·simp at h
  ·simp at hp
def bare (w:World):Cx:=⟨w.heap,λ_=>none,[],λ_=>False⟩
def CM (w:World) (b:Nat):¬(bare w).own b:=by
 rintro(⟨k,blk,h,_⟩|h)
 ·simp[bare,get]at h
 ·exact h
def Q7 (w:World) (ht:∀b cs,cM.xj b=some cs->∃e x,w.heap[b]? =some (.cells cs e x)):Mem (bare w) where
 blk k blk h:=by simp[bare,get]at h
 inj k k' b h:=by simp[bare,get]at h
 cI b h:=h.elim
 apart b h:=λhp=>hp
 xj b cs h:=⟨λhb=>CM w b (.inl hb),ht b cs h⟩
variable {B:DataW H->Nat} {BL:List (DataW H)->Nat} {W W':World}
theorem Wf (hB:CL B BL) {n:Nat} {t:TypeId} {v:Value} {d:DataW H} {ps:List MemPlace} {base:Nat} {sp:Nat->Bool} (hp:iQ P n t=true) (cL:Value.okWide P W .any base t v) (hd:DataW.Trod enc P W 0 sp true t v d ps):
  ∃p,aN (bare W) p v∧A1 P n t p∧sP p≤B d:=by
 obtain⟨m,hm⟩:=hd;obtain⟨p,h1,h2,h3,h4⟩:=Q6 (Γ:=bare W) rfl (CM W) hB n m t _ _ _ hp hm;refine⟨p,?_,h2,h3⟩;cases n with
 |zero=>simp[iQ]at hp
 |
  succ n=>
  rw[iQ]at hp
  rw[A1]at h2
  unfold Value.okWide at cL
  split at hp
  ·rename_i hu
   simp only[hu]at h2 cL
   obtain⟨b,rfl⟩:=h2
   unfold Cell.okWide Cell.ok at cL
   cases v<;>simp[hu]at cL
   exact h1
  ·rename_i k hu
   simp only[hu]at h2 cL
   obtain⟨b,rfl,_⟩:=h2
   unfold Cell.okWide Cell.ok at cL
   cases v<;>simp[hu]at cL
   exact h1
  ·rename_i hu
   simp only[hu]at h2 cL
   obtain⟨b,rfl,_⟩:=h2
   unfold Cell.okWide Cell.ok at cL
   cases v<;>simp[hu]at cL
   exact h1
  ·rename_i e hu
   simp only[hu]at h2 cL
   obtain⟨b,rfl,_⟩:=h2
   unfold Cell.okWide Cell.ok at cL
   cases v<;>simp[hu]at cL
   exact h1
  ·rename_i fs hu
   simp only[hu]at h2 cL
   obtain⟨l,rfl,_⟩:=h2
   obtain⟨cs,rfl,_⟩:=cL
   exact aN.tS h1 rfl
  ·rename_i k e hu
   simp only[hu]at h2 cL
   obtain⟨l,rfl,_⟩:=h2
   obtain⟨cs,rfl,_⟩:=cL
   exact aN.tS h1 rfl
  ·simp at hp
theorem Q8 (hB:CL B BL) {n base:Nat} {sp:Nat->Bool}:∀(ts:List TypeId) (vs:UE) (ds:List (DataW H)) (ps:List MemPlace),ts.all (iQ P n)=true->(∀(j:Nat) t v,ts[j]? =some t->vs[j]? =some v->Value.okWide P W .any base t v)->
  DataW.TrodAll enc P W 0 sp true ts vs ds ps->∃l,fE (bare W) l vs∧Wd (A1 P n) ts l∧j7 l≤BL ds:=by
 intro ts;induction ts with
 |
  nil=>
  intro vs ds ps _ _ h
  cases vs<;>cases ds<;>simp[DataW.TrodAll]at h
  exact⟨[],trivial,trivial,by simp[j7]⟩
 |
  cons t ts ih=>
  intro vs ds ps hp cL h
  obtain⟨v,vs,d,ds,p,q,rfl,rfl,rfl,h1,h2⟩:=trodAll_cons h
  simp only[JgX,aJ]at hp
  obtain⟨x,g1,g2,g3⟩:=Wf hB hp.1 (cL 0 t v rfl rfl) h1
  obtain⟨l,f1,f2,f3⟩:=ih vs ds q hp.2 (λj t v hj hv=>cL (j+1) t v (by simpa using hj) (by simpa using hv)) h2
  exact⟨x::l,⟨g1,f1⟩,⟨g2,f2⟩,by simp only[j7,hB.HX];omega⟩
def A2 (may:MemPlace->Prop) (h1:W'.os=W.os) (h2:W'.output=W.output) (h:∀b,b<W.heap.size->W'.heap[b]? =W.heap[b]?):W.keptBut W' may:=by
 refine⟨h1,h2,λi hi=> ?_⟩;rw[h i hi];exact(World.keptBut_refl W may).2.2 i hi
theorem DV {n:Nat} {sp:Nat->Bool} (hh:∀b,b<W.heap.size->W'.heap[b]? =W.heap[b]?):∀(ts:List TypeId) (vs:UE) (ds:List (DataW H)) (ps:List MemPlace),ts.all (iQ P n)=true->
  (∀p∈ps,p.block<W.heap.size∧sp p.block=true)->DataW.TrodAll enc P W 0 (λ_=>true) true ts vs ds ps->DataW.TrodAll enc P W' 0 sp true ts vs ds ps:=by
 intro ts;induction ts with
 |nil=>intro vs ds ps _ _ h;cases vs<;>cases ds<;>simp[DataW.TrodAll]at h⊢;exact h
 |
  cons t ts ih=>
  intro vs ds ps hp hs h
  obtain⟨v,vs,d,ds,p,q,rfl,rfl,rfl,⟨m,h1⟩,h2⟩:=trodAll_cons h
  simp only[JgX,aJ]at hp
  refine trodAll_cons_mk ⟨m,?_⟩ (ih vs ds q hp.2 (λx hx=>hs x (by simp[hx])) h2)
  refine DataW.trod_carry m t _ _ (We n m t _ _ hp.1 h1 (λx hx=>(hs x (by simp at hx;simp[hx])).2)) ?_
  intro x hx
  have hb:=(hs x (by simp at hx;simp[hx])).1
  cases x with
  |
   cell b off=>
   simp only[World.sameAt,World.cell?]
   rw[hh b hb]
  |map b=>exact hh b hb
def F4 {f:FuncId} {fn:Func} {s:ChangeSpec} {n:Nat} {tb:TypeId} {apart fresh handsOn again:Bool} {base:Nat} {args:Array Value} {ds gs:List (DataW H)} {before:List MemPlace} (hB:CL B BL)
  (Zd:fn.resultTypes= #[tb]) (htb:P.underlying tb=some .bool) (hv:s.vars=[]) (hs:∀ds:List (DataW H),ds.length=fn.params.size->(s.fn H ds).results=[.lit (.bool true)]∧(s.fn H ds).args=ds∧(s.fn H ds).vars=[])
  (hp:fn.params.toList.all (iQ P n)=true)
  (aga:∀(j:Nat) t v,fn.params[j]? =some t->args[j]? =some v->Value.okWide P W .any base t v)
  (hW:DataW.Whole enc P fn.params.toList s.vars apart W args.toList ds gs before)
  (hA:∀l,Wd (A1 P n) fn.params.toList l->j7 l≤BL ds->aP P f l (.bl true)) (ht:∀b cs,cM.xj b=some cs->∃e x,W.heap[b]? =some (.cells cs e x))
  (he:∀(vs:Array Value) (w:World),(callFunc f vs).run P w= .ok (.enter f vs) w):
  Calls P f args W λe W'=>∃v,e= .returned v∧s.post enc P fn apart fresh handsOn again W args v W':=by
 have hW':=hW;obtain⟨p,q,hA0,hV,rfl,hfz,u9⟩:=hW;rw[hv]at hV;obtain⟨rfl,rfl⟩:=trodVars_none hV;obtain⟨l,g1,g2,g3⟩:=Q8 (n:=n) hB fn.params.toList args.toList ds p hp (λj t v hj hv=>aga j t v (by simpa using hj) (by simpa using hv)) hA0
 have hlen:ds.length=fn.params.size:=by
  have:∀(ts:List TypeId) (vs:UE) (ds:List (DataW H)) (ps:List MemPlace),DataW.TrodAll enc P W 0 (λ_=>true) true ts vs ds ps->ds.length=ts.length:=by
   intro ts;induction ts with
   |nil=>intro vs ds ps h;cases vs<;>cases ds<;>simp[DataW.TrodAll]at h⊢
   |cons t ts ih=>intro vs ds ps h;obtain⟨v,vs,d,ds,p,q,rfl,rfl,rfl,h1,h2⟩:=trodAll_cons h;simp[ih _ _ _ h2]
  simpa using this _ _ _ _ hA0
 obtain⟨s1,s2,s3⟩:=hs ds hlen;have hc:=(hA l g2 g3 (bare W) W args.toList rfl (Q7 W ht) rfl g1).calls (he _ _);rw[Array.toArray_toList]at hc;refine Calls.mono hc ?_;rintro e W1 ⟨v,r,mW,Γ',rfl,⟨rfl,rfl⟩,e3,e4,e5,e6,e7,e8⟩;refine⟨v,rfl,?_⟩;have yB:v= .bool true:=by simp only[aN]at e6;generalize v=u at e6;cases e6;rfl
 subst yB
 have uW:∀b,b<W.heap.size->W1.heap[b]? =W.heap[b]? :=by
  intro b hb;rw[e3];exact e7.heap b hb (λhm=>CM W b (.inl hm))
 have dx:∀x∈p,x.block<W.heap.size:=λx hx=>hW'.lt x (by simpa using hx)
 have abW:∀(b:Nat) (sp:Nat->Bool) (hd:Bool),DataW.TrodAll enc P W1 b sp hd fn.resultTypes.toList ((Value.bool true).resultList fn.resultTypes.size) (s.fn H (ds++[])).results []:=by
  intro b sp hd;rw[Zd,JdW,s1];exact trodAll_cons_mk (RowKit.shut_bool htb true) trodAll_mk0
 have Uh:∀sp:Nat->Bool,(∀x∈p++[],sp x.block=true)->DataW.TrodAll enc P W1 0 sp true fn.params.toList args.toList (s.fn H (ds++[])).args p:=by
  intro sp G1;rw[JdW,s2];exact DV (n:=n) uW _ _ _ _ hp (λx hx=>⟨dx x hx,G1 x (by simpa using hx)⟩) hA0
 have Ui:∀sp:Nat->Bool,(∀x∈p++[],sp x.block=true)->DataW.TrodVars enc P W1 sp s.vars (s.fn H (ds++[])).vars []:=by
  intro sp _;rw[JdW,s3,hv];rfl
 have hold:∀x∈p++[],(λb=>decide (b<W.heap.size)) x.block=true:=λx hx=>by simpa using dx x (by simpa using hx)
 refine⟨ds,[],p++[],[],p,[],hW',abW _ _ _,Uh _ hold,Ui _ hold,A2 _ e8.os e8.output uW,λ_=> ?_⟩;refine⟨RowKit.ok_one Zd rfl (RowKit.okWide_bool_mk htb true),_,_,([]++p)++[],⟨[]++p,[],trodAll_append (Uh _ (λ_ _=>rfl)) (abW _ _ _),Ui _ (λ_ _=>rfl),rfl,?_,?_⟩,?_⟩
 ·intro b off Ag;have JB:b<W.heap.size:=dx (.cell b off) (by simpa using Ag)
  have:W1.frozen? ⟨b,off,none⟩=W.frozen? ⟨b,off,none⟩:=by
   simp only[World.frozen?];rw[uW b JB]
  rw[this];exact hfz b off (by simpa using Ag)
 ·intro ha;simpa using u9 ha
 ·intro x hx _;simpa using hx
end Go.Ab
namespace Go.Ab
variable [cM]
variable {P:Program}
def Q9 (p:PV):1≤sP p:=by cases p<;>simp[sP]
theorem Og (l:WG):l.length≤j7 l:=by
 induction l with
 |nil=>simp[j7]
 |cons p l ih=>have:=Q9 p;simp only[j7,JbZ];omega
theorem Oh {p:PV} {l:WG} (h:p∈l):sP p≤j7 l:=by
 induction l with
 |nil=>cases h
 |
  cons x l ih=>
  simp only[j7]
  rcases cJ.1 h with rfl|h
  ·omega
  ·have:=ih h;omega
theorem xH {f:TypeId->W7} {t:TypeId} {ts:List TypeId} {l:WG} (h:Wd f (t::ts) l):∃p ps,l=p::ps∧f t p∧Wd f ts ps:=by
 cases l with
 |nil=>exact h.elim
 |cons p ps=>exact⟨p,ps,rfl,h.1,h.2⟩
theorem Wg {f:TypeId->W7} {l:WG} (h:Wd f [] l):l=[]:=by
 cases l with
 |nil=>rfl
 |cons p ps=>exact h.elim
def Kl {t:TypeId} {k:IntKind} {n:Nat} {p:PV} (ht:P.underlying t=some (.int k)) (h:A1 P (n+1) t p):∃m,p= .int k m∧k.min≤m∧m≤k.max:=by
 rw[A1,ht]at h;obtain⟨m,rfl,hw⟩:=h;simp only[Lit.wf,aJ,decide_eq_true_eq]at hw;exact⟨m,rfl,hw.1,hw.2⟩
theorem Oi {α:Type} {enc:α->PV} {Q:α->Prop} {l:WG} (h:∀x∈l,∃a,x=enc a∧Q a):∃m:List α,l=m.map enc∧∀a∈m,Q a:=by
 induction l with
 |nil=>exact⟨[],rfl,by simp⟩
 |
  cons x l ih=>
  obtain⟨a,rfl,ha⟩:=h x (by simp)
  obtain⟨m,rfl,hm⟩:=ih (λy hy=>h y (by simp[hy]))
  exact⟨a::m,rfl,by intro b hb;rcases cJ.1 hb with rfl|hb;exact ha;exact hm b hb⟩
def Ra {t e:TypeId} {n:Nat} {p:PV} (ht:P.underlying t=some (.slice e)) (h:A1 P (n+1) t p):∃l,p= .sl (P.cellsOf e) l false∧(∀x∈l,A1 P n e x∧sP x≤sP p)∧l.length≤sP p∧l.length≤maxLen:=by
 rw[A1,ht]at h;obtain⟨l,rfl,hm,hl⟩:=h;exact⟨l,rfl,λx hx=>⟨hl x hx,by have:=Oh hx;simp only[sP];omega⟩,by have:=Og l;simp only[sP];omega,hm⟩
def HY {t e:TypeId} {n:Nat} {p:PV} (ht:P.underlying t=some (.slice e)) (he:P.underlying e=some (.int .u8)) (hc:P.cellsOf e=1) (h:A1 P (n+2) t p):∃b:Zz,p= .sl 1 (b.map u8) false∧b.length≤sP p∧b.length≤maxLen:=by
 obtain⟨l,rfl,hl,hlen⟩:=Ra ht h
 obtain⟨b,rfl,_⟩:=Oi (enc:=u8) (Q:=λ_=>True) (l:=l) (λx hx=>by
  obtain⟨m,rfl,h1,h2⟩:=Kl he (hl x hx).1;have Jg:0≤m:=h1;have h2':m≤255:=h2;refine⟨UInt8.ofNat m.toNat,?_,trivial⟩;simp only[u8];congr 1;rw[UInt8.toNat_ofNat'];omega)
 exact⟨b,by rw[hc],by simpa using hlen⟩
end Go.Ab

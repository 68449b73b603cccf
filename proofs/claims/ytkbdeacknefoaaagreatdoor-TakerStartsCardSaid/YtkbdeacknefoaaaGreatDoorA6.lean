/- From the words of a statement to the abstract reading. No condition. -/
import Derived.Test.YtkbdeacknefoaaaGreatDoorA5
import Derived.ChangeReads
import Derived.ChangeSame
import Derived.ChangeOld
import Derived.RowKit3
import Derived.DataReads
import Derived.ChangeShapes
import Derived.OpenShut
import Derived.ChangeFn
set_option linter.all false
namespace Go.Ab
variable [eo]
variable {P:Program} {H:Type} {enc:TypeId×Value->H} {w:World} {Γ:Cx}
def EB (P:Program):Nat->List Field->Option Nat
 |o,[]=>some o
 |o,f::r=>if f.offset=o then EB P (o+P.cellsOf f.type) r else none
def jJ (P:Program):Nat->TypeId->Bool
 |0,_=>false
 |
  n+1,t=>match P.underlying t with
  |some .bool|some (.int _)|some .string=>decide (P.cellsOf t=1)
  |some (.slice e)=>decide (P.cellsOf t=1∧0<P.cellsOf e)&&jJ P n e
  |some (.struct fs)=>decide (EB P 0 fs.toList=some (P.cellsOf t))&&fs.toList.all λf=>jJ P n f.type
  |some (.array k e)=>decide (P.cellsOf t=k*P.cellsOf e)&&jJ P n e
  |_=>false
def PA (f:TypeId->PV->Prop):List TypeId->List PV->Prop
 |[],[]=>True
 |t::ts,p::ps=>f t p∧PA f ts ps
 |_,_=>False
def vr (P:Program):Nat->TypeId->PV->Prop
 |0,_,_=>False
 |
  n+1,t,p=>match P.underlying t with
  |some .bool=>∃b,p= .bl b
  |some (.int k)=>∃m,p= .int k m∧(Lit.int k m).wf=true
  |some .string=>∃l,p= .str l∧l.length≤maxLen
  |some (.slice e)=>∃l,p= .sl (P.cellsOf e) l false∧l.length≤maxLen∧∀x∈l,vr P n e x
  |some (.struct fs)=>∃l,p= .st (P.cellsOf t) l∧PA (vr P n) (fs.toList.map (·.type)) l
  |some (.array k e)=>∃l,p= .ar (P.cellsOf e) k l∧l.length=k∧∀x∈l,vr P n e x
  |_=>False
mutual
def rz:PV->Nat
 | .str l=>l.length+1
 | .sl _ l _=>kM l+1
 | .st _ l=>kM l+1
 | .ar _ _ l=>kM l+1
 |_=>1
def kM:List PV->Nat
 |[]=>0
 |p::l=>rz p+kM l
end
structure Aj (B:DataW H->Nat) (BL:List (DataW H)->Nat):Prop where
 str:∀l,B (.lit (.string l))=l.length+1
 lit:∀l,1≤B (.lit l)
 nil:B .nil=1
 slice:∀l s,B (.slice l s)=BL l+BL s+1
 agg:∀l,B (.agg l)=BL l+1
 ajL:BL []=0
 EC:∀d l,BL (d::l)=B d+BL l
theorem add_add (a:Addr) (x y:Nat):(a.add x).add y=a.add (x+y):=by
 unfold Addr.add
 by_cases hx:x=0<;>by_cases hy:y=0<;>simp[hx,hy,Nat.add_assoc]
theorem Jy {a:Addr} {c:Value} (h:w.cell? a=some c):a.spot=none∧a.block<w.heap.size:=by
 simp only[World.cell?]at h
 split at h
 ·rename_i hb
  refine⟨?_,(Array.getElem?_eq_some_iff.1 hb).1⟩
  cases hs:a.spot with
  |none=>rfl
  |some s=>simp[hs]at h
 ·simp at h
theorem qg {α β:Type} {f:α->Option β} {x:α} {l:List α} {r:List β} (h:(x::l).mapM f=some r):∃y r',f x=some y∧l.mapM f=some r'∧r=y::r':=by
 rw[List.mapM_cons]at h
 cases hx:f x with
 |none=>simp[hx]at h
 |
  some y=>
  cases hl:l.mapM f with
  |none=>simp[hx,hl]at h
  |some r'=>simp[hx,hl]at h;exact⟨y,r',rfl,rfl,h.symm⟩
variable {B:DataW H->Nat} {BL:List (DataW H)->Nat} {sp:Nat->Bool} {hd:Bool}
theorem LY (hh:w.heap=Γ.heap) (DG:∀b,¬Γ.own b) (hB:Aj B BL):∀(n m:Nat) (t:TypeId) (cs:List Value) (d:DataW H) (ps:List MemPlace),jJ P n t=true->
  DataW.trod enc P w 0 sp hd m t cs=some (d,ps)->∃p,aD Γ [p] cs∧vr P n t p∧rz p≤B d∧p.width=P.cellsOf t:=by
 intro n
 induction n with
 |zero=>intro m t cs d ps hp;simp[jJ]at hp
 |
  succ n ih=>
  intro m t cs d ps hp h
  cases m with
  |zero=>simp[DataW.trod]at h
  |succ m=>
  rw[jJ]at hp
  unfold DataW.trod at h
  split at hp
  ·--bool
   rename_i hu
   rw[hu]at h
   simp only[decide_eq_true_eq]at hp
   split at h<;>simp_all
   rename_i b
   obtain⟨rfl,rfl⟩:=h
   exact⟨.bl b,.bl b .nil,by simp[vr,hu],by simpa[rz]using hB.lit _,rfl⟩
  ·rename_i k hu
   rw[hu]at h
   simp only[decide_eq_true_eq]at hp
   split at h<;>simp_all
   rename_i k' m' hkk
   subst hkk
   obtain⟨qq,rfl,rfl⟩:=h
   exact⟨.int _ m',.int _ m' .nil,by simp[vr,hu,qq],by simpa[rz]using hB.lit _,rfl⟩
  ·rename_i hu
   rw[hu]at h
   simp only[decide_eq_true_eq]at hp
   split at h<;>simp_all
   rename_i s
   obtain⟨hs,rfl,rfl⟩:=h
   exact⟨.str s.data.toList,.str _ s rfl .nil,by simp[vr,hu];exact hs,by simp[rz,hB.str],rfl⟩
  ·--slice
   rename_i e hu
   rw[hu]at h
   simp only[aJ,decide_eq_true_eq]at hp
   obtain⟨⟨v8,kz⟩,XT⟩:=hp
   split at h<;>simp only[reduceCtorEq,sJ,TypeDesc.slice.injEq]at*
   ·rename_i heq
    simp only[Prod.mk.injEq]at h
    obtain⟨rfl,rfl⟩:=h
    exact⟨.sl (P.cellsOf e) [] false,.sl _ [] false none 0 .nil (by simp) (by simp) (by simp) (by simp) .nil,by simp[vr,hu],by simp[rz,kM,hB.nil],by rw[v8];rfl⟩
   ·rename_i e' a len cap heq
    subst heq
    split at h
    ·rename_i hb
     obtain⟨elems,he,h⟩:=Option.bind_eq_some_iff.1 h
     obtain⟨rest,hr,h⟩:=Option.map_eq_some_iff.1 h
     simp only[Prod.mk.injEq]at h
     obtain⟨rfl,rfl⟩:=h
     have key:∀(k i:Nat) (elems:List (DataW H×List MemPlace)),((List.range' i k).mapM λi=>(w.cells? 0 (a.add (i*P.cellsOf e)) (P.cellsOf e)).bind (DataW.trod enc P w 0 sp hd m e))=some elems->
       ∃(l:List PV) (css:List Value),l.length=k∧aD Γ l css∧(∀x∈l,vr P n e x∧x.width=P.cellsOf e)∧(∀j c,css[j]? =some c->w.cell? (a.add (i*P.cellsOf e+j))=some c)∧kM l≤BL (elems.map (·.1)):=by
      intro k
      induction k with
      |
       zero=>
       intro i elems h
       simp at h
       subst h
       exact⟨[],[],rfl,.nil,by simp,by simp,by simp[kM]⟩
      |
       succ k ihk=>
       intro i elems h
       rw[List.range'_succ]at h
       obtain⟨y,r',h1,h2,rfl⟩:=qg h
       obtain⟨csi,h3,h4⟩:=Option.bind_eq_some_iff.1 h1
       obtain⟨y1,y2⟩:=y
       obtain⟨p,g1,g2,g3,g4⟩:=ih m e csi y1 y2 XT h4
       obtain⟨l,css,f1,f2,f3,f4,f5⟩:=ihk (i+1) r' h2
       obtain⟨_,c2,c3⟩:=World.cells?_some h3
       refine⟨p::l,csi++css,by simp[f1],g1.cons f2,?_,?_,?_⟩
       ·intro x hx
        rcases List.mem_cons.1 hx with rfl|hx
        ·exact⟨g2,g4⟩
        ·exact f3 x hx
       ·intro j c hj
        rw[List.getElem?_append]at hj
        split at hj
        ·rename_i eu
         have:=c3 j (by omega)
         rw[add_add]at this
         rw[this,hj]
        ·rename_i Ue
         have:=f4 _ c hj
         rw[Nat.add_mul]at this
         rw[←this]
         congr 2;omega
       ·simp only[kM,List.map_cons,hB.EC];omega
     rw[List.range_eq_range']at he
     obtain⟨l,css,f1,f2,f3,f4,f5⟩:=key len 0 elems he
     refine⟨.sl (P.cellsOf e) l false,?_,?_,?_,?_⟩
     ·have:=aD.sl (Γ:=Γ) (P.cellsOf e) l false (some a) cap f2 (λx hx=>(f3 x hx).2) (by omega) (by simp) (λdF=> ?_) .nil
      ·rw[f1]at this;exact this
      ·have qV:=f2.length
       rw[bF (λx hx=>(f3 x hx).2)]at qV
       have aft:0<l.length:=List.length_pos_iff.2 dF
       have afu:0<css.length:=by rw[qV];exact Nat.mul_pos aft kz
       have h0:=f4 0 css[0] (gJ afu)
       have ha0:a.add (0*P.cellsOf e+0)=a:=by simp[Addr.add]
       rw[ha0]at h0
       obtain⟨BE,qS⟩:=Jy h0
       refine⟨a.block,a.off,by cases a;simp_all,by rw[←hh];exact qS,DG _,λj c hj=> ?_⟩
       have:=f4 j c hj
       have e2:a.add (0*P.cellsOf e+j)=⟨a.block,a.off+j,none⟩:=by
        unfold Addr.add
        split
        ·rename_i hz
         have:j=0:=by omega
         subst this
         cases a;simp_all
        ·simp
       rw[e2,cell?_eq]at this
       rw[←hh];exact this
     ·rw[vr,hu];exact⟨l,rfl,by omega,λx hx=>(f3 x hx).1⟩
     ·simp only[rz,hB.slice];omega
     ·rw[v8];rfl
    ·simp at h
   all_goals (rename_i h1 h2;simp_all)
  ·--struct
   rename_i fs hu
   rw[hu]at h
   simp only[aJ,decide_eq_true_eq,List.all_eq_true]at hp
   obtain⟨afv,eO⟩:=hp
   split at h<;>simp only[reduceCtorEq,sJ,TypeDesc.struct.injEq]at*
   ·rename_i cs _ _ fs' heq
    subst heq
    split at h
    ·rename_i hlen
     obtain⟨xs,hx,h⟩:=Option.map_eq_some_iff.1 h
     simp only[Prod.mk.injEq]at h
     obtain⟨rfl,rfl⟩:=h
     have key:∀(fl:List Field) (o:Nat) (xs:List (DataW H×List MemPlace)),(∀f∈fl,jJ P n f.type=true)->EB P o fl=some cs.length->o≤cs.length->
       (fl.mapM λf=>DataW.trod enc P w 0 sp hd m f.type ((cs.drop f.offset).take (P.cellsOf f.type)))=some xs->
       ∃l:List PV,aD Γ l (cs.drop o)∧PA (vr P n) (fl.map (·.type)) l∧kM l≤BL (xs.map (·.1)):=by
      intro fl
      induction fl with
      |
       nil=>
       intro o xs _ hl _ hx
       simp only[EB,sJ]at hl
       simp at hx;subst hx
       exact⟨[],by rw[hl];simp;exact .nil,trivial,by simp[kM]⟩
      |
       cons f fl ihf=>
       intro o xs lS hl ho hx
       simp only[EB]at hl
       split at hl
       ·rename_i FA
        obtain⟨y,r',h1,h2,rfl⟩:=qg hx
        obtain⟨y1,y2⟩:=y
        obtain⟨p,g1,g2,g3,g4⟩:=ih m f.type _ y1 y2 (lS f (by simp)) h1
        have xu:=g1.iR
        rw[g4,FA]at xu
        have AS:o+P.cellsOf f.type≤cs.length:=by
         by_cases h0:P.cellsOf f.type=0
         ·omega
         ·simp at xu;omega
        obtain⟨l,f1,f2,f3⟩:=ihf (o+P.cellsOf f.type) r' (λg hg=>lS g (by simp[hg])) hl AS h2
        refine⟨p::l,?_,⟨g2,f2⟩,?_⟩
        ·rw[FA]at g1
         have:=g1.cons f1
         rwa [←List.drop_drop,List.take_append_drop]at this
        ·simp only[kM,List.map_cons,hB.EC];omega
       ·simp at hl
     obtain⟨l,f1,f2,f3⟩:=key fs.toList 0 xs eO (by rw[afv,hlen]) (by omega) hx
     simp only[List.drop_zero]at f1
     exact⟨.st (P.cellsOf t) l,f1.st1 hlen,by rw[vr,hu];exact⟨l,rfl,f2⟩,by simp only[rz,hB.agg];omega,rfl⟩
    ·simp at h
   all_goals (rename_i h1 h2;simp_all)
  ·--array
   rename_i k e hu
   rw[hu]at h
   simp only[aJ,decide_eq_true_eq]at hp
   obtain⟨iA,XT⟩:=hp
   split at h<;>simp only[reduceCtorEq,sJ,TypeDesc.array.injEq]at*
   ·rename_i cs _ _ k' e' heq
    obtain⟨rfl,rfl⟩:=heq
    split at h
    ·rename_i hlen
     obtain⟨xs,hx,h⟩:=Option.map_eq_some_iff.1 h
     simp only[Prod.mk.injEq]at h
     obtain⟨rfl,rfl⟩:=h
     have key:∀(q i:Nat) (xs:List (DataW H×List MemPlace)),cs.length=(i+q)*P.cellsOf e->
       ((List.range' i q).mapM λi=>DataW.trod enc P w 0 sp hd m e ((cs.drop (i*P.cellsOf e)).take (P.cellsOf e)))=some xs->
       ∃l:List PV,l.length=q∧aD Γ l (cs.drop (i*P.cellsOf e))∧(∀x∈l,vr P n e x∧x.width=P.cellsOf e)∧kM l≤BL (xs.map (·.1)):=by
      intro q
      induction q with
      |
       zero=>
       intro i xs hl hx
       simp at hx;subst hx
       exact⟨[],rfl,by rw[List.drop_eq_nil_of_le (by simp at hl;omega)];exact .nil,by simp,by simp[kM]⟩
      |
       succ q ihq=>
       intro i xs hl hx
       rw[List.range'_succ]at hx
       obtain⟨y,r',h1,h2,rfl⟩:=qg hx
       obtain⟨y1,y2⟩:=y
       obtain⟨p,g1,g2,g3,g4⟩:=ih m e _ y1 y2 XT h1
       obtain⟨l,f1,f2,f3,f4⟩:=ihq (i+1) r' (by rw[hl];congr 1;omega) h2
       refine⟨p::l,by simp[f1],?_,?_,?_⟩
       ·have:=g1.cons f2
        rwa [Nat.add_mul,Nat.one_mul,←List.drop_drop,List.take_append_drop]at this
       ·intro x hx
        rcases List.mem_cons.1 hx with rfl|hx
        ·exact⟨g2,g4⟩
        ·exact f3 x hx
       ·simp only[kM,List.map_cons,hB.EC];omega
     rw[List.range_eq_range']at hx
     obtain⟨l,f1,f2,f3,f4⟩:=key k 0 xs (by rw[hlen,iA];simp) hx
     simp only[Nat.zero_mul,List.drop_zero]at f2
     refine⟨.ar (P.cellsOf e) k l,f2.Sa f1 (λx hx=>(f3 x hx).2),by rw[vr,hu];exact⟨l,rfl,f1,λx hx=>(f3 x hx).1⟩,by simp only[rz,hB.agg];omega,by rw[iA];rfl⟩
    ·simp at h
   all_goals (rename_i h1 h2;simp_all)
  ·simp at hp
end Go.Ab
namespace Go.Ab
variable [eo]
open Go.ChangeShapes
variable {P:Program} {H:Type} {enc:TypeId×Value->H} {w:World} {Γ:Cx}
theorem PC {sp:Nat->Bool}:∀(n m:Nat) (t:TypeId) (cs:List Value) (x:DataW H×List MemPlace),jJ P n t=true->
  DataW.trod enc P w 0 (λ_=>true) true m t cs=some x->(∀p∈x.2,sp p.block=true)->DataW.trod enc P w 0 sp true m t cs=some x:=by
 intro n
 induction n with
 |zero=>intro m t cs x hp;simp[jJ]at hp
 |
  succ n ih=>
  intro m t cs x hp h hs
  cases m with
  |zero=>simp[DataW.trod]at h
  |succ m=>
  rw[jJ]at hp
  unfold DataW.trod at h⊢
  split at hp
  ·rename_i hu;simp only[hu]at h⊢;split at h<;>simp_all
  ·rename_i k hu;simp only[hu]at h⊢;split at h<;>simp_all
  ·rename_i hu;simp only[hu]at h⊢;split at h<;>simp_all
  ·rename_i e hu
   simp only[aJ,decide_eq_true_eq]at hp
   obtain⟨⟨v8,kz⟩,XT⟩:=hp
   simp only[hu]at h⊢
   split at h<;>simp only[reduceCtorEq,sJ,TypeDesc.slice.injEq]at*
   ·exact h
   ·rename_i e' a len cap heq
    subst heq
    split at h
    ·rename_i hb
     rw[if_pos hb]
     simp only[if_true]at h
     obtain⟨elems,he,h⟩:=Option.bind_eq_some_iff.1 h
     obtain⟨rest,hr,h⟩:=Option.map_eq_some_iff.1 h
     subst h
     simp only at hs
     have one:∀(i:Nat) (y:DataW H×List MemPlace),y∈elems++rest->(w.cells? 0 (a.add (i*P.cellsOf e)) (P.cellsOf e)).bind (DataW.trod enc P w 0 (λ_=>true) true m e)=some y->
       (w.cells? 0 (a.add (i*P.cellsOf e)) (P.cellsOf e)).bind (DataW.trod enc P w 0 sp true m e)=some y:=by
      intro i y hy hv
      simp only[Option.bind_eq_some_iff]at hv⊢
      obtain⟨Cn,G7,hy'⟩:=hv
      refine⟨Cn,G7,ih m e Cn y XT hy' λp hp=>hs p ?_⟩
      simp only[List.mem_append,List.mem_flatMap]
      exact .inr ⟨y,by simpa using hy,hp⟩
     rw[mapM_carry he (λi y _ hy hv=>one i y (by simp[hy]) hv)]
     simp only[Option.bind_some]
     by_cases BE:sp a.block=true
     ·rw[if_pos BE,mapM_carry hr (λi y _ hy hv=>one (len+i) y (by simp[hy]) hv)]
      rfl
     ·rw[if_neg BE]
      have anq:elems.length=len:=by simpa using mapM_some_length he
      have T7:rest.length=cap-len:=by simpa using mapM_some_length hr
      have h0:elems.length+rest.length=0:=by
       rcases Nat.eq_zero_or_pos (elems.length+rest.length)with h0|h0
       ·exact h0
       ·exfalso
        apply BE
        refine hs (.cell a.block (a.off+0)) ?_
        simp only[List.mem_append]
        exact .inl (MemPlace.mem_row.2 ⟨0,Nat.mul_pos h0 kz,rfl⟩)
      have:rest=[]:=List.length_eq_zero_iff.1 (by omega)
      subst this
      rfl
    ·simp at h
   all_goals (first|exact h|simp_all)
  ·rename_i fs hu
   simp only[aJ,decide_eq_true_eq,List.all_eq_true]at hp
   obtain⟨afv,eO⟩:=hp
   simp only[hu]at h⊢
   split at h
   ·rename_i hlen
    rw[if_pos hlen]
    obtain⟨xs,hx,h⟩:=Option.map_eq_some_iff.1 h
    subst h
    rw[mapM_carry hx (λf y hf hy hv=>ih m f.type _ y (eO f hf) hv λp hp=>hs p (by simp only[List.mem_flatMap];exact⟨y,hy,hp⟩))]
    rfl
   ·simp at h
  ·rename_i k e hu
   simp only[aJ,decide_eq_true_eq]at hp
   obtain⟨iA,XT⟩:=hp
   simp only[hu]at h⊢
   split at h
   ·rename_i hlen
    rw[if_pos hlen]
    obtain⟨xs,hx,h⟩:=Option.map_eq_some_iff.1 h
    subst h
    rw[mapM_carry hx (λf y hf hy hv=>ih m e _ y XT hv λp hp=>hs p (by simp only[List.mem_flatMap];exact⟨y,hy,hp⟩))]
    rfl
   ·simp at h
  ·simp at hp
def bare (w:World):Cx:=⟨w.heap,λ_=>none,[],λ_=>False⟩
theorem Ak (w:World) (b:Nat):¬(bare w).own b:=by
 rintro(⟨k,blk,h,_⟩|h)
 ·simp[bare,get]at h
 ·exact h
theorem LZ (w:World) (ht:∀b cs,eo.uI b=some cs->∃e x,w.heap[b]? =some (.cells cs e x)):Mem (bare w) where
 blk k blk h:=by simp[bare,get]at h
 inj k k' b h:=by simp[bare,get]at h
 dU b h:=h.elim
 apart b h:=λhp=>hp
 uI b cs h:=⟨λhb=>Ak w b (.inl hb),ht b cs h⟩
variable {B:DataW H->Nat} {BL:List (DataW H)->Nat} {W W':World}
theorem PD (hB:Aj B BL) {n:Nat} {t:TypeId} {v:Value} {d:DataW H} {ps:List MemPlace} {base:Nat} {sp:Nat->Bool} (hp:jJ P n t=true) (cY:Value.okWide P W .any base t v) (hd:DataW.Trod enc P W 0 sp true t v d ps):
  ∃p,aN (bare W) p v∧vr P n t p∧rz p≤B d:=by
 obtain⟨m,hm⟩:=hd
 obtain⟨p,h1,h2,h3,h4⟩:=LY (Γ:=bare W) rfl (Ak W) hB n m t _ _ _ hp hm
 refine⟨p,?_,h2,h3⟩
 cases n with
 |zero=>simp[jJ]at hp
 |
  succ n=>
  rw[jJ]at hp
  rw[vr]at h2
  unfold Value.okWide at cY
  split at hp
  ·rename_i hu
   simp only[hu]at h2 cY
   obtain⟨b,rfl⟩:=h2
   unfold Cell.okWide Cell.ok at cY
   cases v<;>simp[hu]at cY
   exact h1
  ·rename_i k hu
   simp only[hu]at h2 cY
   obtain⟨b,rfl,_⟩:=h2
   unfold Cell.okWide Cell.ok at cY
   cases v<;>simp[hu]at cY
   exact h1
  ·rename_i hu
   simp only[hu]at h2 cY
   obtain⟨b,rfl,_⟩:=h2
   unfold Cell.okWide Cell.ok at cY
   cases v<;>simp[hu]at cY
   exact h1
  ·rename_i e hu
   simp only[hu]at h2 cY
   obtain⟨b,rfl,_⟩:=h2
   unfold Cell.okWide Cell.ok at cY
   cases v<;>simp[hu]at cY
   exact h1
  ·rename_i fs hu
   simp only[hu]at h2 cY
   obtain⟨l,rfl,_⟩:=h2
   obtain⟨cs,rfl,_⟩:=cY
   exact aN.sd h1 rfl
  ·rename_i k e hu
   simp only[hu]at h2 cY
   obtain⟨l,rfl,_⟩:=h2
   obtain⟨cs,rfl,_⟩:=cY
   exact aN.sd h1 rfl
  ·simp at hp
theorem L4 (hB:Aj B BL) {n base:Nat} {sp:Nat->Bool}:∀(ts:List TypeId) (vs:List Value) (ds:List (DataW H)) (ps:List MemPlace),ts.all (jJ P n)=true->(∀(j:Nat) t v,ts[j]? =some t->vs[j]? =some v->Value.okWide P W .any base t v)->
  DataW.TrodAll enc P W 0 sp true ts vs ds ps->∃l,gp (bare W) l vs∧PA (vr P n) ts l∧kM l≤BL ds:=by
 intro ts
 induction ts with
 |
  nil=>
  intro vs ds ps _ _ h
  cases vs<;>cases ds<;>simp[DataW.TrodAll]at h
  exact⟨[],trivial,trivial,by simp[kM]⟩
 |
  cons t ts ih=>
  intro vs ds ps hp cY h
  obtain⟨v,vs,d,ds,p,q,rfl,rfl,rfl,h1,h2⟩:=trodAll_cons h
  simp only[List.all_cons,aJ]at hp
  obtain⟨x,g1,g2,g3⟩:=PD hB hp.1 (cY 0 t v rfl rfl) h1
  obtain⟨l,f1,f2,f3⟩:=ih vs ds q hp.2 (λj t v hj hv=>cY (j+1) t v (by simpa using hj) (by simpa using hv)) h2
  exact⟨x::l,⟨g1,f1⟩,⟨g2,f2⟩,by simp only[kM,hB.EC];omega⟩
theorem yh (may:MemPlace->Prop) (h1:W'.os=W.os) (h2:W'.output=W.output) (h:∀b,b<W.heap.size->W'.heap[b]? =W.heap[b]?):W.keptBut W' may:=by
 refine⟨h1,h2,λi hi=> ?_⟩
 rw[h i hi]
 exact(World.keptBut_refl W may).2.2 i hi
theorem Bn {n:Nat} {sp:Nat->Bool} (hh:∀b,b<W.heap.size->W'.heap[b]? =W.heap[b]?):∀(ts:List TypeId) (vs:List Value) (ds:List (DataW H)) (ps:List MemPlace),ts.all (jJ P n)=true->
  (∀p∈ps,p.block<W.heap.size∧sp p.block=true)->DataW.TrodAll enc P W 0 (λ_=>true) true ts vs ds ps->DataW.TrodAll enc P W' 0 sp true ts vs ds ps:=by
 intro ts
 induction ts with
 |nil=>intro vs ds ps _ _ h;cases vs<;>cases ds<;>simp[DataW.TrodAll]at h⊢;exact h
 |
  cons t ts ih=>
  intro vs ds ps hp hs h
  obtain⟨v,vs,d,ds,p,q,rfl,rfl,rfl,⟨m,h1⟩,h2⟩:=trodAll_cons h
  simp only[List.all_cons,aJ]at hp
  refine trodAll_cons_mk ⟨m,?_⟩ (ih vs ds q hp.2 (λx hx=>hs x (by simp[hx])) h2)
  refine DataW.trod_carry m t _ _ (PC n m t _ _ hp.1 h1 (λx hx=>(hs x (by simp at hx;simp[hx])).2)) ?_
  intro x hx
  have hb:=(hs x (by simp at hx;simp[hx])).1
  cases x with
  |
   cell b off=>
   simp only[World.sameAt,World.cell?]
   rw[hh b hb]
  |map b=>exact hh b hb
theorem C1 {f:FuncId} {fn:Func} {s:ChangeSpec} {n:Nat} {tb:TypeId} {apart fresh handsOn again:Bool} {base:Nat} {args:Array Value} {ds gs:List (DataW H)} {before:List MemPlace} (hB:Aj B BL)
  (R2:fn.resultTypes= #[tb]) (htb:P.underlying tb=some .bool) (hv:s.vars=[]) (hs:∀ds:List (DataW H),ds.length=fn.params.size->(s.fn H ds).results=[.lit (.bool true)]∧(s.fn H ds).args=ds∧(s.fn H ds).vars=[])
  (hp:fn.params.toList.all (jJ P n)=true)
  (DK:∀(j:Nat) t v,fn.params[j]? =some t->args[j]? =some v->Value.okWide P W .any base t v)
  (hW:DataW.Whole enc P fn.params.toList s.vars apart W args.toList ds gs before)
  (hA:∀l,PA (vr P n) fn.params.toList l->kM l≤BL ds->a8 P f l (.bl true)) (ht:∀b cs,eo.uI b=some cs->∃e x,W.heap[b]? =some (.cells cs e x))
  (he:∀(vs:Array Value) (w:World),(callFunc f vs).run P w= .ok (.enter f vs) w):
  Calls P f args W λe W'=>∃v,e= .returned v∧s.post enc P fn apart fresh handsOn again W args v W':=by
 have hW':=hW
 obtain⟨p,q,hA0,hV,rfl,hfz,NH⟩:=hW
 rw[hv]at hV
 obtain⟨rfl,rfl⟩:=trodVars_none hV
 obtain⟨l,g1,g2,g3⟩:=L4 (n:=n) hB fn.params.toList args.toList ds p hp (λj t v hj hv=>DK j t v (by simpa using hj) (by simpa using hv)) hA0
 have hlen:ds.length=fn.params.size:=by
  have:∀(ts:List TypeId) (vs:List Value) (ds:List (DataW H)) (ps:List MemPlace),DataW.TrodAll enc P W 0 (λ_=>true) true ts vs ds ps->ds.length=ts.length:=by
   intro ts
   induction ts with
   |nil=>intro vs ds ps h;cases vs<;>cases ds<;>simp[DataW.TrodAll]at h⊢
   |cons t ts ih=>intro vs ds ps h;obtain⟨v,vs,d,ds,p,q,rfl,rfl,rfl,h1,h2⟩:=trodAll_cons h;simp[ih _ _ _ h2]
  simpa using this _ _ _ _ hA0
 obtain⟨s1,s2,s3⟩:=hs ds hlen
 have hc:=(hA l g2 g3 (bare W) W args.toList rfl (LZ W ht) rfl g1).calls (he _ _)
 rw[Array.toArray_toList]at hc
 refine Calls.mono hc ?_
 rintro e W1 ⟨v,r,rR,Γ',rfl,⟨rfl,rfl⟩,e3,e4,e5,e6,e7,e8⟩
 refine⟨v,rfl,?_⟩
 have v7:v= .bool true:=by simp only[aN]at e6;generalize v=u at e6;cases e6;rfl
 subst v7
 have sM:∀b,b<W.heap.size->W1.heap[b]? =W.heap[b]? :=by
  intro b hb
  rw[e3]
  exact e7.heap b hb (λhm=>Ak W b (.inl hm))
 have eu:∀x∈p,x.block<W.heap.size:=λx hx=>hW'.lt x (by simpa using hx)
 have Uk:∀(b:Nat) (sp:Nat->Bool) (hd:Bool),DataW.TrodAll enc P W1 b sp hd fn.resultTypes.toList ((Value.bool true).resultList fn.resultTypes.size) (s.fn H (ds++[])).results []:=by
  intro b sp hd
  rw[R2,List.append_nil,s1]
  exact trodAll_cons_mk (RowKit.shut_bool htb true) trodAll_mk0
 have NJ:∀sp:Nat->Bool,(∀x∈p++[],sp x.block=true)->DataW.TrodAll enc P W1 0 sp true fn.params.toList args.toList (s.fn H (ds++[])).args p:=by
  intro sp BE
  rw[List.append_nil,s2]
  exact Bn (n:=n) sM _ _ _ _ hp (λx hx=>⟨eu x hx,BE x (by simpa using hx)⟩) hA0
 have NK:∀sp:Nat->Bool,(∀x∈p++[],sp x.block=true)->DataW.TrodVars enc P W1 sp s.vars (s.fn H (ds++[])).vars []:=by
  intro sp _
  rw[List.append_nil,s3,hv]
  rfl
 have hold:∀x∈p++[],(λb=>decide (b<W.heap.size)) x.block=true:=λx hx=>by simpa using eu x (by simpa using hx)
 refine⟨ds,[],p++[],[],p,[],hW',Uk _ _ _,NJ _ hold,NK _ hold,yh _ e8.os e8.output sM,λ_=> ?_⟩
 refine⟨RowKit.ok_one R2 rfl (RowKit.okWide_bool_mk htb true),_,_,([]++p)++[],⟨[]++p,[],trodAll_append (NJ _ (λ_ _=>rfl)) (Uk _ _ _),NK _ (λ_ _=>rfl),rfl,?_,?_⟩,?_⟩
 ·intro b off Bb
  have qS:b<W.heap.size:=eu (.cell b off) (by simpa using Bb)
  have:W1.frozen? ⟨b,off,none⟩=W.frozen? ⟨b,off,none⟩:=by
   simp only[World.frozen?]
   rw[sM b qS]
  rw[this]
  exact hfz b off (by simpa using Bb)
 ·intro ha
  simpa using NH ha
 ·intro x hx _
  simpa using hx
end Go.Ab
namespace Go.Ab
variable [eo]
variable {P:Program}
theorem L5 (p:PV):1≤rz p:=by cases p<;>simp[rz]
theorem Jz (l:List PV):l.length≤kM l:=by
 induction l with
 |nil=>simp[kM]
 |cons p l ih=>have:=L5 p;simp only[kM,List.length_cons];omega
theorem JA {p:PV} {l:List PV} (h:p∈l):rz p≤kM l:=by
 induction l with
 |nil=>cases h
 |
  cons x l ih=>
  simp only[kM]
  rcases List.mem_cons.1 h with rfl|h
  ·omega
  ·have:=ih h;omega
theorem nR {f:TypeId->PV->Prop} {t:TypeId} {ts:List TypeId} {l:List PV} (h:PA f (t::ts) l):∃p ps,l=p::ps∧f t p∧PA f ts ps:=by
 cases l with
 |nil=>exact h.elim
 |cons p ps=>exact⟨p,ps,rfl,h.1,h.2⟩
theorem PE {f:TypeId->PV->Prop} {l:List PV} (h:PA f [] l):l=[]:=by
 cases l with
 |nil=>rfl
 |cons p ps=>exact h.elim
theorem su {t:TypeId} {k:IntKind} {n:Nat} {p:PV} (ht:P.underlying t=some (.int k)) (h:vr P (n+1) t p):∃m,p= .int k m∧k.min≤m∧m≤k.max:=by
 rw[vr,ht]at h
 obtain⟨m,rfl,hw⟩:=h
 simp only[Lit.wf,aJ,decide_eq_true_eq]at hw
 exact⟨m,rfl,hw.1,hw.2⟩
theorem B7 {α:Type} {enc:α->PV} {Q:α->Prop} {l:List PV} (h:∀x∈l,∃a,x=enc a∧Q a):∃m:List α,l=m.map enc∧∀a∈m,Q a:=by
 induction l with
 |nil=>exact⟨[],rfl,by simp⟩
 |
  cons x l ih=>
  obtain⟨a,rfl,ha⟩:=h x (by simp)
  obtain⟨m,rfl,hm⟩:=ih (λy hy=>h y (by simp[hy]))
  exact⟨a::m,rfl,by intro b hb;rcases List.mem_cons.1 hb with rfl|hb;exact ha;exact hm b hb⟩
theorem L6 {t e:TypeId} {n:Nat} {p:PV} (ht:P.underlying t=some (.slice e)) (h:vr P (n+1) t p):∃l,p= .sl (P.cellsOf e) l false∧(∀x∈l,vr P n e x∧rz x≤rz p)∧l.length≤rz p∧l.length≤maxLen:=by
 rw[vr,ht]at h
 obtain⟨l,rfl,hm,hl⟩:=h
 exact⟨l,rfl,λx hx=>⟨hl x hx,by have:=JA hx;simp only[rz];omega⟩,by have:=Jz l;simp only[rz];omega,hm⟩
theorem L7 {t e:TypeId} {n:Nat} {p:PV} (ht:P.underlying t=some (.slice e)) (he:P.underlying e=some (.int .u8)) (hc:P.cellsOf e=1) (h:vr P (n+2) t p):∃b:List UInt8,p= .sl 1 (b.map u8) false∧b.length≤rz p∧b.length≤maxLen:=by
 obtain⟨l,rfl,hl,hlen⟩:=L6 ht h
 obtain⟨b,rfl,_⟩:=B7 (enc:=u8) (Q:=λ_=>True) (l:=l) (λx hx=>by
  obtain⟨m,rfl,h1,h2⟩:=su he (hl x hx).1
  have h1':0≤m:=h1
  have h2':m≤255:=h2
  refine⟨UInt8.ofNat m.toNat,?_,trivial⟩
  simp only[u8]
  congr 1
  rw[UInt8.toNat_ofNat']
  omega)
 exact⟨b,by rw[hc],by simpa using hlen⟩
end Go.Ab

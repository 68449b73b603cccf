/- Windows, and what a full one is; places of a ring; the order of timers. No condition. -/
import Derived.Test.YtdfkcobijmbidaaGreatB7
import Derived.Test.YtdfkcobijmbidaaGreatSF1
import Derived.Test.YtdfkcobijmbidaaGreatSF2
import Derived.Test.YtdfkcobijmbidaaGreatSF3
import Derived.Test.YtdfkcobijmbidaaGreatSF4
import Derived.Test.YtdfkcobijmbidaaGreatSF5
import Derived.Test.YtdfkcobijmbidaaGreatB2
import Derived.Test.YtdfkcobijmbidaaGreatB3
import Derived.Test.YtdfkcobijmbidaaGreatA5
import Derived.Laws.Externs
set_option maxRecDepth 10000
set_option linter.all false
noncomputable section S1s
namespace Go.Ab
open Go.Ab
def Pq (w:oM) (k:Nat):Int:=if k=0 then w.w0 else if k=1 then w.w1 else if k=2 then w.w2 else w.w3
def DE (n:Int):Prop:=0≤n∧n≤18446744073709551615
def ou (w:oM) (c:Int):Bool:= !w.used||decide (w.top<c)||(decide (w.top.tdiv 64-c.tdiv 64≤3)&&decide (bits .and .u64 ((Pq w ((c.tdiv 64).tmod 4).toNat).fdiv (2^min (c.tmod 64).toNat 64)) 1=0))
theorem I5 (w:oM) {k:Nat} (h:k<4):([PV.int .u64 w.w0,.int .u64 w.w1,.int .u64 w.w2,.int .u64 w.w3]:List PV)[k]? =some (.int .u64 (Pq w k)):=by
 rcases(by omega:k=0∨k=1∨k=2∨k=3)with rfl|rfl|rfl|rfl<;>simp[Pq]
theorem NS {w:oM} {c:Int} (ht:DE w.top) (hc:DE c):bI Pg I.aO [wP w,.int .u64 c] (.bl (ou w c)):=by
 refine ah.intro T.aO (by simp[F.aO]) ?_
 obtain⟨t0,t1⟩:=ht
 obtain⟨c0,c1⟩:=hc
 have q1:c.tdiv 64=c/64:=Int.tdiv_eq_ediv_of_nonneg c0
 have q2:w.top.tdiv 64=w.top/64:=Int.tdiv_eq_ediv_of_nonneg t0
 have q3:c.tmod 64=c%64:=Int.tmod_eq_emod_of_nonneg c0
 have q4:(c.tdiv 64).tmod 4=c/64%4:=by rw[q1];exact Int.tmod_eq_emod_of_nonneg (by omega)
 by_cases hu:w.used=true
 ·by_cases D3:w.top<c
  ·simp[F.aO,au,aG,wP,hu,D3,av]
   refine aL.plain [] ?_
   simp[ou,hu,D3]
  ·have w1:IntKind.u64.wrap (c.tdiv 64)=c.tdiv 64:=by rw[q1];exact wrap_u64 (by omega)
   have w2:IntKind.u64.wrap (w.top.tdiv 64)=w.top.tdiv 64:=by rw[q2];exact wrap_u64 (by omega)
   have w3:IntKind.u64.wrap (w.top.tdiv 64-c.tdiv 64)=w.top.tdiv 64-c.tdiv 64:=by rw[q1,q2];exact wrap_u64 (by omega)
   have hf:∀x,ou w c=x↔(decide (w.top.tdiv 64-c.tdiv 64≤3)&&decide (bits .and .u64 ((Pq w ((c.tdiv 64).tmod 4).toNat).fdiv (2^min (c.tmod 64).toNat 64)) 1=0))=x:=by
    intro x;simp[ou,hu,D3]
   have k0:0≤(c.tdiv 64).tmod 4:=by rw[q4];omega
   have k4:(c.tdiv 64).tmod 4<4:=by rw[q4];omega
   have m0:0≤c.tmod 64:=by rw[q3];omega
   have hw:=I5 w (k:=((c.tdiv 64).tmod 4).toNat) (by omega)
   have hL4:([PV.int .u64 w.w0,.int .u64 w.w1,.int .u64 w.w2,.int .u64 w.w3]:List PV).length=4:=rfl
   simp only[wP,hu]
   generalize ([PV.int .u64 w.w0,.int .u64 w.w1,.int .u64 w.w2,.int .u64 w.w3]:List PV)=L at*
   generalize ou w c=X at*
   generalize hp:c.tdiv 64=p at*
   generalize hq:w.top.tdiv 64=q at*
   generalize hk:p.tmod 4=k at*
   generalize hm:c.tmod 64=m at*
   generalize Pq w k.toNat=y at*
   by_cases hd:q-p≤3
   ·simp[F.aO,au,aG,D3,av,hp,hq,hk,hm,w1,w2,w3,k0,k4,m0,hw,hd]
    refine aL.plain [] ?_
    simp
    exact((hf _).2 (by simp[hd];rfl)).symm
   ·simp[F.aO,au,aG,D3,av,hp,hq,w1,w2,w3,hd]
    refine aL.plain [] ?_
    simp
    exact(hf _).2 (by simp[hd])
 ·simp[F.aO,au,aG,wP,hu,av]
  refine aL.plain [] ?_
  simp[ou,hu]
theorem FH {w:oM} {c:Int} (ht:DE w.top) (hc:DE c):bI Pg I.nK [wP w,.int .u64 c] (.bl (ou w c)):=by
 refine ah.intro T.Vl (by simp[F.Vl]) ?_
 obtain⟨t0,t1⟩:=ht
 obtain⟨c0,c1⟩:=hc
 have q1:c.tdiv 64=c/64:=Int.tdiv_eq_ediv_of_nonneg c0
 have q2:w.top.tdiv 64=w.top/64:=Int.tdiv_eq_ediv_of_nonneg t0
 have q3:c.tmod 64=c%64:=Int.tmod_eq_emod_of_nonneg c0
 have q4:(c.tdiv 64).tmod 4=c/64%4:=by rw[q1];exact Int.tmod_eq_emod_of_nonneg (by omega)
 by_cases hu:w.used=true
 ·by_cases D3:w.top<c
  ·simp[F.Vl,au,aG,wP,hu,D3,av]
   refine aL.plain [] ?_
   simp[ou,hu,D3]
  ·have w1:IntKind.u64.wrap (c.tdiv 64)=c.tdiv 64:=by rw[q1];exact wrap_u64 (by omega)
   have w2:IntKind.u64.wrap (w.top.tdiv 64)=w.top.tdiv 64:=by rw[q2];exact wrap_u64 (by omega)
   have w3:IntKind.u64.wrap (w.top.tdiv 64-c.tdiv 64)=w.top.tdiv 64-c.tdiv 64:=by rw[q1,q2];exact wrap_u64 (by omega)
   have hf:∀x,ou w c=x↔(decide (w.top.tdiv 64-c.tdiv 64≤3)&&decide (bits .and .u64 ((Pq w ((c.tdiv 64).tmod 4).toNat).fdiv (2^min (c.tmod 64).toNat 64)) 1=0))=x:=by
    intro x;simp[ou,hu,D3]
   have k0:0≤(c.tdiv 64).tmod 4:=by rw[q4];omega
   have k4:(c.tdiv 64).tmod 4<4:=by rw[q4];omega
   have m0:0≤c.tmod 64:=by rw[q3];omega
   have hw:=I5 w (k:=((c.tdiv 64).tmod 4).toNat) (by omega)
   have hL4:([PV.int .u64 w.w0,.int .u64 w.w1,.int .u64 w.w2,.int .u64 w.w3]:List PV).length=4:=rfl
   simp only[wP,hu]
   generalize ([PV.int .u64 w.w0,.int .u64 w.w1,.int .u64 w.w2,.int .u64 w.w3]:List PV)=L at*
   generalize ou w c=X at*
   generalize hp:c.tdiv 64=p at*
   generalize hq:w.top.tdiv 64=q at*
   generalize hk:p.tmod 4=k at*
   generalize hm:c.tmod 64=m at*
   generalize Pq w k.toNat=y at*
   by_cases hd:q-p<4
   ·simp[F.Vl,au,aG,D3,av,hp,hq,hk,hm,w1,w2,w3,k0,k4,m0,hw,hd]
    refine aL.plain [] ?_
    simp
    exact((hf _).2 (by simp[show q-p≤3 by omega];rfl)).symm
   ·simp[F.Vl,au,aG,D3,av,hp,hq,w1,w2,w3,hd]
    refine aL.plain [] ?_
    simp
    exact(hf _).2 (by simp[show¬q-p≤3 by omega])
 ·simp[F.Vl,au,aG,wP,hu,av]
  refine aL.plain [] ?_
  simp[ou,hu]
end Go.Ab
end S1s
noncomputable section S2s
namespace Go.Ab
open Go.Ab
def qb:Int:=18446744073709551615
def xw (t:Int):Int:=qb.fdiv (2^min (63-t.tmod 64).toNat 64)
def sE (t:Int):Nat:=((t.tdiv 64).tmod 4).toNat
def jM (w:oM):oM:=if w.used=true then⟨true,w.top,if sE w.top=0 then xw w.top else qb,if sE w.top=1 then xw w.top else qb,if sE w.top=2 then xw w.top else qb,if sE w.top=3 then xw w.top else qb⟩else w
theorem zfs {L:List PV} (hL:L.length=4) (hw:∀x∈L,x.width=1):∃Z:Nat->List PV,Z 0=L∧Z 4=List.replicate 4 (.int .u64 qb)∧(∀i,i<4->(Z i).set i (.int .u64 qb)=Z (i+1))∧(∀i,i≤4->(Z i).length=4)∧(∀i,∀x∈Z i,x.width=1):=by
 refine⟨λi=>List.replicate i (.int .u64 qb)++L.drop i,by simp,?_,?_,?_,?_⟩
 ·show List.replicate 4 _++List.drop 4 L=_
  rw[List.drop_eq_nil_of_le (by omega),List.append_nil]
 ·intro i hi
  have e:=List.drop_eq_getElem_cons (l:=L) (i:=i) (by omega)
  show(List.replicate i _++List.drop i L).set i _=_
  rw[List.set_append_right _ _ (by simp),e]
  generalize L[i]=y
  simp[List.replicate_succ']
 ·intro i hi;simp;omega
 ·intro i x hx
  rcases List.mem_append.1 hx with h|h
  ·rw[List.eq_of_mem_replicate h];rfl
  ·exact hw x (List.mem_of_mem_drop h)
theorem I6 {t:Int} (h:DE t):sE t<4∧0≤(t.tdiv 64).tmod 4∧(t.tdiv 64).tmod 4<4:=by
 obtain⟨h0,h1⟩:=h
 have q1:t.tdiv 64=t/64:=Int.tdiv_eq_ediv_of_nonneg h0
 have q2:(t/64).tmod 4=t/64%4:=Int.tmod_eq_emod_of_nonneg (by omega)
 unfold sE
 rw[q1,q2]
 omega
theorem Yx (w:oM) (hu:w.used=true) (h:DE w.top):PV.st 6 [.bl true,.int .u64 w.top,.ar 1 4 ((List.replicate 4 (.int .u64 qb)).set (sE w.top) (.int .u64 (xw w.top)))]=wP (jM w):=by
 have hk:=(I6 h).1
 simp only[wP,jM,hu,if_true]
 rcases(by omega:sE w.top=0∨sE w.top=1∨sE w.top=2∨sE w.top=3)with e|e|e|e<;>simp[e,List.replicate]
theorem akx {w:oM} (h:DE w.top):bI Pg I.oQ [wP w] (wP (jM w)):=by
 refine ah.intro T.Cw (by simp[F.Cw]) ?_
 by_cases hu:w.used=true
 ·obtain⟨hk,k0,k4⟩:=I6 h
  have VJ:=Yx w hu h
  obtain⟨h0,h1⟩:=h
  have q1:w.top.tdiv 64=w.top/64:=Int.tdiv_eq_ediv_of_nonneg h0
  have q3:w.top.tmod 64=w.top%64:=Int.tmod_eq_emod_of_nonneg h0
  have w2:IntKind.u64.wrap (w.top.tdiv 64)=w.top.tdiv 64:=by rw[q1];exact wrap_u64 (by omega)
  have w3:IntKind.u64.wrap (63-w.top.tmod 64)=63-w.top.tmod 64:=by rw[q3];exact wrap_u64 (by omega)
  have m0:0≤63-w.top.tmod 64:=by rw[q3];omega
  have hw:wP w= .st 6 [.bl true,.int .u64 w.top,.ar 1 4 [.int .u64 w.w0,.int .u64 w.w1,.int .u64 w.w2,.int .u64 w.w3]]:=by rw[wP,hu]
  have hL4:([PV.int .u64 w.w0,.int .u64 w.w1,.int .u64 w.w2,.int .u64 w.w3]:List PV).length=4:=rfl
  have hLw:∀x∈([PV.int .u64 w.w0,.int .u64 w.w1,.int .u64 w.w2,.int .u64 w.w3]:List PV),x.width=1:=by
   intro x hx
   simp at hx
   rcases hx with rfl|rfl|rfl|rfl<;>rfl
  rw[hw]
  have BE:Pure (wP (jM w)):=by simp[wP]
  generalize hX:wP (jM w)=X at VJ BE
  generalize ([PV.int .u64 w.w0,.int .u64 w.w1,.int .u64 w.w2,.int .u64 w.w3]:List PV)=L at*
  obtain⟨Z,z0,z4,zs,zl,zw⟩:=zfs hL4 hLw
  simp[F.Cw,au,aG]
  refine jx.kl 4 (λ_=>True) [1,2,8] (λi=>[(8,.int .i64 i)]) (λi=>[(1,.box (.st 6 [.bl true,.int .u64 w.top,.ar 1 4 (Z i)]))]) [.keep [1,2,8]] ?_
  have ho:(PV.int IntKind.u64 18446744073709551615)= .int .u64 qb:=rfl
  simp[z0]
  refine⟨λi hi K hK=> ?_,λK=> ?_⟩
  ·have hw:IntKind.i64.wrap ((i:Int)+1)=(i:Int)+1:=wrap_i64 (by omega)
   have lE:(i:Int)<4:=by omega
   have hse:=zs i hi
   have hlen:=zl i (by omega)
   have Py:=zw i
   generalize Z i=Y at*
   generalize Z (i+1)=Y2 at*
   have hzi:Y[i].width=1:=Py _ (List.getElem_mem (by omega))
   simp[↓aA,hi,lE,hw,ho,hse,hlen,hzi]
   refine⟨[.keep [1,2,8]],?_⟩
   simp
   exact hK _ (by simp)
  ·have hlen:=zl 4 (by omega)
   have Py:=zw 4
   rw[←z4]at VJ
   generalize Z 4=Y at*
   unfold xw sE at VJ
   unfold sE at hk
   generalize hq:w.top.tdiv 64=q at*
   generalize hkk:q.tmod 4=k at*
   generalize hm:w.top.tmod 64=m at*
   have CF:k.toNat<Y.length:=by omega
   have hzi:Y[k.toNat].width=1:=Py _ (List.getElem_mem CF)
   have m1:m≤63:=by omega
   simp[↓aA,hlen,hq,hkk,hm,w2,w3,k0,k4,m1,ho,hzi]
   refine aL.plain [] ?_
   simp
   have e:IntKind.u64.bits=64:=rfl
   rw[e]
   rw[←VJ]at BE
   simp at BE
   exact⟨BE,VJ⟩
 ·simp[F.Cw,au,aG,wP,hu]
  refine aL.plain [] ?_
  simp[jM,hu]
end Go.Ab
end S2s
noncomputable section S3s
namespace Go.Ab
open Go.Ab
section
variable {P:Program} {s:St}
theorem al.xV {d:Option Nat} {f:FuncId} {args fQ:List PV} {v v' r r':PV} {K:St->Prop} {t:Tg K} (k:Nat) (hb:get s.bx k=some (.box v)) (hA:ah P f fQ [.box v] (λx fp=>x=r∧fp=[.box v']))
  (A2:ae (bg [k]) args=true) (ha:aK (aT [k]) args=fQ) (hv:Pure v) (Vu:Pure v') (hr:ab (fR 1) r=true) (hr':aF (eO [k]) r=r')
  (h:K ({s with bx:=put s.bx k (.box v')}.put d r')):al P s d f args K t:=by
 refine⟨[k],[],[.box v],(λx fp=>x=r∧fp=[.box v']),by simp[getAll,hb],by simp,by simp,A2,by simp[af,hv.refs],?_,?_⟩
 ·rw[ha];simp only[List.map_cons,List.map_nil,a0,hv.aF];exact hA
 ·rintro x fp ⟨rfl,rfl⟩
  refine⟨⟨rfl,hr,by simp[af,Vu.refs]⟩,?_⟩
  simpa[bC,a0,Vu.aF,hr']using h
end
theorem AH:zr 3 PV.nf=[.nf,.nf,.nf]:=by rw[gC];rfl
@[simp] theorem aky (f:Fn) (a b:List PV):(PV.fn f a b).width=1:=rfl
@[simp] theorem akz:PV.nf.width=1:=rfl
theorem cR (r:lB):ah Pg I.cR [.pt KB [] 0] [.box (.st 231 [fh r])] (λx fp=>x= .pt KB [.f 0 0,.f 0 0] 0∧fp=[.box (.st 231 [fh r])]):=by
 refine ah.intro T.cR (by simp[F.cR]) ?_
 simp[F.cR,au,aG,fh]
 refine aL.with [] [KB] ?_
 simp[eD]
theorem da (r:lB):ah Pg I.da [.pt KB [] 0] [.box (.st 231 [fh r])] (λx fp=>x= .pt KB [.f 0 0,.f 1 77] 0∧fp=[.box (.st 231 [fh r])]):=by
 refine ah.intro T.da (by simp[F.da]) ?_
 simp[F.da,au,aG,fh]
 refine aL.with [] [KB] ?_
 simp[eD]
theorem eG (r:lB):ah Pg I.eG [.pt KB [] 0] [.box (.st 231 [fh r])] (λx fp=>x= .pt KB [.f 0 0,.f 2 154] 0∧fp=[.box (.st 231 [fh r])]):=by
 refine ah.intro T.eG (by simp[F.eG]) ?_
 simp[F.eG,au,aG,fh]
 refine aL.with [] [KB] ?_
 simp[eD]
def mO (k:Nat):PV:= .ar 1 3 [.fn (.func I.cR) [.pt k [] 0] [],.fn (.func I.da) [.pt k [] 0] [],.fn (.func I.eG) [.pt k [] 0] []]
theorem cq (r:lB):ah Pg I.cq [.pt KB [] 0] [.box (.st 231 [fh r])] (λx fp=>x=mO KB∧fp=[.box (.st 231 [fh r])]):=by
 refine ah.intro T.cq (by simp[F.cq]) ?_
 simp[F.cq,au,aG,AH,show¬KB=2 by decide]
 refine aL.with [] [KB] ?_
 simp[eD,mO,show¬2=KB by decide,ab,ae,af,aF,aK,a0]
theorem KD (r:lB):bI Pg I.fN [fh r,.int .i64 1] (iy (lf r 1)):=by
 refine ah.intro T.fN (by simp[F.fN]) ?_
 simp[F.fN,au,aG]
 refine al.xV 9 (by simp) (cq r) (by simp) (by simp) (by simp) (by simp) (by simp[mO,ab,ae,fR]) (r':=mO 9) (by simp[mO,aF,aK,eO]) ?_
 simp[mO,AH]
 refine al.xV 9 (by simp) (cR r) (by simp) (by simp) (by simp) (by simp) (by simp[ab,fR]) (r':= .pt 9 [.f 0 0,.f 0 0] 0) (by simp[aF,eO]) ?_
 simp[fh]
 refine aL.plain [] ?_
 simp[lf]
theorem KE (r:lB):bI Pg I.fN [fh r,.int .i64 2] (iy (lf r 2)):=by
 refine ah.intro T.fN (by simp[F.fN]) ?_
 simp[F.fN,au,aG]
 refine al.xV 9 (by simp) (cq r) (by simp) (by simp) (by simp) (by simp) (by simp[mO,ab,ae,fR]) (r':=mO 9) (by simp[mO,aF,aK,eO]) ?_
 simp[mO,AH]
 refine al.xV 9 (by simp) (da r) (by simp) (by simp) (by simp) (by simp) (by simp[ab,fR]) (r':= .pt 9 [.f 0 0,.f 1 77] 0) (by simp[aF,eO]) ?_
 simp[fh]
 refine aL.plain [] ?_
 simp[lf]
theorem KF (r:lB):bI Pg I.fN [fh r,.int .i64 3] (iy (lf r 3)):=by
 refine ah.intro T.fN (by simp[F.fN]) ?_
 simp[F.fN,au,aG]
 refine al.xV 9 (by simp) (cq r) (by simp) (by simp) (by simp) (by simp) (by simp[mO,ab,ae,fR]) (r':=mO 9) (by simp[mO,aF,aK,eO]) ?_
 simp[mO,AH]
 refine al.xV 9 (by simp) (eG r) (by simp) (by simp) (by simp) (by simp) (by simp[ab,fR]) (r':= .pt 9 [.f 0 0,.f 2 154] 0) (by simp[aF,eO]) ?_
 simp[fh]
 refine aL.plain [] ?_
 simp[lf]
theorem KG (r:lB) (x:jt):bI Pg I.fO [fh r,.int .i64 1,eX x] (fh (Bp r 1 x)):=by
 refine ah.intro T.fO (by simp[F.fO]) ?_
 simp[F.fO,au,aG]
 refine al.xV 11 (by simp) (cq r) (by simp) (by simp) (by simp) (by simp) (by simp[mO,ab,ae,fR]) (r':=mO 11) (by simp[mO,aF,aK,eO]) ?_
 simp[mO,AH]
 refine nj.run [11] rfl ?_
 simp
 refine al.xV 11 (by simp) (cR r) (by simp) (by simp) (by simp) (by simp) (by simp[ab,fR]) (r':= .pt 11 [.f 0 0,.f 0 0] 0) (by simp[aF,eO]) ?_
 simp[fh]
 refine aL.plain [] ?_
 simp[Bp]
 rfl
theorem KH (r:lB) (x:jt):bI Pg I.fO [fh r,.int .i64 2,eX x] (fh (Bp r 2 x)):=by
 refine ah.intro T.fO (by simp[F.fO]) ?_
 simp[F.fO,au,aG]
 refine al.xV 11 (by simp) (cq r) (by simp) (by simp) (by simp) (by simp) (by simp[mO,ab,ae,fR]) (r':=mO 11) (by simp[mO,aF,aK,eO]) ?_
 simp[mO,AH]
 refine nj.run [11] rfl ?_
 simp
 refine al.xV 11 (by simp) (da r) (by simp) (by simp) (by simp) (by simp) (by simp[ab,fR]) (r':= .pt 11 [.f 0 0,.f 1 77] 0) (by simp[aF,eO]) ?_
 simp[fh]
 refine aL.plain [] ?_
 simp[Bp]
 rfl
theorem KI (r:lB) (x:jt):bI Pg I.fO [fh r,.int .i64 3,eX x] (fh (Bp r 3 x)):=by
 refine ah.intro T.fO (by simp[F.fO]) ?_
 simp[F.fO,au,aG]
 refine al.xV 11 (by simp) (cq r) (by simp) (by simp) (by simp) (by simp) (by simp[mO,ab,ae,fR]) (r':=mO 11) (by simp[mO,aF,aK,eO]) ?_
 simp[mO,AH]
 refine nj.run [11] rfl ?_
 simp
 refine al.xV 11 (by simp) (eG r) (by simp) (by simp) (by simp) (by simp) (by simp[ab,fR]) (r':= .pt 11 [.f 0 0,.f 2 154] 0) (by simp[aF,eO]) ?_
 simp[fh]
 refine aL.plain [] ?_
 simp[Bp]
 rfl
theorem fN (r:lB) {k:Nat} (h:k=1∨k=2∨k=3):bI Pg I.fN [fh r,.int .i64 k] (iy (lf r k)):=by
 rcases h with rfl|rfl|rfl
 ·exact KD r
 ·exact KE r
 ·exact KF r
theorem fO (r:lB) {k:Nat} (h:k=1∨k=2∨k=3) (x:jt):bI Pg I.fO [fh r,.int .i64 k,eX x] (fh (Bp r k x)):=by
 rcases h with rfl|rfl|rfl
 ·exact KG r x
 ·exact KH r x
 ·exact KI r x
end Go.Ab
end S3s
noncomputable section S4s
namespace Go.Ab
open Go.Ab
theorem Yy {w:World} {b o:Nat} {v:Value} (h:cell w.heap b o=some v):w.cell? ⟨b,o,none⟩=some v:=by rw[cell?_eq];exact h
theorem Cy (P:Program) (w:World):∀(l:List UInt8) (b o:Nat) (acc:ByteArray),(∀i x,l[i]? =some x->w.cell? ⟨b,o+i,none⟩=some (.int .u8 (x.toNat:Int)))->
  (Go.Extern.Bytes.loadBytes ⟨b,o,none⟩ l.length acc).run P w= .ok ⟨(acc.data.toList++l).toArray⟩ w
 |[],b,o,acc,h=>by simp[Go.Extern.Bytes.loadBytes]
 |
  x::l,b,o,acc,h=>by
  have h0:=h 0 x rfl
  simp only[Nat.add_zero]at h0
  have ih:=Cy P w l b (o+1) (acc.push x) (λi y hi=>by
   have:=h (i+1) y (by simpa using hi)
   rwa [show o+1+i=o+(i+1) by omega])
  have e:(Addr.add ⟨b,o,none⟩ 1)=(⟨b,o+1,none⟩:Addr):=rfl
  have hx:((x.toNat:Int)).toNat.toUInt8=x:=by simp
  simp only[List.length_cons,Go.Extern.Bytes.loadBytes,bJ,run_load,h0,rJ,e,hx]
  rw[ih]
  simp
def HC (a b:List UInt8):Int:=Go.Extern.BytealgCompare.cmp ⟨a.toArray⟩ ⟨b.toArray⟩
theorem xx {Γ:Cx}:∀ {xs:List UInt8} {cs:List Value},aD Γ (xs.map u8) cs->cs=xs.map (λx=>Value.int .u8 (x.toNat:Int))
 |[],cs,h=>by cases h;rfl
 |
  x::xs,cs,h=>by
  simp only[List.map_cons,u8]at h
  cases h with
  |int k n hr=>rw[xx hr];rfl
theorem xy {Γ:Cx} {w:World} (hw:w.heap=Γ.heap) {xs:List UInt8} {c:Bool} {v:Value} (h:aN Γ (.sl 1 (xs.map u8) c) v):(Go.Extern.Bytes.bytesOf v).run Pg w= .ok ⟨xs.toArray⟩ w:=by
 simp only[aN]at h
 cases h with
 |
  sl sz l clip a bu g1 g2 g3 g4 g5 g6=>
  cases a with
  |
   none=>
   have:xs=[]:=by
    by_cases hx:xs=[]
    ·exact hx
    ·obtain⟨b,o,e,_⟩:=g5 (by simpa using hx)
     simp at e
   subst this
   rfl
  |
   some ad=>
   by_cases hx:xs=[]
   ·subst hx;rfl
   ·obtain⟨b,o,e,q1,q2,q3⟩:=g5 (by simpa using hx)
    obtain rfl:ad=⟨b,o,none⟩:=by simpa using e
    have A8:=xx g1
    have:=Cy Pg w xs b o .empty (λi x hi=>Yy (by rw[hw];exact q3 i _ (by rw[A8];simp[hi])))
    simp only[List.length_map,Go.Extern.Bytes.bytesOf]
    rw[this]
    rfl
theorem Yz (l:List UInt8) (i:Nat):(⟨l.toArray⟩:ByteArray)[i]! =l[i]! :=by
 by_cases h:i<l.length
 ·have h2:i<(⟨l.toArray⟩:ByteArray).size:=h
  rw[getElem!_pos (⟨l.toArray⟩:ByteArray) i h2,getElem!_pos l i h];rfl
 ·have h2:¬i<(⟨l.toArray⟩:ByteArray).size:=h
  rw[getElem!_neg (⟨l.toArray⟩:ByteArray) i h2,getElem!_neg l i h]
def Bw:List UInt8->List UInt8->Int
 |x::a,y::b=>if x=y then Bw a b else if x<y then-1 else 1
 |[],_::_=> -1
 |_::_,[]=>1
 |[],[]=>0
def N9 (a b:List UInt8):Int:=
 match (List.range (min a.length b.length)).find? λi=>a[i]! !=b[i]! with
 |some i=>if a[i]! <b[i]! then-1 else 1
 |none=>if a.length<b.length then-1 else if a.length>b.length then 1 else 0
theorem I7:∀a b:List UInt8,N9 a b=Bw a b
 |[],[]=>rfl
 |[],y::b=>by simp[N9,Bw]
 |x::a,[]=>by simp[N9,Bw]
 |
  x::a,y::b=>by
  have ih:=I7 a b
  unfold N9 at ih⊢
  have e:min (x::a).length (y::b).length=min a.length b.length+1:=by simp only[List.length_cons];omega
  rw[e,List.range_succ_eq_map,List.find?_cons]
  by_cases KU:x=y
  ·subst KU
   simp only[Bw,if_true]
   rw[←ih]
   have h0:((x::a)[0]! !=(x::b)[0]!)=false:=by simp
   rw[h0]
   simp only[List.find?_map]
   have e2:((λi=>(x::a)[i]! !=(x::b)[i]!)∘Nat.succ)=λi=>a[i]! !=b[i]! :=by
    funext i;simp
   rw[e2]
   cases (List.range (min a.length b.length)).find? (λi=>a[i]! !=b[i]!)with
   |none=>simp
   |some i=>simp
  ·have h0:((x::a)[0]! !=(y::b)[0]!)=true:=by simpa using KU
   rw[h0]
   simp[Bw,KU]
theorem Sb (a b:List UInt8):HC a b=Bw a b:=by
 rw[←I7]
 unfold HC Go.Extern.BytealgCompare.cmp N9
 simp only[Yz]
 rfl
theorem I8:∀a b:List UInt8,a.length=b.length->Bw a b=if a=b then 0 else if Op.bytesLess a b=true then-1 else 1
 |[],[],_=>rfl
 |[],_::_,h=>by simp at h
 |_::_,[],h=>by simp at h
 |
  x::a,y::b,h=>by
  have ih:=I8 a b (by simpa using h)
  by_cases KU:x=y
  ·subst KU
   have fZ:¬x<x:=UInt8.lt_irrefl x
   simp only[Bw,if_true,ih,Op.bytesLess,List.cons.injEq,true_and]
   simp[fZ]
  ·have:¬(x::a=y::b):=λe=>KU (by cases e;rfl)
   simp only[Bw,if_neg KU,if_neg this,Op.bytesLess]
   have hb:(x==y)=false:=by simpa using KU
   simp[hb]
theorem atW (a b:Key):HC a.l b.l=if a=b then 0 else if RL a b=true then-1 else 1:=by
 rw[Sb,I8 _ _ (by rw[a.h,b.h])]
 by_cases h:a=b
 ·subst h;simp
 ·have:¬a.l=b.l:=λe=>h (Key.ext' e)
  rw[if_neg h,if_neg this];rfl
theorem Oa (a b:List UInt8) (c d:Bool):bI Pg I.mX [.sl 1 (a.map u8) c,.sl 1 (b.map u8) d] (.int .i64 (HC a b)):=by
 intro Γ w vs hw hm lY hA
 match vs,hA with
 |
  [v,v2],ha=>
  obtain⟨h1,h2,_⟩:=ha
  refine .inr ⟨.int .i64 (HC a b),w,?_,_,_,[],Γ,rfl,⟨rfl,rfl⟩,hw,hm,lY,dU,Le.refl Γ,WF.refl w⟩
  rw[run_callFunc_extern (fn:=(Pg.funcs[I.mX]?).getD default) (by kernel_rfl) (by kernel_rfl) (by kernel_rfl) (by kernel_rfl) (e:=Go.Extern.BytealgCompare.compare) (by kernel_rfl)]
  have e:Go.Extern.BytealgCompare.compare [v,v2].toArray=(do Pure.pure (goInt (Go.Extern.BytealgCompare.cmp (←Go.Extern.Bytes.bytesOf v) (←Go.Extern.Bytes.bytesOf v2)))):=rfl
  rw[e]
  simp only[bJ,xy hw h1,xy hw h2,rJ]
  rfl
theorem Compare (a b:List UInt8) (c d:Bool):bI Pg I.gf [.sl 1 (a.map u8) c,.sl 1 (b.map u8) d] (.int .i64 (HC a b)):=by
 refine ah.intro T.gf (by simp[F.gf]) ?_
 have pa:∀l:List UInt8,aB (l.map u8):=λl=>bZ (λx=>by simp[u8]) l
 simp[F.gf,au,aG]
 refine al.ret (Oa a b false false) (by simp) (by simp[pa]) (by simp) ?_
 simp
 refine aL.plain [] ?_
 simp
theorem Sc {va vb:PV} {pa pb:List Step} {la lb:List UInt8} {n:Nat} (ha:aQ va pa=some (.ar 1 n (la.map u8))) (hb:aQ vb pb=some (.ar 1 n (lb.map u8))) (ea:la.length=n) (eb:lb.length=n):
  ah Pg I.gf [.rs KB pa 0 n 0 1 .clip,.rs (KB+1) pb 0 n 0 1 .clip] [.box va,.box vb] (λr fp=>r= .int .i64 (HC la lb)∧fp=[.box va,.box vb]):=by
 have ta:(la.map u8).take n=la.map u8:=tJ (by simp[ea])
 have tb:(lb.map u8).take n=lb.map u8:=tJ (by simp[eb])
 have h:=ah.view (args:=[.rs KB pa 0 n 0 1 .clip,.rs (KB+1) pb 0 n 0 1 .clip]) (fp:=[.box va,.box vb]) (Compare la lb false false)
  ⟨.inl (.inr ⟨KB,pa,0,n,0,1,.clip,la.map u8,rfl,by simp[get,aG,ha,ta],(bZ (λx=>by simp[u8]) la).refs _,by omega,rfl⟩),
   .inl (.inr ⟨KB+1,pb,0,n,0,1,.clip,lb.map u8,rfl,by simp[get,aG,hb,tb],(bZ (λx=>by simp[u8]) lb).refs _,by omega,rfl⟩),trivial⟩ (λr new e=>by
  obtain⟨rfl,rfl⟩:=e
  exact⟨rfl,rfl⟩)
 refine h.mono ?_
 rintro r kP ⟨r0,new,⟨rfl,rfl⟩,rfl,rfl⟩
 exact⟨by simp[aF],by simp⟩
theorem wof (t:fS) (k:Key) (n:Int):bI Pg I.fo [.st 34 [bY t],ey k,.int .i64 n] (.bl (!rG k n t)):=by
 refine ah.intro T.fo (by simp[F.fo]) ?_
 by_cases h1:t.peer=k
 ·by_cases h2:t.kind=n
  ·simp[F.fo,au,aG,h1,h2]
   refine aL.plain [] ?_
   simp[rG,h1,h2]
  ·simp[F.fo,au,aG,h1,h2]
   refine aL.plain [] ?_
   simp[rG,h1,h2]
 ·simp[F.fo,au,aG,xt,h1]
  refine aL.plain [] ?_
  simp[rG,h1]
theorem Sd (a b:fS):bI Pg I.ew [.st 34 [bY a],.st 34 [bY b]] (.bl (iI a b)):=by
 refine ah.intro T.ew (by simp[F.ew]) ?_
 have g1:aQ (.st 34 [bY a]) [.f 0 0,.f 1 1]=some (.ar 1 32 (a.peer.l.map u8)):=by simp[ey]
 have g2:aQ (.st 34 [bY b]) [.f 0 0,.f 1 1]=some (.ar 1 32 (b.peer.l.map u8)):=by simp[ey]
 have hv:=Sc g1 g2 a.peer.h b.peer.h
 have p1:Pure (.st 34 [bY a]):=by simp
 have p2:Pure (.st 34 [bY b]):=by simp
 rw[atW]at hv
 by_cases h1:a.at_=b.at_
 ·simp[F.ew,au,aG,h1]
  refine al.gen [2,3] [] [.box (.st 34 [bY a]),.box (.st 34 [bY b])] hv (by simp[getAll]) (by simp) (by simp) (by simp[ae,ab,bg,idx]) (by simp[af]) (by simp[aK,aF,aT,idx]) (by simp[a0]) (by simp[af,ab]) ?_
  simp[bC,a0,aF]
  by_cases h2:a.peer=b.peer
  ·simp[h2]
   refine aL.plain [] ?_
   simp[iI,h1,h2]
  ·by_cases h3:RL a.peer b.peer=true
   ·simp[h2,h3]
    refine aL.plain [] ?_
    simp[iI,h1,h2,h3]
   ·simp[h2,h3]
    refine aL.plain [] ?_
    simp[iI,h1,h2,h3]
 ·simp[F.ew,au,aG,h1]
  refine aL.plain [] ?_
  simp[iI,h1]
theorem akA (a b:fS):bI Pg I.jG [bY a,bY b] (.bl (iI a b)):=by
 refine ah.intro T.jG (by simp[F.jG]) ?_
 simp[F.jG,au,aG]
 refine al.ret (Sd a b) (by simp) (by simp) (by simp) ?_
 simp
 refine aL.plain [] ?_
 simp
theorem akB (t:fS) (k:Key) (n:Int):ah Pg I.fP [bY t,.pt KB [] 0,.pt (KB+1) [] 0] [.box (ey k),.box (.int .i64 n)] (λr fp=>r= .bl (!rG k n t)∧fp=[.box (ey k),.box (.int .i64 n)]):=by
 refine ah.intro T.fP (by simp[F.fP]) ?_
 simp[F.fP,au,aG]
 refine al.ret (wof t k n) (by simp) (by simp) (by simp) ?_
 simp
 refine aL.with [] [KB,KB+1] ?_
 simp[af,ab,a0,aF]
theorem akC (t u:fS):ah Pg I.ik [bY u,.pt KB [] 0] [.box (bY t)] (λr fp=>r= .bl (iI t u)∧fp=[.box (bY t)]):=by
 refine ah.intro T.ik (by simp[F.ik]) ?_
 simp[F.ik,au,aG]
 refine al.ret (akA t u) (by simp) (by simp) (by simp) ?_
 simp
 refine aL.with [] [KB] ?_
 simp[af,a0]
end Go.Ab
end S4s

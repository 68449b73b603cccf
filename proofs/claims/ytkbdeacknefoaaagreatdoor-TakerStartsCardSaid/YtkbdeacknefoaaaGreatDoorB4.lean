/- Hashes of the program and of the document. No condition. -/
import Derived.Test.YtkbdeacknefoaaaGreatDoorB3
set_option maxRecDepth 10000
set_option maxHeartbeats 4000000
set_option linter.all false
noncomputable section Y24s
namespace Go.Ab
open Go.Ab
theorem Wl [gK] {s:St} (d:Option Nat) (sz:Nat) (p:PV) (K:St->Prop) (k off len aK sz2:Nat) (pth:List Step) (c:iC):Vn s d sz p K (.rs k pth off len aK sz2 c)=wQ s (λcR ys=>(ys=[]∨cR=sz)∧N5 s d sz ys K p) (.rs k pth off len aK sz2 c):=_root_.id rfl
theorem Tz [gK] {s:St} {d:Option Nat} {K:St->Prop} {k k2 n n2 off len off2 len2:Nat} {L L2 L':List PV} {c c2:iC} (hk:get s.bx k=some (.box (.ar 1 n L))) (A8:get s.bx k2=some (.box (.ar 1 n2 L2))) (h1:off+len≤n) (h2:off2+len2≤n2)
  (h2':((L2.drop off2).take len2).length=len2) (hL:L.take off++((L2.drop off2).take len2).take (min len2 len)++L.drop (off+min len2 len)=L') (h:K ({s with bx:=put s.bx k (.box (.ar 1 n L'))}.put d (.int .i64 (min len2 len:Nat)))):Vn s d 1 (.rs k [] off len 0 1 c) K (.rs k2 [] off2 len2 0 1 c2):=by
 rw[Wl,Pm,A8]
 refine⟨⟨rfl,rfl,h2⟩,.inr rfl,?_⟩
 rw[LW,hk]
 show cU (gN (PV.ar 1 n L) [] (PV.ar 1 n _)) _
 rw[show∀X,gN (PV.ar 1 n L) [] (PV.ar 1 n X)=some (PV.ar 1 n X) from λX=>if_pos rfl]
 refine⟨⟨rfl,rfl,rfl,h1⟩,?_⟩
 rw[h2',hL]
 exact h
def pW (b:List UInt8) (i:Nat):UInt32:=UInt32.ofNat (mC ((b.drop (4*i)).take 4) 4)
def nc (h:Nat->UInt32):Nat->UInt32:=λi=>if i<8 then h i else FP (i-8)
def w9 (h:Nat->UInt32) (t:Nat):Nat->UInt32:=oB (oB (nc h) 12 (nc h 12^^^UInt32.ofNat t)) 13 (nc h 13^^^UInt32.ofNat (t/4294967296))
def vG (h:Nat->UInt32) (t:Nat) (last:Bool):Nat->UInt32:=if last=true then oB (w9 h t) 14 (~~~w9 h t 14)else w9 h t
def oC (m:Nat->UInt32) (s:Nat->Nat) (v:Nat->UInt32):Nat->(Nat->UInt32)
 |0=>v
 |i+1=>gA (oC m s v i) i (4+i) (8+i) (12+i) (m (s (2*i))) (m (s (2*i+1)))
def rY (m:Nat->UInt32) (s:Nat->Nat) (v:Nat->UInt32):Nat->(Nat->UInt32)
 |0=>v
 |i+1=>gA (rY m s v i) i (4+(i+1)%4) (8+(i+2)%4) (12+(i+3)%4) (m (s (8+2*i))) (m (s (9+2*i)))
def lZ (m:Nat->UInt32) (v:Nat->UInt32):Nat->(Nat->UInt32)
 |0=>v
 |r+1=>rY m (sg r) (oC m (sg r) (lZ m v r) 4) 4
def tn (h:Nat->UInt32) (m:Nat->UInt32) (t:Nat) (last:Bool):Nat->UInt32:=λi=>h i^^^(lZ m (vG h t last) 10 i^^^lZ m (vG h t last) 10 (i+8))
theorem vH (n:Nat):IntKind.u32.wrap (n:Int)=nU (UInt32.ofNat n):=by
 rw[IntKind.wrap_u32',nU,UInt32.toNat_ofNat']
 omega
theorem MC (x:UInt32):bits .xor .u32 4294967295 (nU x)=nU (~~~x):=by
 have h:(4294967295:Int)=nU (~~~(0:UInt32)):=by decide
 have e: ~~~(0:UInt32)^^^x= ~~~x:=UInt32.toBitVec_inj.1 (by simp)
 rw[h,j8,e]
theorem al.mix [gK] {s:St} {dst:Option Nat} {K:St->Prop} {tg:Tg K} {k:Nat} {v:Nat->UInt32} {a b c d:Nat} (ha:a<16) (hb:b<16) (hc:c<16) (hd:d<16) {x y:UInt32} (hk:get s.bx k=some (.box (.ar 1 16 (uW 16 v))))
  (h:K ({s with bx:=put s.bx k (.box (.ar 1 16 (uW 16 (gA v a b c d x y))))}.put dst (.tup []))):al Pg s dst I.iN [.pt k [.i a 1] 0,.pt k [.i b 1] 0,.pt k [.i c 1] 0,.pt k [.i d 1] 0,.int .u32 (nU x),.int .u32 (nU y)] K tg:=by
 refine al.gen [k] [] [.box (.ar 1 16 (uW 16 v))] (iN v ha hb hc hd x y) (by simp[getAll,hk]) (by simp) (by simp) (by simp[ae,ab,bS,idx]) (by simp[ah,ab,(nJ 16 v).refs]) (by simp[aO,az,bE,idx]) (by simp[aM,az,(nJ 16 v).az]) (by simp[ah,ab,ae,(nJ 16 _).refs]) ?_
 simpa[bB,aM,az,aO,(nJ 16 _).az]using h
theorem zU (n:Nat):zr n (PV.int IntKind.u32 0)=uW n λ_=>0:=by rw[iq];exact List.ext_getElem? λi=>by by_cases h:i<n<;>simp[uW,nU,h]
theorem eL (h:Nat->UInt32) {b:List UInt8} (hb:b.length=64) {t:Nat} (ht:t<9223372036854775808) (last:Bool):
  a8 Pg I.eL [.ar 1 8 (uW 8 h),eY b,.int .u64 t,.bl last] (.ar 1 8 (uW 8 (tn h (pW b) t last))):=by
 refine af.intro T.eL (by simp[F.eL]) ?_
 simp[F.eL,ai,aG,eY,zU]
 refine gR.iw 16 (λ_=>True) [1,2,3,4,8,9,18] (λi=>[(18,.int .i64 i)]) (λi=>[(9,.box (.ar 1 16 (uW 16 λj=>if j<i then pW b j else 0)))]) [.keep [1,2,3,4,8,9,18]] ?_
 simp
 refine⟨λi hi K hK=> ?_,λK=> ?_⟩
 ·have hs:uW 16 (oB (λj=>if j<i then pW b j else 0) i (pW b i))=uW 16 λj=>if j<i+1 then pW b j else 0:=iX λj hj=>by
   simp only[oB]
   by_cases h:j=i
   ·rw[if_pos h,if_pos (by omega),h]
   ·rw[if_neg h]
    by_cases h':j<i
    ·rw[if_pos h',if_pos (by omega)]
    ·rw[if_neg h',if_neg (by omega)]
  have hl:((b.drop (4*i)).take 4).length=4:=by rw[lJ,List.length_drop];omega
  have c:=cI (l:=(b.drop (4*i)).take 4) (by omega)
  rw[hl]at c
  have jf:(i:Int)<16:=by omega
  have w1:IntKind.i64.wrap ((i:Int)+1)=i+1:=wrap_i64 (by omega)
  have w2:IntKind.i64.wrap (4*(i:Int))=((4*i:Nat):Int):=by rw[wrap_i64 (by omega)];omega
  have w3:IntKind.i64.wrap (((4*i:Nat):Int)+4)=((4*i+4:Nat):Int):=by rw[wrap_i64 (by omega)];omega
  have hT:=en (n:=16) (λj=>if j<i then pW b j else 0) hi
  simp only[Nat.lt_irrefl,if_false]at hT
  rw[←hs,←iG]at hK
  have hwm:pW b i=UInt32.ofNat (mC ((b.drop (4*i)).take 4) 4):=rfl
  rw[hwm,←vH]at hK
  clear hs hwm
  have l64:((4*i+4:Nat):Int)≤64:=by omega
  have e:List.drop (4*i) (List.take (4*i+4) (b.map u8))=((b.drop (4*i)).take 4).map u8:=by
   rw[List.drop_take,List.map_take,List.map_drop,Nat.add_sub_cancel_left]
  simp[↓an,hi,jf,hb,w1,w2,w3,hT,l64,-getElem?_pos,-Int.natCast_mul,-Int.natCast_add]
  rw[e]
  refine al.ret c (by simp[eY]) (by simp[eY]) (by simp) ?_
  simp[hi,jf,hT,w1,-getElem?_pos]
  refine⟨[.keep [1,2,3,4,8,9,18]],?_⟩
  simp
  exact hK _ (by simp)
 ·have hm:uW 16 (λj=>if j<16 then pW b j else 0)=uW 16 (pW b):=iX λj hj=>by rw[if_pos hj]
  rw[hm]
  have nX:uW 8 (λi=>h i^^^(lZ (pW b) (vG h t last) 10 i^^^lZ (pW b) (vG h t last) 10 (i+8)))=uW 8 (tn h (pW b) t last):=rfl
  generalize uW 8 (tn h (pW b) t last)=R at*
  clear hm
  simp[↓an]
  refine al.ret eT (by simp) (by simp) (by simp) ?_
  simp
  have u1:uW 16 (oB (nc h) 12 (nc h 12^^^UInt32.ofNat t))=uW 16 (oB (nc h) 12 (nc h 12^^^UInt32.ofNat t)):=rfl
  refine Tz (k:=11) (k2:=4) (L':=uW 16 λi=>if i<8 then h i else 0) rfl rfl (by decide) (by decide) (by simp) ?_ ?_
  ·rfl
  simp
  refine Tz (k:=11) (k2:=12) (L':=uW 16 (nc h)) rfl rfl (by decide) (by decide) (by simp) ?_ ?_
  ·rfl
  have g12:=en (n:=16) (nc h) (i:=12) (by decide)
  have g13:=en (n:=16) (oB (nc h) 12 (nc h 12^^^UInt32.ofNat t)) (i:=13) (by decide)
  rw[show oB (nc h) 12 (nc h 12^^^UInt32.ofNat t) 13=nc h 13 from rfl]at g13
  have s1:oB (oB (nc h) 12 (nc h 12^^^UInt32.ofNat t)) 13 (nc h 13^^^UInt32.ofNat (t/4294967296))=w9 h t:=rfl
  have g14:=en (n:=16) (w9 h t) (i:=14) (by decide)
  have sh:(t:Int).fdiv 4294967296=((t/4294967296:Nat):Int):=by
   rw[show(4294967296:Int)=((4294967296:Nat):Int) from rfl,Int.fdiv_eq_ediv_of_nonneg _ (Int.natCast_nonneg _),←Int.natCast_ediv]
  simp[g12,g13,sh,vH,j8,iG,s1,show IntKind.u64.bits=64 from rfl,-getElem?_pos,-Int.natCast_ediv]
  have e1:oB (w9 h t) 14 (~~~w9 h t 14)=vG h t true:=rfl
  have e2:w9 h t=vG h t false:=rfl
  have hp:∀r k,r<10->k<16->(JR r)[k]? =some (.int .i64 (sg r k)):=λr k _ hk=>gy _ hk
  have R6:∀r k,r<10->k<16->(uW 16 (pW b))[sg r k]? =some (.int .u32 (nU (pW b (sg r k)))):=λr k hr hk=>en _ (Cb r hr k hk)
  refine⟨λhl=> ?_,λhl=> ?_⟩
  ·subst hl
   simp[g14,MC,iG,e1,show IntKind.u32.max=4294967295 from rfl,show IntKind.u32.signed=false from rfl,-getElem?_pos]
   refine al.ret cS (by simp) (by simp) (by simp) ?_
   generalize vG h t true=v at*
   generalize pW b=m at*
   simp
   refine gR.iw 10 (λ_=>True) [4,8,9,11,58,59] (λr=>[(59,.int .i64 r)]) (λr=>[(11,.box (.ar 1 16 (uW 16 (lZ m v r))))]) [.keep [4,8,9,11,58,59]] ?_
   simp[show lZ m v 0=v from rfl]
   refine⟨λr hr K hK=> ?_,λK=> ?_⟩
   ·have RN:(r:Int)<10:=by omega
    have w1:IntKind.i64.wrap ((r:Int)+1)=r+1:=wrap_i64 (by omega)
    have rT:lZ m v (r+1)=rY m (sg r) (oC m (sg r) (lZ m v r) 4) 4:=rfl
    rw[rT]at hK
    have uy:=hp r
    have uz:=R6 r
    have eu:=Cb r hr
    generalize lZ m v r=v at*
    have hpg:=wZ hr
    simp[↓an,hr,RN,hpg,-getElem?_pos]
    refine gR.iw 4 (λ_=>True) [4,8,9,11,14,58,59,62] (λi=>[(62,.int .i64 i)]) (λi=>[(11,.box (.ar 1 16 (uW 16 (oC m (sg r) v i))))]) [.keep [4,8,9,11,14,58,59,62]] ?_
    simp[show oC m (sg r) v 0=v from rfl]
    refine⟨λi hi K2 nn=> ?_,λK2=> ?_⟩
    ·have jf:(i:Int)<4:=by omega
     have xX:oC m (sg r) v (i+1)=gA (oC m (sg r) v i) i (4+i) (8+i) (12+i) (m (sg r (2*i))) (m (sg r (2*i+1))):=rfl
     rw[xX]at nn
     clear xX
     generalize oC m (sg r) v i=u at*
     have q1:=uy (2*i) hr (by omega)
     have q2:=uy (2*i+1) hr (by omega)
     have q3:=uz (2*i) hr (by omega)
     have q4:=uz (2*i+1) hr (by omega)
     have t1:=eu (2*i) (by omega)
     have t2:=eu (2*i+1) (by omega)
     have w0:IntKind.i64.wrap ((i:Int)+1)=i+1:=wrap_i64 (by omega)
     have w1:IntKind.i64.wrap (4+(i:Int))=((4+i:Nat):Int):=by rw[wrap_i64 (by omega)];omega
     have w2:IntKind.i64.wrap (8+(i:Int))=((8+i:Nat):Int):=by rw[wrap_i64 (by omega)];omega
     have w3:IntKind.i64.wrap (12+(i:Int))=((12+i:Nat):Int):=by rw[wrap_i64 (by omega)];omega
     have w4:IntKind.i64.wrap (2*(i:Int))=((2*i:Nat):Int):=by rw[wrap_i64 (by omega)];omega
     have w5:IntKind.i64.wrap (((2*i:Nat):Int)+1)=((2*i+1:Nat):Int):=by rw[wrap_i64 (by omega)];omega
     have l0:i<16:=by omega
     have l1:4+i<16:=by omega
     have l2:8+i<16:=by omega
     have l3:12+i<16:=by omega
     have l4:2*i<16:=by omega
     have l5:2*i+1<16:=by omega
     clear uy uz eu hp R6
     generalize 2*i+1=i5 at*
     generalize 2*i=i4 at*
     generalize 12+i=i3 at*
     generalize 8+i=i2 at*
     generalize 4+i=i1 at*
     generalize sg r i4=j4 at*
     generalize sg r i5=j5 at*
     have k0:(i:Int)<16:=by omega
     have k1:(i1:Int)<16:=by omega
     have k2:(i2:Int)<16:=by omega
     have k3:(i3:Int)<16:=by omega
     have k4:(i4:Int)<16:=by omega
     have k5:(i5:Int)<16:=by omega
     have k6:(j4:Int)<16:=by omega
     have k7:(j5:Int)<16:=by omega
     simp[↓an,jf,q1,q2,q3,q4,t1,t2,w0,w1,w2,w3,w4,w5,l0,l1,l2,l3,l4,l5,k0,k1,k2,k3,k4,k5,k6,k7,-getElem?_pos]
     refine al.mix l0 l1 l2 l3 rfl ?_
     simp[w0]
     refine⟨[.keep [4,8,9,11,14,58,59,62]],?_⟩
     simp
     exact nn _ (by simp)
    ·have he1:oC m (sg r) v 4=oC m (sg r) v 4:=rfl
     generalize oC m (sg r) v 4=v at*
     simp[↓an]
     refine gR.iw 4 (λ_=>True) [4,8,9,11,14,58,59,91] (λi=>[(91,.int .i64 i)]) (λi=>[(11,.box (.ar 1 16 (uW 16 (rY m (sg r) v i))))]) [.keep [4,8,9,11,14,58,59,91]] ?_
     simp[show rY m (sg r) v 0=v from rfl]
     refine⟨λi hi K2 nn=> ?_,λK2=> ?_⟩
     ·have jf:(i:Int)<4:=by omega
      have xX:rY m (sg r) v (i+1)=gA (rY m (sg r) v i) i (4+(i+1)%4) (8+(i+2)%4) (12+(i+3)%4) (m (sg r (8+2*i))) (m (sg r (9+2*i))):=rfl
      rw[xX]at nn
      clear xX
      generalize rY m (sg r) v i=u at*
      have q1:=uy (8+2*i) hr (by omega)
      have q2:=uy (9+2*i) hr (by omega)
      have q3:=uz (8+2*i) hr (by omega)
      have q4:=uz (9+2*i) hr (by omega)
      have t1:=eu (8+2*i) (by omega)
      have t2:=eu (9+2*i) (by omega)
      have w0:IntKind.i64.wrap ((i:Int)+1)=i+1:=wrap_i64 (by omega)
      have w1:IntKind.i64.wrap ((i:Int)+2)=((i+2:Nat):Int):=by rw[wrap_i64 (by omega)];omega
      have w2:IntKind.i64.wrap ((i:Int)+3)=((i+3:Nat):Int):=by rw[wrap_i64 (by omega)];omega
      have m0:((i:Int)+1).tmod 4=(((i+1)%4:Nat):Int):=rfl
      have m1:((i+2:Nat):Int).tmod 4=(((i+2)%4:Nat):Int):=rfl
      have m2:((i+3:Nat):Int).tmod 4=(((i+3)%4:Nat):Int):=rfl
      have m3:(i+1)%4<4:=Nat.mod_lt _ (by decide)
      have m4:(i+2)%4<4:=Nat.mod_lt _ (by decide)
      have m5:(i+3)%4<4:=Nat.mod_lt _ (by decide)
      have w3:IntKind.i64.wrap (2*(i:Int))=((2*i:Nat):Int):=by rw[wrap_i64 (by omega)];omega
      generalize (i+1)%4=d1 at*
      generalize (i+2)%4=d2 at*
      generalize (i+3)%4=d3 at*
      generalize i+2=f2 at*
      generalize i+3=f3 at*
      have w4:IntKind.i64.wrap (4+(d1:Int))=((4+d1:Nat):Int):=by rw[wrap_i64 (by omega)];omega
      have w5:IntKind.i64.wrap (8+(d2:Int))=((8+d2:Nat):Int):=by rw[wrap_i64 (by omega)];omega
      have w6:IntKind.i64.wrap (12+(d3:Int))=((12+d3:Nat):Int):=by rw[wrap_i64 (by omega)];omega
      have w7:IntKind.i64.wrap (8+((2*i:Nat):Int))=((8+2*i:Nat):Int):=by rw[wrap_i64 (by omega)];omega
      have w8:IntKind.i64.wrap (9+((2*i:Nat):Int))=((9+2*i:Nat):Int):=by rw[wrap_i64 (by omega)];omega
      have wd1:IntKind.i64.wrap (d1:Int)=d1:=wrap_i64 (by omega)
      have wd2:IntKind.i64.wrap (d2:Int)=d2:=wrap_i64 (by omega)
      have wd3:IntKind.i64.wrap (d3:Int)=d3:=wrap_i64 (by omega)
      have l0:i<16:=by omega
      have l1:4+d1<16:=by omega
      have l2:8+d2<16:=by omega
      have l3:12+d3<16:=by omega
      have l4:8+2*i<16:=by omega
      have l5:9+2*i<16:=by omega
      clear uy uz eu hp R6
      generalize 8+2*i=i4 at*
      generalize 9+2*i=i5 at*
      generalize 2*i=i6 at*
      generalize 12+d3=i3 at*
      generalize 8+d2=i2 at*
      generalize 4+d1=i1 at*
      generalize sg r i4=j4 at*
      generalize sg r i5=j5 at*
      have k0:(i:Int)<16:=by omega
      have k1:(i1:Int)<16:=by omega
      have k2:(i2:Int)<16:=by omega
      have k3:(i3:Int)<16:=by omega
      have k4:(i4:Int)<16:=by omega
      have k5:(i5:Int)<16:=by omega
      have k6:(j4:Int)<16:=by omega
      have k7:(j5:Int)<16:=by omega
      simp[↓an,jf,q1,q2,q3,q4,t1,t2,w0,w1,w2,w3,w4,w5,w6,w7,w8,wd1,wd2,wd3,m0,m1,m2,l0,l1,l2,l3,l4,l5,k0,k1,k2,k3,k4,k5,k6,k7,-getElem?_pos]
      refine al.mix l0 l1 l2 l3 rfl ?_
      simp[w0]
      refine⟨[.keep [4,8,9,11,14,58,59,91]],?_⟩
      simp
      exact nn _ (by simp)
     ·simp[↓an,w1]
      refine⟨[.keep [4,8,9,11,58,59],.dr 14],?_⟩
      simp
      exact hK _ (by simp)
   ·generalize lZ m v 10=w at*
    simp[↓an]
    refine gR.iw 8 (λ_=>True) [4,8,11,128] (λi=>[(128,.int .i64 i)]) (λi=>[(4,.box (.ar 1 8 (uW 8 λj=>if j<i then h j^^^(w j^^^w (j+8))else h j)))]) [.keep [4,8,11,128]] ?_
    simp
    refine⟨λi hi K hK=> ?_,λK=> ?_⟩
    ·have hs:uW 8 (oB (λj=>if j<i then h j^^^(w j^^^w (j+8))else h j) i (h i^^^(w i^^^w (i+8))))=uW 8 λj=>if j<i+1 then h j^^^(w j^^^w (j+8))else h j:=iX λj hj=>by
      simp only[oB]
      by_cases e:j=i
      ·rw[if_pos e,if_pos (by omega),e]
      ·rw[if_neg e]
       by_cases e':j<i
       ·rw[if_pos e',if_pos (by omega)]
       ·rw[if_neg e',if_neg (by omega)]
     rw[←hs]at hK
     have a1:=en (n:=8) (λj=>if j<i then h j^^^(w j^^^w (j+8))else h j) hi
     simp only[Nat.lt_irrefl,if_false]at a1
     have a2:=en (n:=16) w (i:=i) (by omega)
     have a3:=en (n:=16) w (i:=i+8) (by omega)
     have jf:(i:Int)<8:=by omega
     have nq:(i:Int)<16:=by omega
     have Hk:i<16:=by omega
     have w1:IntKind.i64.wrap ((i:Int)+1)=i+1:=wrap_i64 (by omega)
     have w2:IntKind.i64.wrap ((i:Int)+8)=((i+8:Nat):Int):=by rw[wrap_i64 (by omega)];omega
     rw[←iG]at hK
     clear hs
     have l1:i+8<16:=by omega
     have l2:((i+8:Nat):Int)<16:=by omega
     generalize uW 8 (λj=>if j<i then h j^^^(w j^^^w (j+8))else h j)=T at*
     generalize i+8=i8 at*
     simp[↓an,hi,jf,nq,Hk,w1,w2,a1,a2,a3,l1,l2,j8,-getElem?_pos]
     refine⟨[.keep [4,8,11,128]],?_⟩
     simp
     exact hK _ (by simp)
    ·have he:uW 8 (λj=>if j<8 then h j^^^(w j^^^w (j+8))else h j)=R:=by
      rw[←nX]
      exact iX λj hj=>by rw[if_pos hj]
     rw[he]
     have NP:aB R:=by rw[←nX];exact nJ _ _
     have NQ:jE R=R:=by rw[←nX];exact Ib _ _
     simp[↓an,NQ]
     refine aC.plain [.keep [8],.dr 4,.dr 11] ?_
     simp[NQ,NP.refs,ab]
     exact NP
  ·have hl:last=false:=by simpa using hl
   subst hl
   simp[e2,show IntKind.u32.max=4294967295 from rfl,show IntKind.u32.signed=false from rfl,-getElem?_pos]
   refine al.ret cS (by simp) (by simp) (by simp) ?_
   generalize vG h t false=v at*
   generalize pW b=m at*
   simp
   refine gR.iw 10 (λ_=>True) [4,8,9,11,58,59] (λr=>[(59,.int .i64 r)]) (λr=>[(11,.box (.ar 1 16 (uW 16 (lZ m v r))))]) [.keep [4,8,9,11,58,59]] ?_
   simp[show lZ m v 0=v from rfl]
   refine⟨λr hr K hK=> ?_,λK=> ?_⟩
   ·have RN:(r:Int)<10:=by omega
    have w1:IntKind.i64.wrap ((r:Int)+1)=r+1:=wrap_i64 (by omega)
    have rT:lZ m v (r+1)=rY m (sg r) (oC m (sg r) (lZ m v r) 4) 4:=rfl
    rw[rT]at hK
    have uy:=hp r
    have uz:=R6 r
    have eu:=Cb r hr
    generalize lZ m v r=v at*
    have hpg:=wZ hr
    simp[↓an,hr,RN,hpg,-getElem?_pos]
    refine gR.iw 4 (λ_=>True) [4,8,9,11,14,58,59,62] (λi=>[(62,.int .i64 i)]) (λi=>[(11,.box (.ar 1 16 (uW 16 (oC m (sg r) v i))))]) [.keep [4,8,9,11,14,58,59,62]] ?_
    simp[show oC m (sg r) v 0=v from rfl]
    refine⟨λi hi K2 nn=> ?_,λK2=> ?_⟩
    ·have jf:(i:Int)<4:=by omega
     have xX:oC m (sg r) v (i+1)=gA (oC m (sg r) v i) i (4+i) (8+i) (12+i) (m (sg r (2*i))) (m (sg r (2*i+1))):=rfl
     rw[xX]at nn
     clear xX
     generalize oC m (sg r) v i=u at*
     have q1:=uy (2*i) hr (by omega)
     have q2:=uy (2*i+1) hr (by omega)
     have q3:=uz (2*i) hr (by omega)
     have q4:=uz (2*i+1) hr (by omega)
     have t1:=eu (2*i) (by omega)
     have t2:=eu (2*i+1) (by omega)
     have w0:IntKind.i64.wrap ((i:Int)+1)=i+1:=wrap_i64 (by omega)
     have w1:IntKind.i64.wrap (4+(i:Int))=((4+i:Nat):Int):=by rw[wrap_i64 (by omega)];omega
     have w2:IntKind.i64.wrap (8+(i:Int))=((8+i:Nat):Int):=by rw[wrap_i64 (by omega)];omega
     have w3:IntKind.i64.wrap (12+(i:Int))=((12+i:Nat):Int):=by rw[wrap_i64 (by omega)];omega
     have w4:IntKind.i64.wrap (2*(i:Int))=((2*i:Nat):Int):=by rw[wrap_i64 (by omega)];omega
     have w5:IntKind.i64.wrap (((2*i:Nat):Int)+1)=((2*i+1:Nat):Int):=by rw[wrap_i64 (by omega)];omega
     have l0:i<16:=by omega
     have l1:4+i<16:=by omega
     have l2:8+i<16:=by omega
     have l3:12+i<16:=by omega
     have l4:2*i<16:=by omega
     have l5:2*i+1<16:=by omega
     clear uy uz eu hp R6
     generalize 2*i+1=i5 at*
     generalize 2*i=i4 at*
     generalize 12+i=i3 at*
     generalize 8+i=i2 at*
     generalize 4+i=i1 at*
     generalize sg r i4=j4 at*
     generalize sg r i5=j5 at*
     have k0:(i:Int)<16:=by omega
     have k1:(i1:Int)<16:=by omega
     have k2:(i2:Int)<16:=by omega
     have k3:(i3:Int)<16:=by omega
     have k4:(i4:Int)<16:=by omega
     have k5:(i5:Int)<16:=by omega
     have k6:(j4:Int)<16:=by omega
     have k7:(j5:Int)<16:=by omega
     simp[↓an,jf,q1,q2,q3,q4,t1,t2,w0,w1,w2,w3,w4,w5,l0,l1,l2,l3,l4,l5,k0,k1,k2,k3,k4,k5,k6,k7,-getElem?_pos]
     refine al.mix l0 l1 l2 l3 rfl ?_
     simp[w0]
     refine⟨[.keep [4,8,9,11,14,58,59,62]],?_⟩
     simp
     exact nn _ (by simp)
    ·have he1:oC m (sg r) v 4=oC m (sg r) v 4:=rfl
     generalize oC m (sg r) v 4=v at*
     simp[↓an]
     refine gR.iw 4 (λ_=>True) [4,8,9,11,14,58,59,91] (λi=>[(91,.int .i64 i)]) (λi=>[(11,.box (.ar 1 16 (uW 16 (rY m (sg r) v i))))]) [.keep [4,8,9,11,14,58,59,91]] ?_
     simp[show rY m (sg r) v 0=v from rfl]
     refine⟨λi hi K2 nn=> ?_,λK2=> ?_⟩
     ·have jf:(i:Int)<4:=by omega
      have xX:rY m (sg r) v (i+1)=gA (rY m (sg r) v i) i (4+(i+1)%4) (8+(i+2)%4) (12+(i+3)%4) (m (sg r (8+2*i))) (m (sg r (9+2*i))):=rfl
      rw[xX]at nn
      clear xX
      generalize rY m (sg r) v i=u at*
      have q1:=uy (8+2*i) hr (by omega)
      have q2:=uy (9+2*i) hr (by omega)
      have q3:=uz (8+2*i) hr (by omega)
      have q4:=uz (9+2*i) hr (by omega)
      have t1:=eu (8+2*i) (by omega)
      have t2:=eu (9+2*i) (by omega)
      have w0:IntKind.i64.wrap ((i:Int)+1)=i+1:=wrap_i64 (by omega)
      have w1:IntKind.i64.wrap ((i:Int)+2)=((i+2:Nat):Int):=by rw[wrap_i64 (by omega)];omega
      have w2:IntKind.i64.wrap ((i:Int)+3)=((i+3:Nat):Int):=by rw[wrap_i64 (by omega)];omega
      have m0:((i:Int)+1).tmod 4=(((i+1)%4:Nat):Int):=rfl
      have m1:((i+2:Nat):Int).tmod 4=(((i+2)%4:Nat):Int):=rfl
      have m2:((i+3:Nat):Int).tmod 4=(((i+3)%4:Nat):Int):=rfl
      have m3:(i+1)%4<4:=Nat.mod_lt _ (by decide)
      have m4:(i+2)%4<4:=Nat.mod_lt _ (by decide)
      have m5:(i+3)%4<4:=Nat.mod_lt _ (by decide)
      have w3:IntKind.i64.wrap (2*(i:Int))=((2*i:Nat):Int):=by rw[wrap_i64 (by omega)];omega
      generalize (i+1)%4=d1 at*
      generalize (i+2)%4=d2 at*
      generalize (i+3)%4=d3 at*
      generalize i+2=f2 at*
      generalize i+3=f3 at*
      have w4:IntKind.i64.wrap (4+(d1:Int))=((4+d1:Nat):Int):=by rw[wrap_i64 (by omega)];omega
      have w5:IntKind.i64.wrap (8+(d2:Int))=((8+d2:Nat):Int):=by rw[wrap_i64 (by omega)];omega
      have w6:IntKind.i64.wrap (12+(d3:Int))=((12+d3:Nat):Int):=by rw[wrap_i64 (by omega)];omega
      have w7:IntKind.i64.wrap (8+((2*i:Nat):Int))=((8+2*i:Nat):Int):=by rw[wrap_i64 (by omega)];omega
      have w8:IntKind.i64.wrap (9+((2*i:Nat):Int))=((9+2*i:Nat):Int):=by rw[wrap_i64 (by omega)];omega
      have wd1:IntKind.i64.wrap (d1:Int)=d1:=wrap_i64 (by omega)
      have wd2:IntKind.i64.wrap (d2:Int)=d2:=wrap_i64 (by omega)
      have wd3:IntKind.i64.wrap (d3:Int)=d3:=wrap_i64 (by omega)
      have l0:i<16:=by omega
      have l1:4+d1<16:=by omega
      have l2:8+d2<16:=by omega
      have l3:12+d3<16:=by omega
      have l4:8+2*i<16:=by omega
      have l5:9+2*i<16:=by omega
      clear uy uz eu hp R6
      generalize 8+2*i=i4 at*
      generalize 9+2*i=i5 at*
      generalize 2*i=i6 at*
      generalize 12+d3=i3 at*
      generalize 8+d2=i2 at*
      generalize 4+d1=i1 at*
      generalize sg r i4=j4 at*
      generalize sg r i5=j5 at*
      have k0:(i:Int)<16:=by omega
      have k1:(i1:Int)<16:=by omega
      have k2:(i2:Int)<16:=by omega
      have k3:(i3:Int)<16:=by omega
      have k4:(i4:Int)<16:=by omega
      have k5:(i5:Int)<16:=by omega
      have k6:(j4:Int)<16:=by omega
      have k7:(j5:Int)<16:=by omega
      simp[↓an,jf,q1,q2,q3,q4,t1,t2,w0,w1,w2,w3,w4,w5,w6,w7,w8,wd1,wd2,wd3,m0,m1,m2,l0,l1,l2,l3,l4,l5,k0,k1,k2,k3,k4,k5,k6,k7,-getElem?_pos]
      refine al.mix l0 l1 l2 l3 rfl ?_
      simp[w0]
      refine⟨[.keep [4,8,9,11,14,58,59,91]],?_⟩
      simp
      exact nn _ (by simp)
     ·simp[↓an,w1]
      refine⟨[.keep [4,8,9,11,58,59],.dr 14],?_⟩
      simp
      exact hK _ (by simp)
   ·generalize lZ m v 10=w at*
    simp[↓an]
    refine gR.iw 8 (λ_=>True) [4,8,11,128] (λi=>[(128,.int .i64 i)]) (λi=>[(4,.box (.ar 1 8 (uW 8 λj=>if j<i then h j^^^(w j^^^w (j+8))else h j)))]) [.keep [4,8,11,128]] ?_
    simp
    refine⟨λi hi K hK=> ?_,λK=> ?_⟩
    ·have hs:uW 8 (oB (λj=>if j<i then h j^^^(w j^^^w (j+8))else h j) i (h i^^^(w i^^^w (i+8))))=uW 8 λj=>if j<i+1 then h j^^^(w j^^^w (j+8))else h j:=iX λj hj=>by
      simp only[oB]
      by_cases e:j=i
      ·rw[if_pos e,if_pos (by omega),e]
      ·rw[if_neg e]
       by_cases e':j<i
       ·rw[if_pos e',if_pos (by omega)]
       ·rw[if_neg e',if_neg (by omega)]
     rw[←hs]at hK
     have a1:=en (n:=8) (λj=>if j<i then h j^^^(w j^^^w (j+8))else h j) hi
     simp only[Nat.lt_irrefl,if_false]at a1
     have a2:=en (n:=16) w (i:=i) (by omega)
     have a3:=en (n:=16) w (i:=i+8) (by omega)
     have jf:(i:Int)<8:=by omega
     have nq:(i:Int)<16:=by omega
     have Hk:i<16:=by omega
     have w1:IntKind.i64.wrap ((i:Int)+1)=i+1:=wrap_i64 (by omega)
     have w2:IntKind.i64.wrap ((i:Int)+8)=((i+8:Nat):Int):=by rw[wrap_i64 (by omega)];omega
     rw[←iG]at hK
     clear hs
     have l1:i+8<16:=by omega
     have l2:((i+8:Nat):Int)<16:=by omega
     generalize uW 8 (λj=>if j<i then h j^^^(w j^^^w (j+8))else h j)=T at*
     generalize i+8=i8 at*
     simp[↓an,hi,jf,nq,Hk,w1,w2,a1,a2,a3,l1,l2,j8,-getElem?_pos]
     refine⟨[.keep [4,8,11,128]],?_⟩
     simp
     exact hK _ (by simp)
    ·have he:uW 8 (λj=>if j<8 then h j^^^(w j^^^w (j+8))else h j)=R:=by
      rw[←nX]
      exact iX λj hj=>by rw[if_pos hj]
     rw[he]
     have NP:aB R:=by rw[←nX];exact nJ _ _
     have NQ:jE R=R:=by rw[←nX];exact Ib _ _
     simp[↓an,NQ]
     refine aC.plain [.keep [8],.dr 4,.dr 11] ?_
     simp[NQ,NP.refs,ab]
     exact NP
end Go.Ab
end Y24s
noncomputable section Y25s
namespace Go.Ab
open Go.Ab
theorem E8 (a:UInt8) (l:List UInt8):∀k,mC (a::l) (k+1)=a.toNat+256*mC l k
 |0=>by simp[mC]
 |
  k+1=>by
  have h:=E8 a l k
  rw[mC,h,mC,List.getD_cons_succ,Nat.pow_succ]
  generalize 256^k=p
  generalize (l.getD k 0).toNat=x
  grind
theorem MD {l:List UInt8} {k:Nat} (h:k<l.length):mC (l.drop (l.length-(k+1))) (k+1)=(l.getD (l.length-(k+1)) 0).toNat+256*mC (l.drop (l.length-k)) k:=by
 have e:l.drop (l.length-(k+1))=l.getD (l.length-(k+1)) 0::l.drop (l.length-k):=by
  rw[List.drop_eq_getElem_cons (by omega),List.getD_eq_getElem?_getD,gJ (by omega),show l.length-(k+1)+1=l.length-k by omega]
  rfl
 rw[e,E8]
theorem xa {l:List UInt8} (h:l.length≤8):a8 Pg I.db [eY l] (.int .u64 (mC l l.length)):=by
 refine af.intro T.db (by simp[F.db]) ?_
 have wl:IntKind.i64.wrap ((l.length:Int)-1)=(l.length:Int)-1-((0:Nat):Int):=by rw[wrap_i64 (by omega)];simp
 simp[F.db,ai,aG,eY]
 refine gR.iw l.length (λ_=>True) [0,3,4] (λi=>[(3,.int .u64 (mC (l.drop (l.length-i)) i)),(4,.int .i64 ((l.length:Int)-1-(i:Int)))]) (λi=>[]) [.keep [0,3,4]] ?_
 simp[show∀l:List UInt8,mC l 0=0 from λ_=>rfl]
 refine⟨by rw[wl];simp,λi hi K hK=> ?_,λK=> ?_⟩
 ·have hb:=MD hi
  have eu:=wX (l.drop (l.length-i)) i
  have hx:l[l.length-(i+1)]? =some (l.getD (l.length-(i+1)) 0):=by rw[List.getD_eq_getElem?_getD,gJ (by omega)];rfl
  have hxl:=(l.getD (l.length-(i+1)) 0).toNat_lt
  have hp:256^(i+1)≤256^8:=Nat.pow_le_pow_right (by decide) (by omega)
  have h8:(256:Nat)^8=18446744073709551616:=by decide
  rw[Nat.pow_succ,h8]at hp
  rw[hb]at hK
  clear hb
  generalize mC (l.drop (l.length-i)) i=a at*
  generalize l.getD (l.length-(i+1)) 0=x at*
  have Co:(l.length:Int)-1-(i:Int)=((l.length-(i+1):Nat):Int):=by omega
  have Ue:(0:Int)≤((l.length-(i+1):Nat):Int):=Int.natCast_nonneg _
  have sL:l.length-(i+1)<l.length:=by omega
  have alP:((l.length-(i+1):Nat):Int)<l.length:=by omega
  have w1:IntKind.i64.wrap (((l.length-(i+1):Nat):Int)-1)=(l.length:Int)-1-((i:Int)+1):=by rw[wrap_i64 (by omega)];omega
  have w2:IntKind.u64.wrap ((a:Int)*256)=((256*a:Nat):Int):=by
   rw[show((a:Int)*256)=((256*a:Nat):Int) by omega];exact rC (by omega)
  have w3:IntKind.u64.wrap (x.toNat:Int)=x.toNat:=rC (by omega)
  have w4:bits .or .u64 ((256*a:Nat):Int) (x.toNat:Int)=((x.toNat+256*a:Nat):Int):=by
   rw[u64_or_nat _ _ (by omega) (by omega),nat_join 8 _ _ (Nat.mul_mod_right _ _) hxl,Nat.add_comm]
  rw[Co]
  generalize l.length-(i+1)=j at*
  simp[↓an,sL,alP,Ue,hx,w1,w2,w3,w4,u8,show IntKind.u64.bits=64 from rfl,-getElem?_pos,-Int.natCast_mul,-Int.natCast_add]
  refine⟨[.keep [0,3,4]],?_⟩
  simp
  exact hK _ (by simp)
 ·simp[↓an]
  refine⟨λhh=>absurd hh (by omega),λ_=> ?_⟩
  refine aC.plain [] ?_
  simp
def xb (h:Nat->UInt32) (i:Nat):Nat->UInt32:=λj=>if j<i then h j else if 8≤j∧j<8+i then FP (j-8)else 0
theorem Ay (h:Nat->UInt32) {b:List UInt8} (hb:b.length=64) {t:Nat} (ht:t<9223372036854775808) (last:Bool):
  a8 Pg I.dM [.ar 1 8 (uW 8 h),eY b,.int .u64 t,.bl last] (.ar 1 8 (uW 8 (tn h (pW b) t last))):=by
 refine af.intro T.dM (by simp[F.dM]) ?_
 simp[F.dM,ai,aG,eY,zU]
 refine gR.iw 16 (λ_=>True) [1,2,3,4,8,9,10,17] (λi=>[(17,.int .i64 i)]) (λi=>[(9,.box (.ar 1 16 (uW 16 λj=>if j<i then pW b j else 0)))]) [.keep [1,2,3,4,8,9,10,17]] ?_
 simp
 refine⟨λi hi K hK=> ?_,λK=> ?_⟩
 ·have hs:uW 16 (oB (λj=>if j<i then pW b j else 0) i (pW b i))=uW 16 λj=>if j<i+1 then pW b j else 0:=iX λj hj=>by
   simp only[oB]
   by_cases h:j=i
   ·rw[if_pos h,if_pos (by omega),h]
   ·rw[if_neg h]
    by_cases h':j<i
    ·rw[if_pos h',if_pos (by omega)]
    ·rw[if_neg h',if_neg (by omega)]
  have hl:((b.drop (4*i)).take 4).length=4:=by rw[lJ,List.length_drop];omega
  have c:=xa (l:=(b.drop (4*i)).take 4) (by omega)
  rw[hl]at c
  have jf:(i:Int)<16:=by omega
  have w1:IntKind.i64.wrap ((i:Int)+1)=i+1:=wrap_i64 (by omega)
  have w2:IntKind.i64.wrap (4*(i:Int))=((4*i:Nat):Int):=by rw[wrap_i64 (by omega)];omega
  have w3:IntKind.i64.wrap (((4*i:Nat):Int)+4)=((4*i+4:Nat):Int):=by rw[wrap_i64 (by omega)];omega
  have hT:=en (n:=16) (λj=>if j<i then pW b j else 0) hi
  simp only[Nat.lt_irrefl,if_false]at hT
  rw[←hs,←iG]at hK
  have hwm:pW b i=UInt32.ofNat (mC ((b.drop (4*i)).take 4) 4):=rfl
  rw[hwm,←vH]at hK
  clear hs hwm
  have l64:((4*i+4:Nat):Int)≤64:=by omega
  have e:List.drop (4*i) (List.take (4*i+4) (b.map u8))=((b.drop (4*i)).take 4).map u8:=by
   rw[List.drop_take,List.map_take,List.map_drop,Nat.add_sub_cancel_left]
  simp[↓an,hi,jf,hb,w1,w2,w3,hT,l64,-getElem?_pos,-Int.natCast_mul,-Int.natCast_add]
  rw[e]
  refine al.ret c (by simp[eY]) (by simp[eY]) (by simp) ?_
  simp[hi,jf,hT,w1,-getElem?_pos]
  refine⟨[.keep [1,2,3,4,8,9,10,17]],?_⟩
  simp
  exact hK _ (by simp)
 ·have hm:uW 16 (λj=>if j<16 then pW b j else 0)=uW 16 (pW b):=iX λj hj=>by rw[if_pos hj]
  rw[hm]
  have nX:uW 8 (λi=>h i^^^(lZ (pW b) (vG h t last) 10 i^^^lZ (pW b) (vG h t last) 10 (i+8)))=uW 8 (tn h (pW b) t last):=rfl
  generalize uW 8 (tn h (pW b) t last)=R at*
  clear hm
  simp[↓an]
  refine al.ret tG (by simp) (by simp) (by simp) ?_
  simp
  have alQ:uW 16 (λ_=>0)=uW 16 (xb h 0):=iX λj hj=>by
   simp only[xb];rw[if_neg (by omega),if_neg (by omega)]
  simp[alQ]
  refine gR.iw 8 (λ_=>True) [2,3,4,8,9,10,12,13] (λi=>[(13,.int .i64 i)]) (λi=>[(10,.box (.ar 1 16 (uW 16 (xb h i))))]) [.keep [2,3,4,8,9,10,12,13]] ?_
  simp
  refine⟨λi hi K hK=> ?_,λK=> ?_⟩
  ·have hs:uW 16 (oB (oB (xb h i) i (h i)) (8+i) (FP i))=uW 16 (xb h (i+1)):=iX λj hj=>by
    simp only[oB,xb]
    by_cases e:j=8+i
    ·subst e;rw[if_pos rfl,if_neg (by omega),if_pos (by omega),Nat.add_sub_cancel_left]
    ·rw[if_neg e]
     by_cases e1:j=i
     ·rw[if_pos e1,if_pos (by omega),e1]
     ·rw[if_neg e1]
      by_cases e2:j<i
      ·rw[if_pos e2,if_pos (by omega)]
      ·rw[if_neg e2,if_neg (show¬j<i+1 by omega)]
       by_cases e3:8≤j∧j<8+i
       ·rw[if_pos e3,if_pos (by omega)]
       ·rw[if_neg e3,if_neg (by omega)]
   have a1:=en (n:=8) h hi
   have a2:=en (n:=8) FP hi
   have a3:=en (n:=16) (xb h i) (i:=i) (by omega)
   have a4:=en (n:=16) (oB (xb h i) i (h i)) (i:=8+i) (by omega)
   have jf:(i:Int)<8:=by omega
   have nq:(i:Int)<16:=by omega
   have Hk:i<16:=by omega
   have w1:IntKind.i64.wrap ((i:Int)+1)=i+1:=wrap_i64 (by omega)
   have w2:IntKind.i64.wrap (8+(i:Int))=((8+i:Nat):Int):=by rw[wrap_i64 (by omega)];omega
   have l1:8+i<16:=by omega
   have l2:((8+i:Nat):Int)<16:=by omega
   rw[←hs]at hK
   rw[←iG]at hK a4
   rw[←iG]at hK
   clear hs
   generalize uW 16 (xb h i)=T at*
   generalize oB (xb h i) i (h i) (8+i)=z at*
   generalize xb h i i=z2 at*
   generalize 8+i=i8 at*
   simp[↓an,jf]
   refine oJ.run [10] rfl ?_
   simp[hi,jf,nq,Hk,w1,w2,a1,a2,a3,a4,l1,l2,-getElem?_pos]
   refine⟨[.keep [2,3,4,8,9,10,12,13]],?_⟩
   simp
   exact hK _ (by simp)
  have hi0:uW 16 (xb h 8)=uW 16 (nc h):=iX λj hj=>by
   simp only[xb,nc]
   by_cases e:j<8
   ·rw[if_pos e,if_pos e]
   ·rw[if_neg e,if_neg e,if_pos (by omega)]
  rw[hi0]
  have g12:=en (n:=16) (nc h) (i:=12) (by decide)
  have g13:=en (n:=16) (oB (nc h) 12 (nc h 12^^^UInt32.ofNat t)) (i:=13) (by decide)
  rw[show oB (nc h) 12 (nc h 12^^^UInt32.ofNat t) 13=nc h 13 from rfl]at g13
  have s1:oB (oB (nc h) 12 (nc h 12^^^UInt32.ofNat t)) 13 (nc h 13^^^UInt32.ofNat (t/4294967296))=w9 h t:=rfl
  have g14:=en (n:=16) (w9 h t) (i:=14) (by decide)
  have sh:(t:Int).fdiv 4294967296=((t/4294967296:Nat):Int):=by
   rw[show(4294967296:Int)=((4294967296:Nat):Int) from rfl,Int.fdiv_eq_ediv_of_nonneg _ (Int.natCast_nonneg _),←Int.natCast_ediv]
  simp[↓an,g12,g13,sh,vH,j8,iG,s1,show IntKind.u64.bits=64 from rfl,-getElem?_pos,-Int.natCast_ediv]
  have e1:oB (w9 h t) 14 (~~~w9 h t 14)=vG h t true:=rfl
  have e2:w9 h t=vG h t false:=rfl
  have hp:∀r k,k<16->(JR r)[k]? =some (.int .i64 (sg r k)):=λr k hk=>gy _ hk
  have R6:∀r k,r<10->k<16->(uW 16 (pW b))[sg r k]? =some (.int .u32 (nU (pW b (sg r k)))):=λr k hr hk=>en _ (Cb r hr k hk)
  refine⟨λhl=> ?_,λhl=> ?_⟩
  ·subst hl
   simp[g14,MC,iG,e1,show IntKind.u32.max=4294967295 from rfl,show IntKind.u32.signed=false from rfl,-getElem?_pos]
   generalize vG h t true=v at*
   generalize pW b=m at*
   refine gR.iw 10 (λ_=>True) [4,8,9,10,14] (λr=>[(14,.int .i64 r)]) (λr=>[(10,.box (.ar 1 16 (uW 16 (lZ m v r))))]) [.keep [4,8,9,10,14]] ?_
   simp[show lZ m v 0=v from rfl]
   refine⟨λr hr K hK=> ?_,λK=> ?_⟩
   ·have RN:(r:Int)<10:=by omega
    have w1:IntKind.i64.wrap ((r:Int)+1)=r+1:=wrap_i64 (by omega)
    have rT:lZ m v (r+1)=rY m (sg r) (oC m (sg r) (lZ m v r) 4) 4:=rfl
    rw[rT]at hK
    clear rT
    have uy:=hp r
    have uz:=λk=>R6 r k hr
    have eu:=Cb r hr
    have sN:∀k,k<16->((sg r k:Nat):Int)<16:=λk hk=>by have:=eu k hk;omega
    generalize lZ m v r=v at*
    have yr:rY m (sg r) (oC m (sg r) v 4) 4=gA (gA (gA (gA (gA (gA (gA (gA v 0 4 8 12 (m (sg r 0)) (m (sg r 1))) 1 5 9 13 (m (sg r 2)) (m (sg r 3))) 2 6 10 14 (m (sg r 4)) (m (sg r 5))) 3 7 11 15 (m (sg r 6)) (m (sg r 7))) 0 5 10 15 (m (sg r 8)) (m (sg r 9))) 1 6 11 12 (m (sg r 10)) (m (sg r 11))) 2 7 8 13 (m (sg r 12)) (m (sg r 13))) 3 4 9 14 (m (sg r 14)) (m (sg r 15)):=rfl
    rw[yr]at hK
    clear yr
    have cO:=xO hr
    simp[↓an,hr,RN,-getElem?_pos]
    refine al.ret cO (by simp) (by simp) (by simp) ?_
    simp[uy,uz,eu,sN,-getElem?_pos]
    have c0:a8 Pg I.aQ [.ar 1 16 (uW 16 v),.int .i64 0,.int .i64 4,.int .i64 8,.int .i64 12,.int .u32 (nU (m (sg r 0))),.int .u32 (nU (m (sg r 1)))] (.ar 1 16 (uW 16 (gA v 0 4 8 12 (m (sg r 0)) (m (sg r 1))))):=gE v (a:=0) (b:=4) (c:=8) (d:=12) (by decide) (by decide) (by decide) (by decide) _ _
    generalize gA v 0 4 8 12 (m (sg r 0)) (m (sg r 1))=v at*
    refine aU.ret c0 (by simp) (by simp) (by simp) ?_
    simp[uy,uz,eu,sN,-getElem?_pos]
    have c1:a8 Pg I.aQ [.ar 1 16 (uW 16 v),.int .i64 1,.int .i64 5,.int .i64 9,.int .i64 13,.int .u32 (nU (m (sg r 2))),.int .u32 (nU (m (sg r 3)))] (.ar 1 16 (uW 16 (gA v 1 5 9 13 (m (sg r 2)) (m (sg r 3))))):=gE v (a:=1) (b:=5) (c:=9) (d:=13) (by decide) (by decide) (by decide) (by decide) _ _
    generalize gA v 1 5 9 13 (m (sg r 2)) (m (sg r 3))=v at*
    refine aU.ret c1 (by simp) (by simp) (by simp) ?_
    simp[uy,uz,eu,sN,-getElem?_pos]
    have c2:a8 Pg I.aQ [.ar 1 16 (uW 16 v),.int .i64 2,.int .i64 6,.int .i64 10,.int .i64 14,.int .u32 (nU (m (sg r 4))),.int .u32 (nU (m (sg r 5)))] (.ar 1 16 (uW 16 (gA v 2 6 10 14 (m (sg r 4)) (m (sg r 5))))):=gE v (a:=2) (b:=6) (c:=10) (d:=14) (by decide) (by decide) (by decide) (by decide) _ _
    generalize gA v 2 6 10 14 (m (sg r 4)) (m (sg r 5))=v at*
    refine aU.ret c2 (by simp) (by simp) (by simp) ?_
    simp[uy,uz,eu,sN,-getElem?_pos]
    have c3:a8 Pg I.aQ [.ar 1 16 (uW 16 v),.int .i64 3,.int .i64 7,.int .i64 11,.int .i64 15,.int .u32 (nU (m (sg r 6))),.int .u32 (nU (m (sg r 7)))] (.ar 1 16 (uW 16 (gA v 3 7 11 15 (m (sg r 6)) (m (sg r 7))))):=gE v (a:=3) (b:=7) (c:=11) (d:=15) (by decide) (by decide) (by decide) (by decide) _ _
    generalize gA v 3 7 11 15 (m (sg r 6)) (m (sg r 7))=v at*
    refine aU.ret c3 (by simp) (by simp) (by simp) ?_
    simp[uy,uz,eu,sN,-getElem?_pos]
    have c4:a8 Pg I.aQ [.ar 1 16 (uW 16 v),.int .i64 0,.int .i64 5,.int .i64 10,.int .i64 15,.int .u32 (nU (m (sg r 8))),.int .u32 (nU (m (sg r 9)))] (.ar 1 16 (uW 16 (gA v 0 5 10 15 (m (sg r 8)) (m (sg r 9))))):=gE v (a:=0) (b:=5) (c:=10) (d:=15) (by decide) (by decide) (by decide) (by decide) _ _
    generalize gA v 0 5 10 15 (m (sg r 8)) (m (sg r 9))=v at*
    refine aU.ret c4 (by simp) (by simp) (by simp) ?_
    simp[uy,uz,eu,sN,-getElem?_pos]
    have c5:a8 Pg I.aQ [.ar 1 16 (uW 16 v),.int .i64 1,.int .i64 6,.int .i64 11,.int .i64 12,.int .u32 (nU (m (sg r 10))),.int .u32 (nU (m (sg r 11)))] (.ar 1 16 (uW 16 (gA v 1 6 11 12 (m (sg r 10)) (m (sg r 11))))):=gE v (a:=1) (b:=6) (c:=11) (d:=12) (by decide) (by decide) (by decide) (by decide) _ _
    generalize gA v 1 6 11 12 (m (sg r 10)) (m (sg r 11))=v at*
    refine aU.ret c5 (by simp) (by simp) (by simp) ?_
    simp[uy,uz,eu,sN,-getElem?_pos]
    have c6:a8 Pg I.aQ [.ar 1 16 (uW 16 v),.int .i64 2,.int .i64 7,.int .i64 8,.int .i64 13,.int .u32 (nU (m (sg r 12))),.int .u32 (nU (m (sg r 13)))] (.ar 1 16 (uW 16 (gA v 2 7 8 13 (m (sg r 12)) (m (sg r 13))))):=gE v (a:=2) (b:=7) (c:=8) (d:=13) (by decide) (by decide) (by decide) (by decide) _ _
    generalize gA v 2 7 8 13 (m (sg r 12)) (m (sg r 13))=v at*
    refine aU.ret c6 (by simp) (by simp) (by simp) ?_
    simp[uy,uz,eu,sN,-getElem?_pos]
    have c7:a8 Pg I.aQ [.ar 1 16 (uW 16 v),.int .i64 3,.int .i64 4,.int .i64 9,.int .i64 14,.int .u32 (nU (m (sg r 14))),.int .u32 (nU (m (sg r 15)))] (.ar 1 16 (uW 16 (gA v 3 4 9 14 (m (sg r 14)) (m (sg r 15))))):=gE v (a:=3) (b:=4) (c:=9) (d:=14) (by decide) (by decide) (by decide) (by decide) _ _
    generalize gA v 3 4 9 14 (m (sg r 14)) (m (sg r 15))=v at*
    refine aU.ret c7 (by simp) (by simp) (by simp) ?_
    simp[w1]
    refine⟨[.keep [4,8,9,10,14],.dr 15],?_⟩
    simp
    exact hK _ (by simp)
   ·generalize lZ m v 10=w at*
    simp[↓an]
    refine gR.iw 8 (λ_=>True) [4,8,10,152] (λi=>[(152,.int .i64 i)]) (λi=>[(4,.box (.ar 1 8 (uW 8 λj=>if j<i then h j^^^(w j^^^w (j+8))else h j)))]) [.keep [4,8,10,152]] ?_
    simp
    refine⟨λi hi K hK=> ?_,λK=> ?_⟩
    ·have hs:uW 8 (oB (λj=>if j<i then h j^^^(w j^^^w (j+8))else h j) i (h i^^^(w i^^^w (i+8))))=uW 8 λj=>if j<i+1 then h j^^^(w j^^^w (j+8))else h j:=iX λj hj=>by
      simp only[oB]
      by_cases e:j=i
      ·rw[if_pos e,if_pos (by omega),e]
      ·rw[if_neg e]
       by_cases e':j<i
       ·rw[if_pos e',if_pos (by omega)]
       ·rw[if_neg e',if_neg (by omega)]
     rw[←hs]at hK
     have a1:=en (n:=8) (λj=>if j<i then h j^^^(w j^^^w (j+8))else h j) hi
     simp only[Nat.lt_irrefl,if_false]at a1
     have a2:=en (n:=16) w (i:=i) (by omega)
     have a3:=en (n:=16) w (i:=i+8) (by omega)
     have jf:(i:Int)<8:=by omega
     have nq:(i:Int)<16:=by omega
     have Hk:i<16:=by omega
     have w1:IntKind.i64.wrap ((i:Int)+1)=i+1:=wrap_i64 (by omega)
     have w2:IntKind.i64.wrap (8+(i:Int))=((i+8:Nat):Int):=by rw[wrap_i64 (by omega)];omega
     rw[←iG]at hK
     clear hs
     have l1:i+8<16:=by omega
     have l2:((i+8:Nat):Int)<16:=by omega
     generalize uW 8 (λj=>if j<i then h j^^^(w j^^^w (j+8))else h j)=T at*
     generalize i+8=i8 at*
     simp[↓an,hi,jf,nq,Hk,w1,w2,a1,a2,a3,l1,l2,j8,-getElem?_pos]
     refine⟨[.keep [4,8,10,152]],?_⟩
     simp
     exact hK _ (by simp)
    ·have he:uW 8 (λj=>if j<8 then h j^^^(w j^^^w (j+8))else h j)=R:=by
      rw[←nX]
      exact iX λj hj=>by rw[if_pos hj]
     rw[he]
     have NP:aB R:=by rw[←nX];exact nJ _ _
     have NQ:jE R=R:=by rw[←nX];exact Ib _ _
     simp[↓an,NQ]
     refine aC.plain [.keep [8],.dr 4,.dr 10] ?_
     simp[NQ,NP.refs,ab]
     exact NP
  ·have hl:last=false:=by simpa using hl
   subst hl
   simp[e2,show IntKind.u32.max=4294967295 from rfl,show IntKind.u32.signed=false from rfl,-getElem?_pos]
   generalize vG h t false=v at*
   generalize pW b=m at*
   refine gR.iw 10 (λ_=>True) [4,8,9,10,14] (λr=>[(14,.int .i64 r)]) (λr=>[(10,.box (.ar 1 16 (uW 16 (lZ m v r))))]) [.keep [4,8,9,10,14]] ?_
   simp[show lZ m v 0=v from rfl]
   refine⟨λr hr K hK=> ?_,λK=> ?_⟩
   ·have RN:(r:Int)<10:=by omega
    have w1:IntKind.i64.wrap ((r:Int)+1)=r+1:=wrap_i64 (by omega)
    have rT:lZ m v (r+1)=rY m (sg r) (oC m (sg r) (lZ m v r) 4) 4:=rfl
    rw[rT]at hK
    clear rT
    have uy:=hp r
    have uz:=λk=>R6 r k hr
    have eu:=Cb r hr
    have sN:∀k,k<16->((sg r k:Nat):Int)<16:=λk hk=>by have:=eu k hk;omega
    generalize lZ m v r=v at*
    have yr:rY m (sg r) (oC m (sg r) v 4) 4=gA (gA (gA (gA (gA (gA (gA (gA v 0 4 8 12 (m (sg r 0)) (m (sg r 1))) 1 5 9 13 (m (sg r 2)) (m (sg r 3))) 2 6 10 14 (m (sg r 4)) (m (sg r 5))) 3 7 11 15 (m (sg r 6)) (m (sg r 7))) 0 5 10 15 (m (sg r 8)) (m (sg r 9))) 1 6 11 12 (m (sg r 10)) (m (sg r 11))) 2 7 8 13 (m (sg r 12)) (m (sg r 13))) 3 4 9 14 (m (sg r 14)) (m (sg r 15)):=rfl
    rw[yr]at hK
    clear yr
    have cO:=xO hr
    simp[↓an,hr,RN,-getElem?_pos]
    refine al.ret cO (by simp) (by simp) (by simp) ?_
    simp[uy,uz,eu,sN,-getElem?_pos]
    have c0:a8 Pg I.aQ [.ar 1 16 (uW 16 v),.int .i64 0,.int .i64 4,.int .i64 8,.int .i64 12,.int .u32 (nU (m (sg r 0))),.int .u32 (nU (m (sg r 1)))] (.ar 1 16 (uW 16 (gA v 0 4 8 12 (m (sg r 0)) (m (sg r 1))))):=gE v (a:=0) (b:=4) (c:=8) (d:=12) (by decide) (by decide) (by decide) (by decide) _ _
    generalize gA v 0 4 8 12 (m (sg r 0)) (m (sg r 1))=v at*
    refine aU.ret c0 (by simp) (by simp) (by simp) ?_
    simp[uy,uz,eu,sN,-getElem?_pos]
    have c1:a8 Pg I.aQ [.ar 1 16 (uW 16 v),.int .i64 1,.int .i64 5,.int .i64 9,.int .i64 13,.int .u32 (nU (m (sg r 2))),.int .u32 (nU (m (sg r 3)))] (.ar 1 16 (uW 16 (gA v 1 5 9 13 (m (sg r 2)) (m (sg r 3))))):=gE v (a:=1) (b:=5) (c:=9) (d:=13) (by decide) (by decide) (by decide) (by decide) _ _
    generalize gA v 1 5 9 13 (m (sg r 2)) (m (sg r 3))=v at*
    refine aU.ret c1 (by simp) (by simp) (by simp) ?_
    simp[uy,uz,eu,sN,-getElem?_pos]
    have c2:a8 Pg I.aQ [.ar 1 16 (uW 16 v),.int .i64 2,.int .i64 6,.int .i64 10,.int .i64 14,.int .u32 (nU (m (sg r 4))),.int .u32 (nU (m (sg r 5)))] (.ar 1 16 (uW 16 (gA v 2 6 10 14 (m (sg r 4)) (m (sg r 5))))):=gE v (a:=2) (b:=6) (c:=10) (d:=14) (by decide) (by decide) (by decide) (by decide) _ _
    generalize gA v 2 6 10 14 (m (sg r 4)) (m (sg r 5))=v at*
    refine aU.ret c2 (by simp) (by simp) (by simp) ?_
    simp[uy,uz,eu,sN,-getElem?_pos]
    have c3:a8 Pg I.aQ [.ar 1 16 (uW 16 v),.int .i64 3,.int .i64 7,.int .i64 11,.int .i64 15,.int .u32 (nU (m (sg r 6))),.int .u32 (nU (m (sg r 7)))] (.ar 1 16 (uW 16 (gA v 3 7 11 15 (m (sg r 6)) (m (sg r 7))))):=gE v (a:=3) (b:=7) (c:=11) (d:=15) (by decide) (by decide) (by decide) (by decide) _ _
    generalize gA v 3 7 11 15 (m (sg r 6)) (m (sg r 7))=v at*
    refine aU.ret c3 (by simp) (by simp) (by simp) ?_
    simp[uy,uz,eu,sN,-getElem?_pos]
    have c4:a8 Pg I.aQ [.ar 1 16 (uW 16 v),.int .i64 0,.int .i64 5,.int .i64 10,.int .i64 15,.int .u32 (nU (m (sg r 8))),.int .u32 (nU (m (sg r 9)))] (.ar 1 16 (uW 16 (gA v 0 5 10 15 (m (sg r 8)) (m (sg r 9))))):=gE v (a:=0) (b:=5) (c:=10) (d:=15) (by decide) (by decide) (by decide) (by decide) _ _
    generalize gA v 0 5 10 15 (m (sg r 8)) (m (sg r 9))=v at*
    refine aU.ret c4 (by simp) (by simp) (by simp) ?_
    simp[uy,uz,eu,sN,-getElem?_pos]
    have c5:a8 Pg I.aQ [.ar 1 16 (uW 16 v),.int .i64 1,.int .i64 6,.int .i64 11,.int .i64 12,.int .u32 (nU (m (sg r 10))),.int .u32 (nU (m (sg r 11)))] (.ar 1 16 (uW 16 (gA v 1 6 11 12 (m (sg r 10)) (m (sg r 11))))):=gE v (a:=1) (b:=6) (c:=11) (d:=12) (by decide) (by decide) (by decide) (by decide) _ _
    generalize gA v 1 6 11 12 (m (sg r 10)) (m (sg r 11))=v at*
    refine aU.ret c5 (by simp) (by simp) (by simp) ?_
    simp[uy,uz,eu,sN,-getElem?_pos]
    have c6:a8 Pg I.aQ [.ar 1 16 (uW 16 v),.int .i64 2,.int .i64 7,.int .i64 8,.int .i64 13,.int .u32 (nU (m (sg r 12))),.int .u32 (nU (m (sg r 13)))] (.ar 1 16 (uW 16 (gA v 2 7 8 13 (m (sg r 12)) (m (sg r 13))))):=gE v (a:=2) (b:=7) (c:=8) (d:=13) (by decide) (by decide) (by decide) (by decide) _ _
    generalize gA v 2 7 8 13 (m (sg r 12)) (m (sg r 13))=v at*
    refine aU.ret c6 (by simp) (by simp) (by simp) ?_
    simp[uy,uz,eu,sN,-getElem?_pos]
    have c7:a8 Pg I.aQ [.ar 1 16 (uW 16 v),.int .i64 3,.int .i64 4,.int .i64 9,.int .i64 14,.int .u32 (nU (m (sg r 14))),.int .u32 (nU (m (sg r 15)))] (.ar 1 16 (uW 16 (gA v 3 4 9 14 (m (sg r 14)) (m (sg r 15))))):=gE v (a:=3) (b:=4) (c:=9) (d:=14) (by decide) (by decide) (by decide) (by decide) _ _
    generalize gA v 3 4 9 14 (m (sg r 14)) (m (sg r 15))=v at*
    refine aU.ret c7 (by simp) (by simp) (by simp) ?_
    simp[w1]
    refine⟨[.keep [4,8,9,10,14],.dr 15],?_⟩
    simp
    exact hK _ (by simp)
   ·generalize lZ m v 10=w at*
    simp[↓an]
    refine gR.iw 8 (λ_=>True) [4,8,10,152] (λi=>[(152,.int .i64 i)]) (λi=>[(4,.box (.ar 1 8 (uW 8 λj=>if j<i then h j^^^(w j^^^w (j+8))else h j)))]) [.keep [4,8,10,152]] ?_
    simp
    refine⟨λi hi K hK=> ?_,λK=> ?_⟩
    ·have hs:uW 8 (oB (λj=>if j<i then h j^^^(w j^^^w (j+8))else h j) i (h i^^^(w i^^^w (i+8))))=uW 8 λj=>if j<i+1 then h j^^^(w j^^^w (j+8))else h j:=iX λj hj=>by
      simp only[oB]
      by_cases e:j=i
      ·rw[if_pos e,if_pos (by omega),e]
      ·rw[if_neg e]
       by_cases e':j<i
       ·rw[if_pos e',if_pos (by omega)]
       ·rw[if_neg e',if_neg (by omega)]
     rw[←hs]at hK
     have a1:=en (n:=8) (λj=>if j<i then h j^^^(w j^^^w (j+8))else h j) hi
     simp only[Nat.lt_irrefl,if_false]at a1
     have a2:=en (n:=16) w (i:=i) (by omega)
     have a3:=en (n:=16) w (i:=i+8) (by omega)
     have jf:(i:Int)<8:=by omega
     have nq:(i:Int)<16:=by omega
     have Hk:i<16:=by omega
     have w1:IntKind.i64.wrap ((i:Int)+1)=i+1:=wrap_i64 (by omega)
     have w2:IntKind.i64.wrap (8+(i:Int))=((i+8:Nat):Int):=by rw[wrap_i64 (by omega)];omega
     rw[←iG]at hK
     clear hs
     have l1:i+8<16:=by omega
     have l2:((i+8:Nat):Int)<16:=by omega
     generalize uW 8 (λj=>if j<i then h j^^^(w j^^^w (j+8))else h j)=T at*
     generalize i+8=i8 at*
     simp[↓an,hi,jf,nq,Hk,w1,w2,a1,a2,a3,l1,l2,j8,-getElem?_pos]
     refine⟨[.keep [4,8,10,152]],?_⟩
     simp
     exact hK _ (by simp)
    ·have he:uW 8 (λj=>if j<8 then h j^^^(w j^^^w (j+8))else h j)=R:=by
      rw[←nX]
      exact iX λj hj=>by rw[if_pos hj]
     rw[he]
     have NP:aB R:=by rw[←nX];exact nJ _ _
     have NQ:jE R=R:=by rw[←nX];exact Ib _ _
     simp[↓an,NQ]
     refine aC.plain [.keep [8],.dr 4,.dr 10] ?_
     simp[NQ,NP.refs,ab]
     exact NP
end Go.Ab
end Y25s
noncomputable section Y26s
namespace Go.Ab
open Go.Ab
def vI (d:List UInt8) (i:Nat):List UInt8:=(d.drop (64*i)).take 64++List.replicate (64-((d.drop (64*i)).take 64).length) 0
theorem Az (d:List UInt8) (i:Nat):(vI d i).length=64:=by
 simp only[vI,List.length_append,List.length_replicate,lJ]
 omega
def pX (d:List UInt8):Nat:=(d.length-1)/64
def A4 (d:List UInt8):Nat->(Nat->UInt32)
 |0=>oB FP 0 (FP 0^^^16842784)
 |i+1=>tn (A4 d i) (pW (vI d i)) (if i=pX d then d.length else 64*(i+1)) (decide (i=pX d))
def DM (h:Nat->UInt32):Nat->List UInt8
 |0=>[]
 |i+1=>DM h i++js (h i).toNat 4
theorem td (h:Nat->UInt32):∀i,(DM h i).length=4*i
 |0=>rfl
 |i+1=>by rw[DM,List.length_append,td h i,kg];omega
def gm (d:List UInt8):Key:=⟨DM (A4 d (pX d+1)) 8,td _ 8⟩
theorem xc {α:Type} {g:α->PV} (h:∀x,oz (g x)=true):∀l:List α,iT (l.map g)=true
 |[]=>rfl
 |x::l=>by simp only[List.map_cons,iT,h x,xc h l,Bool.and_self]
theorem yO (n m:Nat) (f:Nat->UInt32):lN (.ar 1 n (uW m f))=true:=Ez (by
 show iT (uW m f)=true
 exact xc (λ_=>rfl) _)
theorem jm (k:Key):lN (aW k)=true:=Ez (by
 show iT (k.l.map u8)=true
 exact xc (λ_=>rfl) _)
theorem vJ [gK] {f:FuncId} {s:St} {dst:Option Nat} {K:St->Prop} {tg:Tg K} {k off aK:Nat} {c:iC} {A:List UInt8} {x y z v:PV} (hA:∀b:List UInt8,b=(A.drop off).take 64->a8 Pg f [x,eY b,y,z] v)
  (hx:Pure x) (hy:Pure y) (hz:Pure z) (wx:wk x=x) (wy:wk y=y) (wz:wk z=z) (hv:Pure v) (mD:lN v=true) (hk:get s.bx k=some (.arr 1 (A.map u8))) (ht:aK=A.length) (ho:off+64≤A.length)
  (h:K ({s with bx:=put s.bx k (.arr 1 (A.map u8))}.put dst v)):al Pg s dst f [x,.rs k [] off 64 aK 1 c,y,z] K tg:=by
 have hp:aB (A.map u8):=aS (λ_=>by simp[u8]) _
 have qo:aB (((A.drop off).take 64).map u8):=aS (λ_=>by simp[u8]) _
 subst ht
 refine al.view [k] [] [.arr 1 (A.map u8)] (gI:=[x,.rs KB [] off 64 A.length 1 c,y,z]) (args0:=[x,.sl 1 (((A.drop off).take 64).map u8) false,y,z]) (iK:=[.arr 1 (A.map u8)]) (hA _ rfl) (by simp[getAll,hk]) (by simp) (by simp) (by simp[ae,ab,bS,idx,hx.refs,hy.refs,hz.refs]) (by simp[ah,hp.refs]) (by simp[aO,az,bE,idx,hx.az,hy.az,hz.az,wx,wy,wz]) (by simp[aM,hp.az]) ?_ ?_ ?_
 ·refine⟨.inl (.inl ⟨rfl,hx.refs _⟩),.inl (.inr ⟨KB,[],off,64,A.length,1,c,((A.drop off).take 64).map u8,rfl,?_,qo.refs _,by omega,rfl⟩),.inl (.inl ⟨rfl,hy.refs _⟩),.inl (.inl ⟨rfl,hz.refs _⟩),trivial⟩
  simp[content,aG,ho,List.map_take,List.map_drop]
 ·rintro r new ⟨rfl,rfl⟩
  exact⟨⟨mD,by simp⟩,rfl⟩
 ·rintro r new ⟨rfl,rfl⟩
  simp[hv.az,hv.refs,ah,hp.refs,aM,hp.az,bB]
  exact h
end Go.Ab
end Y26s
noncomputable section Y27s
namespace Go.Ab
open Go.Ab
theorem E9 (d:List UInt8) (i:Nat):(vI d i).map u8=((d.drop (64*i)).take 64).map u8++(List.replicate 64 (PV.int .u8 0)).drop ((d.drop (64*i)).take 64).length:=by
 rw[vI,List.map_append,List.map_replicate,List.drop_replicate];rfl
def Km (d:List UInt8) (i:Nat):List UInt8:=d.drop (64*i)
theorem adI (d:List UInt8):Km d 0=d:=rfl
theorem jT {d:List UInt8} (h1:1≤d.length) (h2:d.length≤1073741824) (c:Bool) (sz:Nat):
  a8 Pg I.jT [.int .i64 32,.sl sz [] c,eY d] (.tup [.sl 1 ((gm d).l.map u8) true,.int .i64 0]):=by
 refine af.intro T.jT (by simp[F.jT]) ?_
 have g0:=en (n:=8) FP (i:=0) (by decide)
 have x0:bits .xor .u32 16842752 0=16842752:=by decide+kernel
 have x1:bits .xor .u32 16842752 32=nU 16842784:=by decide+kernel
 have w0:IntKind.u32.wrap 32=32:=by decide+kernel
 have hh:oB FP 0 (FP 0^^^16842784)=A4 d 0:=rfl
 simp[F.jT,ai,aG,show((32:Int)<1)=False by simp]
 refine al.ret eT (by simp) (by simp) (by simp) ?_
 simp[g0,x0,x1,w0,j8,iG,hh,show IntKind.u32.bits=32 from rfl,-getElem?_pos]
 refine gR.iw (pX d) (λ_=>True) [0,8,9,10] (λi=>[(9,.sl 1 ((Km d i).map u8) false),(10,.int .i64 ((64*i:Nat):Int))]) (λi=>[(8,.box (.ar 1 8 (uW 8 (A4 d i))))]) [.keep [0,8,9,10]] ?_
 simp[eY,adI]
 have hnb:pX d=(d.length-1)/64:=rfl
 refine⟨λi hi K hK=> ?_,λK=> ?_⟩
 ·have rT:A4 d (i+1)=tn (A4 d i) (pW (vI d i)) (64*(i+1)) false:=by
   rw[A4,if_neg (by omega),decide_eq_false (by omega)]
  have XY:=E9 d i
  have qS:=Az d i
  have DF:(Km d i).drop 64=Km d (i+1):=by rw[Km,Km,List.drop_drop];rfl
  have hTl:(Km d i).length=d.length-64*i:=List.length_drop
  rw[rT]at hK
  rw[←DF]at hK
  clear rT DF
  have hcm:=λ(b:List UInt8) (hb:b.length=64)=>eL (A4 d i) (b:=b) hb (t:=64*(i+1)) (by omega) false
  generalize vI d i=B at*
  generalize A4 d i=H at*
  rw[show d.drop (64*i)=Km d i from rfl]at XY
  generalize hTe:Km d i=T at*
  have pv:min (T.length:Int) 64=64:=by omega
  have IS:min 64 T.length=64:=by omega
  have XZ:(64:Int)≤T.length:=by omega
  have hT0:¬T.length-64=0:=by omega
  have w1:IntKind.i64.wrap (64*(i:Int)+64)=((64*(i+1):Nat):Int):=by rw[wrap_i64 (by omega)];omega
  have w2:IntKind.u64.wrap ((64*(i+1):Nat):Int)=((64*(i+1):Nat):Int):=rC (by omega)
  have w3:64*((i:Int)+1)=((64*(i+1):Nat):Int):=by omega
  rw[lJ,IS]at XY
  generalize 64*(i+1)=q1 at*
  simp[↓an,pv,IS,XZ,hT0,w1,w2,-List.reduceReplicate]
  refine vJ (A:=B) (v:= .ar 1 8 (uW 8 (tn H (pW B) q1 false))) (λb hb=> ?_) (by simp) (by simp) (by simp) (by simp) (by simp) (by simp) (by simp) (yO _ _ _) (by simp[XY,List.take_take]) (by omega) (by omega) ?_
  ·have X0:b=B:=by rw[hb,List.drop_zero,←qS,List.take_length]
   subst X0
   exact hcm b qS
  simp[hT0]
  refine⟨[.keep [0,8,9,10],.dr 55],?_⟩
  simp
  exact hK _ (by simp[w3])
 ·have rT:A4 d (pX d+1)=tn (A4 d (pX d)) (pW (vI d (pX d))) d.length true:=by
   rw[A4,if_pos rfl,decide_eq_true rfl]
  have XY:=E9 d (pX d)
  have qS:=Az d (pX d)
  have hTl:(Km d (pX d)).length=d.length-64*pX d:=List.length_drop
  have oe:(gm d).l=DM (tn (A4 d (pX d)) (pW (vI d (pX d))) d.length true) 8:=by rw[←rT];rfl
  have hcm:=λ(b:List UInt8) (hb:b.length=64)=>eL (A4 d (pX d)) (b:=b) hb (t:=d.length) (by omega) true
  rw[oe]
  clear rT oe
  rw[show d.drop (64*pX d)=Km d (pX d) from rfl]at XY
  generalize hTe:Km d (pX d)=T at*
  generalize vI d (pX d)=B at*
  generalize A4 d (pX d)=H at*
  have alU:T.length≤64:=by omega
  have pv:min (T.length:Int) 64=T.length:=by omega
  have IS:min 64 T.length=T.length:=by omega
  have X1:min T.length 64=T.length:=by omega
  have XZ:(T.length:Int)≤64:=by omega
  have w1:IntKind.i64.wrap (64*(pX d:Int)+T.length)=d.length:=by rw[wrap_i64 (by omega)];omega
  have w2:IntKind.u64.wrap (d.length:Int)=d.length:=rC (by omega)
  have htt:T.take 64=T:=tJ alU
  have hdl:(T.map u8).drop T.length=[]:=List.drop_of_length_le (by simp)
  have pB:(T.map u8).take T.length=T.map u8:=tJ (by simp)
  rw[htt]at XY
  generalize pX d=n at*
  generalize ape:d.length=L at*
  have yV:(List.replicate 64 (PV.int .u8 0)).length=64:=List.length_replicate
  generalize hRz:List.replicate 64 (PV.int .u8 0)=Z at*
  simp[↓an,pv,IS,X1,XZ,w1,w2,hdl,pB,hRz,yV,-List.reduceReplicate,-List.length_replicate]
  refine vJ (A:=B) (v:= .ar 1 8 (uW 8 (tn H (pW B) L true))) (λb hb=> ?_) (by simp) (by simp) (by simp) (by simp) (by simp) (by simp) (by simp) (yO _ _ _) (by simp[XY,List.take_take,pB]) (by omega) (by omega) ?_
  ·have X0:b=B:=by rw[hb,List.drop_zero,←qS,List.take_length]
   subst X0
   exact hcm b qS
  generalize tn H (pW B) L true=G
  simp
  simp[↓an]
  refine gR.iw 8 (λ_=>True) [0,13,78,79] (λi=>[(13,.rs 13 [] 0 (4*i) (4*i) 1 .tip),(79,.int .i64 i)]) (λi=>[(13,.arr 1 (mB (DM G i)))]) [.keep [0,13,78,79],.vt 13 13 1] ?_
  simp[show mB (DM G 0)=[] from rfl]
  refine⟨λi hi K hK=> ?_,λK=> ?_⟩
  ·have hg:=en (n:=8) G hi
   have jf:(i:Int)<8:=by omega
   have hc:=dY (n:=(G i).toNat) (k:=4) (by decide) (by decide)
   have RR:=kg (G i).toNat 4
   have X2:=td G i
   have hs:DM G (i+1)=DM G i++js (G i).toNat 4:=rfl
   have w3:IntKind.u64.wrap (nU (G i))=((G i).toNat:Int):=rC (by have:=(G i).toNat_lt;omega)
   have w4:IntKind.i64.wrap ((i:Int)+1)=i+1:=wrap_i64 (by omega)
   rw[hs]at hK
   clear hs
   generalize js (G i).toNat 4=N at*
   generalize DM G i=O at*
   have yx:(mB O).length=4*i:=by rw[mB,List.length_map,X2]
   have X3:(mB N).length=4:=by rw[mB,List.length_map,RR]
   have R7:mB (O++N)=mB O++mB N:=List.map_append
   rw[R7]at hK
   clear R7
   have hmN:eY N= .sl 1 (mB N) false:=rfl
   rw[hmN]at hc
   have X4:aB (mB N):=aS (λ_=>by simp[u8]) _
   have hN0:mB N≠[]:=by intro e;rw[e]at X3;simp at X3
   generalize mB O=mO at*
   generalize mB N=mN at*
   simp[↓an,hi,jf,hg,w3,-getElem?_pos]
   refine al.ret hc (by simp) (by simp) (by simp[X4]) ?_
   simp[yx,X3,hN0,w4]
   refine⟨⟨by omega,by omega⟩,[.keep [0,13,78,79]],?_⟩
   simp
   exact hK _ (by simp[show 4*(i+1)=4*i+4 by omega])
  ·have X2:=td G 8
   generalize DM G 8=O at*
   have yx:(mB O).length=32:=by rw[mB,List.length_map,X2]
   have hp:aB (mB O):=aS (λ_=>by simp[u8]) O
   have he:O.map u8=mB O:=rfl
   have pB:(mB O).take 32=mB O:=by rw[←yx,List.take_length]
   rw[he]
   generalize mB O=mO at*
   simp[↓an,yx]
   refine aC.plain [.fz 13] ?_
   simp[hp.refs,yx,pB]
   exact hp
end Go.Ab
end Y27s
noncomputable section Y28s
namespace Go.Ab
open Go.Ab
theorem yP {ps:List (List UInt8)} {i:Nat} (h:i<ps.length):(ps.take (i+1)).flatten=(ps.take i).flatten++ps[i]:=by
 rw[List.take_succ_eq_append_getElem h,List.flatten_append];simp
theorem TA {ps:List (List UInt8)} (i:Nat):((ps.take i).flatten).length≤ps.flatten.length:=by
 have e:ps.flatten=(ps.take i).flatten++(ps.drop i).flatten:=by rw[←List.flatten_append,List.take_append_drop]
 rw[e,List.length_append];omega
theorem gB (ps:List (List UInt8)) (h:ps.flatten.length≤1099511627776) (hn:ps.length≤1099511627776):a8 Pg I.gB [.sl 1 (ps.map eY) false] (eY ps.flatten):=by
 refine af.intro T.gB (by simp[F.gB]) ?_
 simp[F.gB,ai,aG]
 refine gR.iw ps.length (λ_=>True) [3,6,7,8] (λi=>[(3,.rs 3 [] 0 (ps.take i).flatten.length (ps.take i).flatten.length 1 .tip),(8,.int .i64 i)]) (λi=>[(3,.arr 1 (mB (ps.take i).flatten))]) [.keep [3,6,7,8],.vt 3 3 1] ?_
 simp[show mB []=[] from rfl,-List.length_flatten]
 refine⟨λi hi K hK=> ?_,λK=> ?_⟩
 ·have FC:IntKind.i64.wrap ((i:Int)+1)=(i:Int)+1:=wrap_i64 (by omega)
  have qU:=TA (ps:=ps) (i+1)
  rw[yP hi,List.length_append]at qU
  rw[yP hi]at hK
  have hx:ps[i]? =some ps[i]:=gJ hi
  generalize ps[i]=p at*
  generalize (ps.take i).flatten=A at*
  have hl3:A.length+p.length≤ps.flatten.length:=qU
  have R7:mB (A++p)=mB A++mB p:=List.map_append
  have yx:(mB A).length=A.length:=List.length_map _
  have X4:(mB p).length=p.length:=List.length_map _
  have X5:eY p= .sl 1 (mB p) false:=rfl
  rw[R7,List.length_append]at hK
  generalize mB A=mA at*
  generalize mB p=mP at*
  have jf:(i:Int)<ps.length:=by omega
  simp[↓an,hi,jf,FC,hx,X5,yx,X4,-getElem?_pos]
  refine⟨⟨by omega,by omega⟩,[.keep [3,6,7,8]],?_⟩
  simp
  exact hK _ (by simp)
 ·simp[↓an,-List.length_flatten]
  have yx:(mB ps.flatten).length=ps.flatten.length:=List.length_map _
  have hp:aB (mB ps.flatten):=aS (λ_=>by simp[u8]) _
  have he:eY ps.flatten= .sl 1 (mB ps.flatten) false:=rfl
  have pB:(mB ps.flatten).take ps.flatten.length=mB ps.flatten:=by rw[←yx,List.take_length]
  rw[he]
  generalize mB ps.flatten=L at*
  refine aC.plain [.fz 3] ?_
  simp[hp.refs,yx,pB,-List.length_flatten]
  exact hp
theorem AB (ps:List (List UInt8)) (h:ps.flatten.length≤1099511627776) (hn:ps.length≤1099511627776):a8 Pg I.eU [.sl 1 (ps.map eY) false] (eY ps.flatten):=by
 refine af.intro T.eU (by simp[F.eU]) ?_
 simp[F.eU,ai,aG]
 refine gR.iw ps.length (λ_=>True) [3,6,7,8] (λi=>[(3,.rs 3 [] 0 (ps.take i).flatten.length (ps.take i).flatten.length 1 .tip),(8,.int .i64 i)]) (λi=>[(3,.arr 1 (mB (ps.take i).flatten))]) [.keep [3,6,7,8],.vt 3 3 1] ?_
 simp[show mB []=[] from rfl,-List.length_flatten]
 refine⟨λi hi K hK=> ?_,λK=> ?_⟩
 ·have FC:IntKind.i64.wrap ((i:Int)+1)=(i:Int)+1:=wrap_i64 (by omega)
  have qU:=TA (ps:=ps) (i+1)
  rw[yP hi,List.length_append]at qU
  rw[yP hi]at hK
  have hx:ps[i]? =some ps[i]:=gJ hi
  generalize ps[i]=p at*
  generalize (ps.take i).flatten=A at*
  have hl3:A.length+p.length≤ps.flatten.length:=qU
  have R7:mB (A++p)=mB A++mB p:=List.map_append
  have yx:(mB A).length=A.length:=List.length_map _
  have X4:(mB p).length=p.length:=List.length_map _
  have X5:eY p= .sl 1 (mB p) false:=rfl
  rw[R7,List.length_append]at hK
  generalize mB A=mA at*
  generalize mB p=mP at*
  have jf:(i:Int)<ps.length:=by omega
  simp[↓an,hi,jf,FC,hx,X5,yx,X4,-getElem?_pos]
  refine⟨⟨by omega,by omega⟩,[.keep [3,6,7,8]],?_⟩
  simp
  exact hK _ (by simp)
 ·simp[↓an,-List.length_flatten]
  have yx:(mB ps.flatten).length=ps.flatten.length:=List.length_map _
  have hp:aB (mB ps.flatten):=aS (λ_=>by simp[u8]) _
  have he:eY ps.flatten= .sl 1 (mB ps.flatten) false:=rfl
  have pB:(mB ps.flatten).take ps.flatten.length=mB ps.flatten:=by rw[←yx,List.take_length]
  rw[he]
  generalize mB ps.flatten=L at*
  refine aC.plain [.fz 3] ?_
  simp[hp.refs,yx,pB,-List.length_flatten]
  exact hp
theorem Da {n k:Nat} (h1:1≤k) (h8:k≤8):a8 Pg I.ez [.int .u64 n,.int .i64 k] (eY (js n k)):=by
 refine af.intro T.ez (by simp[F.ez]) ?_
 have e1:¬((k:Int)<1):=by omega
 have e2:¬((8:Int)<k):=by omega
 have hk:(js n k).length=k:=kg n k
 have hg:=λi (h:i<k)=>EL n h
 generalize js n k=B at*
 simp[F.ez,ai,aG,e1,e2]
 refine gR.iw k (λ_=>True) [0,1,5,6] (λi=>[(5,.rs 5 [] 0 i i 1 .tip),(6,.int .i64 i)]) (λi=>[(5,.arr 1 (mB (B.take i)))]) [.keep [0,1,5,6],.vt 5 5 1] ?_
 simp[show mB ([]:List UInt8)=[] from rfl]
 refine⟨λi hi K hK=> ?_,λK=> ?_⟩
 ·have jf:(i:Int)<k:=by omega
  have w3:IntKind.i64.wrap (8*(i:Int))=((8*i:Nat):Int):=by rw[wrap_i64 (by omega)];omega
  have w4:IntKind.i64.wrap ((i:Int)+1)=(i:Int)+1:=wrap_i64 (by omega)
  have hv:=To (n:=n) (j:=i) (by omega)
  have hl:(B.take i).length=i:=by rw[lJ];omega
  rw[hg i hi]at hK
  generalize B.take i=A at*
  have hA:mB A++[.int .u8 ((Ml n i).toNat:Int)]=mB (A++[Ml n i]):=by simp[mB,u8]
  have hAl:(mB A).length=i:=by simp[mB,hl]
  simp[↓an,hi,jf,w3,w4,hl,hv,hA,hAl,show IntKind.u64.bits=64 from rfl,-Int.natCast_mul]
  refine⟨⟨by omega,by omega⟩,[.keep [0,1,5,6]],?_⟩
  simp
  exact hK _ (by simp)
 ·have hB:B.take k=B:=by rw[←hk,List.take_length]
  have hBl:(mB B).length=k:=by simp[mB,hk]
  have hp:aB (mB B):=aS (λ_=>by simp[u8]) B
  have pB:(mB B).take k=mB B:=by rw[←hBl,List.take_length]
  simp[↓an]
  rw[hB]
  refine aC.plain [.fz 5] ?_
  simp[hp.refs,hBl,pB]
  exact⟨by simp[mB],by simp[mB,eY]⟩
theorem fO {ps:List (List UInt8)} (hn:ps.length≤1024) (h1:1≤ps.flatten.length) (h2:ps.flatten.length≤1073741824):a8 Pg I.fO [.sl 1 (ps.map eY) false] (aW (gm ps.flatten)):=by
 refine af.intro T.fO (by simp[F.fO]) ?_
 have hl:=(gm ps.flatten).h
 have c1:=gB ps (by omega) (by omega)
 have c2:=jT h1 h2 false 0
 generalize gm ps.flatten=k at*
 generalize ps.flatten=d at*
 have hk:aW k= .ar 1 32 (k.l.map u8):=rfl
 have hp:aB (k.l.map u8):=aS (λ_=>by simp[u8]) _
 rw[hk]
 have oe:(k.l.map u8).length=32:=by rw[List.length_map,hl]
 generalize k.l.map u8=L at*
 simp[F.fO,ai,aG]
 refine al.ret c1 (by simp) (by simp) (by simp) ?_
 simp
 refine al.ret c2 (by simp) (by simp) (by simp[hp]) ?_
 have pB:L.take 32=L:=by rw[←oe,List.take_length]
 simp[oe,pB]
 refine aC.plain [.keep [2]] ?_
 simp
 exact hp
end Go.Ab
end Y28s
noncomputable section Y29s
namespace Go.Ab
open Go.Ab
def Fa (d:List UInt8) (i:Nat):List UInt8:=d++List.replicate i 0
theorem Db (d:List UInt8) (i:Nat):(Fa d i).length=d.length+i:=by simp[Fa]
theorem ME (d:List UInt8) (i:Nat):Fa d (i+1)=Fa d i++[0]:=by rw[Fa,Fa,List.replicate_succ',List.append_assoc]
theorem QT {d:List UInt8} {z i:Nat} (hz:d.length+z=64*(pX d+1)) (hi:i≤pX d):((Fa d z).drop (64*i)).take 64=vI d i:=by
 have hnb:pX d=(d.length-1)/64:=rfl
 have hle:64*i≤d.length:=by omega
 rw[Fa,List.drop_append_of_le_length hle,List.take_append,vI,List.take_replicate]
 congr 2
 rw[lJ,List.length_drop]
 omega
def TB (i:Nat):Nat:=64*i
theorem TC (i:Nat):TB i=64*i:=rfl
theorem JS {d:List UInt8} (h1:1≤d.length) (h2:d.length≤1073741824) (c:Bool) (sz:Nat):
  a8 Pg I.fV [.int .i64 32,.sl sz [] c,eY d] (.tup [.sl 1 ((gm d).l.map u8) false,.int .i64 0]):=by
 refine af.intro T.fV (by simp[F.fV]) ?_
 have g0:=en (n:=8) FP (i:=0) (by decide)
 have x0:bits .xor .u32 16842752 0=16842752:=by decide+kernel
 have x1:bits .xor .u32 16842752 32=nU 16842784:=by decide+kernel
 have w0:IntKind.u32.wrap 32=32:=by decide+kernel
 have hh:oB FP 0 (FP 0^^^16842784)=A4 d 0:=rfl
 have yx:(mB d).length=d.length:=List.length_map _
 have hd:eY d= .sl 1 (mB d) false:=rfl
 have hd0:mB d≠[]:=by intro e;rw[e]at yx;simp at yx;omega
 simp[F.fV,ai,aG,hd]
 refine al.ret tG (by simp) (by simp) (by simp) ?_
 simp[g0,x0,x1,w0,j8,iG,hh,show IntKind.u32.bits=32 from rfl,-getElem?_pos]
 simp[↓an,yx,hd0]
 refine⟨⟨by omega,by omega⟩,?_⟩
 have hnb:pX d=(d.length-1)/64:=rfl
 obtain⟨z,hz⟩:∃z,d.length+z=64*(pX d+1):=⟨64*(pX d+1)-d.length,by omega⟩
 refine gR.iw z (λ_=>True) [0,8,9,10] (λi=>[(9,.rs 55 [] 0 (d.length+i) (d.length+i) 1 .tip)]) (λi=>[(55,.arr 1 (mB (Fa d i)))]) [.keep [0,8,9,10]] ?_
 simp[show Fa d 0=d by simp[Fa]]
 refine⟨λi hi K hK=> ?_,λK=> ?_⟩
 ·have hs:mB (Fa d (i+1))=mB (Fa d i)++[.int .u8 0]:=by rw[ME,mB,List.map_append];rfl
  have lS:(mB (Fa d i)).length=d.length+i:=by rw[mB,List.length_map,Db]
  have Hl:(((d.length+i:Nat):Int)).tmod 64=(((d.length+i)%64:Nat):Int):=rfl
  have dF:¬(d.length+i)%64=0:=by omega
  have hb:d.length+i≤1073741888:=by omega
  rw[hs]at hK
  rw[show d.length+(i+1)=d.length+i+1 from rfl]at hK
  clear hs
  generalize mB (Fa d i)=M at*
  generalize d.length+i=n at*
  simp[↓an,Hl,dF,lS,-Int.natCast_emod]
  refine⟨⟨by omega,by omega⟩,[.keep [0,8,9,10]],?_⟩
  simp
  exact hK _ (by simp)
 ·have lS:(mB (Fa d z)).length=64*(pX d+1):=by rw[mB,List.length_map,Db,hz]
  have Hl:((64*(pX d+1):Nat):Int).tmod 64=0:=by
   have:((64*(pX d+1):Nat):Int).tmod 64=((64*(pX d+1)%64:Nat):Int):=rfl
   rw[this];omega
  have Ku:=λi (hi:i≤pX d)=>QT hz hi
  have hpn:=Db d z
  rw[hz]at hpn⊢
  have hN0:¬64*(pX d+1)=0:=by omega
  obtain⟨N,hN⟩:∃N,64*(pX d+1)=N:=⟨_,rfl⟩
  rw[hN]at lS Hl hN0 hpn⊢
  generalize Fa d z=A at*
  simp[↓an,lS,Hl,hN0,-Int.natCast_mul,-Int.natCast_add]
  refine gR.iw (pX d+1) (λ_=>True) [0,8,9,10,11] (λi=>[(11,.int .i64 ((TB i:Nat):Int))]) (λi=>[(8,.box (.ar 1 8 (uW 8 (A4 d i))))]) [.keep [0,8,9,10,11]] ?_
  simp[show TB 0=0 from rfl]
  refine⟨λi hi K hK=> ?_,λK=> ?_⟩
  ·have hA:=Ku i (by omega)
   have rT:A4 d (i+1)=tn (A4 d i) (pW (vI d i)) (if i=pX d then d.length else 64*(i+1)) (decide (i=pX d)):=rfl
   have qS:=Az d i
   have q0:=TC i
   have q1:=TC (i+1)
   rw[show 64*(i+1)=TB (i+1) from rfl]at rT
   rw[show 64*i=TB i from rfl]at hA
   rw[rT]at hK
   clear rT
   generalize A4 d i=H at*
   generalize vI d i=B at*
   generalize TB (i+1)=m1 at*
   generalize TB i=m0 at*
   have l1:m0<N:=by omega
   have l1':(m0:Int)<N:=by omega
   have w1:IntKind.i64.wrap ((m0:Int)+64)=(m1:Int):=by rw[wrap_i64 (by omega)];omega
   have w2:IntKind.u64.wrap (m1:Int)=m1:=rC (by omega)
   have w3:IntKind.u64.wrap (d.length:Int)=d.length:=rC (by omega)
   have l2:m0≤m1:=by omega
   have l2':(m0:Int)≤m1:=by omega
   have l3:m1≤N:=by omega
   have l3':(m1:Int)≤N:=by omega
   have l4:m1-m0=64:=by omega
   have hc:=λ(b:List UInt8) (hb:b.length=64) (t:Nat) (ht:t<9223372036854775808) (l:Bool)=>Ay H (b:=b) hb (t:=t) ht l
   have hAe:∀b:List UInt8,b=(A.drop m0).take 64->b=B:=λb hb=>by rw[hb,hA]
   by_cases y8:i=pX d
   ·have e1:m1=N:=by omega
    have e2:decide (i=pX d)=true:=decide_eq_true y8
    rw[if_pos y8,e2]at hK
    clear hA Ku
    simp[↓an,l1,l1',w1,w2,w3,e1,l2,l2',l3,l3',lS,l4]
    refine⟨by omega,?_⟩
    rw[show N-m0=64 by omega]
    refine vJ (A:=A) (v:= .ar 1 8 (uW 8 (tn H (pW B) d.length true))) (λb hb=> ?_) (by simp) (by simp) (by simp) (by simp) (by simp) (by simp) (by simp) (yO _ _ _) (by simp[mB]) (by omega) (by omega) ?_
    ·have X0:=hAe b hb
     subst X0
     exact hc b qS _ (by omega) true
    simp[w1,e1]
    refine⟨[.keep [0,8,9,10,11]],?_⟩
    simp
    exact hK _ (by simp[mB,e1])
   ·have e1:¬m1=N:=by omega
    have e1':¬(m1:Int)=N:=by omega
    have e2:decide (i=pX d)=false:=decide_eq_false y8
    rw[if_neg y8,e2]at hK
    clear hA Ku
    simp[↓an,l1,l1',w1,w2,w3,e1,e1',l2,l2',l3,l3',lS,l4]
    refine vJ (A:=A) (v:= .ar 1 8 (uW 8 (tn H (pW B) m1 false))) (λb hb=> ?_) (by simp) (by simp) (by simp) (by simp) (by simp) (by simp) (by simp) (yO _ _ _) (by simp[mB]) (by omega) (by omega) ?_
    ·have X0:=hAe b hb
     subst X0
     exact hc b qS _ (by omega) false
    simp[w1,e1,e1']
    refine⟨[.keep [0,8,9,10,11]],?_⟩
    simp
    exact hK _ (by simp[mB,e1])
  ·have oe:(gm d).l=DM (A4 d (pX d+1)) 8:=rfl
   rw[oe]
   have ha:TB (pX d+1)=N:=hN
   rw[ha]
   clear oe Ku
   generalize A4 d (pX d+1)=G at*
   simp[↓an,lS]
   refine gR.iw 8 (λ_=>True) [0,14,95,96] (λi=>[(14,.rs 14 [] 0 (4*i) (4*i) 1 .tip),(96,.int .i64 i)]) (λi=>[(14,.arr 1 (mB (DM G i)))]) [.keep [0,14,95,96],.vt 14 14 1] ?_
   simp[show mB (DM G 0)=[] from rfl]
   refine⟨λi hi K hK=> ?_,λK=> ?_⟩
   ·have hg:=en (n:=8) G hi
    have jf:(i:Int)<8:=by omega
    have hc:=Da (n:=(G i).toNat) (k:=4) (by decide) (by decide)
    have RR:=kg (G i).toNat 4
    have X2:=td G i
    have hs:DM G (i+1)=DM G i++js (G i).toNat 4:=rfl
    have w3:IntKind.u64.wrap (nU (G i))=((G i).toNat:Int):=rC (by have:=(G i).toNat_lt;omega)
    have w4:IntKind.i64.wrap ((i:Int)+1)=i+1:=wrap_i64 (by omega)
    rw[hs]at hK
    clear hs
    generalize js (G i).toNat 4=N at*
    generalize DM G i=O at*
    have yx:(mB O).length=4*i:=by rw[mB,List.length_map,X2]
    have X3:(mB N).length=4:=by rw[mB,List.length_map,RR]
    have R7:mB (O++N)=mB O++mB N:=List.map_append
    rw[R7]at hK
    clear R7
    have hmN:eY N= .sl 1 (mB N) false:=rfl
    rw[hmN]at hc
    have X4:aB (mB N):=aS (λ_=>by simp[u8]) _
    have hN0:mB N≠[]:=by intro e;rw[e]at X3;simp at X3
    generalize mB O=mO at*
    generalize mB N=mN at*
    simp[↓an,hi,jf,hg,w3,-getElem?_pos]
    refine al.ret hc (by simp) (by simp) (by simp[X4]) ?_
    simp[yx,X3,hN0,w4]
    refine⟨⟨by omega,by omega⟩,[.keep [0,14,95,96]],?_⟩
    simp
    exact hK _ (by simp[show 4*(i+1)=4*i+4 by omega])
   ·have X2:=td G 8
    generalize DM G 8=O at*
    have yx:(mB O).length=32:=by rw[mB,List.length_map,X2]
    have hp:aB (mB O):=aS (λ_=>by simp[u8]) O
    have he:O.map u8=mB O:=rfl
    have pB:(mB O).take 32=mB O:=by rw[←yx,List.take_length]
    rw[he]
    generalize mB O=mO at*
    simp[↓an,yx]
    refine aC.plain [.fz 14] ?_
    simp[hp.refs,yx,pB]
    exact hp
end Go.Ab
end Y29s

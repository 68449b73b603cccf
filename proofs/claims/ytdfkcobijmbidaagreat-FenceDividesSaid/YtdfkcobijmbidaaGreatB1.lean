/- The types of a daemon as the abstract reading has them. No condition. -/
import Derived.Test.YtdfkcobijmbidaaGreatSF1
import Derived.Test.YtdfkcobijmbidaaGreatSF2
import Derived.Test.YtdfkcobijmbidaaGreatSF3
import Derived.Test.YtdfkcobijmbidaaGreatSF4
import Derived.Test.YtdfkcobijmbidaaGreatA5
set_option linter.all false
noncomputable section
namespace Go.Ab
open Go.Ab
abbrev shKy : Sh := .ar 32 (.i .u8)
@[simp] theorem shKy_w : shW shKy = 32 := rfl
@[simp] theorem shKy_agg : Sh.agg shKy = true := rfl
abbrev shWn : Sh := .st [.b, .i .u64, .ar 4 (.i .u64)]
@[simp] theorem shWn_w : shW shWn = 6 := rfl
@[simp] theorem shWn_agg : Sh.agg shWn = true := rfl
abbrev shNo : Sh := .st [.ar 32 (.i .u8), .ar 32 (.i .u8)]
@[simp] theorem shNo_w : shW shNo = 64 := rfl
@[simp] theorem shNo_agg : Sh.agg shNo = true := rfl
abbrev shTg : Sh := .ar 16 (.i .u8)
@[simp] theorem shTg_w : shW shTg = 16 := rfl
@[simp] theorem shTg_agg : Sh.agg shTg = true := rfl
abbrev shSm : Sh := .ar 12 (.i .u8)
@[simp] theorem shSm_w : shW shSm = 12 := rfl
@[simp] theorem shSm_agg : Sh.agg shSm = true := rfl
def encB (b : (List UInt8)) : PV := .sl 1 (b.map u8) false
@[simp] theorem pure_encB (e : (List UInt8)) : Pure (encB e) := by simp [encB]
@[simp] theorem wk_encB (e : (List UInt8)) : wk (encB e) = encB e := by simp [encB]
@[simp ↓] theorem vgk_encB (g : Bool) (e : (List UInt8)) (K : PV → Prop) : vgk g (encB e) K = K (encB e) := _root_.id rfl
@[simp] theorem encB_width (e : (List UInt8)) : (encB e).width = 1 := _root_.id rfl
@[simp] theorem encB_agg (e : (List UInt8)) : (encB e).isAgg = false := _root_.id rfl
@[simp] theorem encB_cell (e : (List UInt8)) : (encB e).cellular = true := _root_.id rfl
@[simp] theorem encB_mP (l : List (List UInt8)) : PureL (l.map encB) := pureL_map pure_encB l
@[simp ↓] theorem lenK_encB (s : St) (K : PV → Prop) (l : List UInt8) : lenK s K (encB l) = K (.int .i64 l.length) := by simp [encB]
@[simp ↓] theorem idxSl_encB (s : St) (sz : Nat) (j : Int) (K : PV → Prop) (l : List UInt8) : idxSl s sz j K (encB l) = ((1 = sz ∧ 0 ≤ j ∧ j < l.length) ∧ K (.fp sz (l.map u8) [.i j.toNat sz])) := by simp [encB]
def encBs (l : (List (List UInt8))) : PV := .sl 1 (l.map encB) false
@[simp] theorem pure_encBs (e : (List (List UInt8))) : Pure (encBs e) := by simp [encBs]
@[simp] theorem wk_encBs (e : (List (List UInt8))) : wk (encBs e) = encBs e := by simp [encBs]
@[simp ↓] theorem vgk_encBs (g : Bool) (e : (List (List UInt8))) (K : PV → Prop) : vgk g (encBs e) K = K (encBs e) := _root_.id rfl
@[simp] theorem encBs_width (e : (List (List UInt8))) : (encBs e).width = 1 := _root_.id rfl
@[simp] theorem encBs_agg (e : (List (List UInt8))) : (encBs e).isAgg = false := _root_.id rfl
@[simp] theorem encBs_cell (e : (List (List UInt8))) : (encBs e).cellular = true := _root_.id rfl
@[simp ↓] theorem lenK_encBs (s : St) (K : PV → Prop) (l : List (List UInt8)) : lenK s K (encBs l) = K (.int .i64 l.length) := by simp [encBs]
def encIs (l : (List Int)) : PV := .sl 1 (l.map (fun n : Int => PV.int .i64 n)) false
@[simp] theorem pure_encIs (e : (List Int)) : Pure (encIs e) := by simp [encIs]
@[simp] theorem wk_encIs (e : (List Int)) : wk (encIs e) = encIs e := by simp [encIs]
@[simp ↓] theorem vgk_encIs (g : Bool) (e : (List Int)) (K : PV → Prop) : vgk g (encIs e) K = K (encIs e) := _root_.id rfl
@[simp] theorem encIs_width (e : (List Int)) : (encIs e).width = 1 := _root_.id rfl
@[simp] theorem encIs_agg (e : (List Int)) : (encIs e).isAgg = false := _root_.id rfl
@[simp] theorem encIs_cell (e : (List Int)) : (encIs e).cellular = true := _root_.id rfl
@[simp ↓] theorem lenK_encIs (s : St) (K : PV → Prop) (l : List Int) : lenK s K (encIs l) = K (.int .i64 l.length) := by simp [encIs]
def encU (l : (List Int)) : PV := .sl 1 (l.map (fun n : Int => PV.int .u32 n)) false
@[simp] theorem pure_encU (e : (List Int)) : Pure (encU e) := by simp [encU]
@[simp] theorem wk_encU (e : (List Int)) : wk (encU e) = encU e := by simp [encU]
@[simp ↓] theorem vgk_encU (g : Bool) (e : (List Int)) (K : PV → Prop) : vgk g (encU e) K = K (encU e) := _root_.id rfl
@[simp] theorem encU_flat (e : (List Int)) : (encU e).flat = true := _root_.id rfl
@[simp ↓] theorem lenK_encU (s : St) (K : PV → Prop) (l : List Int) : lenK s K (encU l) = K (.int .i64 l.length) := by simp [encU]
@[simp ↓] theorem idxSl_encU (s : St) (sz : Nat) (j : Int) (K : PV → Prop) (l : List Int) : idxSl s sz j K (encU l) = ((1 = sz ∧ 0 ≤ j ∧ j < l.length) ∧ K (.fp sz (l.map (fun n : Int => PV.int .u32 n)) [.i j.toNat sz])) := by simp [encU]
structure Key where
  l : List UInt8
  h : l.length = 32
def encK (k : Key) : PV := .ar 1 32 (k.l.map u8)
@[simp] theorem pure_encK (e : Key) : Pure (encK e) := by simp [encK]
@[simp] theorem wk_encK (e : Key) : wk (encK e) = encK e := by simp [encK]
@[simp ↓] theorem vgk_encK (g : Bool) (e : Key) (K : PV → Prop) : vgk g (encK e) K = K (encK e) := _root_.id rfl
@[simp] theorem encK_width (e : Key) : (encK e).width = 32 := _root_.id rfl
@[simp] theorem encK_agg (e : Key) : (encK e).isAgg = true := _root_.id rfl
@[simp] theorem encK_cell (e : Key) : (encK e).cellular = true := _root_.id rfl
@[simp] theorem encK_flat (e : Key) : (encK e).flat = true := _root_.id rfl
structure Ses where
  loc : Int
  rem : Int
  send : FV shKy
  recv : FV shKy
  next : Int
  fence : Int
  win : FV shWn
  born : Int
  ini : Bool
def encS (s : Ses) : PV := .st 76 [.int .u32 s.loc, .int .u32 s.rem, s.send.p, s.recv.p, .int .u64 s.next, .int .u64 s.fence, s.win.p, .int .i64 s.born, .bl s.ini]
@[simp] theorem pure_encS (e : Ses) : Pure (encS e) := by simp [encS]
@[simp] theorem wk_encS (e : Ses) : wk (encS e) = encS e := by simp [encS]
@[simp ↓] theorem vgk_encS (g : Bool) (e : Ses) (K : PV → Prop) : vgk g (encS e) K = K (encS e) := _root_.id rfl
@[simp] theorem encS_width (e : Ses) : (encS e).width = 76 := _root_.id rfl
@[simp] theorem encS_agg (e : Ses) : (encS e).isAgg = true := _root_.id rfl
@[simp] theorem encS_cell (e : Ses) : (encS e).cellular = true := _root_.id rfl
@[simp] theorem encS_flat (e : Ses) : (encS e).flat = true := _root_.id rfl
@[simp ↓] theorem getP_encS_0 (e : Ses) (r : List Step) : getP (encS e) (.f 0 0 :: r) = getP (.int .u32 e.loc) r := by simp [encS, widths]
@[simp ↓] theorem getP_encS_1 (e : Ses) (r : List Step) : getP (encS e) (.f 1 1 :: r) = getP (.int .u32 e.rem) r := by simp [encS, widths]
@[simp ↓] theorem getP_encS_2 (e : Ses) (r : List Step) : getP (encS e) (.f 2 2 :: r) = getP (e.send.p) r := by simp [encS, widths]
def encS_s2 (e : Ses) (c : PV) : PV := .st 76 [.int .u32 e.loc, .int .u32 e.rem, c, e.recv.p, .int .u64 e.next, .int .u64 e.fence, e.win.p, .int .i64 e.born, .bl e.ini]
@[simp ↓] theorem setP_encS_2 (e : Ses) (r : List Step) (x : PV) : setP (encS e) (.f 2 2 :: r) x = (setP (e.send.p) r x).bind fun c => some (encS_s2 e c) := by simp [encS, encS_s2, widths]
def encS_s3 (e : Ses) (c : PV) : PV := .st 76 [.int .u32 e.loc, .int .u32 e.rem, e.send.p, c, .int .u64 e.next, .int .u64 e.fence, e.win.p, .int .i64 e.born, .bl e.ini]
@[simp ↓] theorem setP_encS_3 (e : Ses) (r : List Step) (x : PV) : setP (encS e) (.f 3 34 :: r) x = (setP (e.recv.p) r x).bind fun c => some (encS_s3 e c) := by simp [encS, encS_s3, widths]
@[simp ↓] theorem getP_encS_4 (e : Ses) (r : List Step) : getP (encS e) (.f 4 66 :: r) = getP (.int .u64 e.next) r := by simp [encS, widths]
def encS_s4 (e : Ses) (c : PV) : PV := .st 76 [.int .u32 e.loc, .int .u32 e.rem, e.send.p, e.recv.p, c, .int .u64 e.fence, e.win.p, .int .i64 e.born, .bl e.ini]
@[simp ↓] theorem setP_encS_4 (e : Ses) (r : List Step) (x : PV) : setP (encS e) (.f 4 66 :: r) x = (setP (.int .u64 e.next) r x).bind fun c => some (encS_s4 e c) := by simp [encS, encS_s4, widths]
@[simp ↓] theorem encS_s4_f (e : Ses) (v : Int) : encS_s4 e (.int .u64 v) = encS { e with next := v } := _root_.id rfl
@[simp ↓] theorem getP_encS_5 (e : Ses) (r : List Step) : getP (encS e) (.f 5 67 :: r) = getP (.int .u64 e.fence) r := by simp [encS, widths]
def encS_s5 (e : Ses) (c : PV) : PV := .st 76 [.int .u32 e.loc, .int .u32 e.rem, e.send.p, e.recv.p, .int .u64 e.next, c, e.win.p, .int .i64 e.born, .bl e.ini]
@[simp ↓] theorem setP_encS_5 (e : Ses) (r : List Step) (x : PV) : setP (encS e) (.f 5 67 :: r) x = (setP (.int .u64 e.fence) r x).bind fun c => some (encS_s5 e c) := by simp [encS, encS_s5, widths]
@[simp ↓] theorem encS_s5_f (e : Ses) (v : Int) : encS_s5 e (.int .u64 v) = encS { e with fence := v } := _root_.id rfl
@[simp ↓] theorem getP_encS_6 (e : Ses) (r : List Step) : getP (encS e) (.f 6 68 :: r) = getP (e.win.p) r := by simp [encS, widths]
def encS_s6 (e : Ses) (c : PV) : PV := .st 76 [.int .u32 e.loc, .int .u32 e.rem, e.send.p, e.recv.p, .int .u64 e.next, .int .u64 e.fence, c, .int .i64 e.born, .bl e.ini]
@[simp ↓] theorem setP_encS_6 (e : Ses) (r : List Step) (x : PV) : setP (encS e) (.f 6 68 :: r) x = (setP (e.win.p) r x).bind fun c => some (encS_s6 e c) := by simp [encS, encS_s6, widths]
@[simp ↓] theorem getP_encS_7 (e : Ses) (r : List Step) : getP (encS e) (.f 7 74 :: r) = getP (.int .i64 e.born) r := by simp [encS, widths]
structure Plc where
  has : Bool
  ses : Ses
def encP (p : Plc) : PV := .st 77 [.bl p.has, encS p.ses]
@[simp] theorem pure_encP (e : Plc) : Pure (encP e) := by simp [encP]
@[simp] theorem wk_encP (e : Plc) : wk (encP e) = encP e := by simp [encP]
@[simp ↓] theorem vgk_encP (g : Bool) (e : Plc) (K : PV → Prop) : vgk g (encP e) K = K (encP e) := _root_.id rfl
@[simp] theorem encP_width (e : Plc) : (encP e).width = 77 := _root_.id rfl
@[simp] theorem encP_agg (e : Plc) : (encP e).isAgg = true := _root_.id rfl
@[simp] theorem encP_cell (e : Plc) : (encP e).cellular = true := _root_.id rfl
@[simp] theorem encP_flat (e : Plc) : (encP e).flat = true := _root_.id rfl
@[simp ↓] theorem getP_encP_0 (e : Plc) (r : List Step) : getP (encP e) (.f 0 0 :: r) = getP (.bl e.has) r := by simp [encP, widths]
@[simp ↓] theorem getP_encP_1 (e : Plc) (r : List Step) : getP (encP e) (.f 1 1 :: r) = getP (encS e.ses) r := by simp [encP, widths]
def encP_s1 (e : Plc) (c : PV) : PV := .st 77 [.bl e.has, c]
@[simp ↓] theorem setP_encP_1 (e : Plc) (r : List Step) (x : PV) : setP (encP e) (.f 1 1 :: r) x = (setP (encS e.ses) r x).bind fun c => some (encP_s1 e c) := by simp [encP, encP_s1, widths]
@[simp ↓] theorem encP_s1_f (e : Plc) (v : Ses) : encP_s1 e (encS v) = encP { e with ses := v } := _root_.id rfl
structure Rng where
  p : Plc
  c : Plc
  n : Plc
def encR (r : Rng) : PV := .st 231 [encP r.p, encP r.c, encP r.n]
@[simp] theorem pure_encR (e : Rng) : Pure (encR e) := by simp [encR]
@[simp] theorem wk_encR (e : Rng) : wk (encR e) = encR e := by simp [encR]
@[simp ↓] theorem vgk_encR (g : Bool) (e : Rng) (K : PV → Prop) : vgk g (encR e) K = K (encR e) := _root_.id rfl
@[simp] theorem encR_width (e : Rng) : (encR e).width = 231 := _root_.id rfl
@[simp] theorem encR_agg (e : Rng) : (encR e).isAgg = true := _root_.id rfl
@[simp] theorem encR_cell (e : Rng) : (encR e).cellular = true := _root_.id rfl
@[simp ↓] theorem getP_encR_0 (e : Rng) (r : List Step) : getP (encR e) (.f 0 0 :: r) = getP (encP e.p) r := by simp [encR, widths]
def encR_s0 (e : Rng) (c : PV) : PV := .st 231 [c, encP e.c, encP e.n]
@[simp ↓] theorem setP_encR_0 (e : Rng) (r : List Step) (x : PV) : setP (encR e) (.f 0 0 :: r) x = (setP (encP e.p) r x).bind fun c => some (encR_s0 e c) := by simp [encR, encR_s0, widths]
@[simp ↓] theorem encR_s0_f (e : Rng) (v : Plc) : encR_s0 e (encP v) = encR { e with p := v } := _root_.id rfl
@[simp ↓] theorem getP_encR_1 (e : Rng) (r : List Step) : getP (encR e) (.f 1 77 :: r) = getP (encP e.c) r := by simp [encR, widths]
def encR_s1 (e : Rng) (c : PV) : PV := .st 231 [encP e.p, c, encP e.n]
@[simp ↓] theorem setP_encR_1 (e : Rng) (r : List Step) (x : PV) : setP (encR e) (.f 1 77 :: r) x = (setP (encP e.c) r x).bind fun c => some (encR_s1 e c) := by simp [encR, encR_s1, widths]
@[simp ↓] theorem encR_s1_f (e : Rng) (v : Plc) : encR_s1 e (encP v) = encR { e with c := v } := _root_.id rfl
@[simp ↓] theorem getP_encR_2 (e : Rng) (r : List Step) : getP (encR e) (.f 2 154 :: r) = getP (encP e.n) r := by simp [encR, widths]
def encR_s2 (e : Rng) (c : PV) : PV := .st 231 [encP e.p, encP e.c, c]
@[simp ↓] theorem setP_encR_2 (e : Rng) (r : List Step) (x : PV) : setP (encR e) (.f 2 154 :: r) x = (setP (encP e.n) r x).bind fun c => some (encR_s2 e c) := by simp [encR, encR_s2, widths]
@[simp ↓] theorem encR_s2_f (e : Rng) (v : Plc) : encR_s2 e (encP v) = encR { e with n := v } := _root_.id rfl
structure Rul where
  rekm : Int
  rejm : Int
  rekt : Int
  rejt : Int
  att : Int
  ret : Int
  kat : Int
  cot : Int
  load : Int
  stage : Int
def encRu (r : Rul) : PV := .st 10 [.int .u64 r.rekm, .int .u64 r.rejm, .int .i64 r.rekt, .int .i64 r.rejt, .int .i64 r.att, .int .i64 r.ret, .int .i64 r.kat, .int .i64 r.cot, .int .i64 r.load, .int .i64 r.stage]
@[simp] theorem pure_encRu (e : Rul) : Pure (encRu e) := by simp [encRu]
@[simp] theorem wk_encRu (e : Rul) : wk (encRu e) = encRu e := by simp [encRu]
@[simp ↓] theorem vgk_encRu (g : Bool) (e : Rul) (K : PV → Prop) : vgk g (encRu e) K = K (encRu e) := _root_.id rfl
@[simp] theorem encRu_width (e : Rul) : (encRu e).width = 10 := _root_.id rfl
@[simp] theorem encRu_agg (e : Rul) : (encRu e).isAgg = true := _root_.id rfl
@[simp] theorem encRu_cell (e : Rul) : (encRu e).cellular = true := _root_.id rfl
@[simp ↓] theorem getP_encRu_0 (e : Rul) (r : List Step) : getP (encRu e) (.f 0 0 :: r) = getP (.int .u64 e.rekm) r := by simp [encRu, widths]
@[simp ↓] theorem getP_encRu_1 (e : Rul) (r : List Step) : getP (encRu e) (.f 1 1 :: r) = getP (.int .u64 e.rejm) r := by simp [encRu, widths]
@[simp ↓] theorem getP_encRu_2 (e : Rul) (r : List Step) : getP (encRu e) (.f 2 2 :: r) = getP (.int .i64 e.rekt) r := by simp [encRu, widths]
@[simp ↓] theorem getP_encRu_3 (e : Rul) (r : List Step) : getP (encRu e) (.f 3 3 :: r) = getP (.int .i64 e.rejt) r := by simp [encRu, widths]
@[simp ↓] theorem getP_encRu_4 (e : Rul) (r : List Step) : getP (encRu e) (.f 4 4 :: r) = getP (.int .i64 e.att) r := by simp [encRu, widths]
@[simp ↓] theorem getP_encRu_5 (e : Rul) (r : List Step) : getP (encRu e) (.f 5 5 :: r) = getP (.int .i64 e.ret) r := by simp [encRu, widths]
@[simp ↓] theorem getP_encRu_6 (e : Rul) (r : List Step) : getP (encRu e) (.f 6 6 :: r) = getP (.int .i64 e.kat) r := by simp [encRu, widths]
@[simp ↓] theorem getP_encRu_7 (e : Rul) (r : List Step) : getP (encRu e) (.f 7 7 :: r) = getP (.int .i64 e.cot) r := by simp [encRu, widths]
@[simp ↓] theorem getP_encRu_8 (e : Rul) (r : List Step) : getP (encRu e) (.f 8 8 :: r) = getP (.int .i64 e.load) r := by simp [encRu, widths]
@[simp ↓] theorem getP_encRu_9 (e : Rul) (r : List Step) : getP (encRu e) (.f 9 9 :: r) = getP (.int .i64 e.stage) r := by simp [encRu, widths]
structure Adr where
  six : Bool
  ip : List UInt8
  h : ip.length = 16
def encA (a : Adr) : PV := .st 17 [.bl a.six, .ar 1 16 (a.ip.map u8)]
@[simp] theorem pure_encA (e : Adr) : Pure (encA e) := by simp [encA]
@[simp] theorem wk_encA (e : Adr) : wk (encA e) = encA e := by simp [encA]
@[simp ↓] theorem vgk_encA (g : Bool) (e : Adr) (K : PV → Prop) : vgk g (encA e) K = K (encA e) := _root_.id rfl
@[simp] theorem encA_width (e : Adr) : (encA e).width = 17 := _root_.id rfl
@[simp] theorem encA_agg (e : Adr) : (encA e).isAgg = true := _root_.id rfl
@[simp] theorem encA_cell (e : Adr) : (encA e).cellular = true := _root_.id rfl
@[simp ↓] theorem getP_encA_0 (e : Adr) (r : List Step) : getP (encA e) (.f 0 0 :: r) = getP (.bl e.six) r := by simp [encA, widths]
@[simp ↓] theorem getP_encA_1 (e : Adr) (r : List Step) : getP (encA e) (.f 1 1 :: r) = getP (.ar 1 16 (e.ip.map u8)) r := by simp [encA, widths]
def encA_s1 (e : Adr) (c : PV) : PV := .st 17 [.bl e.six, c]
@[simp ↓] theorem setP_encA_1 (e : Adr) (r : List Step) (x : PV) : setP (encA e) (.f 1 1 :: r) x = (setP (.ar 1 16 (e.ip.map u8)) r x).bind fun c => some (encA_s1 e c) := by simp [encA, encA_s1, widths]
structure Epn where
  addr : Adr
  port : Int
def encE (e : Epn) : PV := .st 18 [encA e.addr, .int .i64 e.port]
@[simp] theorem pure_encE (e : Epn) : Pure (encE e) := by simp [encE]
@[simp] theorem wk_encE (e : Epn) : wk (encE e) = encE e := by simp [encE]
@[simp ↓] theorem vgk_encE (g : Bool) (e : Epn) (K : PV → Prop) : vgk g (encE e) K = K (encE e) := _root_.id rfl
@[simp] theorem encE_width (e : Epn) : (encE e).width = 18 := _root_.id rfl
@[simp] theorem encE_agg (e : Epn) : (encE e).isAgg = true := _root_.id rfl
@[simp] theorem encE_cell (e : Epn) : (encE e).cellular = true := _root_.id rfl
@[simp ↓] theorem getP_encE_0 (e : Epn) (r : List Step) : getP (encE e) (.f 0 0 :: r) = getP (encA e.addr) r := by simp [encE, widths]
@[simp ↓] theorem getP_encE_1 (e : Epn) (r : List Step) : getP (encE e) (.f 1 17 :: r) = getP (.int .i64 e.port) r := by simp [encE, widths]
structure Pfx where
  addr : Adr
  bits : Int
def encX (e : Pfx) : PV := .st 18 [encA e.addr, .int .i64 e.bits]
@[simp] theorem pure_encX (e : Pfx) : Pure (encX e) := by simp [encX]
@[simp] theorem wk_encX (e : Pfx) : wk (encX e) = encX e := by simp [encX]
@[simp ↓] theorem vgk_encX (g : Bool) (e : Pfx) (K : PV → Prop) : vgk g (encX e) K = K (encX e) := _root_.id rfl
@[simp] theorem encX_width (e : Pfx) : (encX e).width = 18 := _root_.id rfl
@[simp] theorem encX_agg (e : Pfx) : (encX e).isAgg = true := _root_.id rfl
@[simp] theorem encX_cell (e : Pfx) : (encX e).cellular = true := _root_.id rfl
@[simp ↓] theorem getP_encX_0 (e : Pfx) (r : List Step) : getP (encX e) (.f 0 0 :: r) = getP (encA e.addr) r := by simp [encX, widths]
@[simp ↓] theorem getP_encX_1 (e : Pfx) (r : List Step) : getP (encX e) (.f 1 17 :: r) = getP (.int .i64 e.bits) r := by simp [encX, widths]
structure Rte where
  pfx : Pfx
  peer : Key
def encRt (r : Rte) : PV := .st 50 [encX r.pfx, encK r.peer]
@[simp] theorem pure_encRt (e : Rte) : Pure (encRt e) := by simp [encRt]
@[simp] theorem wk_encRt (e : Rte) : wk (encRt e) = encRt e := by simp [encRt]
@[simp ↓] theorem vgk_encRt (g : Bool) (e : Rte) (K : PV → Prop) : vgk g (encRt e) K = K (encRt e) := _root_.id rfl
@[simp] theorem encRt_width (e : Rte) : (encRt e).width = 50 := _root_.id rfl
@[simp] theorem encRt_agg (e : Rte) : (encRt e).isAgg = true := _root_.id rfl
@[simp] theorem encRt_cell (e : Rte) : (encRt e).cellular = true := _root_.id rfl
@[simp] theorem encRt_mP (l : List Rte) : PureL (l.map encRt) := pureL_map pure_encRt l
@[simp] theorem encRt_mW (l : List Rte) : wkL (l.map encRt) = l.map encRt := wkL_map wk_encRt l
@[simp ↓] theorem getP_encRt_0 (e : Rte) (r : List Step) : getP (encRt e) (.f 0 0 :: r) = getP (encX e.pfx) r := by simp [encRt, widths]
@[simp ↓] theorem getP_encRt_1 (e : Rte) (r : List Step) : getP (encRt e) (.f 1 18 :: r) = getP (encK e.peer) r := by simp [encRt, widths]
def encRts (l : (List Rte)) : PV := .sl 50 (l.map encRt) false
@[simp] theorem pure_encRts (e : (List Rte)) : Pure (encRts e) := by simp [encRts]
@[simp] theorem wk_encRts (e : (List Rte)) : wk (encRts e) = encRts e := by simp [encRts]
@[simp ↓] theorem vgk_encRts (g : Bool) (e : (List Rte)) (K : PV → Prop) : vgk g (encRts e) K = K (encRts e) := _root_.id rfl
@[simp] theorem encRts_width (e : (List Rte)) : (encRts e).width = 1 := _root_.id rfl
@[simp] theorem encRts_agg (e : (List Rte)) : (encRts e).isAgg = false := _root_.id rfl
@[simp] theorem encRts_cell (e : (List Rte)) : (encRts e).cellular = true := _root_.id rfl
@[simp ↓] theorem lenK_encRts (s : St) (K : PV → Prop) (l : List Rte) : lenK s K (encRts l) = K (.int .i64 l.length) := by simp [encRts]
@[simp ↓] theorem idxSl_encRts (s : St) (sz : Nat) (j : Int) (K : PV → Prop) (l : List Rte) : idxSl s sz j K (encRts l) = ((50 = sz ∧ 0 ≤ j ∧ j < l.length) ∧ K (.fp sz (l.map encRt) [.i j.toNat sz])) := by simp [encRts]
structure Slt where
  index : Int
  peer : Key
  ses : Bool
def encSl (s : Slt) : PV := .st 34 [.int .u32 s.index, encK s.peer, .bl s.ses]
@[simp] theorem pure_encSl (e : Slt) : Pure (encSl e) := by simp [encSl]
@[simp] theorem wk_encSl (e : Slt) : wk (encSl e) = encSl e := by simp [encSl]
@[simp ↓] theorem vgk_encSl (g : Bool) (e : Slt) (K : PV → Prop) : vgk g (encSl e) K = K (encSl e) := _root_.id rfl
@[simp] theorem encSl_width (e : Slt) : (encSl e).width = 34 := _root_.id rfl
@[simp] theorem encSl_agg (e : Slt) : (encSl e).isAgg = true := _root_.id rfl
@[simp] theorem encSl_cell (e : Slt) : (encSl e).cellular = true := _root_.id rfl
@[simp] theorem encSl_flat (e : Slt) : (encSl e).flat = true := _root_.id rfl
@[simp] theorem encSl_mP (l : List Slt) : PureL (l.map encSl) := pureL_map pure_encSl l
@[simp] theorem encSl_mW (l : List Slt) : wkL (l.map encSl) = l.map encSl := wkL_map wk_encSl l
@[simp ↓] theorem getP_encSl_0 (e : Slt) (r : List Step) : getP (encSl e) (.f 0 0 :: r) = getP (.int .u32 e.index) r := by simp [encSl, widths]
@[simp ↓] theorem getP_encSl_1 (e : Slt) (r : List Step) : getP (encSl e) (.f 1 1 :: r) = getP (encK e.peer) r := by simp [encSl, widths]
@[simp ↓] theorem getP_encSl_2 (e : Slt) (r : List Step) : getP (encSl e) (.f 2 33 :: r) = getP (.bl e.ses) r := by simp [encSl, widths]
def encSls (l : (List Slt)) : PV := .sl 34 (l.map encSl) false
@[simp] theorem pure_encSls (e : (List Slt)) : Pure (encSls e) := by simp [encSls]
@[simp] theorem wk_encSls (e : (List Slt)) : wk (encSls e) = encSls e := by simp [encSls]
@[simp ↓] theorem vgk_encSls (g : Bool) (e : (List Slt)) (K : PV → Prop) : vgk g (encSls e) K = K (encSls e) := _root_.id rfl
@[simp] theorem encSls_width (e : (List Slt)) : (encSls e).width = 1 := _root_.id rfl
@[simp] theorem encSls_agg (e : (List Slt)) : (encSls e).isAgg = false := _root_.id rfl
@[simp] theorem encSls_cell (e : (List Slt)) : (encSls e).cellular = true := _root_.id rfl
@[simp ↓] theorem lenK_encSls (s : St) (K : PV → Prop) (l : List Slt) : lenK s K (encSls l) = K (.int .i64 l.length) := by simp [encSls]
@[simp ↓] theorem idxSl_encSls (s : St) (sz : Nat) (j : Int) (K : PV → Prop) (l : List Slt) : idxSl s sz j K (encSls l) = ((34 = sz ∧ 0 ≤ j ∧ j < l.length) ∧ K (.fp sz (l.map encSl) [.i j.toNat sz])) := by simp [encSls]
structure Tmr where
  at_ : Int
  peer : Key
  kind : Int
def encT (t : Tmr) : PV := .st 34 [.int .i64 t.at_, encK t.peer, .int .i64 t.kind]
@[simp] theorem pure_encT (e : Tmr) : Pure (encT e) := by simp [encT]
@[simp] theorem wk_encT (e : Tmr) : wk (encT e) = encT e := by simp [encT]
@[simp ↓] theorem vgk_encT (g : Bool) (e : Tmr) (K : PV → Prop) : vgk g (encT e) K = K (encT e) := _root_.id rfl
@[simp] theorem encT_width (e : Tmr) : (encT e).width = 34 := _root_.id rfl
@[simp] theorem encT_agg (e : Tmr) : (encT e).isAgg = true := _root_.id rfl
@[simp] theorem encT_cell (e : Tmr) : (encT e).cellular = true := _root_.id rfl
@[simp] theorem encT_mP (l : List Tmr) : PureL (l.map encT) := pureL_map pure_encT l
@[simp ↓] theorem getP_encT_0 (e : Tmr) (r : List Step) : getP (encT e) (.f 0 0 :: r) = getP (.int .i64 e.at_) r := by simp [encT, widths]
@[simp ↓] theorem getP_encT_1 (e : Tmr) (r : List Step) : getP (encT e) (.f 1 1 :: r) = getP (encK e.peer) r := by simp [encT, widths]
@[simp ↓] theorem getP_encT_2 (e : Tmr) (r : List Step) : getP (encT e) (.f 2 33 :: r) = getP (.int .i64 e.kind) r := by simp [encT, widths]
def encTs (l : (List Tmr)) : PV := .sl 34 (l.map encT) false
@[simp] theorem pure_encTs (e : (List Tmr)) : Pure (encTs e) := by simp [encTs]
@[simp] theorem wk_encTs (e : (List Tmr)) : wk (encTs e) = encTs e := by simp [encTs]
@[simp ↓] theorem vgk_encTs (g : Bool) (e : (List Tmr)) (K : PV → Prop) : vgk g (encTs e) K = K (encTs e) := _root_.id rfl
@[simp] theorem encTs_width (e : (List Tmr)) : (encTs e).width = 1 := _root_.id rfl
@[simp] theorem encTs_agg (e : (List Tmr)) : (encTs e).isAgg = false := _root_.id rfl
@[simp] theorem encTs_cell (e : (List Tmr)) : (encTs e).cellular = true := _root_.id rfl
@[simp ↓] theorem lenK_encTs (s : St) (K : PV → Prop) (l : List Tmr) : lenK s K (encTs l) = K (.int .i64 l.length) := by simp [encTs]
@[simp ↓] theorem idxSl_encTs (s : St) (sz : Nat) (j : Int) (K : PV → Prop) (l : List Tmr) : idxSl s sz j K (encTs l) = ((34 = sz ∧ 0 ≤ j ∧ j < l.length) ∧ K (.fp sz (l.map encT) [.i j.toNat sz])) := by simp [encTs]
structure Bkt where
  addr : Adr
  tokens : Int
  at_ : Int
def encBk (b : Bkt) : PV := .st 19 [encA b.addr, .int .i64 b.tokens, .int .i64 b.at_]
@[simp] theorem pure_encBk (e : Bkt) : Pure (encBk e) := by simp [encBk]
@[simp] theorem wk_encBk (e : Bkt) : wk (encBk e) = encBk e := by simp [encBk]
def encBks (l : (List Bkt)) : PV := .sl 19 (l.map encBk) false
@[simp] theorem pure_encBks (e : (List Bkt)) : Pure (encBks e) := by simp [encBks]
@[simp] theorem wk_encBks (e : (List Bkt)) : wk (encBks e) = encBks e := by simp [encBks]
@[simp ↓] theorem vgk_encBks (g : Bool) (e : (List Bkt)) (K : PV → Prop) : vgk g (encBks e) K = K (encBks e) := _root_.id rfl
@[simp] theorem encBks_width (e : (List Bkt)) : (encBks e).width = 1 := _root_.id rfl
@[simp] theorem encBks_agg (e : (List Bkt)) : (encBks e).isAgg = false := _root_.id rfl
@[simp] theorem encBks_cell (e : (List Bkt)) : (encBks e).cellular = true := _root_.id rfl
@[simp ↓] theorem lenK_encBks (s : St) (K : PV → Prop) (l : List Bkt) : lenK s K (encBks l) = K (.int .i64 l.length) := by simp [encBks]
structure Hnd where
  has : Bool
  loc : Int
  eph : FV shKy
  noise : FV shNo
  started : Int
  tried : Int
def encH (h : Hnd) : PV := .st 100 [.bl h.has, .int .u32 h.loc, h.eph.p, h.noise.p, .int .i64 h.started, .int .i64 h.tried]
@[simp] theorem pure_encH (e : Hnd) : Pure (encH e) := by simp [encH]
@[simp] theorem wk_encH (e : Hnd) : wk (encH e) = encH e := by simp [encH]
@[simp] theorem encH_width (e : Hnd) : (encH e).width = 100 := _root_.id rfl
@[simp ↓] theorem getP_encH_0 (e : Hnd) (r : List Step) : getP (encH e) (.f 0 0 :: r) = getP (.bl e.has) r := by simp [encH, widths]
structure Per where
  pub : Key
  shared : FV shKy
  hasEp : Bool
  ep : Epn
  kal : Int
  great : FV shSm
  hasIn : Bool
  inAt : Int
  hand : Hnd
  hasCo : Bool
  cook : FV shTg
  coAt : Int
  mac : FV shTg
  ring : Rng
  staged : List (List UInt8)
def encPe (p : Per) : PV := .st 464 [encK p.pub, p.shared.p, .bl p.hasEp, encE p.ep, .int .i64 p.kal, p.great.p, .bl p.hasIn, .int .i64 p.inAt, encH p.hand, .bl p.hasCo, p.cook.p, .int .i64 p.coAt, p.mac.p, encR p.ring, encBs p.staged]
@[simp] theorem pure_encPe (e : Per) : Pure (encPe e) := by simp [encPe]
@[simp] theorem wk_encPe (e : Per) : wk (encPe e) = encPe e := by simp [encPe]
@[simp ↓] theorem vgk_encPe (g : Bool) (e : Per) (K : PV → Prop) : vgk g (encPe e) K = K (encPe e) := _root_.id rfl
@[simp] theorem encPe_width (e : Per) : (encPe e).width = 464 := _root_.id rfl
@[simp] theorem encPe_agg (e : Per) : (encPe e).isAgg = true := _root_.id rfl
@[simp] theorem encPe_cell (e : Per) : (encPe e).cellular = true := _root_.id rfl
@[simp] theorem encPe_mP (l : List Per) : PureL (l.map encPe) := pureL_map pure_encPe l
@[simp ↓] theorem getP_encPe_0 (e : Per) (r : List Step) : getP (encPe e) (.f 0 0 :: r) = getP (encK e.pub) r := by simp [encPe, widths]
@[simp ↓] theorem getP_encPe_2 (e : Per) (r : List Step) : getP (encPe e) (.f 2 64 :: r) = getP (.bl e.hasEp) r := by simp [encPe, widths]
@[simp ↓] theorem getP_encPe_3 (e : Per) (r : List Step) : getP (encPe e) (.f 3 65 :: r) = getP (encE e.ep) r := by simp [encPe, widths]
@[simp ↓] theorem getP_encPe_4 (e : Per) (r : List Step) : getP (encPe e) (.f 4 83 :: r) = getP (.int .i64 e.kal) r := by simp [encPe, widths]
@[simp ↓] theorem getP_encPe_6 (e : Per) (r : List Step) : getP (encPe e) (.f 6 96 :: r) = getP (.bl e.hasIn) r := by simp [encPe, widths]
@[simp ↓] theorem getP_encPe_7 (e : Per) (r : List Step) : getP (encPe e) (.f 7 97 :: r) = getP (.int .i64 e.inAt) r := by simp [encPe, widths]
@[simp ↓] theorem getP_encPe_8 (e : Per) (r : List Step) : getP (encPe e) (.f 8 98 :: r) = getP (encH e.hand) r := by simp [encPe, widths]
@[simp ↓] theorem getP_encPe_9 (e : Per) (r : List Step) : getP (encPe e) (.f 9 198 :: r) = getP (.bl e.hasCo) r := by simp [encPe, widths]
@[simp ↓] theorem getP_encPe_10 (e : Per) (r : List Step) : getP (encPe e) (.f 10 199 :: r) = getP (e.cook.p) r := by simp [encPe, widths]
@[simp ↓] theorem getP_encPe_11 (e : Per) (r : List Step) : getP (encPe e) (.f 11 215 :: r) = getP (.int .i64 e.coAt) r := by simp [encPe, widths]
@[simp ↓] theorem getP_encPe_13 (e : Per) (r : List Step) : getP (encPe e) (.f 13 232 :: r) = getP (encR e.ring) r := by simp [encPe, widths]
def encPe_s13 (e : Per) (c : PV) : PV := .st 464 [encK e.pub, e.shared.p, .bl e.hasEp, encE e.ep, .int .i64 e.kal, e.great.p, .bl e.hasIn, .int .i64 e.inAt, encH e.hand, .bl e.hasCo, e.cook.p, .int .i64 e.coAt, e.mac.p, c, encBs e.staged]
@[simp ↓] theorem setP_encPe_13 (e : Per) (r : List Step) (x : PV) : setP (encPe e) (.f 13 232 :: r) x = (setP (encR e.ring) r x).bind fun c => some (encPe_s13 e c) := by simp [encPe, encPe_s13, widths]
@[simp ↓] theorem encPe_s13_f (e : Per) (v : Rng) : encPe_s13 e (encR v) = encPe { e with ring := v } := _root_.id rfl
@[simp ↓] theorem getP_encPe_14 (e : Per) (r : List Step) : getP (encPe e) (.f 14 463 :: r) = getP (encBs e.staged) r := by simp [encPe, widths]
def encPe_s14 (e : Per) (c : PV) : PV := .st 464 [encK e.pub, e.shared.p, .bl e.hasEp, encE e.ep, .int .i64 e.kal, e.great.p, .bl e.hasIn, .int .i64 e.inAt, encH e.hand, .bl e.hasCo, e.cook.p, .int .i64 e.coAt, e.mac.p, encR e.ring, c]
@[simp ↓] theorem setP_encPe_14 (e : Per) (r : List Step) (x : PV) : setP (encPe e) (.f 14 463 :: r) x = (setP (encBs e.staged) r x).bind fun c => some (encPe_s14 e c) := by simp [encPe, encPe_s14, widths]
@[simp ↓] theorem encPe_s14_f (e : Per) (v : List (List UInt8)) : encPe_s14 e (encBs v) = encPe { e with staged := v } := _root_.id rfl
def encPes (l : (List Per)) : PV := .sl 464 (l.map encPe) false
@[simp] theorem pure_encPes (e : (List Per)) : Pure (encPes e) := by simp [encPes]
@[simp] theorem wk_encPes (e : (List Per)) : wk (encPes e) = encPes e := by simp [encPes]
@[simp ↓] theorem vgk_encPes (g : Bool) (e : (List Per)) (K : PV → Prop) : vgk g (encPes e) K = K (encPes e) := _root_.id rfl
@[simp] theorem encPes_width (e : (List Per)) : (encPes e).width = 1 := _root_.id rfl
@[simp] theorem encPes_agg (e : (List Per)) : (encPes e).isAgg = false := _root_.id rfl
@[simp ↓] theorem lenK_encPes (s : St) (K : PV → Prop) (l : List Per) : lenK s K (encPes l) = K (.int .i64 l.length) := by simp [encPes]
@[simp ↓] theorem idxSl_encPes (s : St) (sz : Nat) (j : Int) (K : PV → Prop) (l : List Per) : idxSl s sz j K (encPes l) = ((464 = sz ∧ 0 ≤ j ∧ j < l.length) ∧ K (.fp sz (l.map encPe) [.i j.toNat sz])) := by simp [encPes]
structure Dmn where
  rules : Rul
  priv : FV shKy
  publ : FV shKy
  port : Int
  random : FV shKy
  now : Int
  peers : List Per
  routes : List Rte
  slots : List Slt
  timers : List Tmr
  secret : FV shKy
  secAt : Int
  recent : List Int
  buckets : List Bkt
  bad : Int
def encDo (d : Dmn) (p : PV) : PV := .st 148 [encRu d.rules, d.priv.p, d.publ.p, .int .i64 d.port, d.random.p, .int .i64 d.now, p, encRts d.routes, encSls d.slots, encTs d.timers, d.secret.p, .int .i64 d.secAt, encIs d.recent, encBks d.buckets, .int .i64 d.bad]
@[simp] theorem encDo_width (e : Dmn) (p : PV) : (encDo e p).width = 148 := _root_.id rfl
@[simp] theorem encDo_agg (e : Dmn) (p : PV) : (encDo e p).isAgg = true := rfl
@[simp] theorem encDo_cell (e : Dmn) (p : PV) : (encDo e p).cellular = true := rfl
@[simp] theorem encDo_flat (e : Dmn) (p : PV) : (encDo e p).flat = true := rfl
@[simp ↓] theorem vgk_encDo (g : Bool) (e : Dmn) (p : PV) (K : PV → Prop) : vgk g (encDo e p) K = K (encDo e p) := _root_.id rfl
@[simp ↓] theorem getP_encDo_0 (e : Dmn) (p : PV) (r : List Step) : getP (encDo e p) (.f 0 0 :: r) = getP (encRu e.rules) r := by simp [encDo, widths]
@[simp ↓] theorem getP_encDo_3 (e : Dmn) (p : PV) (r : List Step) : getP (encDo e p) (.f 3 74 :: r) = getP (.int .i64 e.port) r := by simp [encDo, widths]
@[simp ↓] theorem getP_encDo_5 (e : Dmn) (p : PV) (r : List Step) : getP (encDo e p) (.f 5 107 :: r) = getP (.int .i64 e.now) r := by simp [encDo, widths]
@[simp ↓] theorem getP_encDo_6 (e : Dmn) (p : PV) (r : List Step) : getP (encDo e p) (.f 6 108 :: r) = getP (p) r := by simp [encDo, widths]
def encDo_s6 (e : Dmn) (p : PV) (c : PV) : PV := .st 148 [encRu e.rules, e.priv.p, e.publ.p, .int .i64 e.port, e.random.p, .int .i64 e.now, c, encRts e.routes, encSls e.slots, encTs e.timers, e.secret.p, .int .i64 e.secAt, encIs e.recent, encBks e.buckets, .int .i64 e.bad]
@[simp ↓] theorem setP_encDo_6 (e : Dmn) (p : PV) (r : List Step) (x : PV) : setP (encDo e p) (.f 6 108 :: r) x = (setP (p) r x).bind fun c => some (encDo_s6 e p c) := by simp [encDo, encDo_s6, widths]
@[simp ↓] theorem encDo_s6_f (e : Dmn) (p : PV) (v : PV) : encDo_s6 e p v = encDo e v := _root_.id rfl
@[simp ↓] theorem getP_encDo_7 (e : Dmn) (p : PV) (hp : p.width = 1) (r : List Step) : getP (encDo e p) (.f 7 109 :: r) = getP (encRts e.routes) r := by simp [encDo, widths, hp]
def encDo_s7 (e : Dmn) (p : PV) (c : PV) : PV := .st 148 [encRu e.rules, e.priv.p, e.publ.p, .int .i64 e.port, e.random.p, .int .i64 e.now, p, c, encSls e.slots, encTs e.timers, e.secret.p, .int .i64 e.secAt, encIs e.recent, encBks e.buckets, .int .i64 e.bad]
@[simp ↓] theorem setP_encDo_7 (e : Dmn) (p : PV) (hp : p.width = 1) (r : List Step) (x : PV) : setP (encDo e p) (.f 7 109 :: r) x = (setP (encRts e.routes) r x).bind fun c => some (encDo_s7 e p c) := by simp [encDo, encDo_s7, widths, hp]
@[simp ↓] theorem encDo_s7_f (e : Dmn) (p : PV) (v : List Rte) : encDo_s7 e p (encRts v) = encDo { e with routes := v } p := _root_.id rfl
@[simp ↓] theorem getP_encDo_8 (e : Dmn) (p : PV) (hp : p.width = 1) (r : List Step) : getP (encDo e p) (.f 8 110 :: r) = getP (encSls e.slots) r := by simp [encDo, widths, hp]
def encDo_s8 (e : Dmn) (p : PV) (c : PV) : PV := .st 148 [encRu e.rules, e.priv.p, e.publ.p, .int .i64 e.port, e.random.p, .int .i64 e.now, p, encRts e.routes, c, encTs e.timers, e.secret.p, .int .i64 e.secAt, encIs e.recent, encBks e.buckets, .int .i64 e.bad]
@[simp ↓] theorem setP_encDo_8 (e : Dmn) (p : PV) (hp : p.width = 1) (r : List Step) (x : PV) : setP (encDo e p) (.f 8 110 :: r) x = (setP (encSls e.slots) r x).bind fun c => some (encDo_s8 e p c) := by simp [encDo, encDo_s8, widths, hp]
@[simp ↓] theorem encDo_s8_f (e : Dmn) (p : PV) (v : List Slt) : encDo_s8 e p (encSls v) = encDo { e with slots := v } p := _root_.id rfl
@[simp ↓] theorem getP_encDo_9 (e : Dmn) (p : PV) (hp : p.width = 1) (r : List Step) : getP (encDo e p) (.f 9 111 :: r) = getP (encTs e.timers) r := by simp [encDo, widths, hp]
def encDo_s9 (e : Dmn) (p : PV) (c : PV) : PV := .st 148 [encRu e.rules, e.priv.p, e.publ.p, .int .i64 e.port, e.random.p, .int .i64 e.now, p, encRts e.routes, encSls e.slots, c, e.secret.p, .int .i64 e.secAt, encIs e.recent, encBks e.buckets, .int .i64 e.bad]
@[simp ↓] theorem setP_encDo_9 (e : Dmn) (p : PV) (hp : p.width = 1) (r : List Step) (x : PV) : setP (encDo e p) (.f 9 111 :: r) x = (setP (encTs e.timers) r x).bind fun c => some (encDo_s9 e p c) := by simp [encDo, encDo_s9, widths, hp]
@[simp ↓] theorem encDo_s9_f (e : Dmn) (p : PV) (v : List Tmr) : encDo_s9 e p (encTs v) = encDo { e with timers := v } p := _root_.id rfl
@[simp ↓] theorem getP_encDo_11 (e : Dmn) (p : PV) (hp : p.width = 1) (r : List Step) : getP (encDo e p) (.f 11 144 :: r) = getP (.int .i64 e.secAt) r := by simp [encDo, widths, hp]
@[simp ↓] theorem getP_encDo_12 (e : Dmn) (p : PV) (hp : p.width = 1) (r : List Step) : getP (encDo e p) (.f 12 145 :: r) = getP (encIs e.recent) r := by simp [encDo, widths, hp]
def encDo_s12 (e : Dmn) (p : PV) (c : PV) : PV := .st 148 [encRu e.rules, e.priv.p, e.publ.p, .int .i64 e.port, e.random.p, .int .i64 e.now, p, encRts e.routes, encSls e.slots, encTs e.timers, e.secret.p, .int .i64 e.secAt, c, encBks e.buckets, .int .i64 e.bad]
@[simp ↓] theorem setP_encDo_12 (e : Dmn) (p : PV) (hp : p.width = 1) (r : List Step) (x : PV) : setP (encDo e p) (.f 12 145 :: r) x = (setP (encIs e.recent) r x).bind fun c => some (encDo_s12 e p c) := by simp [encDo, encDo_s12, widths, hp]
@[simp ↓] theorem encDo_s12_f (e : Dmn) (p : PV) (v : List Int) : encDo_s12 e p (encIs v) = encDo { e with recent := v } p := _root_.id rfl
@[simp ↓] theorem getP_encDo_13 (e : Dmn) (p : PV) (hp : p.width = 1) (r : List Step) : getP (encDo e p) (.f 13 146 :: r) = getP (encBks e.buckets) r := by simp [encDo, widths, hp]
def encDo_s13 (e : Dmn) (p : PV) (c : PV) : PV := .st 148 [encRu e.rules, e.priv.p, e.publ.p, .int .i64 e.port, e.random.p, .int .i64 e.now, p, encRts e.routes, encSls e.slots, encTs e.timers, e.secret.p, .int .i64 e.secAt, encIs e.recent, c, .int .i64 e.bad]
@[simp ↓] theorem setP_encDo_13 (e : Dmn) (p : PV) (hp : p.width = 1) (r : List Step) (x : PV) : setP (encDo e p) (.f 13 146 :: r) x = (setP (encBks e.buckets) r x).bind fun c => some (encDo_s13 e p c) := by simp [encDo, encDo_s13, widths, hp]
@[simp ↓] theorem encDo_s13_f (e : Dmn) (p : PV) (v : List Bkt) : encDo_s13 e p (encBks v) = encDo { e with buckets := v } p := _root_.id rfl
@[simp ↓] theorem getP_encDo_14 (e : Dmn) (p : PV) (hp : p.width = 1) (r : List Step) : getP (encDo e p) (.f 14 147 :: r) = getP (.int .i64 e.bad) r := by simp [encDo, widths, hp]
@[simp] theorem refsOk_encDo (f : Nat → Bool) (e : Dmn) (p : PV) : refsOk f (encDo e p) = refsOk f p := by
  have h1 : refsOk f (encRu e.rules) = true := (pure_encRu _).refs f
  have h2 : refsOk f (encRts e.routes) = true := (pure_encRts _).refs f
  have h3 : refsOk f (encSls e.slots) = true := (pure_encSls _).refs f
  have h4 : refsOk f (encTs e.timers) = true := (pure_encTs _).refs f
  have h5 : refsOk f (encIs e.recent) = true := (pure_encIs _).refs f
  have h6 : refsOk f (encBks e.buckets) = true := (pure_encBks _).refs f
  have g1 : refsOk f e.priv.p = true := (FV.pure e.priv).refs f
  have g2 : refsOk f e.publ.p = true := (FV.pure e.publ).refs f
  have g3 : refsOk f e.random.p = true := (FV.pure e.random).refs f
  have g4 : refsOk f e.secret.p = true := (FV.pure e.secret).refs f
  simp [encDo, refsOk, refsOkL, h1, h2, h3, h4, h5, h6, g1, g2, g3, g4]
@[simp] theorem ren_encDo (ρ : Nat → Nat) (e : Dmn) (p : PV) : ren ρ (encDo e p) = encDo e (ren ρ p) := by
  simp [encDo, ren, renL, (pure_encRu _).ren, (pure_encRts _).ren, (pure_encSls _).ren, (pure_encTs _).ren, (pure_encIs _).ren, (pure_encBks _).ren, (FV.pure e.priv).ren, (FV.pure e.publ).ren, (FV.pure e.random).ren, (FV.pure e.secret).ren]
@[simp] theorem wk_encDo (e : Dmn) (p : PV) : wk (encDo e p) = encDo e (wk p) := by simp [encDo]
@[simp] theorem frz_encDo (k sz : Nat) (l : List PV) (e : Dmn) (p : PV) : frz k sz l (encDo e p) = encDo e (frz k sz l p) := by
  simp [encDo, frz, frzL, (pure_encRu _).frz, (pure_encRts _).frz, (pure_encSls _).frz, (pure_encTs _).frz, (pure_encIs _).frz, (pure_encBks _).frz, (FV.pure e.priv).frz, (FV.pure e.publ).frz, (FV.pure e.random).frz, (FV.pure e.secret).frz]
@[simp] theorem pure_encDo (e : Dmn) {p : PV} (h : Pure p) : Pure (encDo e p) := Pure.of (by rw [refsOk_encDo]; exact h.refs _)
def encD (d : Dmn) : PV := encDo d (encPes d.peers)
@[simp] theorem pure_encD (e : Dmn) : Pure (encD e) := by simp [encD]
@[simp] theorem wk_encD (e : Dmn) : wk (encD e) = encD e := by simp [encD]
@[simp ↓] theorem vgk_encD (g : Bool) (e : Dmn) (K : PV → Prop) : vgk g (encD e) K = K (encD e) := _root_.id rfl
@[simp] theorem encD_width (e : Dmn) : (encD e).width = 148 := _root_.id rfl
@[simp] theorem encD_agg (e : Dmn) : (encD e).isAgg = true := _root_.id rfl
@[simp] theorem encD_cell (e : Dmn) : (encD e).cellular = true := _root_.id rfl
@[simp] theorem encD_flat (e : Dmn) : (encD e).flat = true := _root_.id rfl
@[simp ↓] theorem getP_encD (e : Dmn) (i o : Nat) (r : List Step) : getP (encD e) (.f i o :: r) = getP (encDo e (encPes e.peers)) (.f i o :: r) := _root_.id rfl
theorem fitsA_u8 : ∀ l : List UInt8, fitsA (.i .u8) (l.map u8) = true
  | [] => rfl
  | x :: l => by simp [fitsA, u8, fits, fitsA_u8 l]
@[simp] theorem fits_encK (k : Key) : fits shKy (encK k) = true := by
  simp [encK, fits, fitsA_u8, k.h, shW]
def Key.fv (k : Key) : FV shKy := ⟨encK k, fits_encK k⟩
@[simp] theorem Key.fv_p (k : Key) : k.fv.p = encK k := rfl
@[simp] theorem beq_encK (e : Key) : PV.beq (encK e) (encK e) = true := (fit_facts _ _ (fits_encK e)).beq
abbrev shA : Sh := .st [.b, .ar 16 (.i .u8)]
@[simp] theorem fits_encA (e : Adr) : fits shA (encA e) = true := by
  have := e.h; simp_all [encA, fits, fitsL, shW, shWL, fitsA_u8]
abbrev shE : Sh := .st [.st [.b, .ar 16 (.i .u8)], .i .i64]
@[simp] theorem fits_encE (e : Epn) : fits shE (encE e) = true := by
  have := e.addr.h; simp_all [encE, fits, fitsL, shW, shWL, fitsA_u8]
@[simp] theorem beq_encE (e : Epn) : PV.beq (encE e) (encE e) = true := (fit_facts _ _ (fits_encE e)).beq
abbrev shX : Sh := .st [.st [.b, .ar 16 (.i .u8)], .i .i64]
@[simp] theorem fits_encX (e : Pfx) : fits shX (encX e) = true := by
  have := e.addr.h; simp_all [encX, fits, fitsL, shW, shWL, fitsA_u8]
abbrev shH : Sh := .st [.b, .i .u32, .ar 32 (.i .u8), .st [.ar 32 (.i .u8), .ar 32 (.i .u8)], .i .i64, .i .i64]
@[simp] theorem fits_encH (e : Hnd) : fits shH (encH e) = true := by
  have := e.eph.ok; have := e.noise.ok; simp_all [encH, fits, fitsL, shW, shWL, fitsA_u8]
@[simp] theorem beq_encH (e : Hnd) : PV.beq (encH e) (encH e) = true := (fit_facts _ _ (fits_encH e)).beq
abbrev shSe : Sh := .st [.i .u32, .i .u32, .ar 32 (.i .u8), .ar 32 (.i .u8), .i .u64, .i .u64, .st [.b, .i .u64, .ar 4 (.i .u64)], .i .i64, .b]
@[simp] theorem fits_encS (e : Ses) : fits shSe (encS e) = true := by
  have := e.send.ok; have := e.recv.ok; have := e.win.ok; simp_all [encS, fits, fitsL, shW, shWL, fitsA_u8]
abbrev shPl : Sh := .st [.b, .st [.i .u32, .i .u32, .ar 32 (.i .u8), .ar 32 (.i .u8), .i .u64, .i .u64, .st [.b, .i .u64, .ar 4 (.i .u64)], .i .i64, .b]]
@[simp] theorem fits_encP (e : Plc) : fits shPl (encP e) = true := by
  have := fits_encS e.ses; simp_all [encP, fits, fitsL, shW, shWL, fitsA_u8]
@[simp] theorem beq_encP (e : Plc) : PV.beq (encP e) (encP e) = true := (fit_facts _ _ (fits_encP e)).beq
end Go.Ab

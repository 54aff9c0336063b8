/- Short names of laws of the core. -/
import Derived.KernelRfl
import Derived.Tactics
import Derived.IntWalk
set_option linter.defProp false
set_option linter.unusedVariables false
namespace Go.Proofs.YtnhekaepgpbijaaGreatDoor
def Q1:=@List.getElem?_cons_zero
def Q2:=@List.getElem?_cons_succ
def J0:=@List.setIfInBounds_toArray
def Jx:=@List.getElem?_toArray
def JT:=@List.set_cons_zero
def Y0:=@List.set_cons_succ
def Y1:=@List.getElem?_eq_getElem
def Y2:=@Nat.le_refl
def Y3:=@beq_eq_false_iff_ne
def Y4:=@And.intro
def Y5:=@if_neg
def Y6:=@if_pos
def Y7:=@decide_eq_false
def Y8:=@decide_eq_true
def Y9:=@Option.some.inj
def Ya:=@List.length_append
def Yb:=@Nat.zero_le
def Yc:=@List.eq_nil_of_length_eq_zero
def Yd:=@List.length_map
def Ye:=@congrArg
def Yf:=@List.getElem_mem
def Yg:=@Nat.le_trans
def Yh:=@List.take_succ_eq_append_getElem
def Yi:=@Nat.lt_of_lt_of_le
def Yj:=@ByteArray.size_append
def Yk:=@List.append_assoc
def Yl:=@List.prefix_refl
def Ym:=@List.mem_singleton
def Yn:=@List.getElem?_append_left
def Yo:=@List.mem_of_getElem?
def Yp:=@List.take_of_length_le
def Yq:=@List.length_take
def Yr:=@List.drop_drop
def Ys:=@List.getElem?_append_right
def Yt:=@List.getElem?_map
def Yu:=@List.length_drop
def Yv:=@List.length_cons
def Yw:=@decide_eq_true_eq
def Yx:=@List.getElem?_eq_some_iff
def Yy:=@List.mem_append
def Yz:=@List.mem_cons
def YA:=@List.length_singleton
def YB:=@Nat.le_succ
def YC:=@Nat.le_of_lt
def YD:=@List.cons_append
def YE:=@List.nil_append
def YF:=@Bool.and_eq_true
def YG:=@bne_iff_ne
def YH:=@Bool.true_and
def YI:=@Bool.false_and
def YJ:=@List.getElem?_eq_none
def YK:=@Nat.le_of_not_lt
def YL:=@List.length_nil
def YM:=@List.getElem_of_mem
def YN:=@Array.toArray_toList
def YO:=@Array.getElem?_append_right
theorem Z0 {p_:Prop} (h_:p_:=by omega):p_:=h_
theorem Z1 {p_:Prop} (h_:p_:=by kernel_rfl):p_:=h_
theorem Z2 {p_:Prop} (h_:p_:=by decide):p_:=h_
theorem Z3 {p_:Prop} (h_:p_:=by simp):p_:=h_
theorem Z4 {p_:Prop} (h_:p_:=by exact ae):p_:=h_
theorem Z5 {p_:Prop} (h_:p_:=by rfl):p_:=h_
theorem Z6 {p_:Prop} (h_:p_:=by rw [Y3];omega):p_:=h_
theorem Z7 {p_:Prop} (h_:p_:=by decide +kernel):p_:=h_
theorem Z8 {p_:Prop} (h_:p_:=by injection hv with e1 _ e2;exact ⟨e1.symm,e2.symm⟩):p_:=h_
theorem Z9 {p_:Prop} (h_:p_:=by simp [results,results192,go_sem,q0,q1,q2,q3]):p_:=h_
theorem Za {p_:Prop} (h_:p_:=by first | rfl | go_simp):p_:=h_
theorem Zb {p_:Prop} (h_:p_:=by rw [IntKind.wrap_i64];omega):p_:=h_
theorem Zc {p_:Prop} (h_:p_:=by rw [hW0];exact (Blk.new w _ _).alloc _):p_:=h_
theorem Zd {p_:Prop} (h_:p_:=by simp [Value.oneCell']):p_:=h_
theorem Ze {p_:Prop} (h_:p_:=by unfold maxLen;omega):p_:=h_
theorem Zf {p_:Prop} (h_:p_:=by simp [results,results92,go_sem,q0,q1,q2,q3]):p_:=h_
theorem Zg {p_:Prop} (h_:p_:=by rw [hW0];exact ae):p_:=h_
theorem Zh {p_:Prop} (h_:p_:=by simp [intOf];omega):p_:=h_
theorem Zi {p_:Prop} (h_:p_:=by rw [E.out];rfl):p_:=h_
theorem Zj {p_:Prop} (h_:p_:=by first | (simp;done) | (simp;omega)):p_:=h_
theorem Zk {p_:Prop} (h_:p_:=by rw [hW0];exact Blk.new w _ _):p_:=h_
theorem Zl {p_:Prop} (h_:p_:=by show w.heap.size<_;omega):p_:=h_
theorem Zm {p_:Prop} (h_:p_:=by simp only [World.size_alloc];omega):p_:=h_
theorem Zn {p_:Prop} (h_:p_:=by go_simp):p_:=h_
theorem Zo {p_:Prop} (h_:p_:=by rw [World.frozen?_alloc_old _ _ t (by simp;omega),World.frozen?_alloc_old _ _ t (by simp;omega),World.frozen?_alloc_old _ _ t (by simp;omega),World.frozen?_alloc_old _ _ t (Nat.ne_of_lt htl)];exact hf0):p_:=h_
theorem Zp {p_:Prop} (h_:p_:=by rw [hW0];exact Blk.new W _ _):p_:=h_
theorem Zq {p_:Prop} (h_:p_:=by rw [HG.out,Hg.out];rfl):p_:=h_
theorem Zr {p_:Prop} (h_:p_:=by go_num):p_:=h_
theorem Zs {p_:Prop} (h_:p_:=by rw [hW0];exact aT _):p_:=h_
theorem Zt {p_:Prop} (h_:p_:=by rw [hw2];exact (Blk.new w1 _ _).alloc _):p_:=h_
theorem Zu {p_:Prop} (h_:p_:=by rw [bne_eq_false_iff_eq];omega):p_:=h_
theorem Zv {p_:Prop} (h_:p_:=by rw [World.cell?_alloc_lt _ _ t (by simp;omega),World.cell?_alloc_lt _ _ t (by simp;omega),World.cell?_alloc_lt _ _ t (by simp;omega),World.cell?_alloc_lt _ _ t htl];exact ht0):p_:=h_
theorem Zw {p_:Prop} (h_:p_:=by rw [hW0];simpa using Blk.new (w.alloc (.cells #[.int .u8 0,.int .i64 0,.string ⟨#[]⟩,.slice none 0 0] 60)) 60 #[.int .u8 109,.int .i64 0,.string ⟨#[]⟩,.slice none 0 0]):p_:=h_
theorem Zx {p_:Prop} (h_:p_:=by rw [hW0];simpa using Blk.new (w.alloc (.cells #[.int .u8 0,.int .i64 0,.string ⟨#[]⟩,.slice none 0 0] 60)) 60 #[.int .u8 117,.int .i64 0,.string ⟨#[]⟩,.slice none 0 0]):p_:=h_
theorem Zy {p_:Prop} (h_:p_:=by rw [hW0];simpa using Blk.new (w.alloc (.cells #[.int .u8 0,.int .i64 0,.string ⟨#[]⟩,.slice none 0 0] 60)) 60 #[.int .u8 110,.int .i64 0,.string ⟨#[]⟩,.slice none 0 0]):p_:=h_
theorem Zz {p_:Prop} (h_:p_:=by rw [hW0];simpa using Blk.new (w.alloc (.cells #[.int .u8 0,.int .i64 0,.string ⟨#[]⟩,.slice none 0 0] 60)) 60 #[.int .u8 101,.int .i64 0,.string ⟨#[]⟩,.slice none 0 0]):p_:=h_
theorem ZA {p_:Prop} (h_:p_:=by rw [hW0];simpa using Blk.new (w.alloc (.cells #[.int .u8 0,.int .i64 0,.string ⟨#[]⟩,.slice none 0 0] 60)) 60 #[.int .u8 99,.int .i64 0,.string ⟨#[]⟩,.slice none 0 0]):p_:=h_
theorem ZB {p_:Prop} (h_:p_:=by rw [hW0];simpa using Blk.new (w.alloc (.cells #[.int .u8 0,.int .i64 0,.string ⟨#[]⟩,.slice none 0 0] 60)) 60 #[.int .u8 98,.int .i64 0,.string ⟨#[]⟩,.slice none 0 0]):p_:=h_
theorem ZC {p_:Prop} (h_:p_:=by rw [hW0];simpa using Blk.new (w.alloc (.cells #[.int .u8 0,.int .i64 0,.string ⟨#[]⟩,.slice none 0 0] 60)) 60 #[.int .u8 k,.int .i64 0,.string ⟨#[]⟩,.slice none 0 0]):p_:=h_
theorem ZD {p_:Prop} (h_:p_:=by rw [beq_iff_eq];omega):p_:=h_
theorem ZE {p_:Prop} (h_:p_:=by rw [YG];omega):p_:=h_
theorem ZF {p_:Prop} (h_:p_:=by rw [Hl1.out];omega):p_:=h_
theorem ZG {p_:Prop} (h_:p_:=by first | rfl | (congr 1;done) | (congr 1;omega)):p_:=h_
theorem ZH {p_:Prop} (h_:p_:=by simp [Lit.wf,IntKind.min,IntKind.max,IntKind.signed,IntKind.bits];omega):p_:=h_
theorem ZI {p_:Prop} (h_:p_:=by rw [HV.out,← HD.out,Y5 (by rw [hLL];decide)]):p_:=h_
theorem ZJ {p_:Prop} (h_:p_:=by rw [aI];omega):p_:=h_
theorem ZK {p_:Prop} (h_:p_:=by simp [results,results66,go_sem,q0,q1,q2,q3,q4,q5]):p_:=h_
theorem ZL {p_:Prop} (h_:p_:=by rw [hw2];exact bL w1 _ _ _):p_:=h_
theorem ZM {p_:Prop} (h_:p_:=by cases h):p_:=h_
theorem ZN {p_:Prop} (h_:p_:=by rw [World.cell?_alloc_lt _ _ ⟨w.heap.size,0,none⟩ (by simp;omega)];simp):p_:=h_
theorem ZO {p_:Prop} (h_:p_:=by rw [hW0];simp):p_:=h_
theorem ZP {p_:Prop} (h_:p_:=by rw [aC];omega):p_:=h_
theorem ZQ {p_:Prop} (h_:p_:=by simp only [Y3,ne_eq];omega):p_:=h_
theorem ZR {p_:Prop} (h_:p_:=by simp [Region.wanted,hgd]):p_:=h_
theorem ZS {p_:Prop} (h_:p_:=by rw [Yq];omega):p_:=h_
theorem ZT {p_:Prop} (h_:p_:=by rw [Hl1.out,← hn];omega):p_:=h_
theorem ZU {p_:Prop} (h_:p_:=by simp [results,results28,go_sem,q2,q3]):p_:=h_
theorem ZV {p_:Prop} (h_:p_:=by show (atF l 5).s.length≤_;have:=h.sz 5;omega):p_:=h_
theorem ZW {p_:Prop} (h_:p_:=by show _≤b5;omega):p_:=h_
theorem ZX {p_:Prop} (h_:p_:=by simp [results,results11,go_sem,q0,q1,aK]):p_:=h_
theorem ZY {p_:Prop} (h_:p_:=by rw [←hcv];rfl):p_:=h_
theorem ZZ {p_:Prop} (h_:p_:=by rw [hw2];exact ae):p_:=h_
theorem YP {p_:Prop} (h_:p_:=by cases h9):p_:=h_
theorem YQ {p_:Prop} (h_:p_:=by rw [HF.out,Y5 (by rw [hu];decide),Y5 (by rw [yZ (by omega) (by omega)];decide)]):p_:=h_
theorem YR {p_:Prop} (h_:p_:=by simp [results,results24,go_sem,q0,q1,q2,q3,q4,q5]):p_:=h_
theorem YS {p_:Prop} (h_:p_:=by cases e;omega):p_:=h_
theorem YT {p_:Prop} (h_:p_:=by simp only [Ym] at hq;subst hq;decide):p_:=h_
theorem YU {p_:Prop} (h_:p_:=by simp [bne,hx1]):p_:=h_
theorem YV {p_:Prop} (h_:p_:=by rw [List.map_append,List.map_append];exact hown6):p_:=h_
theorem YW {p_:Prop} (h_:p_:=by unfold bv;rw [Y5 (H.out.1 (by decide)),Y5 (H.out.2.1 (by decide)),Y6 hs]):p_:=h_
theorem YX {p_:Prop} (h_:p_:=by rw [ay,beq_iff_eq];exact hp):p_:=h_
theorem YY {p_:Prop} (h_:p_:=by rw [HG.out,hg];rfl):p_:=h_
theorem YZ {p_:Prop} (h_:p_:=by rw [hcv] at h;exact Ic h (hM.below hb) (hW.below hb) (hC.hl8.below hb)):p_:=h_
theorem X0 {p_:Prop} (h_:p_:=by rw [wrap_small _ (by omega) (by omega)];omega):p_:=h_
theorem X2 {p_:Prop} (h_:p_:=by simp [results,results64,go_sem,q0,q1,q2,q3]):p_:=h_
theorem X3 {p_:Prop} (h_:p_:=by rw [bne_eq_false_iff_eq];exact h3):p_:=h_
theorem X4 {p_:Prop} (h_:p_:=by rw [h];decide):p_:=h_
theorem X5 {p_:Prop} (h_:p_:=by simpa using Hr.out):p_:=h_
theorem X6 {p_:Prop} (h_:p_:=by rw [aI];simp):p_:=h_
theorem X7 {p_:Prop} (h_:p_:=by rw [E.out];exact Am (by rw [Yj,Yj,Yj];have:cZ.size=8:=rfl;omega)):p_:=h_
theorem X8 {p_:Prop} (h_:p_:=by rw [ax];exact hab):p_:=h_
theorem X9 {p_:Prop} (h_:p_:=by show W.heap.size+1≠b;omega):p_:=h_
theorem Xa {p_:Prop} (h_:p_:=by simp [results,results111,go_sem,q0,q1]):p_:=h_
theorem Xb {p_:Prop} (h_:p_:=by rw [Yp (by omega)];exact hx):p_:=h_
theorem Xc {p_:Prop} (h_:p_:=by rw [HV.out,← HD.out,Y6 hLL]):p_:=h_
theorem Xd {p_:Prop} (h_:p_:=by simpa using hk):p_:=h_
theorem Xe {p_:Prop} (h_:p_:=by simp only [World.size_setCell];omega):p_:=h_
theorem Xf {p_:Prop} (h_:p_:=by rw [E.out];exact Am (by rw [Yj];have:cZ.size=8:=rfl;omega)):p_:=h_
theorem Xg {p_:Prop} (h_:p_:=by simpa [kids] using hk):p_:=h_
theorem Xh {p_:Prop} (h_:p_:=by rw [AV hi (by omega)];rfl):p_:=h_
theorem Xi {p_:Prop} (h_:p_:=by rw [hLL];decide):p_:=h_
theorem Xj {p_:Prop} (h_:p_:=by rw [jy E.out];rfl):p_:=h_
theorem Xk {p_:Prop} (h_:p_:=by rw [hW];exact (Blk.new w _ _).alloc _):p_:=h_
theorem Xl {p_:Prop} (h_:p_:=by rw [hWd];exact (Below.refl _ _).drew):p_:=h_
theorem Xm {p_:Prop} (h_:p_:=by simp only [Ym] at hp;subst hp;decide):p_:=h_
theorem Xn {p_:Prop} (h_:p_:=by cases (Value.slice A8 al.length c8).ownBlock <;> simp):p_:=h_
theorem Xo {p_:Prop} (h_:p_:=by cases (Value.slice A9 gs.length c9).ownBlock <;> simp):p_:=h_
theorem Xp {p_:Prop} (h_:p_:=by rw [hu];decide):p_:=h_
theorem Xq {p_:Prop} (h_:p_:=by simp [hy]):p_:=h_
theorem Xr {p_:Prop} (h_:p_:=by rw [hW0];exact bL w _ _ _):p_:=h_
theorem Xs {p_:Prop} (h_:p_:=by show (atF l 4).s.length≤_;omega):p_:=h_
theorem Xt {p_:Prop} (h_:p_:=by show ad.block≠_;omega):p_:=h_
theorem Xu {p_:Prop} (h_:p_:=by simpa using hl):p_:=h_
theorem Xv {p_:Prop} (h_:p_:=by cases e):p_:=h_
theorem Xw {p_:Prop} (h_:p_:=by rw [beq_iff_eq];exact h3):p_:=h_
theorem Xx {p_:Prop} (h_:p_:=by simpa using h):p_:=h_
theorem Xy {p_:Prop} (h_:p_:=by rw [ay,Y3];exact fun e=>h e.symm):p_:=h_
theorem Xz {p_:Prop} (h_:p_:=by rw [hwA];first | rfl | go_simp):p_:=h_
theorem XA {p_:Prop} (h_:p_:=by rw [h] at hr;cases hr):p_:=h_
theorem XB {p_:Prop} (h_:p_:=by exact hb):p_:=h_
theorem XC {p_:Prop} (h_:p_:=by rw [cu,h.cell j];simpa using hu):p_:=h_
theorem XD {p_:Prop} (h_:p_:=by simp [bne,e1]):p_:=h_
theorem XE {p_:Prop} (h_:p_:=by rw [hW];exact ae):p_:=h_
theorem XF {p_:Prop} (h_:p_:=by simp [enc,head,mid,encs,q4]):p_:=h_
theorem XG {p_:Prop} (h_:p_:=by simp only [Yv];omega):p_:=h_
theorem XH {p_:Prop} (h_:p_:=by show w.heap.size+1<_;omega):p_:=h_
theorem XI {p_:Prop} (h_:p_:=by show W.heap.size≠b;omega):p_:=h_
theorem XJ {p_:Prop} (h_:p_:=by rw [Yu];exact Y2 _):p_:=h_
theorem XK {p_:Prop} (h_:p_:=by rw [Hrq.out];omega):p_:=h_
theorem XL {p_:Prop} (h_:p_:=by rw [h.size];decide):p_:=h_
theorem XM {p_:Prop} (h_:p_:=by simp [aH,h9]):p_:=h_
theorem XN {p_:Prop} (h_:p_:=by simpa using hn):p_:=h_
theorem XO {p_:Prop} (h_:p_:=by simpa using e):p_:=h_
theorem XP {p_:Prop} (h_:p_:=by rw [Ya] at hL;omega):p_:=h_
theorem XQ {p_:Prop} (h_:p_:=by simpa using h1):p_:=h_
theorem XR {p_:Prop} (h_:p_:=by simp [bK,cntF]):p_:=h_
theorem XS {p_:Prop} (h_:p_:=by rw [ax];exact h1):p_:=h_
theorem XT {p_:Prop} (h_:p_:=by rw [ay];rfl):p_:=h_
theorem XU {p_:Prop} (h_:p_:=by rw [hfs];exact h):p_:=h_
theorem XV {p_:Prop} (h_:p_:=by rw [hl];exact ol):p_:=h_
theorem XW {p_:Prop} (h_:p_:=by rw [YN];exact hX):p_:=h_
theorem XX {p_:Prop} (h_:p_:=by rw [h3];rfl):p_:=h_
theorem XY {p_:Prop} (h_:p_:=by rw [hd];exact hk):p_:=h_
end Go.Proofs.YtnhekaepgpbijaaGreatDoor

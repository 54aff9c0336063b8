/- Several of my texts in one: CfG, CfH, CfI. -/
import Derived.Test.YtnhekaepgpbijaaGreatDoorKAli
import Derived.Test.YtnhekaepgpbijaaGreatDoorKCfKG
import Derived.Deep.MidRow
set_option linter.unusedVariables false
set_option linter.unusedSimpArgs false
set_option maxHeartbeats 40000000
set_option maxRecDepth 100000
namespace Go.Proofs.YtnhekaepgpbijaaGreatDoor
open Go.Proofs.Tryz Go.RowKit Go.ChangeShapes Go.WideShapes Go.Sort
variable {w':World} {cm sw us v:List UInt8} {cs j:List Value} {ls:List (List (List UInt8))} {A0 A1 A10 A2 A3 A4 A5 A6 A7 A8 A9:Option Addr} {b c0 c1 c10 c2 c3 c4 c5 c6 c7 c8 c9 k n0 n1 n2 n3 n4 n5 n6 n7:Nat} {al:List (List UInt8)} {gr:List (List UInt8 × Int)} {ky:List Int} {g:Array Oper} {ex ge sv:Bool} {lim own peer q0 q1 q2:Int} {e:Ending} {rest:List Oper} {a:Act} {Q:Exit->Act->World->Prop} {p_:Prop}
abbrev il:=Option (List (List UInt8) × Int)
def unl (b:Bool) (s:List UInt8) (k:Int):il:=if b=true then none else some ([s],k)
def dQ:List il->il
 | []=>none
 | none :: r=>dQ r
 | some x :: _=>some x
def inC (o:il):il:=o.map fun x=>([99,111,110,102] :: x.1,x.2)
structure CfM (w:World) (sw cm us:List UInt8) (vs:List Value) (ls:List (List (List UInt8))) (A8:Option Addr) (c8:Nat) (al:List (List UInt8)) (A9:Option Addr) (gr:List (List UInt8 × Int)) (A10:Option Addr) (ky:List Int):Prop where
 hsw:sw.length<=1000000
 hcm:cm.length<=1000000
 hus:us.length<=1000000
 hl8:rD w vs ls
 hal:Txs w (.slice A8 al.length c8) al
 alc:al.length<=c8
 all:al.length<=1000000
 aly:∀y∈al,y.length<=1000000
 hgr:GrC w A9 gr
 grl:gr.length<=1000000
 gry:∀g∈gr,g.1.length<=1000000
 hky:InC w A10 ky
 kyl:ky.length<=1000000
theorem CfM.below {w:World} 
  (h:CfM w sw cm us j ls A8 c8 al A9 gr A10 ky) (g:Below w.heap.size w w'):CfM w' sw cm us j ls A8 c8 al A9 gr A10 ky :=
 ⟨h.hsw,h.hcm,h.hus,h.hl8.below g,h.hal.below g,h.alc,h.all,h.aly,h.hgr.below g,h.grl,h.gry,h.hky.below g,h.kyl⟩
theorem xh {w:World} {g n:Nat} {t:TypeId} (h:Blk w g t j.toArray) (o:b<=g) (q:j.length=n) (p:n<=maxLen):w.ownsRow b t 1 (.slice (some ⟨g,0,none⟩) n n) n j:=by
 subst q;exact ⟨Z3,.inr ⟨g,j.length,j.toArray,rfl,o,h,Y2 _,p,Z3,Z3⟩⟩
section
variable {w : World}
theorem kR (b:Bool) (s:ByteArray) (k:Int) (g:(k == 0)=false) (w:World):Calls prog 211 #[.bool b,.string s,.int .i64 k] w (gm (unl b s.data.toList k) w):=by
 have HO:=hide (fun (W:World)=>bT s k g W);clear g
 cases b with
 | true =>
  go_enter func211,ntmps211;go_wp2_with fail;go_ret;exact uY rfl (Below.refl _ _) rfl
 | false =>
  go_enter func211,ntmps211;go_wp2_with (go_at_call 43;refine (HO.out _).mono ?_;rintro e w2 ⟨b,rfl,hi,h⟩);go_ret;exact AZ rfl h rfl hi
theorem BC (J:sw.length<=1000000) (K:cm.length<=1000000):Calls prog 212 #[.agg #[.bool sv,.string (bs sw),.string (bs cm),.slice A0 n0 c0,.slice A1 n1 c1,.slice A2 n2 c2,.slice A3 n3 c3,.slice A4 n4 c4,.slice A5 n5 c5,.slice A6 n6 c6,.slice A7 n7 c7,.slice A8 al.length c8,.int .i64 own,.slice A9 gr.length c9,.int .i64 lim,.int .i64 peer,.string (bs us),.slice A10 ky.length c10,.bool ex,.bool ge,.int .u32 q0,.int .u32 q1,.int .u32 q2]] w (fun e w'=>e=.returned (.string (bs (bV sw cm)))/\Below w.heap.size w w'):=by
 obtain ⟨h,hW0⟩:∃h,h=w.alloc (.cells #[.bool sv,.string (bs sw),.string (bs cm),.slice A0 n0 c0,.slice A1 n1 c1,.slice A2 n2 c2,.slice A3 n3 c3,.slice A4 n4 c4,.slice A5 n5 c5,.slice A6 n6 c6,.slice A7 n7 c7,.slice A8 al.length c8,.int .i64 own,.slice A9 gr.length c9,.int .i64 lim,.int .i64 peer,.string (bs us),.slice A10 ky.length c10,.bool ex,.bool ge,.int .u32 q0,.int .u32 q1,.int .u32 q2] 30):=⟨_,rfl⟩
 have j:Below w.heap.size w h:=Zg;have g:Blk h w.heap.size 30 #[.bool sv,.string (bs sw),.string (bs cm),.slice A0 n0 c0,.slice A1 n1 c1,.slice A2 n2 c2,.slice A3 n3 c3,.slice A4 n4 c4,.slice A5 n5 c5,.slice A6 n6 c6,.slice A7 n7 c7,.slice A8 al.length c8,.int .i64 own,.slice A9 gr.length c9,.int .i64 lim,.int .i64 peer,.string (bs us),.slice A10 ky.length c10,.bool ex,.bool ge,.int .u32 q0,.int .u32 q1,.int .u32 q2]:=Zk;have I:=hide (I1 (sw:=bs sw) (cm:=bs cm) J K h);rw [aO,aO] at I;have L:=g.cell 0;have N:=g.cell 1;have O:=g.cell 2;have P:=g.cell 3;have Q:=g.cell 4;have R:=g.cell 5;have S:=g.cell 6;have T:=g.cell 7;have U:=g.cell 8;have V:=g.cell 9;have o:=g.cell 10;have p:=g.cell 11;have q:=g.cell 12;have r:=g.cell 13;have u:=g.cell 14;have v:=g.cell 15;have z:=g.cell 16;have A:=g.cell 17;have B:=g.cell 18;have C:=g.cell 19;have D:=g.cell 20;have F:=g.cell 21;have G:=g.cell 22;simp only [Jx,Q1,Q2] at L N O P Q R S T U V o p q r u v z A B C D F G;have HB:=hide j;clear j g J K;go_enter func212,ntmps212;go_upto_region 1 with fail;rw [<-hW0];clear hW0;go_wp2_with (go_at_call 271;refine I.out.mono ?_;rintro e w1 ⟨rfl,rfl⟩);go_ret;exact ⟨rfl,HB.out⟩
theorem qQ (J:sw.length<=1000000) (K:cm.length<=1000000):Calls prog 149 #[.agg #[.bool sv,.string (bs sw),.string (bs cm),.slice A0 n0 c0,.slice A1 n1 c1,.slice A2 n2 c2,.slice A3 n3 c3,.slice A4 n4 c4,.slice A5 n5 c5,.slice A6 n6 c6,.slice A7 n7 c7,.slice A8 al.length c8,.int .i64 own,.slice A9 gr.length c9,.int .i64 lim,.int .i64 peer,.string (bs us),.slice A10 ky.length c10,.bool ex,.bool ge,.int .u32 q0,.int .u32 q1,.int .u32 q2]] w (fun e w'=>e=.returned (.string (bs (bV sw cm)))/\Below w.heap.size w w'):=by
 obtain ⟨h,hW0⟩:∃h,h=w.alloc (.cells #[.bool sv,.string (bs sw),.string (bs cm),.slice A0 n0 c0,.slice A1 n1 c1,.slice A2 n2 c2,.slice A3 n3 c3,.slice A4 n4 c4,.slice A5 n5 c5,.slice A6 n6 c6,.slice A7 n7 c7,.slice A8 al.length c8,.int .i64 own,.slice A9 gr.length c9,.int .i64 lim,.int .i64 peer,.string (bs us),.slice A10 ky.length c10,.bool ex,.bool ge,.int .u32 q0,.int .u32 q1,.int .u32 q2] 30):=⟨_,rfl⟩
 have j:Below w.heap.size w h:=Zg;have g:Blk h w.heap.size 30 #[.bool sv,.string (bs sw),.string (bs cm),.slice A0 n0 c0,.slice A1 n1 c1,.slice A2 n2 c2,.slice A3 n3 c3,.slice A4 n4 c4,.slice A5 n5 c5,.slice A6 n6 c6,.slice A7 n7 c7,.slice A8 al.length c8,.int .i64 own,.slice A9 gr.length c9,.int .i64 lim,.int .i64 peer,.string (bs us),.slice A10 ky.length c10,.bool ex,.bool ge,.int .u32 q0,.int .u32 q1,.int .u32 q2]:=Zk;have I:=hide (Ko (sw:=bs sw) (cm:=bs cm) J K h);rw [aO,aO] at I;have L:=g.cell 0;have N:=g.cell 1;have O:=g.cell 2;have P:=g.cell 3;have Q:=g.cell 4;have R:=g.cell 5;have S:=g.cell 6;have T:=g.cell 7;have U:=g.cell 8;have V:=g.cell 9;have o:=g.cell 10;have p:=g.cell 11;have q:=g.cell 12;have r:=g.cell 13;have u:=g.cell 14;have v:=g.cell 15;have z:=g.cell 16;have A:=g.cell 17;have B:=g.cell 18;have C:=g.cell 19;have D:=g.cell 20;have F:=g.cell 21;have G:=g.cell 22;simp only [Jx,Q1,Q2] at L N O P Q R S T U V o p q r u v z A B C D F G;have HB:=hide j;clear j g J K;go_enter func149,ntmps149;go_upto_region 1 with fail;rw [<-hW0];clear hW0;go_wp2_with (go_at_call 227;refine I.out.mono ?_;rintro e w1 ⟨rfl,rfl⟩);go_ret;exact ⟨rfl,HB.out⟩
theorem Ue {l:List UInt8}:(!(bs l).toList.isEmpty)=(l != []):=by rw [ay];cases l <;> rfl
theorem iX {o:il} (h:gm o w e w'):∃v,e=.returned v:=by
 obtain ⟨_,h⟩:=h
 cases o with
 | none=>exact ⟨_,h⟩
 | some x=>obtain ⟨b,h,_⟩:=h;exact ⟨_,h⟩
theorem vX {o:TypeId} (g:Blk w b o cs.toArray):w.rangeAt b 0 cs:=fun j v h=>by rw [Nat.zero_add,g.cell j];simpa using h
theorem ol:(prog.info? 30).map (·.size)=some 23:=Z1
theorem aR {j:Oper} (o:j.guard=none) (x:Operand) (q:j.op=.load 30 x) (r:a.eval x=.pointer (some ⟨b,0,none⟩)) (p:Blk w b 30 cs.toArray) (hl:cs.length=23)
  (h:wpList prog g Q rest (a.put j.dst (.agg cs.toArray)) w):wpList prog g Q (j :: rest) a w :=
 wpList_load_mid o 30 x q b 0 r cs _ (vX p) underlying30 rfl XV h
theorem rJ {j:Oper} (o:j.guard=none) (x:Operand) (q:j.op=.move x)
  (h:wpList prog g Q rest (a.put j.dst (a.eval x)) w):wpList prog g Q (j :: rest) a w :=
 wpList_plain o fun _ p=>by
  unfold Oper.wp execOp;simp only [q];exact p _ _ h
theorem P6 {w1:World} {o:il} (h:gm o w1 e w') (g:Below w.heap.size w w1):gm o w e w':=⟨g.trans (h.1.mono g.size),h.2⟩
theorem Iy (j:Blk w b 30 #[.bool sv,.string (bs sw),.string (bs cm),.slice A0 n0 c0,.slice A1 n1 c1,.slice A2 n2 c2,.slice A3 n3 c3,.slice A4 n4 c4,.slice A5 n5 c5,.slice A6 n6 c6,.slice A7 n7 c7,.slice A8 al.length c8,.int .i64 own,.slice A9 gr.length c9,.int .i64 lim,.int .i64 peer,.string (bs us),.slice A10 ky.length c10,.bool ex,.bool ge,.int .u32 q0,.int .u32 q1,.int .u32 q2]) (q:sw.length<=1000000) (r:cm.length<=1000000):Calls prog 210 #[.pointer (some ⟨b,0,none⟩)] w (gm (unl (bV sw cm != []) [118,101,114,115,105,111,110] 1) w):=by
 have h:=hide (BC (w:=w) (sv:=sv) (ex:=ex) (ge:=ge) (us:=us) (A0:=A0) (A1:=A1) (A2:=A2) (A3:=A3) (A4:=A4) (A5:=A5) (A6:=A6) (A7:=A7) (A8:=A8) (A9:=A9) (A10:=A10) (n0:=n0) (n1:=n1) (n2:=n2) (n3:=n3) (n4:=n4) (n5:=n5) (n6:=n6) (n7:=n7) (c0:=c0) (c1:=c1) (c2:=c2) (c3:=c3) (c4:=c4) (c5:=c5) (c6:=c6) (c7:=c7) (c8:=c8) (c9:=c9) (c10:=c10) (al:=al) (own:=own) (lim:=lim) (peer:=peer) (q0:=q0) (q1:=q1) (q2:=q2) (gr:=gr) (ky:=ky) q r);have p:=hide (fun (W:World)=>show Calls prog 211 #[.bool (!(bs (bV sw cm)).toList.isEmpty),.string ⟨#[118,101,114,115,105,111,110]⟩,.int .i64 1] W (gm (unl (bV sw cm != []) [118,101,114,115,105,111,110] 1) W) from by rw [Ue];exact kR (bV sw cm != []) ⟨#[118,101,114,115,105,111,110]⟩ 1 Z2 W);generalize bV sw cm=A at h p ⊢;have u:=j.lt;go_enter func210,ntmps210;go_upto_region 1 with fail;refine wp_region_lit ?_;refine aR rfl (.tmp 0) rfl Z5 j rfl ?_;generalize Value.agg #[.bool sv,.string (bs sw),.string (bs cm),.slice A0 n0 c0,.slice A1 n1 c1,.slice A2 n2 c2,.slice A3 n3 c3,.slice A4 n4 c4,.slice A5 n5 c5,.slice A6 n6 c6,.slice A7 n7 c7,.slice A8 al.length c8,.int .i64 own,.slice A9 gr.length c9,.int .i64 lim,.int .i64 peer,.string (bs us),.slice A10 ky.length c10,.bool ex,.bool ge,.int .u32 q0,.int .u32 q1,.int .u32 q2]=z at h ⊢;clear j;go_wp2_with (go_at_call 212;refine h.out.mono ?_;rintro e w1 ⟨rfl,o⟩);refine (p.out _).mono ?_;rintro e w2 g;obtain ⟨v,rfl⟩:=iX g;go_wp2_with fail;go_ret;exact P6 g o
theorem zz818 (h_:p_:=by
 rintro e w2 hE2;obtain ⟨v,rfl⟩:=iX hE2;go_wp2_with fail;go_ret
 exact hE2):p_:=h_
theorem Ic (g:Blk w b 30 #[.bool sv,.string (bs sw),.string (bs cm),.slice A0 n0 c0,.slice A1 n1 c1,.slice A2 n2 c2,.slice A3 n3 c3,.slice A4 n4 c4,.slice A5 n5 c5,.slice A6 n6 c6,.slice A7 n7 c7,.slice A8 al.length c8,.int .i64 own,.slice A9 gr.length c9,.int .i64 lim,.int .i64 peer,.string (bs us),.slice A10 ky.length c10,.bool ex,.bool ge,.int .u32 q0,.int .u32 q1,.int .u32 q2]) (j:gL w) (o:iW w) (h8:rD w [.slice A0 n0 c0,.slice A1 n1 c1,.slice A2 n2 c2,.slice A3 n3 c3,.slice A4 n4 c4,.slice A5 n5 c5,.slice A6 n6 c6,.slice A7 n7 c7] ls):Calls prog 213 #[.pointer (some ⟨b,0,none⟩)] w (gm (prR (prW ls)) w):=by
 have p:=hide (Ec j o h8);clear j o h8;have r:=g.cell 3;have u:=g.cell 4;have z:=g.cell 5;have A:=g.cell 6;have B:=g.cell 7;have C:=g.cell 8;have D:=g.cell 9;have h:=g.cell 10;simp only [Jx,Q1,Q2] at r u z A B C D h;have q:=g.lt;clear g;go_enter func213,ntmps213;go_wp2_with (first | fail | fail);refine (p.out).mono ?_;exact zz818
theorem Qj (g:Blk w b 30 #[.bool sv,.string (bs sw),.string (bs cm),.slice A0 n0 c0,.slice A1 n1 c1,.slice A2 n2 c2,.slice A3 n3 c3,.slice A4 n4 c4,.slice A5 n5 c5,.slice A6 n6 c6,.slice A7 n7 c7,.slice A8 al.length c8,.int .i64 own,.slice A9 gr.length c9,.int .i64 lim,.int .i64 peer,.string (bs us),.slice A10 ky.length c10,.bool ex,.bool ge,.int .u32 q0,.int .u32 q1,.int .u32 q2]):Calls prog 215 #[.pointer (some ⟨b,0,none⟩)] w (gm (unl (aG own) [111,119,110] 5) w):=by
 have j:=hide (tL own w);have o:=hide (fun (W:World)=>kR (aG own) ⟨#[111,119,110]⟩ 5 Z2 W);have h:=g.cell 12;simp only [Jx,Q1,Q2] at h;have p:=g.lt;clear g;go_enter func215,ntmps215;go_wp2_with (go_at_call 216;refine j.out.mono ?_;rintro e w1 ⟨rfl,rfl⟩);refine (o.out _).mono ?_;exact zz818
theorem QH (h:Blk w b 30 #[.bool sv,.string (bs sw),.string (bs cm),.slice A0 n0 c0,.slice A1 n1 c1,.slice A2 n2 c2,.slice A3 n3 c3,.slice A4 n4 c4,.slice A5 n5 c5,.slice A6 n6 c6,.slice A7 n7 c7,.slice A8 al.length c8,.int .i64 own,.slice A9 gr.length c9,.int .i64 lim,.int .i64 peer,.string (bs us),.slice A10 ky.length c10,.bool ex,.bool ge,.int .u32 q0,.int .u32 q1,.int .u32 q2]) (g:CfM w sw cm us [.slice A0 n0 c0,.slice A1 n1 c1,.slice A2 n2 c2,.slice A3 n3 c3,.slice A4 n4 c4,.slice A5 n5 c5,.slice A6 n6 c6,.slice A7 n7 c7] ls A8 c8 al A9 gr A10 ky):Calls prog 217 #[.pointer (some ⟨b,0,none⟩)] w (gm (bQ (aS gr al lim)) w):=by
 have q:=hide (xc (c:=c9) (lim:=lim) g.hgr g.grl g.gry g.hal g.alc g.all g.aly);clear g;have j:=h.cell 11;have o:=h.cell 13;have p:=h.cell 14;simp only [Jx,Q1,Q2] at j o p;have r:=h.lt;clear h;go_enter func217,ntmps217;go_wp2_with (first | fail | fail);refine (q.out).mono ?_;exact zz818
theorem Rz (g:Blk w b 30 #[.bool sv,.string (bs sw),.string (bs cm),.slice A0 n0 c0,.slice A1 n1 c1,.slice A2 n2 c2,.slice A3 n3 c3,.slice A4 n4 c4,.slice A5 n5 c5,.slice A6 n6 c6,.slice A7 n7 c7,.slice A8 al.length c8,.int .i64 own,.slice A9 gr.length c9,.int .i64 lim,.int .i64 peer,.string (bs us),.slice A10 ky.length c10,.bool ex,.bool ge,.int .u32 q0,.int .u32 q1,.int .u32 q2]):Calls prog 218 #[.pointer (some ⟨b,0,none⟩)] w (gm (unl (aG peer) [112,101,101,114] 5) w):=by
 have j:=hide (tL peer w);have o:=hide (fun (W:World)=>kR (aG peer) ⟨#[112,101,101,114]⟩ 5 Z2 W);have h:=g.cell 15;simp only [Jx,Q1,Q2] at h;have p:=g.lt;clear g;go_enter func218,ntmps218;go_wp2_with (go_at_call 216;refine j.out.mono ?_;rintro e w1 ⟨rfl,rfl⟩);refine (o.out _).mono ?_;exact zz818
theorem Rp (g:Blk w b 30 #[.bool sv,.string (bs sw),.string (bs cm),.slice A0 n0 c0,.slice A1 n1 c1,.slice A2 n2 c2,.slice A3 n3 c3,.slice A4 n4 c4,.slice A5 n5 c5,.slice A6 n6 c6,.slice A7 n7 c7,.slice A8 al.length c8,.int .i64 own,.slice A9 gr.length c9,.int .i64 lim,.int .i64 peer,.string (bs us),.slice A10 ky.length c10,.bool ex,.bool ge,.int .u32 q0,.int .u32 q1,.int .u32 q2]) (p:us.length<=1000000):Calls prog 219 #[.pointer (some ⟨b,0,none⟩)] w (gm (unl (bW us) [117,115,101,114] 3) w):=by
 have j:=hide (show Calls prog 220 #[.string (bs us)] w (fun e w'=>e=.returned (.bool (bW us))/\w'=w) from by have:=BK (bs us) (Yg p Z2) w;rwa [aO] at this);have o:=hide (fun (W:World)=>kR (bW us) ⟨#[117,115,101,114]⟩ 3 Z2 W);have h:=g.cell 16;simp only [Jx,Q1,Q2] at h;have q:=g.lt;clear g;go_enter func219,ntmps219;go_wp2_with (go_at_call 220;refine j.out.mono ?_;rintro e w1 ⟨rfl,rfl⟩);refine (o.out _).mono ?_;exact zz818
theorem Sn (h:Blk w b 30 #[.bool sv,.string (bs sw),.string (bs cm),.slice A0 n0 c0,.slice A1 n1 c1,.slice A2 n2 c2,.slice A3 n3 c3,.slice A4 n4 c4,.slice A5 n5 c5,.slice A6 n6 c6,.slice A7 n7 c7,.slice A8 al.length c8,.int .i64 own,.slice A9 gr.length c9,.int .i64 lim,.int .i64 peer,.string (bs us),.slice A10 ky.length c10,.bool ex,.bool ge,.int .u32 q0,.int .u32 q1,.int .u32 q2]) (g:CfM w sw cm us [.slice A0 n0 c0,.slice A1 n1 c1,.slice A2 n2 c2,.slice A3 n3 c3,.slice A4 n4 c4,.slice A5 n5 c5,.slice A6 n6 c6,.slice A7 n7 c7] ls A8 c8 al A9 gr A10 ky):Calls prog 221 #[.pointer (some ⟨b,0,none⟩)] w (gm (ib ky) w):=by
 have o:=hide (NI (c:=c10) g.hky g.kyl);clear g;have j:=h.cell 17;simp only [Jx,Q1,Q2] at j;have p:=h.lt;clear h;go_enter func221,ntmps221;go_wp2_with (first | fail | fail);refine (o.out).mono ?_;exact zz818
theorem Rt (j:Blk w b 30 #[.bool sv,.string (bs sw),.string (bs cm),.slice A0 n0 c0,.slice A1 n1 c1,.slice A2 n2 c2,.slice A3 n3 c3,.slice A4 n4 c4,.slice A5 n5 c5,.slice A6 n6 c6,.slice A7 n7 c7,.slice A8 al.length c8,.int .i64 own,.slice A9 gr.length c9,.int .i64 lim,.int .i64 peer,.string (bs us),.slice A10 ky.length c10,.bool ex,.bool ge,.int .u32 q0,.int .u32 q1,.int .u32 q2]) (h:CfM w sw cm us [.slice A0 n0 c0,.slice A1 n1 c1,.slice A2 n2 c2,.slice A3 n3 c3,.slice A4 n4 c4,.slice A5 n5 c5,.slice A6 n6 c6,.slice A7 n7 c7] ls A8 c8 al A9 gr A10 ky):Calls prog 223 #[.pointer (some ⟨b,0,none⟩)] w (gm (bQ (aS [] al 1)) w):=by
 have p:=hide (show Calls prog 186 #[.slice none 0 0,.slice A8 al.length c8,.int .i64 1] w (gm (bQ (aS [] al 1)) w) from xc (A:=none) (c:=0) (gs:=[]) (lim:=1) (fun k r=>absurd r (Nat.not_lt_zero _)) (Yb _) (fun g q=>by cases q) h.hal h.alc h.all h.aly);clear h;have o:=j.cell 11;simp only [Jx,Q1,Q2] at o;have u:=j.lt;clear j;go_enter func223,ntmps223;go_wp2_with (first | fail | fail);refine (p.out).mono ?_;exact zz818
theorem Tf (g:Blk w b 30 #[.bool sv,.string (bs sw),.string (bs cm),.slice A0 n0 c0,.slice A1 n1 c1,.slice A2 n2 c2,.slice A3 n3 c3,.slice A4 n4 c4,.slice A5 n5 c5,.slice A6 n6 c6,.slice A7 n7 c7,.slice A8 al.length c8,.int .i64 own,.slice A9 gr.length c9,.int .i64 lim,.int .i64 peer,.string (bs us),.slice A10 ky.length c10,.bool ex,.bool ge,.int .u32 q0,.int .u32 q1,.int .u32 q2]):Calls prog 224 #[.pointer (some ⟨b,0,none⟩)] w (gm (unl (aW q0 q1 q2) [119,105,115,104] 5) w):=by
 have p:=hide (Li q0 q1 q2 w);have q:=hide (fun (W:World)=>kR (aW q0 q1 q2) ⟨#[119,105,115,104]⟩ 5 Z2 W);have h:=g.cell 20;have j:=g.cell 21;have o:=g.cell 22;simp only [Jx,Q1,Q2] at h j o;have r:=g.lt;clear g;go_enter func224,ntmps224;go_wp2_with (go_at_call 225;refine p.out.mono ?_;rintro e w1 ⟨rfl,rfl⟩);refine (q.out _).mono ?_;exact zz818
theorem BJ (w:World):Calls prog 138 #[.agg #[.bool sv,.string (bs sw),.string (bs cm),.slice A0 n0 c0,.slice A1 n1 c1,.slice A2 n2 c2,.slice A3 n3 c3,.slice A4 n4 c4,.slice A5 n5 c5,.slice A6 n6 c6,.slice A7 n7 c7,.slice A8 al.length c8,.int .i64 own,.slice A9 gr.length c9,.int .i64 lim,.int .i64 peer,.string (bs us),.slice A10 ky.length c10,.bool ex,.bool ge,.int .u32 q0,.int .u32 q1,.int .u32 q2]] w (fun e w'=>e=.returned (.slice (some ⟨w.heap.size+1,0,none⟩) 2 2)/\Below w.heap.size w w'/\Blk w' w.heap.size 30 #[.bool sv,.string (bs sw),.string (bs cm),.slice A0 n0 c0,.slice A1 n1 c1,.slice A2 n2 c2,.slice A3 n3 c3,.slice A4 n4 c4,.slice A5 n5 c5,.slice A6 n6 c6,.slice A7 n7 c7,.slice A8 al.length c8,.int .i64 own,.slice A9 gr.length c9,.int .i64 lim,.int .i64 peer,.string (bs us),.slice A10 ky.length c10,.bool ex,.bool ge,.int .u32 q0,.int .u32 q1,.int .u32 q2]/\Blk w' (w.heap.size+1) 224 #[.func (.func 210) #[] #[.pointer (some ⟨w.heap.size,0,none⟩)],.func (.func 213) #[] #[.pointer (some ⟨w.heap.size,0,none⟩)]]):=by
 obtain ⟨W,hW⟩:∃W,W=(w.alloc (.cells #[.bool sv,.string (bs sw),.string (bs cm),.slice A0 n0 c0,.slice A1 n1 c1,.slice A2 n2 c2,.slice A3 n3 c3,.slice A4 n4 c4,.slice A5 n5 c5,.slice A6 n6 c6,.slice A7 n7 c7,.slice A8 al.length c8,.int .i64 own,.slice A9 gr.length c9,.int .i64 lim,.int .i64 peer,.string (bs us),.slice A10 ky.length c10,.bool ex,.bool ge,.int .u32 q0,.int .u32 q1,.int .u32 q2] 30)).alloc (.cells #[.func (.func 210) #[] #[.pointer (some ⟨w.heap.size,0,none⟩)],.func (.func 213) #[] #[.pointer (some ⟨w.heap.size,0,none⟩)]] 224):=⟨_,rfl⟩
 have h:Below w.heap.size w W:=XE;have g:Blk W w.heap.size 30 #[.bool sv,.string (bs sw),.string (bs cm),.slice A0 n0 c0,.slice A1 n1 c1,.slice A2 n2 c2,.slice A3 n3 c3,.slice A4 n4 c4,.slice A5 n5 c5,.slice A6 n6 c6,.slice A7 n7 c7,.slice A8 al.length c8,.int .i64 own,.slice A9 gr.length c9,.int .i64 lim,.int .i64 peer,.string (bs us),.slice A10 ky.length c10,.bool ex,.bool ge,.int .u32 q0,.int .u32 q1,.int .u32 q2]:=Xk;have hF:Blk W (w.heap.size+1) 224 #[.func (.func 210) #[] #[.pointer (some ⟨w.heap.size,0,none⟩)],.func (.func 213) #[] #[.pointer (some ⟨w.heap.size,0,none⟩)]]:=by rw [hW];exact bL w _ _ _
 go_enter func138,ntmps138;go_wp2_with fail;rw [<-hW];go_ret;exact ⟨rfl,h,g,hF⟩
theorem EF (w:World):Calls prog 139 #[.agg #[.bool sv,.string (bs sw),.string (bs cm),.slice A0 n0 c0,.slice A1 n1 c1,.slice A2 n2 c2,.slice A3 n3 c3,.slice A4 n4 c4,.slice A5 n5 c5,.slice A6 n6 c6,.slice A7 n7 c7,.slice A8 al.length c8,.int .i64 own,.slice A9 gr.length c9,.int .i64 lim,.int .i64 peer,.string (bs us),.slice A10 ky.length c10,.bool ex,.bool ge,.int .u32 q0,.int .u32 q1,.int .u32 q2]] w (fun e w'=>e=.returned (.slice (some ⟨w.heap.size+1,0,none⟩) 2 2)/\Below w.heap.size w w'/\Blk w' w.heap.size 30 #[.bool sv,.string (bs sw),.string (bs cm),.slice A0 n0 c0,.slice A1 n1 c1,.slice A2 n2 c2,.slice A3 n3 c3,.slice A4 n4 c4,.slice A5 n5 c5,.slice A6 n6 c6,.slice A7 n7 c7,.slice A8 al.length c8,.int .i64 own,.slice A9 gr.length c9,.int .i64 lim,.int .i64 peer,.string (bs us),.slice A10 ky.length c10,.bool ex,.bool ge,.int .u32 q0,.int .u32 q1,.int .u32 q2]/\Blk w' (w.heap.size+1) 224 #[.func (.func 215) #[] #[.pointer (some ⟨w.heap.size,0,none⟩)],.func (.func 217) #[] #[.pointer (some ⟨w.heap.size,0,none⟩)]]):=by
 obtain ⟨W,hW⟩:∃W,W=(w.alloc (.cells #[.bool sv,.string (bs sw),.string (bs cm),.slice A0 n0 c0,.slice A1 n1 c1,.slice A2 n2 c2,.slice A3 n3 c3,.slice A4 n4 c4,.slice A5 n5 c5,.slice A6 n6 c6,.slice A7 n7 c7,.slice A8 al.length c8,.int .i64 own,.slice A9 gr.length c9,.int .i64 lim,.int .i64 peer,.string (bs us),.slice A10 ky.length c10,.bool ex,.bool ge,.int .u32 q0,.int .u32 q1,.int .u32 q2] 30)).alloc (.cells #[.func (.func 215) #[] #[.pointer (some ⟨w.heap.size,0,none⟩)],.func (.func 217) #[] #[.pointer (some ⟨w.heap.size,0,none⟩)]] 224):=⟨_,rfl⟩
 have h:Below w.heap.size w W:=XE;have g:Blk W w.heap.size 30 #[.bool sv,.string (bs sw),.string (bs cm),.slice A0 n0 c0,.slice A1 n1 c1,.slice A2 n2 c2,.slice A3 n3 c3,.slice A4 n4 c4,.slice A5 n5 c5,.slice A6 n6 c6,.slice A7 n7 c7,.slice A8 al.length c8,.int .i64 own,.slice A9 gr.length c9,.int .i64 lim,.int .i64 peer,.string (bs us),.slice A10 ky.length c10,.bool ex,.bool ge,.int .u32 q0,.int .u32 q1,.int .u32 q2]:=Xk;have hF:Blk W (w.heap.size+1) 224 #[.func (.func 215) #[] #[.pointer (some ⟨w.heap.size,0,none⟩)],.func (.func 217) #[] #[.pointer (some ⟨w.heap.size,0,none⟩)]]:=by rw [hW];exact bL w _ _ _
 go_enter func139,ntmps139;go_wp2_with fail;rw [<-hW];go_ret;exact ⟨rfl,h,g,hF⟩
theorem Gz (w:World):Calls prog 140 #[.agg #[.bool sv,.string (bs sw),.string (bs cm),.slice A0 n0 c0,.slice A1 n1 c1,.slice A2 n2 c2,.slice A3 n3 c3,.slice A4 n4 c4,.slice A5 n5 c5,.slice A6 n6 c6,.slice A7 n7 c7,.slice A8 al.length c8,.int .i64 own,.slice A9 gr.length c9,.int .i64 lim,.int .i64 peer,.string (bs us),.slice A10 ky.length c10,.bool ex,.bool ge,.int .u32 q0,.int .u32 q1,.int .u32 q2]] w (fun e w'=>e=.returned (.slice (some ⟨w.heap.size+1,0,none⟩) 5 5)/\Below w.heap.size w w'/\Blk w' w.heap.size 30 #[.bool sv,.string (bs sw),.string (bs cm),.slice A0 n0 c0,.slice A1 n1 c1,.slice A2 n2 c2,.slice A3 n3 c3,.slice A4 n4 c4,.slice A5 n5 c5,.slice A6 n6 c6,.slice A7 n7 c7,.slice A8 al.length c8,.int .i64 own,.slice A9 gr.length c9,.int .i64 lim,.int .i64 peer,.string (bs us),.slice A10 ky.length c10,.bool ex,.bool ge,.int .u32 q0,.int .u32 q1,.int .u32 q2]/\Blk w' (w.heap.size+1) 224 #[.func (.func 218) #[] #[.pointer (some ⟨w.heap.size,0,none⟩)],.func (.func 219) #[] #[.pointer (some ⟨w.heap.size,0,none⟩)],.func (.func 221) #[] #[.pointer (some ⟨w.heap.size,0,none⟩)],.func (.func 223) #[] #[.pointer (some ⟨w.heap.size,0,none⟩)],.func (.func 224) #[] #[.pointer (some ⟨w.heap.size,0,none⟩)]]):=by
 obtain ⟨W,hW⟩:∃W,W=(w.alloc (.cells #[.bool sv,.string (bs sw),.string (bs cm),.slice A0 n0 c0,.slice A1 n1 c1,.slice A2 n2 c2,.slice A3 n3 c3,.slice A4 n4 c4,.slice A5 n5 c5,.slice A6 n6 c6,.slice A7 n7 c7,.slice A8 al.length c8,.int .i64 own,.slice A9 gr.length c9,.int .i64 lim,.int .i64 peer,.string (bs us),.slice A10 ky.length c10,.bool ex,.bool ge,.int .u32 q0,.int .u32 q1,.int .u32 q2] 30)).alloc (.cells #[.func (.func 218) #[] #[.pointer (some ⟨w.heap.size,0,none⟩)],.func (.func 219) #[] #[.pointer (some ⟨w.heap.size,0,none⟩)],.func (.func 221) #[] #[.pointer (some ⟨w.heap.size,0,none⟩)],.func (.func 223) #[] #[.pointer (some ⟨w.heap.size,0,none⟩)],.func (.func 224) #[] #[.pointer (some ⟨w.heap.size,0,none⟩)]] 224):=⟨_,rfl⟩
 have h:Below w.heap.size w W:=XE;have g:Blk W w.heap.size 30 #[.bool sv,.string (bs sw),.string (bs cm),.slice A0 n0 c0,.slice A1 n1 c1,.slice A2 n2 c2,.slice A3 n3 c3,.slice A4 n4 c4,.slice A5 n5 c5,.slice A6 n6 c6,.slice A7 n7 c7,.slice A8 al.length c8,.int .i64 own,.slice A9 gr.length c9,.int .i64 lim,.int .i64 peer,.string (bs us),.slice A10 ky.length c10,.bool ex,.bool ge,.int .u32 q0,.int .u32 q1,.int .u32 q2]:=Xk;have hF:Blk W (w.heap.size+1) 224 #[.func (.func 218) #[] #[.pointer (some ⟨w.heap.size,0,none⟩)],.func (.func 219) #[] #[.pointer (some ⟨w.heap.size,0,none⟩)],.func (.func 221) #[] #[.pointer (some ⟨w.heap.size,0,none⟩)],.func (.func 223) #[] #[.pointer (some ⟨w.heap.size,0,none⟩)],.func (.func 224) #[] #[.pointer (some ⟨w.heap.size,0,none⟩)]]:=by rw [hW];exact bL w _ _ _
 go_enter func140,ntmps140;go_wp2_with fail;rw [<-hW];go_ret;exact ⟨rfl,h,g,hF⟩
end
theorem Pq:(prog.info? 224).map (fun i=>(i.zero,i.size,i.bytes))=some (some .nilFunc,1,8):=Z1
structure F5 (w8:World) (b1 b2:Nat) (cv:Array Value) (ad:Addr) (fs:List Value) (W:World):Prop where
 bel:Below w8.heap.size w8 W
 x1:Blk W b1 30 cv
 x2:Blk W b2 30 cv
 lt:ad.block<W.heap.size
 at_:∀(k:Nat) u,fs[k]?=some u->W.cell? (ad.add k)=some u
theorem F5.below {r:World} {b1 b2:Nat} {q:Array Value} {j:Addr} {fs:List Value} {W o:World} (h:F5 r b1 b2 q j fs W) (g:Below W.heap.size W o):F5 r b1 b2 q j fs o :=
 ⟨h.bel.trans (g.mono h.bel.size),h.x1.below g h.x1.lt,h.x2.below g h.x2.lt,Yi h.lt g.size,fun k u v=>(g.cell (p:=j.add k) (by rw [ax];exact h.lt)).trans (h.at_ k u v)⟩
theorem fq {α:Type} (o:Option α):o=none\/∃x,o=some x:=by
 cases o with
 | none=>exact .inl rfl
 | some x=>exact .inr ⟨x,rfl⟩
theorem PG {l:List il} {e:il} (H:dQ l=dQ (l.drop k)) (g:l[k]?=some e) (he:e=none):dQ l=dQ (l.drop (k+1)):=by
 rw [H];obtain ⟨j,h⟩:=Yx.1 g;rw [List.drop_eq_getElem_cons j,h,he];rfl
theorem Nb {l:List il} {e:il} {ps:List (List UInt8)} {kk:Int} (H:dQ l=dQ (l.drop k)) (g:l[k]?=some e) (he:e=some (ps,kk)):inC (dQ l)=some ([99,111,110,102] :: ps,kk):=by
 rw [H];obtain ⟨j,h⟩:=Yx.1 g;rw [List.drop_eq_getElem_cons j,h,he];rfl
theorem gW {w:World} {g:Addr} {x:Option Value} (h:w.cell? (g.add (k+1))=x):w.cell? ⟨g.block,g.off+(k+1),none⟩=x:=by
 rw [<-show g.add (k+1)=⟨g.block,g.off+(k+1),none⟩ from by simp [Addr.add]];exact h
theorem wm {p:Prop} (h:p:=by
  rcases HO with he | ⟨⟨ps,kk⟩,he⟩
  ·have H2:=hide (PG H.out hke he)
   rw [he] at HK;have HK2:=hide (oH HK.out);clear H HK he hke;go_wp2_with ((first | go_at_call 210 | go_at_call 213 | go_at_call 215 | go_at_call 217 | go_at_call 218 | go_at_call 219 | go_at_call 221 | go_at_call 223 | go_at_call 224);refine HK2.out.mono ?_;rintro e w3 ⟨rfl,hb3⟩);have HB3:=hide (HB.out.below hb3);go_roundw
   case rel=>exact ⟨⟨_,by decide,by go_num,H2⟩,HB3⟩
   case measure=>simp [intOf]
  ·have E:=hide (Nb H.out hke he)
   rw [he] at HK;have HK2:=hide (y8 HK.out);unfold aK at HK2;clear H HK he hke;go_wp2_with (first | ((first | go_at_call 210 | go_at_call 213 | go_at_call 215 | go_at_call 217 | go_at_call 218 | go_at_call 219 | go_at_call 221 | go_at_call 223 | go_at_call 224);refine HK2.out.mono ?_;rintro e w3 ⟨b,rfl,hi,hb3⟩;have HT2:=hide (HT.out _ ⟨#[99,111,110,102]⟩ b _ _ hi);unfold aK at HT2) | (go_at_call 47;refine HT2.out.mono ?_;rintro e w5 ⟨b2,rfl,hi2,hb5⟩));go_ret;have hb35:=hb3.trans (hb5.mono hb3.size)
   exact AZ E.out (HBW.out.trans (hb35.mono HBW.out.size)) rfl hi2):p:=h
section
variable {w : World}
theorem df {o:Oper} (p:o.guard=none) (x:Operand) (r:o.op=.load 30 x) (u:a.eval x=.pointer (some ⟨b,0,none⟩)) {j:Array Value} (hX:Blk w b 30 j) (q:j.toList.length=23)
  (h:wpList prog g Q rest (a.put o.dst (.agg j)) w):wpList prog g Q (o :: rest) a w :=
 aR (cs:=j.toList) p x r u XW q (by rw [YN];exact h)
theorem R5 (hM:gL w) (hW:iW w) (hC:CfM w sw cm us [.slice A0 n0 c0,.slice A1 n1 c1,.slice A2 n2 c2,.slice A3 n3 c3,.slice A4 n4 c4,.slice A5 n5 c5,.slice A6 n6 c6,.slice A7 n7 c7] ls A8 c8 al A9 gr A10 ky) :
  Calls prog 81 #[.agg #[.bool true,.string (bs sw),.string (bs cm),.slice A0 n0 c0,.slice A1 n1 c1,.slice A2 n2 c2,.slice A3 n3 c3,.slice A4 n4 c4,.slice A5 n5 c5,.slice A6 n6 c6,.slice A7 n7 c7,.slice A8 al.length c8,.int .i64 own,.slice A9 gr.length c9,.int .i64 lim,.int .i64 peer,.string (bs us),.slice A10 ky.length c10,.bool ex,.bool ge,.int .u32 q0,.int .u32 q1,.int .u32 q2]] w (gm (inC (dQ [unl (bV sw cm != []) [118,101,114,115,105,111,110] 1,prR (prW ls),unl (aG own) [111,119,110] 5,bQ (aS gr al lim)])) w):=by
 obtain ⟨j,hcv⟩:∃j:Array Value,j=#[.bool true,.string (bs sw),.string (bs cm),.slice A0 n0 c0,.slice A1 n1 c1,.slice A2 n2 c2,.slice A3 n3 c3,.slice A4 n4 c4,.slice A5 n5 c5,.slice A6 n6 c6,.slice A7 n7 c7,.slice A8 al.length c8,.int .i64 own,.slice A9 gr.length c9,.int .i64 lim,.int .i64 peer,.string (bs us),.slice A10 ky.length c10,.bool ex,.bool ge,.int .u32 q0,.int .u32 q1,.int .u32 q2]:=⟨_,rfl⟩
 rw [<-hcv]
 obtain ⟨C,hW0⟩:∃C,C=w.alloc (.cells j 30):=⟨_,rfl⟩
 have av:Below w.heap.size w C:=Zg;have J:Blk C w.heap.size 30 j:=Zk;have K0:=hide (fun (W:World) (b:Nat) (h:Blk W b 30 j) (hb:Below w.heap.size w W)=>show Calls prog 210 #[.pointer (some ⟨b,0,none⟩)] W (gm (unl (bV sw cm != []) [118,101,114,115,105,111,110] 1) W) from by rw [hcv] at h;exact Iy h hC.hsw hC.hcm);have K1:=hide (fun (W:World) (b:Nat) (h:Blk W b 30 j) (hb:Below w.heap.size w W)=>show Calls prog 213 #[.pointer (some ⟨b,0,none⟩)] W (gm (prR (prW ls)) W) from YZ);have K2:=hide (fun (W:World) (b:Nat) (h:Blk W b 30 j) (hb:Below w.heap.size w W)=>show Calls prog 215 #[.pointer (some ⟨b,0,none⟩)] W (gm (unl (aG own) [111,119,110] 5) W) from by rw [hcv] at h;exact Qj h);have K3:=hide (fun (W:World) (b:Nat) (h:Blk W b 30 j) (hb:Below w.heap.size w W)=>show Calls prog 217 #[.pointer (some ⟨b,0,none⟩)] W (gm (bQ (aS gr al lim)) W) from by rw [hcv] at h;exact QH h (hC.below hb))
 obtain ⟨D,Z⟩:∃x,x=unl (bV sw cm != []) [118,101,114,115,105,111,110] 1:=⟨_,rfl⟩
 rw [<-Z] at K0
 obtain ⟨F,aa⟩:∃x,x=prR (prW ls):=⟨_,rfl⟩
 rw [<-aa] at K1
 obtain ⟨G,ab⟩:∃x,x=unl (aG own) [111,119,110] 5:=⟨_,rfl⟩
 rw [<-ab] at K2
 obtain ⟨I,ac⟩:∃x,x=bQ (aS gr al lim):=⟨_,rfl⟩
 rw [<-ac] at K3;rw [<-Z,<- aa,<- ab,<- ac];clear Z aa ab ac;have an:=hide (fun (W:World)=>show Calls prog 138 #[.agg j] W (fun e w'=>e=.returned (.slice (some ⟨W.heap.size+1,0,none⟩) 2 2)/\Below W.heap.size W w'/\Blk w' W.heap.size 30 j/\Blk w' (W.heap.size+1) 224 #[.func (.func 210) #[] #[.pointer (some ⟨W.heap.size,0,none⟩)],.func (.func 213) #[] #[.pointer (some ⟨W.heap.size,0,none⟩)]]) from by rw [hcv];exact BJ W);have ao:=hide (fun (W:World)=>show Calls prog 139 #[.agg j] W (fun e w'=>e=.returned (.slice (some ⟨W.heap.size+1,0,none⟩) 2 2)/\Below W.heap.size W w'/\Blk w' W.heap.size 30 j/\Blk w' (W.heap.size+1) 224 #[.func (.func 215) #[] #[.pointer (some ⟨W.heap.size,0,none⟩)],.func (.func 217) #[] #[.pointer (some ⟨W.heap.size,0,none⟩)]]) from by rw [hcv];exact EF W);have HX:=hide (Y4 av J);have A:=J.lt;have z0:=J.cell 0;rw [hcv] at z0;simp only [Jx,Q1] at z0;have HT:=hide (fun (W:World) (s:ByteArray) (b:Nat) (ps:List (List UInt8)) (k:Int) (h:aZ W (aK b) ps k)=>mO s b h);obtain ⟨iC,a8,a3,a4,a5⟩:=eP Pq;clear hM hW hC av;have aw:j.toList.length=23:=by rw [hcv];rfl
 clear hcv;go_enter func81,ntmps81;go_upto_region 1 with fail;rw [<-hW0];clear hW0;refine wp_region_lit ?_;refine df rfl (.tmp 1) rfl Z5 HX.out.2 aw ?_
 go_upto_region 3 with (go_at_call 138;refine (an.out _).mono ?_;rintro e w1 ⟨rfl,K,v,V⟩;have z1:=(K.cell (p:=⟨w.heap.size,0,none⟩) A).trans z0)
 have T:=HX.out.1.size;have B:=xh (b:=w.heap.size) (n:=2) V Z0 rfl Ze;have O:=HX.out.2.below K A;have Q:=v.lt;refine wp_region_lit ?_;refine rJ rfl (.tmp 3) rfl ?_;refine df rfl (.tmp 1) rfl Z5 O aw ?_;go_wp2_with (go_at_call 139;refine (ao.out _).mono ?_;rintro e w2 ⟨rfl,r,X,ap⟩;rename_i a6;have af:=mJ B r;have o:=v.below r v.lt;have aF:=r.size;dsimp only;refine a6 _ _ ?_;refine aB _ rfl (.tmp 11) (.tmp 13) _ rfl w.heap.size 224 iC .nilFunc 1 8 underlying221 a8 a3 a4 a5 rfl Z2 (.slice (some ⟨C.heap.size+1,0,none⟩) 2 2) 2 _ rfl af _ (some ⟨w1.heap.size+1,0,none⟩) 2 2 [.func (.func 215) #[] #[.pointer (some ⟨w1.heap.size,0,none⟩)],.func (.func 217) #[] #[.pointer (some ⟨w1.heap.size,0,none⟩)]] rfl (dJ ap rfl) Zd Ze Z0 Z0 ?_;intro v8 w8 g z S;obtain ⟨ba,bb,rfl⟩:=ed g;simp only [Nat.reduceAdd] at g z S ⊢);obtain ⟨_,aq⟩:=Reads.of_own g;obtain ⟨N,a0,R,P⟩:=aq Z2;subst a0;have q:w2.grownBy w8 (some (C.heap.size+1)):=z;have a7:=V.lt;have o:=v.below r Q;have aE:=o.lt;have a9:=X.lt
 have am:=hide (show Below w.heap.size w w8 from ((HX.out.1.trans (K.mono T)).trans (r.mono Z0)).grown q Z0 (fun b hb=>by
  have:=Y9 hb
  omega))
 have U:=hide (show F5 w8 C.heap.size w1.heap.size j N [.func (.func 210) #[] #[.pointer (some ⟨C.heap.size,0,none⟩)],.func (.func 213) #[] #[.pointer (some ⟨C.heap.size,0,none⟩)],.func (.func 215) #[] #[.pointer (some ⟨w1.heap.size,0,none⟩)],.func (.func 217) #[] #[.pointer (some ⟨w1.heap.size,0,none⟩)]] w8 from ⟨Below.refl _ _,o.grown q (fun e=>by have:=Y9 e;omega),X.grown q (fun e=>by have:=Y9 e;omega),R,fun k u hu=>P k u hu⟩);generalize C.heap.size=b1 at U;generalize w1.heap.size=b2 at U;clear g z S aq R P a7 q aE a9 o v V X ap K r J O B z0 z1 an ao HX A Q T aF
 go_loopw [21] (fun i wr=>(∃k:Nat,k<=4/\i=.int .i64 k/\Hid (dQ [D,F,G,I]=dQ ([D,F,G,I].drop k)))/\Hid (F5 w8 b1 b2 j N [.func (.func 210) #[] #[.pointer (some ⟨b1,0,none⟩)],.func (.func 213) #[] #[.pointer (some ⟨b1,0,none⟩)],.func (.func 215) #[] #[.pointer (some ⟨b2,0,none⟩)],.func (.func 217) #[] #[.pointer (some ⟨b2,0,none⟩)]] wr)) (fun i _=>4 - (intOf i).toNat)
 case atStart=>exact ⟨⟨0,Yb _,rfl,hide rfl⟩,U⟩
 case round =>
  obtain ⟨⟨k,hk,rfl,H⟩,HB⟩:=hrel;have HBW:=hide (am.out.trans (HB.out.bel.mono am.out.size))
  match k,hk with
  | 0,_ =>
   have Y:=HB.out.at_ 0 _ rfl;have L:=Y;rw [nY] at L;have HK:=hide (K0.out wr _ HB.out.x1 HBW.out);have HO:=fq D;have hke:([D,F,G,I]:List il)[0]?=some D:=rfl;exact wm
  | 1,_ =>
   have Y:=HB.out.at_ 1 _ rfl;have L:wr.cell? ⟨N.block,N.off+1,none⟩=some _:=gW Y;have HK:=hide (K1.out wr _ HB.out.x1 HBW.out);have HO:=fq F;have hke:([D,F,G,I]:List il)[1]?=some F:=rfl;exact wm
  | 2,_ =>
   have Y:=HB.out.at_ 2 _ rfl;have L:wr.cell? ⟨N.block,N.off+2,none⟩=some _:=gW Y;have HK:=hide (K2.out wr _ HB.out.x2 HBW.out);have HO:=fq G;have hke:([D,F,G,I]:List il)[2]?=some G:=rfl;exact wm
  | 3,_ =>
   have Y:=HB.out.at_ 3 _ rfl;have L:wr.cell? ⟨N.block,N.off+3,none⟩=some _:=gW Y;have HK:=hide (K3.out wr _ HB.out.x2 HBW.out);have HO:=fq I;have hke:([D,F,G,I]:List il)[3]?=some I:=rfl;exact wm
  | 4,_ =>
   have E:=hide (show inC (dQ [D,F,G,I])=none from by rw [H.out];rfl);clear H;go_wp2_with fail;go_ret;exact uY E.out HBW.out rfl
theorem QB (hM:gL w) (hW:iW w) (hC:CfM w sw cm us [.slice A0 n0 c0,.slice A1 n1 c1,.slice A2 n2 c2,.slice A3 n3 c3,.slice A4 n4 c4,.slice A5 n5 c5,.slice A6 n6 c6,.slice A7 n7 c7] ls A8 c8 al A9 gr A10 ky) :
  Calls prog 81 #[.agg #[.bool false,.string (bs sw),.string (bs cm),.slice A0 n0 c0,.slice A1 n1 c1,.slice A2 n2 c2,.slice A3 n3 c3,.slice A4 n4 c4,.slice A5 n5 c5,.slice A6 n6 c6,.slice A7 n7 c7,.slice A8 al.length c8,.int .i64 own,.slice A9 gr.length c9,.int .i64 lim,.int .i64 peer,.string (bs us),.slice A10 ky.length c10,.bool ex,.bool ge,.int .u32 q0,.int .u32 q1,.int .u32 q2]] w (gm (inC (dQ [unl (bV sw cm != []) [118,101,114,115,105,111,110] 1,prR (prW ls),unl (aG peer) [112,101,101,114] 5,unl (bW us) [117,115,101,114] 3,ib ky,bQ (aS [] al 1),unl (aW q0 q1 q2) [119,105,115,104] 5])) w):=by
 obtain ⟨j,hcv⟩:∃j:Array Value,j=#[.bool false,.string (bs sw),.string (bs cm),.slice A0 n0 c0,.slice A1 n1 c1,.slice A2 n2 c2,.slice A3 n3 c3,.slice A4 n4 c4,.slice A5 n5 c5,.slice A6 n6 c6,.slice A7 n7 c7,.slice A8 al.length c8,.int .i64 own,.slice A9 gr.length c9,.int .i64 lim,.int .i64 peer,.string (bs us),.slice A10 ky.length c10,.bool ex,.bool ge,.int .u32 q0,.int .u32 q1,.int .u32 q2]:=⟨_,rfl⟩
 rw [<-hcv]
 obtain ⟨P,hW0⟩:∃P,P=w.alloc (.cells j 30):=⟨_,rfl⟩
 have a4:Below w.heap.size w P:=Zg;have Q:Blk P w.heap.size 30 j:=Zk;have K0:=hide (fun (W:World) (b:Nat) (h:Blk W b 30 j) (hb:Below w.heap.size w W)=>show Calls prog 210 #[.pointer (some ⟨b,0,none⟩)] W (gm (unl (bV sw cm != []) [118,101,114,115,105,111,110] 1) W) from by rw [hcv] at h;exact Iy h hC.hsw hC.hcm);have K1:=hide (fun (W:World) (b:Nat) (h:Blk W b 30 j) (hb:Below w.heap.size w W)=>show Calls prog 213 #[.pointer (some ⟨b,0,none⟩)] W (gm (prR (prW ls)) W) from YZ);have K2:=hide (fun (W:World) (b:Nat) (h:Blk W b 30 j) (hb:Below w.heap.size w W)=>show Calls prog 218 #[.pointer (some ⟨b,0,none⟩)] W (gm (unl (aG peer) [112,101,101,114] 5) W) from by rw [hcv] at h;exact Rz h);have K3:=hide (fun (W:World) (b:Nat) (h:Blk W b 30 j) (hb:Below w.heap.size w W)=>show Calls prog 219 #[.pointer (some ⟨b,0,none⟩)] W (gm (unl (bW us) [117,115,101,114] 3) W) from by rw [hcv] at h;exact Rp h hC.hus);have K4:=hide (fun (W:World) (b:Nat) (h:Blk W b 30 j) (hb:Below w.heap.size w W)=>show Calls prog 221 #[.pointer (some ⟨b,0,none⟩)] W (gm (ib ky) W) from by rw [hcv] at h;exact Sn h (hC.below hb));have K5:=hide (fun (W:World) (b:Nat) (h:Blk W b 30 j) (hb:Below w.heap.size w W)=>show Calls prog 223 #[.pointer (some ⟨b,0,none⟩)] W (gm (bQ (aS [] al 1)) W) from by rw [hcv] at h;exact Rt h (hC.below hb));have K6:=hide (fun (W:World) (b:Nat) (h:Blk W b 30 j) (hb:Below w.heap.size w W)=>show Calls prog 224 #[.pointer (some ⟨b,0,none⟩)] W (gm (unl (aW q0 q1 q2) [119,105,115,104] 5) W) from by rw [hcv] at h;exact Tf h)
 obtain ⟨B,ac⟩:∃x,x=unl (bV sw cm != []) [118,101,114,115,105,111,110] 1:=⟨_,rfl⟩
 rw [<-ac] at K0
 obtain ⟨C,af⟩:∃x,x=prR (prW ls):=⟨_,rfl⟩
 rw [<-af] at K1
 obtain ⟨D,am⟩:∃x,x=unl (aG peer) [112,101,101,114] 5:=⟨_,rfl⟩
 rw [<-am] at K2
 obtain ⟨F,an⟩:∃x,x=unl (bW us) [117,115,101,114] 3:=⟨_,rfl⟩
 rw [<-an] at K3
 obtain ⟨G,ao⟩:∃x,x=ib ky:=⟨_,rfl⟩
 rw [<-ao] at K4
 obtain ⟨I,ap⟩:∃x,x=bQ (aS [] al 1):=⟨_,rfl⟩
 rw [<-ap] at K5
 obtain ⟨J,aq⟩:∃x,x=unl (aW q0 q1 q2) [119,105,115,104] 5:=⟨_,rfl⟩
 rw [<-aq] at K6;rw [<-ac,<- af,<- am,<- an,<- ao,<- ap,<- aq];clear ac af am an ao ap aq;have aE:=hide (fun (W:World)=>show Calls prog 138 #[.agg j] W (fun e w'=>e=.returned (.slice (some ⟨W.heap.size+1,0,none⟩) 2 2)/\Below W.heap.size W w'/\Blk w' W.heap.size 30 j/\Blk w' (W.heap.size+1) 224 #[.func (.func 210) #[] #[.pointer (some ⟨W.heap.size,0,none⟩)],.func (.func 213) #[] #[.pointer (some ⟨W.heap.size,0,none⟩)]]) from by rw [hcv];exact BJ W);have aF:=hide (fun (W:World)=>show Calls prog 140 #[.agg j] W (fun e w'=>e=.returned (.slice (some ⟨W.heap.size+1,0,none⟩) 5 5)/\Below W.heap.size W w'/\Blk w' W.heap.size 30 j/\Blk w' (W.heap.size+1) 224 #[.func (.func 218) #[] #[.pointer (some ⟨W.heap.size,0,none⟩)],.func (.func 219) #[] #[.pointer (some ⟨W.heap.size,0,none⟩)],.func (.func 221) #[] #[.pointer (some ⟨W.heap.size,0,none⟩)],.func (.func 223) #[] #[.pointer (some ⟨W.heap.size,0,none⟩)],.func (.func 224) #[] #[.pointer (some ⟨W.heap.size,0,none⟩)]]) from by rw [hcv];exact Gz W);have HX:=hide (Y4 a4 Q);have N:=Q.lt;have z0:=Q.cell 0;rw [hcv] at z0;simp only [Jx,Q1] at z0;have HT:=hide (fun (W:World) (s:ByteArray) (b:Nat) (ps:List (List UInt8)) (k:Int) (h:aZ W (aK b) ps k)=>mO s b h);obtain ⟨iC,be,a9,ba,bb⟩:=eP Pq;clear hM hW hC a4;have a5:j.toList.length=23:=by rw [hcv];rfl
 clear hcv;go_enter func81,ntmps81;go_upto_region 1 with fail;rw [<-hW0];clear hW0;refine wp_region_lit ?_;refine df rfl (.tmp 1) rfl Z5 HX.out.2 a5 ?_
 go_upto_region 4 with (go_at_call 138;refine (aE.out _).mono ?_;rintro e w1 ⟨rfl,R,K,aa⟩;have z1:=(R.cell (p:=⟨w.heap.size,0,none⟩) N).trans z0)
 have Y:=HX.out.1.size;have O:=xh (b:=w.heap.size) (n:=2) aa Z0 rfl Ze;have S:=HX.out.2.below R N;have U:=K.lt;refine wp_region_lit ?_;refine rJ rfl (.tmp 3) rfl ?_;refine df rfl (.tmp 1) rfl Z5 S a5 ?_;go_wp2_with (go_at_call 140;refine (aF.out _).mono ?_;rintro e w2 ⟨rfl,z,ab,a0⟩;rename_i bc;have av:=mJ O z;have r:=K.below z K.lt;have a7:=z.size;dsimp only;refine bc _ _ ?_;refine aB _ rfl (.tmp 15) (.tmp 17) _ rfl w.heap.size 224 iC .nilFunc 1 8 underlying221 be a9 ba bb rfl Z2 (.slice (some ⟨P.heap.size+1,0,none⟩) 2 2) 2 _ rfl av _ (some ⟨w1.heap.size+1,0,none⟩) 5 5 [.func (.func 218) #[] #[.pointer (some ⟨w1.heap.size,0,none⟩)],.func (.func 219) #[] #[.pointer (some ⟨w1.heap.size,0,none⟩)],.func (.func 221) #[] #[.pointer (some ⟨w1.heap.size,0,none⟩)],.func (.func 223) #[] #[.pointer (some ⟨w1.heap.size,0,none⟩)],.func (.func 224) #[] #[.pointer (some ⟨w1.heap.size,0,none⟩)]] rfl (dJ a0 rfl) Zd Ze Z0 Z0 ?_;intro v8 w8 g L X;obtain ⟨bh,bj,rfl⟩:=ed g;simp only [Nat.reduceAdd] at g L X ⊢);obtain ⟨_,a3⟩:=Reads.of_own g;obtain ⟨q,a8,V,T⟩:=a3 Z2;subst a8;have v:w2.grownBy w8 (some (P.heap.size+1)):=L;have bd:=aa.lt;have r:=K.below z U;have a6:=r.lt;have bg:=ab.lt
 have aw:=hide (show Below w.heap.size w w8 from ((HX.out.1.trans (R.mono Y)).trans (z.mono Z0)).grown v Z0 (fun b hb=>by
  have:=Y9 hb
  omega))
 have Z:=hide (show F5 w8 P.heap.size w1.heap.size j q [.func (.func 210) #[] #[.pointer (some ⟨P.heap.size,0,none⟩)],.func (.func 213) #[] #[.pointer (some ⟨P.heap.size,0,none⟩)],.func (.func 218) #[] #[.pointer (some ⟨w1.heap.size,0,none⟩)],.func (.func 219) #[] #[.pointer (some ⟨w1.heap.size,0,none⟩)],.func (.func 221) #[] #[.pointer (some ⟨w1.heap.size,0,none⟩)],.func (.func 223) #[] #[.pointer (some ⟨w1.heap.size,0,none⟩)],.func (.func 224) #[] #[.pointer (some ⟨w1.heap.size,0,none⟩)]] w8 from ⟨Below.refl _ _,r.grown v (fun e=>by have:=Y9 e;omega),ab.grown v (fun e=>by have:=Y9 e;omega),V,fun k u hu=>T k u hu⟩);generalize P.heap.size=b1 at Z;generalize w1.heap.size=b2 at Z;clear g L X a3 V T bd v a6 bg r K aa ab a0 R z Q S O z0 z1 aE aF HX N U Y a7
 go_loopw [21] (fun i wr=>(∃k:Nat,k<=7/\i=.int .i64 k/\Hid (dQ [B,C,D,F,G,I,J]=dQ ([B,C,D,F,G,I,J].drop k)))/\Hid (F5 w8 b1 b2 j q [.func (.func 210) #[] #[.pointer (some ⟨b1,0,none⟩)],.func (.func 213) #[] #[.pointer (some ⟨b1,0,none⟩)],.func (.func 218) #[] #[.pointer (some ⟨b2,0,none⟩)],.func (.func 219) #[] #[.pointer (some ⟨b2,0,none⟩)],.func (.func 221) #[] #[.pointer (some ⟨b2,0,none⟩)],.func (.func 223) #[] #[.pointer (some ⟨b2,0,none⟩)],.func (.func 224) #[] #[.pointer (some ⟨b2,0,none⟩)]] wr)) (fun i _=>7 - (intOf i).toNat)
 case atStart=>exact ⟨⟨0,Yb _,rfl,hide rfl⟩,Z⟩
 case round =>
  obtain ⟨⟨k,hk,rfl,H⟩,HB⟩:=hrel;have HBW:=hide (aw.out.trans (HB.out.bel.mono aw.out.size))
  match k,hk with
  | 0,_ =>
   have A:=HB.out.at_ 0 _ rfl;have o:=A;rw [nY] at o;have HK:=hide (K0.out wr _ HB.out.x1 HBW.out);have HO:=fq B;have hke:([B,C,D,F,G,I,J]:List il)[0]?=some B:=rfl;exact wm
  | 1,_ =>
   have A:=HB.out.at_ 1 _ rfl;have o:wr.cell? ⟨q.block,q.off+1,none⟩=some _:=gW A;have HK:=hide (K1.out wr _ HB.out.x1 HBW.out);have HO:=fq C;have hke:([B,C,D,F,G,I,J]:List il)[1]?=some C:=rfl;exact wm
  | 2,_ =>
   have A:=HB.out.at_ 2 _ rfl;have o:wr.cell? ⟨q.block,q.off+2,none⟩=some _:=gW A;have HK:=hide (K2.out wr _ HB.out.x2 HBW.out);have HO:=fq D;have hke:([B,C,D,F,G,I,J]:List il)[2]?=some D:=rfl;exact wm
  | 3,_ =>
   have A:=HB.out.at_ 3 _ rfl;have o:wr.cell? ⟨q.block,q.off+3,none⟩=some _:=gW A;have HK:=hide (K3.out wr _ HB.out.x2 HBW.out);have HO:=fq F;have hke:([B,C,D,F,G,I,J]:List il)[3]?=some F:=rfl;exact wm
  | 4,_ =>
   have A:=HB.out.at_ 4 _ rfl;have o:wr.cell? ⟨q.block,q.off+4,none⟩=some _:=gW A;have HK:=hide (K4.out wr _ HB.out.x2 HBW.out);have HO:=fq G;have hke:([B,C,D,F,G,I,J]:List il)[4]?=some G:=rfl;exact wm
  | 5,_ =>
   have A:=HB.out.at_ 5 _ rfl;have o:wr.cell? ⟨q.block,q.off+5,none⟩=some _:=gW A;have HK:=hide (K5.out wr _ HB.out.x2 HBW.out);have HO:=fq I;have hke:([B,C,D,F,G,I,J]:List il)[5]?=some I:=rfl;exact wm
  | 6,_ =>
   have A:=HB.out.at_ 6 _ rfl;have o:wr.cell? ⟨q.block,q.off+6,none⟩=some _:=gW A;have HK:=hide (K6.out wr _ HB.out.x2 HBW.out);have HO:=fq J;have hke:([B,C,D,F,G,I,J]:List il)[6]?=some J:=rfl;exact wm
  | 7,_ =>
   have E:=hide (show inC (dQ [B,C,D,F,G,I,J])=none from by rw [H.out];rfl);clear H;go_wp2_with fail;go_ret;exact uY E.out HBW.out rfl
end
def qx (o:il):Int:=match o with | none=>0 | some (_,k)=>k
def uB (o:il):List UInt8:=match o with | none=>[] | some (ps,_)=>atL ps
theorem zo (s:List UInt8) (k:Int):unl true s k=none:=rfl
theorem U9 (h:dG al=0):aS [] al 1=none:=AL rfl h Z2
theorem PU (h:dG al≠0):aS [] al 1=some ([97,108,103,115],dG al):=Ah 1 rfl h
section
variable {w : World}
theorem vD :∀{i j:Nat} {k:Int},prF i ls=some (j,k)->k≠0/\j<i+ls.length:=by
 induction ls with
 | nil=>intro i j k h;cases h
 | cons l r ih =>
  intro i j k h;unfold prF at h
  split at h
  ·rename_i g
   cases h
   exact ⟨g,Z3⟩
  ·have:=ih h
   refine ⟨this.1,XG⟩
theorem wX {gs:List (List UInt8 × Int)} {s:List UInt8} {k:Int} (h:aS gs al lim=some (s,k)):k≠0/\s.length<=6:=by
 unfold aS at h
 split at h
 ·rename_i g;cases h;exact ⟨g,Z2⟩
 ·split at h
  ·rename_i g;cases h;exact ⟨g,Z2⟩
  ·split at h
   ·cases h;exact ⟨Z2,Z2⟩
   ·cases h
theorem rW (i:Nat):(iq i).length<=6:=by
 match i with
 | 0=>decide
 | 1=>decide
 | 2=>decide
 | 3=>decide
 | 4=>decide
 | 5=>decide
 | 6=>decide
 | 7=>decide
 | i+8=>exact Yb _
theorem GZ (h:v=[]):(bs v).toList.isEmpty=true:=by subst h;rw [ay];rfl
theorem Na (h:v≠[]):(bs v).toList.isEmpty=false:=by
 rw [ay]
 cases v with
 | nil=>exact absurd rfl h
 | cons a r=>rfl
theorem Mi (h:v≠[]):(v != [])=true:=by
 cases v with
 | nil=>exact absurd rfl h
 | cons a r=>rfl
theorem zzd46 (h_:p_:=by
 go_enter func154,ntmps154;go_upto_region 1 with fail;rw [<-hW0];clear hW0;go_wp2_with (first | (go_at_call 152;refine (HPP.out _).mono ?_;rintro e w1 ⟨rfl,rfl⟩) | (go_at_call 229;refine (HUU.out _).mono ?_;rintro e w2 ⟨rfl,rfl⟩));go_ret2
 exact ⟨by rw [E.out];rfl,HX.out.1⟩):p_:=h_
theorem zz017 (h_:p_:=by
 clear hg HGW hd0 hky0;go_wp2_with (first | (go_at_call 230;refine HAA.out.mono ?_;rintro e w4 ⟨rfl,hb4⟩;have hX4:=HX.out.2.below hb4 hlt0;have y20:=hX4.cell 20;have y21:=hX4.cell 21;have y22:=hX4.cell 22;simp only [Jx,Q1,Q2] at y20 y21 y22) | (go_at_call 231;refine (HGG.out _).mono ?_;rintro e w5 ⟨rfl,rfl⟩));go_ret2
 exact ⟨by rw [E.out];rfl,HX.out.1.trans (hb4.mono HX.out.1.size)⟩):p_:=h_
theorem Dl (q:CfM w sw cm us [.slice A0 n0 c0,.slice A1 n1 c1,.slice A2 n2 c2,.slice A3 n3 c3,.slice A4 n4 c4,.slice A5 n5 c5,.slice A6 n6 c6,.slice A7 n7 c7] ls A8 c8 al A9 gr A10 ky) (U:IntKind.i64.wrap q0=q0) (V:IntKind.i64.wrap q1=q1) (X:IntKind.i64.wrap q2=q2) :
  Calls prog 154 #[.agg #[.bool sv,.string (bs sw),.string (bs cm),.slice A0 n0 c0,.slice A1 n1 c1,.slice A2 n2 c2,.slice A3 n3 c3,.slice A4 n4 c4,.slice A5 n5 c5,.slice A6 n6 c6,.slice A7 n7 c7,.slice A8 al.length c8,.int .i64 own,.slice A9 gr.length c9,.int .i64 lim,.int .i64 peer,.string (bs us),.slice A10 ky.length c10,.bool ex,.bool ge,.int .u32 q0,.int .u32 q1,.int .u32 q2]] w (fun e w'=>e=.returned (.tuple #[.int .i64 (qx (inC (dQ [unl (aG peer) [112,101,101,114] 5,unl (bW us) [117,115,101,114] 3,ib ky,bQ (aS [] al 1),unl (aW q0 q1 q2) [119,105,115,104] 5]))),.string (bs (uB (inC (dQ [unl (aG peer) [112,101,101,114] 5,unl (bW us) [117,115,101,114] 3,ib ky,bQ (aS [] al 1),unl (aW q0 q1 q2) [119,105,115,104] 5]))))])/\Below w.heap.size w w'):=by
 obtain ⟨C,hW0⟩:∃C,C=w.alloc (.cells #[.bool sv,.string (bs sw),.string (bs cm),.slice A0 n0 c0,.slice A1 n1 c1,.slice A2 n2 c2,.slice A3 n3 c3,.slice A4 n4 c4,.slice A5 n5 c5,.slice A6 n6 c6,.slice A7 n7 c7,.slice A8 al.length c8,.int .i64 own,.slice A9 gr.length c9,.int .i64 lim,.int .i64 peer,.string (bs us),.slice A10 ky.length c10,.bool ex,.bool ge,.int .u32 q0,.int .u32 q1,.int .u32 q2] 30):=⟨_,rfl⟩
 have p:Below w.heap.size w C:=Zg;have g:Blk C w.heap.size 30 #[.bool sv,.string (bs sw),.string (bs cm),.slice A0 n0 c0,.slice A1 n1 c1,.slice A2 n2 c2,.slice A3 n3 c3,.slice A4 n4 c4,.slice A5 n5 c5,.slice A6 n6 c6,.slice A7 n7 c7,.slice A8 al.length c8,.int .i64 own,.slice A9 gr.length c9,.int .i64 lim,.int .i64 peer,.string (bs us),.slice A10 ky.length c10,.bool ex,.bool ge,.int .u32 q0,.int .u32 q1,.int .u32 q2]:=Zk;have HPP:=hide (fun (W:World)=>qm peer W);have HUU:=hide (fun (W:World)=>show Calls prog 229 #[.string (bs us)] W (fun e w'=>e=.returned (.bool (bW us))/\w'=W) from by have:=zh (bs us) (Yg q.hus Z2) W;rwa [aO] at this);have HAA:=hide (yB (q.hal.below p) q.alc q.all q.aly);have HGG:=hide (fun (W:World)=>Fe q0 q1 q2 W);have v:=hide (fun (n:Int) (W:World)=>qm n W);have j:=hide (q.hky.below p);have T:=q.kyl;have J:=g.cell 11;have K:=g.cell 15;have L:=g.cell 16;have N:=g.cell 17;have O:=g.cell 20;have P:=g.cell 21;have Q:=g.cell 22;simp only [Jx,Q1,Q2] at J K L N O P Q;have HX:=hide (Y4 p g);have hlt0:=g.lt;clear p g q
 cases hp:aG peer with
 | false =>
  rw [hp] at HPP;have E:=hide (show inC (dQ [unl false [112,101,101,114] 5,unl (bW us) [117,115,101,114] 3,ib ky,bQ (aS [] al 1),unl (aW q0 q1 q2) [119,105,115,104] 5])=some ([[99,111,110,102],[112,101,101,114]],5) from rfl);clear hp;go_enter func154,ntmps154;go_upto_region 1 with fail;rw [<-hW0];clear hW0;go_wp2_with (go_at_call 152;refine (HPP.out _).mono ?_;rintro e w1 ⟨rfl,rfl⟩);go_ret2;exact ⟨Zi,HX.out.1⟩
 | true =>
  rw [hp] at HPP;rw [zo];clear hp
  cases D:bW us with
  | false =>
   rw [D] at HUU;have E:=hide (show inC (dQ [none,unl false [117,115,101,114] 3,ib ky,bQ (aS [] al 1),unl (aW q0 q1 q2) [119,105,115,104] 5])=some ([[99,111,110,102],[117,115,101,114]],3) from rfl);clear D;exact zzd46
  | true =>
   rw [D] at HUU;rw [zo];clear D
   by_cases h8:8<ky.length
   ·have F:(8:Int)<ky.length:=by omega
    have E:=hide (show inC (dQ [none,none,ib ky,bQ (aS [] al 1),unl (aW q0 q1 q2) [119,105,115,104] 5])=some ([[99,111,110,102],[107,101,121,115]],2) from by rw [Pv (show sj ky=2 from by unfold sj;rw [Y6 h8])];rfl);clear h8;exact zzd46
   ·have F:¬ (8:Int)<ky.length:=by omega
    have o:=hide (fun n (I:n∈ky)=>GV h8 I);have h:=hide (Bv h8);clear h8;go_enter func154,ntmps154;go_upto_region 1 with fail;rw [<-hW0];clear hW0;go_wp2_with (first | (go_at_call 152;refine (HPP.out _).mono ?_;rintro e w1 ⟨rfl,rfl⟩) | (go_at_call 229;refine (HUU.out _).mono ?_;rintro e w2 ⟨rfl,rfl⟩))
    go_loop [4] (fun i=>∃k:Nat,k<=ky.length/\i=.int .i64 k/\Hid (∀n∈ky.take k,aG n=true)) (fun i=>ky.length - (intOf i).toNat)
    case atStart=>exact ⟨0,Yb _,rfl,hide Z3⟩
    case round =>
     obtain ⟨k,Z,rfl,H⟩:=hrel
     by_cases hlt:k<ky.length
     ·have B:(k:Int)<ky.length:=by omega
      obtain ⟨Y,rfl,R,S⟩:=j.out k hlt
      cases hp:aG ky[k] with
      | false =>
       have r:=hide (show ∀W,Calls prog 152 #[.int .i64 ky[k]] W (fun e w'=>e=.returned (.bool false)/\w'=W) from fun W=>by have:=v.out ky[k] W;rwa [hp] at this);have E:=hide (show inC (dQ [none,none,ib ky,bQ (aS [] al 1),unl (aW q0 q1 q2) [119,105,115,104] 5])=some ([[99,111,110,102],[107,101,121,115]],5) from by rw [PS (o.out _ (Yf hlt) hp)];rfl);clear hp H j o h;go_wp2_with (go_at_call 152;refine (r.out _).mono ?_;rintro e w3 ⟨rfl,rfl⟩);go_ret2;exact ⟨Zi,HX.out.1⟩
      | true =>
       have r:=hide (show ∀W,Calls prog 152 #[.int .i64 ky[k]] W (fun e w'=>e=.returned (.bool true)/\w'=W) from fun W=>by have:=v.out ky[k] W;rwa [hp] at this)
       have H2:=hide (show ∀n∈ky.take (k+1),aG n=true from by
        exact zz0c9)
       clear hp H j o h;go_wp2_with (go_at_call 152;refine (r.out _).mono ?_;rintro e w3 ⟨rfl,rfl⟩);exact zz4fa
     ·have B:¬ (k:Int)<ky.length:=by omega
      have hky0:=NC (h.out (fun n I=>H.out n (by rw [Yp Z0];exact I)));clear H j o h
      by_cases u:dG al=0
      ·rw [u] at HAA
       have hd0:=U9 u;clear u;have HGW:=HGG
       cases hg:aW q0 q1 q2 with
       | false =>
        rw [hg] at HGG;have E:=hide (show inC (dQ [none,none,ib ky,bQ (aS [] al 1),unl (aW q0 q1 q2) [119,105,115,104] 5])=some ([[99,111,110,102],[119,105,115,104]],5) from by rw [hky0,hd0,hg];rfl);exact zz017
       | true =>
        rw [hg] at HGG;have E:=hide (show inC (dQ [none,none,ib ky,bQ (aS [] al 1),unl (aW q0 q1 q2) [119,105,115,104] 5])=none from by rw [hky0,hd0,hg];rfl);exact zz017
      ·have A:(dG al == 0)=false:=by rw [Y3];exact u
       have G:(dG al != 0)=true:=by simp [bne,A]
       have E:=hide (show inC (dQ [none,none,ib ky,bQ (aS [] al 1),unl (aW q0 q1 q2) [119,105,115,104] 5])=some ([[99,111,110,102],[100,101,110,121],[97,108,103,115]],dG al) from by rw [hky0,PU u];rfl);clear u hky0;generalize dG al=z at HAA E A G;go_wp2_with (go_at_call 230;refine HAA.out.mono ?_;rintro e w4 ⟨rfl,hb4⟩;have hX4:=HX.out.2.below hb4 hlt0;have y20:=hX4.cell 20;have y21:=hX4.cell 21;have y22:=hX4.cell 22;simp only [Jx,Q1,Q2] at y20 y21 y22);go_ret2;exact ⟨Zi,HX.out.1.trans (hb4.mono HX.out.1.size)⟩
theorem zz1e6 (h_:p_:=by
 clear hv;generalize bV sw cm=vv at HV E hv1 ⊢;go_enter func88,ntmps88;go_upto_region 1 with fail;rw [<-hW0];clear hW0;refine wp_region_lit ?_;refine aR rfl (.tmp 1) rfl (by rfl) HX.out.2 rfl ?_;go_wp2_with (go_at_call 149;refine (HV.out _).mono ?_;rintro e w1 ⟨rfl,hb1⟩;have hX1:=HX.out.2.below hb1 hlt0;have hl1:=hX1.lt;have z3:=hX1.cell 3;have z4:=hX1.cell 4;have z5:=hX1.cell 5;have z6:=hX1.cell 6;have z7:=hX1.cell 7;have z8:=hX1.cell 8;have z9:=hX1.cell 9;have z10:=hX1.cell 10;simp only [Jx,Q1,Q2] at z3 z4 z5 z6 z7 z8 z9 z10);go_ret2
 exact ⟨by rw [E.out];rfl,HX.out.1.trans (hb1.mono HX.out.1.size)⟩):p_:=h_
theorem zz388 (h_:p_:=by
 have HS:=hide (show bs (atL [[99,111,110,102],[112,114,101,102,115],iq i])=(⟨#[99,111,110,102,32,112,114,101,102,115,32]⟩:ByteArray)++bs (iq i)++⟨#[32]⟩ from by
  refine (kG ?_).symm;rw [data_append,data_append,aO]
  simp [atL])
 have hk1:(k == 0)=false:=by rw [Y3];exact hik.1
 have hk2:(k != 0)=true:=by simp [bne,hk1]
 clear hv hp HP hik hw6 HC2;generalize bV sw cm=vv at HV E hv1 hv2 ⊢;generalize bs (iq i)=wd at HWd HS hws hqa hqb;go_enter func88,ntmps88;go_upto_region 1 with fail;rw [<-hW0];clear hW0;refine wp_region_lit ?_;refine aR rfl (.tmp 1) rfl (by rfl) HX.out.2 rfl ?_;go_wp2_with (first | (go_at_call 149;refine (HV.out _).mono ?_;rintro e w1 ⟨rfl,hb1⟩;have hX1:=HX.out.2.below hb1 hlt0;have hl1:=hX1.lt;have z3:=hX1.cell 3;have z4:=hX1.cell 4;have z5:=hX1.cell 5;have z6:=hX1.cell 6;have z7:=hX1.cell 7;have z8:=hX1.cell 8;have z9:=hX1.cell 9;have z10:=hX1.cell 10;simp only [Jx,Q1,Q2] at z3 z4 z5 z6 z7 z8 z9 z10) | (go_at_call 150;refine (HPK.out _ (HX.out.1.trans (hb1.mono HX.out.1.size))).mono ?_;rintro e w2 ⟨rfl,hb2⟩;have hX2:=hX1.below hb2 hl1;have hl2:=hX2.lt;have y0:=hX2.cell 0;have y11:=hX2.cell 11;have y12:=hX2.cell 12;have y13:=hX2.cell 13;have y14:=hX2.cell 14;simp only [Jx,Q1,Q2] at y0 y11 y12 y13 y14) | (go_at_call 151;refine (HWd.out _).mono ?_;rintro e w3 ⟨rfl,hb3⟩));go_ret2
 exact ⟨by rw [E.out];show _=Ending.returned (.tuple #[.int .i64 k,.string (bs (atL [[99,111,110,102],[112,114,101,102,115],iq i]))]);rw [HS.out];rfl,HX.out.1.trans ((hb1.trans ((hb2.trans (hb3.mono hb2.size)).mono hb1.size)).mono HX.out.1.size)⟩):p_:=h_
theorem Mh (g:CfM w sw cm us [.slice A0 n0 c0,.slice A1 n1 c1,.slice A2 n2 c2,.slice A3 n3 c3,.slice A4 n4 c4,.slice A5 n5 c5,.slice A6 n6 c6,.slice A7 n7 c7] ls A8 c8 al A9 gr A10 ky) (A:IntKind.i64.wrap q0=q0) (B:IntKind.i64.wrap q1=q1) (C:IntKind.i64.wrap q2=q2) :
  Calls prog 88 #[.agg #[.bool true,.string (bs sw),.string (bs cm),.slice A0 n0 c0,.slice A1 n1 c1,.slice A2 n2 c2,.slice A3 n3 c3,.slice A4 n4 c4,.slice A5 n5 c5,.slice A6 n6 c6,.slice A7 n7 c7,.slice A8 al.length c8,.int .i64 own,.slice A9 gr.length c9,.int .i64 lim,.int .i64 peer,.string (bs us),.slice A10 ky.length c10,.bool ex,.bool ge,.int .u32 q0,.int .u32 q1,.int .u32 q2]] w (fun e w'=>e=.returned (.tuple #[.int .i64 (qx (inC (dQ [unl (bV sw cm != []) [118,101,114,115,105,111,110] 1,prR (prW ls),unl (aG own) [111,119,110] 5,bQ (aS gr al lim)]))),.string (bs (uB (inC (dQ [unl (bV sw cm != []) [118,101,114,115,105,111,110] 1,prR (prW ls),unl (aG own) [111,119,110] 5,bQ (aS gr al lim)]))))])/\Below w.heap.size w w'):=by
 obtain ⟨z,hW0⟩:∃z,z=w.alloc (.cells #[.bool true,.string (bs sw),.string (bs cm),.slice A0 n0 c0,.slice A1 n1 c1,.slice A2 n2 c2,.slice A3 n3 c3,.slice A4 n4 c4,.slice A5 n5 c5,.slice A6 n6 c6,.slice A7 n7 c7,.slice A8 al.length c8,.int .i64 own,.slice A9 gr.length c9,.int .i64 lim,.int .i64 peer,.string (bs us),.slice A10 ky.length c10,.bool ex,.bool ge,.int .u32 q0,.int .u32 q1,.int .u32 q2] 30):=⟨_,rfl⟩
 have v:Below w.heap.size w z:=Zg;have q:Blk z w.heap.size 30 #[.bool true,.string (bs sw),.string (bs cm),.slice A0 n0 c0,.slice A1 n1 c1,.slice A2 n2 c2,.slice A3 n3 c3,.slice A4 n4 c4,.slice A5 n5 c5,.slice A6 n6 c6,.slice A7 n7 c7,.slice A8 al.length c8,.int .i64 own,.slice A9 gr.length c9,.int .i64 lim,.int .i64 peer,.string (bs us),.slice A10 ky.length c10,.bool ex,.bool ge,.int .u32 q0,.int .u32 q1,.int .u32 q2]:=Zk;have HV:=hide (fun (W:World)=>show Calls prog 149 #[.agg #[.bool true,.string (bs sw),.string (bs cm),.slice A0 n0 c0,.slice A1 n1 c1,.slice A2 n2 c2,.slice A3 n3 c3,.slice A4 n4 c4,.slice A5 n5 c5,.slice A6 n6 c6,.slice A7 n7 c7,.slice A8 al.length c8,.int .i64 own,.slice A9 gr.length c9,.int .i64 lim,.int .i64 peer,.string (bs us),.slice A10 ky.length c10,.bool ex,.bool ge,.int .u32 q0,.int .u32 q1,.int .u32 q2]] W (fun e w'=>e=.returned (.string (bs (bV sw cm)))/\Below W.heap.size W w') from qQ (w:=W) g.hsw g.hcm);have HP:=hide (fun (W:World) (hb:Below w.heap.size w W)=>uh (g.hl8.below hb));have HC2:=hide (fun (W:World) (hb:Below w.heap.size w W)=>JW (c:=c9) (lim:=lim) (g.hgr.below hb) g.grl g.gry (g.hal.below hb) g.alc g.all g.aly);have HX:=hide (Y4 v q);have hlt0:=q.lt;have h8:=g.hl8.2.1;clear v q g A B C
 by_cases hv:bV sw cm=[]
 ·have hv1:=GZ hv
  have E:=hide (show inC (dQ [unl (bV sw cm != []) [118,101,114,115,105,111,110] 1,prR (prW ls),unl (aG own) [111,119,110] 5,bQ (aS gr al lim)])=some ([[99,111,110,102],[118,101,114,115,105,111,110]],1) from by rw [hv];rfl);exact zz1e6
 ·have hv1:=Na hv
  have hv2:=Mi hv;rcases fq (prW ls) with hp | ⟨⟨i,k⟩,hp⟩
  rotate_left 1
  ·have hik:=vD hp
   have HPK:=hide (fun (W:World) (hb:Below w.heap.size w W)=>show Calls prog 150 #[.agg #[.slice A0 n0 c0,.slice A1 n1 c1,.slice A2 n2 c2,.slice A3 n3 c3,.slice A4 n4 c4,.slice A5 n5 c5,.slice A6 n6 c6,.slice A7 n7 c7]] W (fun e w'=>e=.returned (.tuple #[.int .i64 k,.int .i64 i])/\Below W.heap.size W w') from by have:=HP.out W hb;rwa [hp] at this);have HWd:=hide (fun (W:World)=>zl i Z0 W);have hw6:=rW i;have hws:(bs (iq i)).size<=6:=hw6;have hqa:11+(bs (iq i)).size<=9223372036854775807:=Z0;have hqb:11+(bs (iq i)).size+1<=9223372036854775807:=Z0;have E:=hide (show inC (dQ [unl (bV sw cm != []) [118,101,114,115,105,111,110] 1,prR (prW ls),unl (aG own) [111,119,110] 5,bQ (aS gr al lim)])=some ([[99,111,110,102],[112,114,101,102,115],iq i],k) from by rw [hv2,zo,hp];rfl);exact zz388
  ·have HPK:=hide (fun (W:World) (hb:Below w.heap.size w W)=>show Calls prog 150 #[.agg #[.slice A0 n0 c0,.slice A1 n1 c1,.slice A2 n2 c2,.slice A3 n3 c3,.slice A4 n4 c4,.slice A5 n5 c5,.slice A6 n6 c6,.slice A7 n7 c7]] W (fun e w'=>e=.returned (.tuple #[.int .i64 0,.int .i64 (-1)])/\Below W.heap.size W w') from by have:=HP.out W hb;rwa [hp] at this)
   have p:=hide (show inC (dQ [unl (bV sw cm != []) [118,101,114,115,105,111,110] 1,prR (prW ls),unl (aG own) [111,119,110] 5,bQ (aS gr al lim)])=inC (dQ [unl (aG own) [111,119,110] 5,bQ (aS gr al lim)]) from by rw [hv2,zo,hp];rfl);clear hv hp HP;generalize bV sw cm=vv at HV p hv1 hv2 ⊢;have h:=hide (fun (W:World)=>qm own W)
   by_cases j:aG own=false
   ·rw [j] at h
    have E:=hide (show inC (dQ [unl (vv != []) [118,101,114,115,105,111,110] 1,prR (prW ls),unl (aG own) [111,119,110] 5,bQ (aS gr al lim)])=some ([[99,111,110,102],[111,119,110]],5) from by rw [p.out,j];rfl);clear j p HC2;go_enter func88,ntmps88;go_upto_region 1 with fail;rw [<-hW0];clear hW0;refine wp_region_lit ?_;refine aR rfl (.tmp 1) rfl Z5 HX.out.2 rfl ?_;go_wp2_with (first | (go_at_call 149;refine (HV.out _).mono ?_;rintro e w1 ⟨rfl,hb1⟩;have hX1:=HX.out.2.below hb1 hlt0;have hl1:=hX1.lt;have z3:=hX1.cell 3;have z4:=hX1.cell 4;have z5:=hX1.cell 5;have z6:=hX1.cell 6;have z7:=hX1.cell 7;have z8:=hX1.cell 8;have z9:=hX1.cell 9;have z10:=hX1.cell 10;simp only [Jx,Q1,Q2] at z3 z4 z5 z6 z7 z8 z9 z10) | (go_at_call 150;refine (HPK.out _ (HX.out.1.trans (hb1.mono HX.out.1.size))).mono ?_;rintro e w2 ⟨rfl,hb2⟩;have hX2:=hX1.below hb2 hl1;have hl2:=hX2.lt;have y0:=hX2.cell 0;have y11:=hX2.cell 11;have y12:=hX2.cell 12;have y13:=hX2.cell 13;have y14:=hX2.cell 14;simp only [Jx,Q1,Q2] at y0 y11 y12 y13 y14) | (go_at_call 152;refine (h.out _).mono ?_;rintro e w3 ⟨rfl,rfl⟩));go_ret2;exact ⟨Zi,HX.out.1.trans ((hb1.trans (hb2.mono hb1.size)).mono HX.out.1.size)⟩
   ·have j:aG own=true:=by simpa using j
    rw [j] at h;rcases fq (aS gr al lim) with hd | ⟨⟨s,k⟩,hd⟩
    ·have o:=hide (fun (W:World) (hb:Below w.heap.size w W)=>show Calls prog 153 #[.slice A9 gr.length c9,.slice A8 al.length c8,.int .i64 lim] W (fun e w'=>e=.returned (.tuple #[.int .i64 0,.string ⟨#[]⟩])/\Below W.heap.size W w') from by have:=HC2.out W hb;rwa [hd] at this)
     have E:=hide (show inC (dQ [unl (vv != []) [118,101,114,115,105,111,110] 1,prR (prW ls),unl (aG own) [111,119,110] 5,bQ (aS gr al lim)])=none from by rw [p.out,j,hd];rfl);clear j p HC2 hd;go_enter func88,ntmps88;go_upto_region 1 with fail;rw [<-hW0];clear hW0;refine wp_region_lit ?_;refine aR rfl (.tmp 1) rfl Z5 HX.out.2 rfl ?_;go_wp2_with (first | (go_at_call 149;refine (HV.out _).mono ?_;rintro e w1 ⟨rfl,hb1⟩;have hX1:=HX.out.2.below hb1 hlt0;have hl1:=hX1.lt;have z3:=hX1.cell 3;have z4:=hX1.cell 4;have z5:=hX1.cell 5;have z6:=hX1.cell 6;have z7:=hX1.cell 7;have z8:=hX1.cell 8;have z9:=hX1.cell 9;have z10:=hX1.cell 10;simp only [Jx,Q1,Q2] at z3 z4 z5 z6 z7 z8 z9 z10) | (go_at_call 150;refine (HPK.out _ (HX.out.1.trans (hb1.mono HX.out.1.size))).mono ?_;rintro e w2 ⟨rfl,hb2⟩;have hX2:=hX1.below hb2 hl1;have hl2:=hX2.lt;have y0:=hX2.cell 0;have y11:=hX2.cell 11;have y12:=hX2.cell 12;have y13:=hX2.cell 13;have y14:=hX2.cell 14;simp only [Jx,Q1,Q2] at y0 y11 y12 y13 y14) | (go_at_call 152;refine (h.out _).mono ?_;rintro e w3 ⟨rfl,rfl⟩) | (go_at_call 153;refine (o.out _ (HX.out.1.trans ((hb1.trans (hb2.mono hb1.size)).mono HX.out.1.size))).mono ?_;rintro e F ⟨rfl,r⟩));go_ret2;exact ⟨Zi,HX.out.1.trans ((hb1.trans ((hb2.trans (r.mono hb2.size)).mono hb1.size)).mono HX.out.1.size)⟩
    ·have u:=wX hd
     have D:(bs s).size<=6:=u.2;have hqa:10+(bs s).size<=9223372036854775807:=Z0;have hqb:10+(bs s).size+1<=9223372036854775807:=Z0;have hk1:(k == 0)=false:=by rw [Y3];exact u.1
     have hk2:(k != 0)=true:=by simp [bne,hk1]
     have o:=hide (fun (W:World) (hb:Below w.heap.size w W)=>show Calls prog 153 #[.slice A9 gr.length c9,.slice A8 al.length c8,.int .i64 lim] W (fun e w'=>e=.returned (.tuple #[.int .i64 k,.string (bs s)])/\Below W.heap.size W w') from by have:=HC2.out W hb;rwa [hd] at this);have E:=hide (show inC (dQ [unl (vv != []) [118,101,114,115,105,111,110] 1,prR (prW ls),unl (aG own) [111,119,110] 5,bQ (aS gr al lim)])=some ([[99,111,110,102],[100,101,110,121],s],k) from by rw [p.out,j,hd];rfl)
     have HS:=hide (show bs (atL [[99,111,110,102],[100,101,110,121],s])=(⟨#[99,111,110,102,32,100,101,110,121,32]⟩:ByteArray)++bs s++⟨#[32]⟩ from by
      refine (kG ?_).symm;rw [data_append,data_append,aO]
      simp [atL])
     clear j p HC2 hd u;generalize bs s=G at o HS D hqa hqb;go_enter func88,ntmps88;go_upto_region 1 with fail;rw [<-hW0];clear hW0;refine wp_region_lit ?_;refine aR rfl (.tmp 1) rfl Z5 HX.out.2 rfl ?_;go_wp2_with (first | (go_at_call 149;refine (HV.out _).mono ?_;rintro e w1 ⟨rfl,hb1⟩;have hX1:=HX.out.2.below hb1 hlt0;have hl1:=hX1.lt;have z3:=hX1.cell 3;have z4:=hX1.cell 4;have z5:=hX1.cell 5;have z6:=hX1.cell 6;have z7:=hX1.cell 7;have z8:=hX1.cell 8;have z9:=hX1.cell 9;have z10:=hX1.cell 10;simp only [Jx,Q1,Q2] at z3 z4 z5 z6 z7 z8 z9 z10) | (go_at_call 150;refine (HPK.out _ (HX.out.1.trans (hb1.mono HX.out.1.size))).mono ?_;rintro e w2 ⟨rfl,hb2⟩;have hX2:=hX1.below hb2 hl1;have hl2:=hX2.lt;have y0:=hX2.cell 0;have y11:=hX2.cell 11;have y12:=hX2.cell 12;have y13:=hX2.cell 13;have y14:=hX2.cell 14;simp only [Jx,Q1,Q2] at y0 y11 y12 y13 y14) | (go_at_call 152;refine (h.out _).mono ?_;rintro e w3 ⟨rfl,rfl⟩) | (go_at_call 153;refine (o.out _ (HX.out.1.trans ((hb1.trans (hb2.mono hb1.size)).mono HX.out.1.size))).mono ?_;rintro e F ⟨rfl,r⟩));go_ret2;exact ⟨by rw [E.out];show _=Ending.returned (.tuple #[.int .i64 k,.string (bs (atL [[99,111,110,102],[100,101,110,121],s]))]);rw [HS.out];rfl,HX.out.1.trans ((hb1.trans ((hb2.trans (r.mono hb2.size)).mono hb1.size)).mono HX.out.1.size)⟩
theorem NM (p:CfM w sw cm us [.slice A0 n0 c0,.slice A1 n1 c1,.slice A2 n2 c2,.slice A3 n3 c3,.slice A4 n4 c4,.slice A5 n5 c5,.slice A6 n6 c6,.slice A7 n7 c7] ls A8 c8 al A9 gr A10 ky) (v:IntKind.i64.wrap q0=q0) (z:IntKind.i64.wrap q1=q1) (A:IntKind.i64.wrap q2=q2) :
  Calls prog 88 #[.agg #[.bool false,.string (bs sw),.string (bs cm),.slice A0 n0 c0,.slice A1 n1 c1,.slice A2 n2 c2,.slice A3 n3 c3,.slice A4 n4 c4,.slice A5 n5 c5,.slice A6 n6 c6,.slice A7 n7 c7,.slice A8 al.length c8,.int .i64 own,.slice A9 gr.length c9,.int .i64 lim,.int .i64 peer,.string (bs us),.slice A10 ky.length c10,.bool ex,.bool ge,.int .u32 q0,.int .u32 q1,.int .u32 q2]] w (fun e w'=>e=.returned (.tuple #[.int .i64 (qx (inC (dQ [unl (bV sw cm != []) [118,101,114,115,105,111,110] 1,prR (prW ls),unl (aG peer) [112,101,101,114] 5,unl (bW us) [117,115,101,114] 3,ib ky,bQ (aS [] al 1),unl (aW q0 q1 q2) [119,105,115,104] 5]))),.string (bs (uB (inC (dQ [unl (bV sw cm != []) [118,101,114,115,105,111,110] 1,prR (prW ls),unl (aG peer) [112,101,101,114] 5,unl (bW us) [117,115,101,114] 3,ib ky,bQ (aS [] al 1),unl (aW q0 q1 q2) [119,105,115,104] 5]))))])/\Below w.heap.size w w'):=by
 obtain ⟨B,hW0⟩:∃B,B=w.alloc (.cells #[.bool false,.string (bs sw),.string (bs cm),.slice A0 n0 c0,.slice A1 n1 c1,.slice A2 n2 c2,.slice A3 n3 c3,.slice A4 n4 c4,.slice A5 n5 c5,.slice A6 n6 c6,.slice A7 n7 c7,.slice A8 al.length c8,.int .i64 own,.slice A9 gr.length c9,.int .i64 lim,.int .i64 peer,.string (bs us),.slice A10 ky.length c10,.bool ex,.bool ge,.int .u32 q0,.int .u32 q1,.int .u32 q2] 30):=⟨_,rfl⟩
 have q:Below w.heap.size w B:=Zg;have o:Blk B w.heap.size 30 #[.bool false,.string (bs sw),.string (bs cm),.slice A0 n0 c0,.slice A1 n1 c1,.slice A2 n2 c2,.slice A3 n3 c3,.slice A4 n4 c4,.slice A5 n5 c5,.slice A6 n6 c6,.slice A7 n7 c7,.slice A8 al.length c8,.int .i64 own,.slice A9 gr.length c9,.int .i64 lim,.int .i64 peer,.string (bs us),.slice A10 ky.length c10,.bool ex,.bool ge,.int .u32 q0,.int .u32 q1,.int .u32 q2]:=Zk;have HV:=hide (fun (W:World)=>show Calls prog 149 #[.agg #[.bool false,.string (bs sw),.string (bs cm),.slice A0 n0 c0,.slice A1 n1 c1,.slice A2 n2 c2,.slice A3 n3 c3,.slice A4 n4 c4,.slice A5 n5 c5,.slice A6 n6 c6,.slice A7 n7 c7,.slice A8 al.length c8,.int .i64 own,.slice A9 gr.length c9,.int .i64 lim,.int .i64 peer,.string (bs us),.slice A10 ky.length c10,.bool ex,.bool ge,.int .u32 q0,.int .u32 q1,.int .u32 q2]] W (fun e w'=>e=.returned (.string (bs (bV sw cm)))/\Below W.heap.size W w') from qQ (w:=W) p.hsw p.hcm);have HP:=hide (fun (W:World) (hb:Below w.heap.size w W)=>uh (p.hl8.below hb));have HC2:=hide (fun (W:World) (hb:Below w.heap.size w W)=>Dl (sv:=false) (ex:=ex) (ge:=ge) (own:=own) (lim:=lim) (peer:=peer) (c9:=c9) (c10:=c10) (p.below hb) v z A);have HX:=hide (Y4 q o);have hlt0:=o.lt;have h8:=p.hl8.2.1;clear q o p v z A
 by_cases hv:bV sw cm=[]
 ·have hv1:=GZ hv
  have E:=hide (show inC (dQ [unl (bV sw cm != []) [118,101,114,115,105,111,110] 1,prR (prW ls),unl (aG peer) [112,101,101,114] 5,unl (bW us) [117,115,101,114] 3,ib ky,bQ (aS [] al 1),unl (aW q0 q1 q2) [119,105,115,104] 5])=some ([[99,111,110,102],[118,101,114,115,105,111,110]],1) from by rw [hv];rfl);exact zz1e6
 ·have hv1:=Na hv
  have hv2:=Mi hv;rcases fq (prW ls) with hp | ⟨⟨i,k⟩,hp⟩
  rotate_left 1
  ·have hik:=vD hp
   have HPK:=hide (fun (W:World) (hb:Below w.heap.size w W)=>show Calls prog 150 #[.agg #[.slice A0 n0 c0,.slice A1 n1 c1,.slice A2 n2 c2,.slice A3 n3 c3,.slice A4 n4 c4,.slice A5 n5 c5,.slice A6 n6 c6,.slice A7 n7 c7]] W (fun e w'=>e=.returned (.tuple #[.int .i64 k,.int .i64 i])/\Below W.heap.size W w') from by have:=HP.out W hb;rwa [hp] at this);have HWd:=hide (fun (W:World)=>zl i Z0 W);have hw6:=rW i;have hws:(bs (iq i)).size<=6:=hw6;have hqa:11+(bs (iq i)).size<=9223372036854775807:=Z0;have hqb:11+(bs (iq i)).size+1<=9223372036854775807:=Z0;have E:=hide (show inC (dQ [unl (bV sw cm != []) [118,101,114,115,105,111,110] 1,prR (prW ls),unl (aG peer) [112,101,101,114] 5,unl (bW us) [117,115,101,114] 3,ib ky,bQ (aS [] al 1),unl (aW q0 q1 q2) [119,105,115,104] 5])=some ([[99,111,110,102],[112,114,101,102,115],iq i],k) from by rw [hv2,zo,hp];rfl);exact zz388
  ·have HPK:=hide (fun (W:World) (hb:Below w.heap.size w W)=>show Calls prog 150 #[.agg #[.slice A0 n0 c0,.slice A1 n1 c1,.slice A2 n2 c2,.slice A3 n3 c3,.slice A4 n4 c4,.slice A5 n5 c5,.slice A6 n6 c6,.slice A7 n7 c7]] W (fun e w'=>e=.returned (.tuple #[.int .i64 0,.int .i64 (-1)])/\Below W.heap.size W w') from by have:=HP.out W hb;rwa [hp] at this)
   have C:=hide (show inC (dQ [unl (bV sw cm != []) [118,101,114,115,105,111,110] 1,prR (prW ls),unl (aG peer) [112,101,101,114] 5,unl (bW us) [117,115,101,114] 3,ib ky,bQ (aS [] al 1),unl (aW q0 q1 q2) [119,105,115,104] 5])=inC (dQ [unl (aG peer) [112,101,101,114] 5,unl (bW us) [117,115,101,114] 3,ib ky,bQ (aS [] al 1),unl (aW q0 q1 q2) [119,105,115,104] 5]) from by rw [hv2,zo,hp];rfl);clear hv hp HP;generalize bV sw cm=vv at HV C hv1 hv2 ⊢;rw [C.out];have j:=hide (fun (W:World) (hb:Below w.heap.size w W)=>show Calls prog 154 #[.agg #[.bool false,.string (bs sw),.string (bs cm),.slice A0 n0 c0,.slice A1 n1 c1,.slice A2 n2 c2,.slice A3 n3 c3,.slice A4 n4 c4,.slice A5 n5 c5,.slice A6 n6 c6,.slice A7 n7 c7,.slice A8 al.length c8,.int .i64 own,.slice A9 gr.length c9,.int .i64 lim,.int .i64 peer,.string (bs us),.slice A10 ky.length c10,.bool ex,.bool ge,.int .u32 q0,.int .u32 q1,.int .u32 q2]] W (fun e w'=>e=.returned (.tuple #[.int .i64 (qx (inC (dQ [unl (aG peer) [112,101,101,114] 5,unl (bW us) [117,115,101,114] 3,ib ky,bQ (aS [] al 1),unl (aW q0 q1 q2) [119,105,115,104] 5]))),.string (bs (uB (inC (dQ [unl (aG peer) [112,101,101,114] 5,unl (bW us) [117,115,101,114] 3,ib ky,bQ (aS [] al 1),unl (aW q0 q1 q2) [119,105,115,104] 5]))))])/\Below W.heap.size W w') from HC2.out W hb);clear HC2 C;generalize qx (inC (dQ [unl (aG peer) [112,101,101,114] 5,unl (bW us) [117,115,101,114] 3,ib ky,bQ (aS [] al 1),unl (aW q0 q1 q2) [119,105,115,104] 5]))=kk at j ⊢;generalize bs (uB (inC (dQ [unl (aG peer) [112,101,101,114] 5,unl (bW us) [117,115,101,114] 3,ib ky,bQ (aS [] al 1),unl (aW q0 q1 q2) [119,105,115,104] 5])))=ss at j ⊢
   generalize hcv:(#[.bool false,.string (bs sw),.string (bs cm),.slice A0 n0 c0,.slice A1 n1 c1,.slice A2 n2 c2,.slice A3 n3 c3,.slice A4 n4 c4,.slice A5 n5 c5,.slice A6 n6 c6,.slice A7 n7 c7,.slice A8 al.length c8,.int .i64 own,.slice A9 gr.length c9,.int .i64 lim,.int .i64 peer,.string (bs us),.slice A10 ky.length c10,.bool ex,.bool ge,.int .u32 q0,.int .u32 q1,.int .u32 q2]:Array Value)=h at HV j HX hW0 ⊢;have u:h.toList.length=23:=ZY;have D:h[0]?=some (.bool false):=ZY;have F:h[3]?=some (.slice A0 n0 c0):=ZY;have G:h[4]?=some (.slice A1 n1 c1):=ZY;have I:h[5]?=some (.slice A2 n2 c2):=ZY;have J:h[6]?=some (.slice A3 n3 c3):=ZY;have K:h[7]?=some (.slice A4 n4 c4):=ZY;have L:h[8]?=some (.slice A5 n5 c5):=ZY;have N:h[9]?=some (.slice A6 n6 c6):=ZY;have r:h[10]?=some (.slice A7 n7 c7):=ZY;clear hcv;go_enter func88,ntmps88;go_upto_region 1 with fail;rw [<-hW0];clear hW0;refine wp_region_lit ?_;refine df rfl (.tmp 1) rfl Z5 HX.out.2 u ?_
   go_upto_region 13 with (first | (go_at_call 149;refine (HV.out _).mono ?_;rintro e w1 ⟨rfl,hb1⟩;have hX1:=HX.out.2.below hb1 hlt0;have hl1:=hX1.lt;have z3:=(hX1.cell 3).trans F;have z4:=(hX1.cell 4).trans G;have z5:=(hX1.cell 5).trans I;have z6:=(hX1.cell 6).trans J;have z7:=(hX1.cell 7).trans K;have z8:=(hX1.cell 8).trans L;have z9:=(hX1.cell 9).trans N;have z10:=(hX1.cell 10).trans r) | (go_at_call 150;refine (HPK.out _ (HX.out.1.trans (hb1.mono HX.out.1.size))).mono ?_;rintro e w2 ⟨rfl,hb2⟩;have hX2:=hX1.below hb2 hl1;have hl2:=hX2.lt;have g:=hb1.trans (hb2.mono hb1.size);have y0:=(hX2.cell 0).trans D))
   refine wp_region_lit ?_;refine df rfl (.tmp 1) rfl Z5 hX2 u ?_;go_wp2_with (first | (go_at_call 154;refine (j.out _ (HX.out.1.trans (g.mono HX.out.1.size))).mono ?_;rintro e w5 ⟨rfl,hb5⟩));go_ret2;exact ⟨rfl,HX.out.1.trans (g.trans (hb5.mono g.size) |>.mono HX.out.1.size)⟩
end
end Go.Proofs.YtnhekaepgpbijaaGreatDoor

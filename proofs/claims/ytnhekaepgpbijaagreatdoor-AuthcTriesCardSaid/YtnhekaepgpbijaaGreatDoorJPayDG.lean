/- Several of my texts in one: Fld, PayD. -/
import Derived.Test.YtnhekaepgpbijaaGreatDoorJMsgHG
import Derived.Test.YtnhekaepgpbijaaGreatDoorJSignCG
import Derived.Test.YtnhekaepgpbijaaGreatDoorJEncA
import Derived.Test.YtnhekaepgpbijaaGreatDoorJChnG
import Derived.Test.YtnhekaepgpbijaaGreatDoorJPayM
set_option linter.unusedVariables false
set_option linter.unusedSimpArgs false
set_option maxHeartbeats 40000000
set_option maxRecDepth 100000
namespace Go.Proofs.YtnhekaepgpbijaaGreatDoor
open Go.RowKit Go.ChangeShapes Go.WideShapes Go.Sort
def q8 (B:Nat) (w:World) (g:Nat) (T:List Tm) (S:Nat→Prop) (o:Option Tm) (m:Nat) (e:Ending) (w':World):Prop :=
 ∃T' n S',e=.returned (.int .i64 n)∧Idn T' o n∧T <+: T'∧T'.length≤T.length+m∧Ar B w' g T' S'∧Grown S w S' w'
theorem Done.f {B:Nat} {w:World} {g:Nat} {T:List Tm} {S:Nat→Prop} {o:Option Tm} {e:Ending} {w':World} (h:Done B w g T S o e w'):q8 B w g T S o 1 e w':=by
 obtain ⟨T1,n1,S1,e1,hp1,hA1,hG1⟩:=h;exact ⟨T1,n1,S1,e1,hp1.idn,hp1.pre,hp1.len,hA1,hG1⟩
theorem q8.mono {B:Nat} {w:World} {g:Nat} {T:List Tm} {S:Nat→Prop} {o:Option Tm} {m m':Nat} {e:Ending} {w':World} (h:q8 B w g T S o m e w') (hm:m≤m'):q8 B w g T S o m' e w':=by
 obtain ⟨T1,n1,S1,e1,h1,h2,h3,h4,h5⟩:=h;exact ⟨T1,n1,S1,e1,h1,h2,by omega,h4,h5⟩
theorem Ev {t:Tm} (h:good t) (hk:t.k=1):t=.mk 1 0 0 t.s []:=by
 obtain ⟨k,a,b,s,l⟩:=t;simp only [Tm.k] at hk;subst hk;unfold good at h;obtain ⟨⟨h1,h2,h3,_⟩,_⟩:=h;have:l=[]:=List.eq_nil_of_length_eq_zero h3;subst h1 h2 this;rfl
theorem Sq {t:Tm} (h:fine t):t.s.size≤131072:=by
 obtain ⟨k,a,b,s,l⟩:=t;have h2:=h.2
 by_cases hk:k=1
 ·subst hk
  have:=Ev h.1 rfl;rw [this,jg] at h2;exact Nat.le_trans (by simp [Tm.s]) (Nat.le_trans (Nat.le_add_right _ 5) h2)
 ·have h1:=h.1
  unfold good at h1;have hh:=h1.1;have:=tY h.1;simp only [Tm.k] at this;show s.size≤_
  match k,hh,hk,this with
  | 2,hh,_,_=>rw [hh.2.2.2];decide
  | 3,hh,_,_=>rw [hh.2.2.2];decide
  | 4,hh,_,_=>rw [hh.2.2.2];decide
  | 5,hh,_,_=>exact Nat.le_trans hh.2.2.2.2 (by decide)
  | 6,hh,_,_=>exact Nat.le_trans hh.2.2.2.2 (by decide)
  | 7,hh,_,_=>rw [hh.2.2.2];decide
  | 8,hh,_,_=>rw [hh.2.2.2];decide
  | 9,hh,_,_=>rw [hh.2.2.2];decide
  | 10,hh,_,_=>rw [hh.2.2.2];decide
  | 0,_,_,h0=>exact absurd h0.1 (by decide)
  | n+11,_,_,h0=>exact absurd h0.2 (by omega)
section
variable {w : World}
def ByP (o:Option (List UInt8)) (w:World) (e:Ending) (w':World):Prop :=
 e=.returned (.tuple #[.string (bs (o.getD [])),.bool o.isSome])∧Below w.heap.size w w'
open Classical in
noncomputable def wY (s:List UInt8):Option (List UInt8):=if mh s then none else some s
theorem PT {s:List UInt8} (h:mh s):wY s=none:=if_pos h
theorem OW {s:List UInt8} (h:¬ mh s):wY s=some s:=if_neg h
theorem RQ {t:Tm} (h:t.k=1):mQ t=wY t.s.data.toList:=by unfold mQ wY;rw [if_pos h]
theorem Dh {t:Tm} (h:t.k≠1):mQ t=some (enc t):=by unfold mQ;rw [if_neg h]
theorem Aq {w w':World} (h:Below w.heap.size w w'):ByP none w (.returned (.tuple #[.string ⟨#[]⟩,.bool false])) w':=⟨rfl,h⟩
theorem Jt {w w':World} {s:ByteArray} (h:Below w.heap.size w w'):ByP (some s.data.toList) w (.returned (.tuple #[.string s,.bool true])) w':=⟨rfl,h⟩
theorem II (w:World) (o:Obj) (t:TypeId) (cs:Array Value):Blk ((w.alloc o).alloc (.cells cs t)) (w.heap.size+1) t cs:=by
 have:=Blk.new (w.alloc o) t cs;have e:(w.alloc o).heap.size=w.heap.size+1:=World.size_alloc _ _;rw [e] at this;exact this
theorem az {w:World} (o:Obj):Below w.heap.size w (w.alloc o):=(Below.refl _ _).alloc (Nat.le_refl _) o
theorem Ps {bx:Nat} {s:ByteArray} (hT:Tab w) (hc:w.cell? ⟨bx,3,none⟩=some (.string s)) (hs:s.size≤131072):Calls Tryz.prog 266 #[.pointer (some ⟨bx,0,none⟩)] w (ByP (wY s.data.toList) w):=by
 have HO:=hide (Pv hT s hs);clear hT hs;go_enter Tryz.func266,Tryz.ntmps266;go_wp2_with fail;refine HO.out.mono ?_;rintro e w1 ⟨r,rfl,hr,hb1⟩;have hc1:=dh hb1 hc;have Hr:=hide hr;clear hr
 cases r with
 | true =>
  have E1:=hide (PT (Hr.out.1 rfl));go_wp2_with fail;go_ret2;rw [E1.out];exact Aq hb1
 | false =>
  have E1:=hide (OW (s:=s.data.toList) (fun h=>by have:=Hr.out.2 h;cases this));go_wp2_with fail;go_ret2;rw [E1.out];exact Jt hb1
theorem O9 {B g b2 b3:Nat} {T:List Tm} {S:Nat→Prop} {n:Int} (h:Ar B w g T S) (h2:w.cell? ⟨b2,0,none⟩=some (.pointer (some ⟨g,0,none⟩))) (h3:w.cell? ⟨b3,0,none⟩=some (.int .i64 n)):Calls Tryz.prog 267 #[.pointer (some ⟨b2,0,none⟩),.pointer (some ⟨b3,0,none⟩)] w (ByP (some (txt (arg T n))) w):=by
 have HE:=hide (EW h n);clear h;go_enter Tryz.func267,Tryz.ntmps267;go_wp2_with fail;refine HE.out.mono ?_;rintro e w1 ⟨rfl,hb1⟩;go_wp2_with fail;go_ret2;exact ⟨rfl,hb1⟩
theorem Qf {bx b2 b3:Nat} {o:Option (List UInt8)} (h:Calls Tryz.prog 266 #[.pointer (some ⟨bx,0,none⟩)] w (ByP o w)):Calls Tryz.prog 269 #[.bool true,.func (.func 266) #[] #[.pointer (some ⟨bx,0,none⟩)],.func (.func 267) #[] #[.pointer (some ⟨b2,0,none⟩),.pointer (some ⟨b3,0,none⟩)]] w (ByP o w):=by
 have H:=hide h;clear h;go_enter Tryz.func269,Tryz.ntmps269;go_wp2_with fail;refine H.out.mono ?_;rintro e w1 ⟨rfl,hb1⟩;go_wp2_with fail;go_ret2;exact ⟨rfl,hb1⟩
theorem OX {bx b2 b3:Nat} {o:Option (List UInt8)} (h:Calls Tryz.prog 267 #[.pointer (some ⟨b2,0,none⟩),.pointer (some ⟨b3,0,none⟩)] w (ByP o w)):Calls Tryz.prog 269 #[.bool false,.func (.func 266) #[] #[.pointer (some ⟨bx,0,none⟩)],.func (.func 267) #[] #[.pointer (some ⟨b2,0,none⟩),.pointer (some ⟨b3,0,none⟩)]] w (ByP o w):=by
 have H:=hide h;clear h;go_enter Tryz.func269,Tryz.ntmps269;go_wp2_with fail;refine H.out.mono ?_;rintro e w1 ⟨rfl,hb1⟩;go_wp2_with fail;go_ret2;exact ⟨rfl,hb1⟩
theorem uw {B g:Nat} {T:List Tm} {S:Nat→Prop} (h:Ar B w g T S) (hT:Tab w) (n:Int):Calls Tryz.prog 206 #[.pointer (some ⟨g,0,none⟩),.int .i64 n] w (ByP ((arg T n).bind mQ) w):=by
 obtain ⟨W0,hW0⟩:∃W0,W0=(w.alloc (.cells #[.pointer (some ⟨g,0,none⟩)] 36)).alloc (.cells #[.int .i64 n] 39):=⟨_,rfl⟩
 have hb0:Below w.heap.size w W0:=by rw [hW0];exact aa
 have hX2:Blk W0 w.heap.size 36 #[.pointer (some ⟨g,0,none⟩)]:=by rw [hW0];exact (Blk.new w _ _).alloc _
 have hX3:Blk W0 (w.heap.size+1) 39 #[.int .i64 n]:=by rw [hW0];exact II w _ _ _
 have HV:=hide (mf (h.below hb0) n);have HX:=hide (And.intro hb0 (And.intro hX2 hX3));have HH:=hide (And.intro h hT);have y2:=hX2.cell 0;have y3:=hX3.cell 0;simp only [List.getElem?_toArray,List.getElem?_cons_zero] at y2 y3;clear hb0 hX2 hX3 h hT;go_enter Tryz.func206,Tryz.ntmps206;go_upto_region 1 with fail;rw [←hW0];clear hW0;go_wp2_with fail;refine HV.out.mono ?_;intro e w1 hV
 rcases hV with ⟨⟨hno,rfl⟩ | ⟨t,js,av,hat,_,rfl,hown⟩,hb1⟩
 ·have Hno:=hide hno
  have hbx:=az (w:=w1) (.cells #[.int .i64 0,.int .i64 0,.int .i64 0,.string ⟨#[]⟩,.slice none 0 0] 126);have Hb:=hide (HX.out.1.trans ((hb1.trans (hbx.mono hb1.size)).mono HX.out.1.size));clear hno hb1 hbx;go_wp2_with fail;go_ret2;rw [Hno.out];exact Aq Hb.out
 ·obtain ⟨A,c,rfl⟩:=gH hown
  clear hown;have hfine:=HH.out.1.ok.fine t (rQ hat);go_upto_region 2 with fail
  obtain ⟨w2,hw2⟩:∃W,W=w1.alloc (.cells #[.int .i64 t.k,.int .i64 t.a,.int .i64 t.b,.string t.s,.slice A js.length c] 126):=⟨_,rfl⟩
  have hbx:Below w1.heap.size w1 w2:=by rw [hw2];exact az _
  have hXx:Blk w2 w1.heap.size 126 #[.int .i64 t.k,.int .i64 t.a,.int .i64 t.b,.string t.s,.slice A js.length c]:=by rw [hw2];exact Blk.new w1 _ _
  rw [←hw2];clear hw2;have hb02:=hb1.trans (hbx.mono hb1.size);have hbw:=HX.out.1.trans (hb02.mono HX.out.1.size);have y2:=dh hb02 y2;have y3:=dh hb02 y3;have x0:=hXx.cell 0;have x3:=hXx.cell 3;simp only [List.getElem?_toArray,List.getElem?_cons_zero,List.getElem?_cons_succ] at x0 x3
  by_cases hk:t.k=1
  ·have ek:((t.k:Int) == 1)=true:=by rw [hk];rfl
   have HP:=hide (Qf (w:=w2) (b2:=w.heap.size) (b3:=w.heap.size+1) (Ps (HH.out.2.below hbw) x3 (Sq hfine)));have E:=hide (show (arg T n).bind mQ=wY t.s.data.toList from by rw [hat];exact RQ hk);clear hat hk hfine HH HV y2 y3 hXx x3;go_wp2_with fail;refine HP.out.mono ?_;rintro e w3 ⟨rfl,hb3⟩;go_wp2_with fail;go_ret2;rw [E.out];exact ⟨rfl,hbw.trans (hb3.mono hbw.size)⟩
  ·have ek:((t.k:Int) == 1)=false:=by rw [beq_eq_false_iff_ne];omega
   have HP:=hide (OX (w:=w2) (bx:=w1.heap.size) (O9 (HH.out.1.below hbw) y2 y3));have E:=hide (show (arg T n).bind mQ=some (txt (arg T n)) from by rw [hat];exact Dh hk);clear hat hk hfine HH HV y2 y3 hXx x3;go_wp2_with fail;refine HP.out.mono ?_;rintro e w3 ⟨rfl,hb3⟩;go_wp2_with fail;go_ret2;rw [E.out];exact ⟨rfl,hbw.trans (hb3.mono hbw.size)⟩
end
def Lr (w0:World) (B g:Nat) (T:List Tm) (S:Nat→Prop) (wb:World) (o:Option Tm) (m:Nat) (e:Ending) (w':World):Prop :=
 ∃T' n S',e=.returned (.int .i64 n)∧Idn T' o n∧T <+: T'∧T'.length≤T.length+m∧Pay w0 B g T' S' w'∧Grown S wb S' w'
section
variable {w0 wb : World} {B g : Nat} {T : List Tm} {S : Nat → Prop}
theorem q8.y (h:Pay w0 B g T S wb) {w w':World} (hb:Below wb.heap.size wb w) {o:Option Tm} {m:Nat} {e:Ending} (hm:T.length+m≤1000000000) (hd:q8 B w g T S o m e w'):Lr w0 B g T S wb o m e w':=by
 obtain ⟨T1,n1,S1,e1,h1,h2,h3,h4,h5⟩:=hd;exact ⟨T1,n1,S1,e1,h1,h2,h3,(h.below hb).grown h5 h4 (by omega),(Grown.of_below hb).trans h5⟩
theorem Qv (h:Pay w0 B g T S wb) (who:Int) (hT:T.length≤900000000) (w:World) (hb:Below wb.heap.size wb w):Calls Tryz.prog 15 #[.pointer (some ⟨g,0,none⟩),.int .i64 who] w (Lr w0 B g T S wb (dW who) 1) :=
 (uI (h.use.below hb) who).mono fun _ _ hd=>q8.y h hb (by omega) hd.f
end
end Go.Proofs.YtnhekaepgpbijaaGreatDoor

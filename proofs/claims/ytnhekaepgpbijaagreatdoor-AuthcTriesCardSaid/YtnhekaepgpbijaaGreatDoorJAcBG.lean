/- Several of my texts in one: AcN, AcH, AcB. -/
import Derived.Test.YtnhekaepgpbijaaGreatDoorJAcMG
import Derived.Test.YtnhekaepgpbijaaGreatDoorJAuApG
import Derived.Test.YtnhekaepgpbijaaGreatDoorJCfZ
set_option linter.unusedVariables false
set_option linter.unusedSimpArgs false
set_option maxHeartbeats 40000000
set_option maxRecDepth 100000
namespace Go.Proofs.YtnhekaepgpbijaaGreatDoor
open Go.RowKit Go.ChangeShapes Go.WideShapes Go.Sort
theorem PP {w:World} {lo size n:Nat} {e:TypeId} {A:Option Addr} {c:Nat} {xs:List Value} (h:w.ownsRow lo e size (.slice A n c) n xs):Sl lo w size A n xs :=
 ⟨h.1,fun hn=>by
  obtain ⟨g,cap,hv,hlo,hlt⟩:=h.form hn;have hA:A=some ⟨g,0,none⟩:=by injection hv
  subst hA
  exact ⟨_,rfl,hlo,hlt,h.cells (g:=g) rfl⟩⟩
theorem CfP.al1 {c:CfP} (h:c.err=none) (hs:c.sv=false):1≤c.al.length:=by
 unfold CfP.err Et at h;rw [if_neg (by rw [hs];decide)] at h;have h2:=uL _ (Bq h) (bN (aV [] c.al 1)) (by simp);rcases Nat.eq_zero_or_pos c.al.length with h0 | h0
 ·rw [rJ 1 rfl (by rw [sS h0];decide)] at h2
  cases h2
 ·exact h0
theorem CfP.ky_ok {c:CfP} (h:c.err=none) (hs:c.sv=false):∀k∈c.ky,aC k=true:=by
 unfold CfP.err Et at h;rw [if_neg (by rw [hs];decide)] at h;have h2:=uL _ (Bq h) (fG c.ky) (by simp);intro k hk
 cases hp:aC k with
 | true=>rfl
 | false =>
  by_cases h8:8<c.ky.length
  ·rw [EN (by unfold oq;rw [if_pos h8])] at h2
   cases h2
  ·rw [EY (yu h8 hk hp)] at h2
   cases h2
theorem J6 (o:Oper) (ho:o.op=.build 121 #[(0,.tmp 24),(1,.tmp 26),(2,.tmp 27)]) (ρ:Operand→Value) {cv:Array Value} {g:Nat} {n:Int} (h24:ρ (.tmp 24)=.pointer (some ⟨g,0,none⟩)) (h26:ρ (.tmp 26)=.agg cv) (h27:ρ (.tmp 27)=.int .i64 n) (hl:cv.toList.length=23) (w:World) :
  (execOp ρ o).run Tryz.prog w=.ok (.value (.agg ((#[.pointer (some ⟨g,0,none⟩)]++cv)++Cu n ⟨0,false,[],0,[]⟩ none 0))) w:=by
 rw [show Cu n ⟨0,false,[],0,[]⟩ none 0=#[.int .i64 n,.int .i64 0,.bool false,.slice none 0 0,.int .i64 0,.string ⟨#[]⟩] from rfl];obtain ⟨d,op,t,p,af,gd⟩:=o;simp only at ho;subst ho;obtain ⟨l⟩:=cv;obtain ⟨a0,a1,a2,a3,a4,a5,a6,a7,a8,a9,a10,a11,a12,a13,a14,a15,a16,a17,a18,a19,a20,a21,a22,e⟩:=NB (l:=l) hl;subst e;clear hl;go_simp
def TW (c:CfP) (V:World) (e:Ending) (w':World):Prop :=
 ∃cv2 B8 d8 B10 d10,e=.returned (.agg cv2)∧cv2.toList.length=23∧cv2[11]?=some (.slice B8 c.al.length d8)∧cv2[16]?=some (.string (bs c.us))∧cv2[17]?=some (.slice B10 c.ky.length d10)∧dS V.heap.size w' (.slice B8 c.al.length d8) c.al∧w'.ownsRow V.heap.size 3 1 (.slice B10 c.ky.length d10) c.ky.length (c.ky.map (Value.int .i64))∧Below V.heap.size V w'
theorem CfP.copyQ (c:CfP) {cv:Array Value} (hcv:c.val=.agg cv) {V:World} (h:c.M V):Calls Tryz.prog 83 #[.agg cv] V (TW c V):=by
 rw [←hcv];refine (Gw (sv:=c.sv) (ex:=c.ex) (ge:=c.ge) (own:=c.own) (lim:=c.lim) (peer:=c.peer) (q0:=c.q0) (q1:=c.q1) (q2:=c.q2) (c9:=c.c9) (c10:=c.c10) h).mono fun e w' hC=>?_
 obtain ⟨B0,m0,d0,B1,m1,d1,B2,m2,d2,B3,m3,d3,B4,m4,d4,B5,m5,d5,B6,m6,d6,B7,m7,d7,B8,d8,B9,d9,B10,d10,e1,_,h8,_,h10,hb⟩:=hC;exact ⟨_,B8,d8,B10,d10,e1,rfl,rfl,rfl,rfl,h8,h10,hb⟩
section
variable {w0 w : World} {B g : Nat} {n : Int} {sid : Option Tm} {T : List Tm} {S : Nat → Prop}
theorem Mw (c:CfP) {cv:Array Value} (hcv:CvP c cv) (hM:fC w) (hW:gJ w) (h:c.M w) (pa:Value) (n:Int) {ps:List (List UInt8)} {k:Int} (he:c.err=some (ps,k)) :
  Calls Tryz.prog 36 #[pa,.agg cv,.int .i64 n] w (fun e w'=>∃b,e=.returned (.tuple #[.pointer none,aH b])∧aT w' (aH b) (dm :: ps) k∧Below w.heap.size w w'):=by
 obtain ⟨W0,hW0⟩:∃W0,W0=w.alloc (.cells cv 30):=⟨_,rfl⟩
 have hb0:Below w.heap.size w W0:=by rw [hW0];exact az _
 have hX:Blk W0 w.heap.size 30 cv:=by rw [hW0];exact Blk.new w _ _
 have HC:=c.check (hM.below hb0) (hW.below hb0) (h.below hb0);rw [he,hcv.val] at HC;have hl:=hcv.len;have HC:=hide (xg HC);have HF:=hide (fun (V:World) (b:Nat) (hi:aT V (aH b) ps k)=>Gh ⟨#[97,117,116,104,99]⟩ hi);have Hb0:=hide hb0;clear hM hW h he hcv hb0;go_enter Tryz.func36,Tryz.ntmps36;go_upto_region 1 with fail;rw [←hW0];clear hW0;refine wp_region_lit ?_;refine aK rfl (.tmp 4) rfl (by rfl) hX hl ?_
 try simp only [Act.put,List.setIfInBounds_toArray,List.set_cons_zero,List.set_cons_succ]
 refine bZ (f:=81) rfl (by go_simp) HC.out ?_;rintro e w1 ⟨b,rfl,hi1,hb1⟩;refine ⟨_,rfl,?_⟩
 try simp only [Act.put,List.setIfInBounds_toArray,List.set_cons_zero,List.set_cons_succ]
 have HF:=hide (HF.out _ _ hi1);have Hb:=hide (Hb0.out.trans (hb1.mono Hb0.out.size));clear hi1 hb1 HC hX hl;unfold aH at HF ⊢;go_wp2_with fail;refine HF.out.mono ?_;rintro e w2 ⟨b2,rfl,hi2,hb2⟩;have Hi:=hide (And.intro hi2 (Hb.out.trans (hb2.mono Hb.out.size)));clear hi2 hb2;go_wp2_with fail;go_ret2;exact ⟨b2,rfl,Hi.out.1,Hi.out.2⟩
theorem Nc (c:CfP) {cv:Array Value} (hcv:CvP c cv) (hM:fC w) (hW:gJ w) (h:c.M w) (hA:Ar B w g T S) (hid:Idn T sid n) (he:c.err=none) (hs:c.sv=true∨sid=none) :
  Calls Tryz.prog 36 #[.pointer (some ⟨g,0,none⟩),.agg cv,.int .i64 n] w (fun e w'=>∃b,e=.returned (.tuple #[.pointer none,aH b])∧aT w' (aH b) [dm] 1∧Below w.heap.size w w'):=by
 obtain ⟨W0,hW0⟩:∃W0,W0=w.alloc (.cells cv 30):=⟨_,rfl⟩
 have hb0:Below w.heap.size w W0:=by rw [hW0];exact az _
 have hX:Blk W0 w.heap.size 30 cv:=by rw [hW0];exact Blk.new w _ _
 have HC:=c.check (hM.below hb0) (hW.below hb0) (h.below hb0);rw [he,hcv.val] at HC;have hl:=hcv.len;have HC:=hide (qa HC);have HO:=hide (fun (V:World)=>bH ⟨#[97,117,116,104,99]⟩ 1 (by decide) V);have HK:=hide (fun (V:World) (hb:Below w.heap.size w V)=>xn (hA.below hb) n);rw [hid.1] at HK;have p0:=hcv.p0;generalize c.sv=sv at p0 hs;clear hM hW h he hcv hA hid;go_enter Tryz.func36,Tryz.ntmps36;go_upto_region 1 with fail;rw [←hW0];clear hW0;refine wp_region_lit ?_;refine aK rfl (.tmp 4) rfl (by rfl) hX hl ?_
 try simp only [Act.put,List.setIfInBounds_toArray,List.set_cons_zero,List.set_cons_succ]
 refine bZ (f:=81) rfl (by go_simp) HC.out ?_;rintro e w1 ⟨rfl,hb1⟩;refine ⟨_,rfl,?_⟩
 try simp only [Act.put,List.setIfInBounds_toArray,List.set_cons_zero,List.set_cons_succ]
 have hX1:=hX.below hb1 hX.lt;have Hb:=hide (hb0.trans (hb1.mono hb0.size));have x0:=(hX1.cell 0).trans p0;clear hX1 hX hl p0 hb0 hb1 HC
 cases sv with
 | true =>
  go_wp2_with fail;refine (HO.out _).mono ?_;rintro e w2 ⟨b2,rfl,hi2,hb2⟩;have Hi:=hide (And.intro hi2 (Hb.out.trans (hb2.mono Hb.out.size)));clear hi2 hb2;unfold aH at Hi ⊢;go_wp2_with fail;go_ret2;exact ⟨b2,rfl,Hi.out.1,Hi.out.2⟩
 | false =>
  have hn:sid=none:=hs.resolve_left (by decide);subst hn;simp only at HK;go_wp2_with fail;refine (HK.out _ Hb.out).mono ?_;rintro e w2 ⟨rfl,rfl⟩;go_wp2_with fail;refine (HO.out _).mono ?_;rintro e w3 ⟨b2,rfl,hi2,hb2⟩;have Hi:=hide (And.intro hi2 (Hb.out.trans (hb2.mono Hb.out.size)));clear hi2 hb2;unfold aH at Hi ⊢;go_wp2_with fail;go_ret2;exact ⟨b2,rfl,Hi.out.1,Hi.out.2⟩
def Tj (w0:World) (B g:Nat) (c:CfP) (n:Int) (sid:Option Tm) (T:List Tm) (S:Nat→Prop) (w:World) (e:Ending) (w':World):Prop :=
 ∃b P A8 c8 A10 c10,e=.returned (.tuple #[.pointer (some ⟨b,0,none⟩),.nilIface])∧aI ⟨w0,B,g,w.heap.size,b,P,A8,c8,c.al,A10,c10,c.ky,c.us,n,sid⟩ T S ⟨0,false,[],0,[]⟩ ⟨none,0,b+1,b+1⟩ w'∧Below w.heap.size w w'
theorem FI (c:CfP) {cv:Array Value} (hcv:CvP c cv) (hM:fC w) (hW:gJ w) (h:c.M w) (hf:c.fw=true) (hP:Pay w0 B g T S w) (hid:Idn T sid n) (he:c.err=none) (hs:c.sv=false) {t:Tm} (ht:sid=some t) (hk:t.k≠0) (hsid:∀u,sid=some u→(enc u).length≤1000) :
  Calls Tryz.prog 36 #[.pointer (some ⟨g,0,none⟩),.agg cv,.int .i64 n] w (Tj w0 B g c n sid T S w):=by
 obtain ⟨W0,hW0⟩:∃W0,W0=w.alloc (.cells cv 30):=⟨_,rfl⟩
 have hb0:Below w.heap.size w W0:=by rw [hW0];exact az _
 have hX:Blk W0 w.heap.size 30 cv:=by rw [hW0];exact Blk.new w _ _
 have HC:=c.check (hM.below hb0) (hW.below hb0) (h.below hb0);rw [he,hcv.val] at HC;have hl:=hcv.len;have HC:=hide (qa HC);have HK:=hide (fun (V:World) (hb:Below w.heap.size w V)=>xn (hP.ar.below hb) n);rw [hid.1,ht] at HK;simp only at HK;have hk2:(((t.k:Nat):Int) == 0)=false:=by rw [beq_eq_false_iff_ne];omega
 generalize ((t.k:Nat):Int)=kd at HK hk2;have HCp:=hide (fun (V:World) (hb:Below w.heap.size w V)=>c.copyQ hcv.val (h.below hb));have p0:=hcv.p0;rw [hs] at p0
 have hfl:c.al.length≤20∧c.ky.length≤20∧c.us.length≤300∧∀x∈c.al,x.length≤300:=by
  unfold CfP.fw iH at hf;simp only [Bool.and_eq_true,decide_eq_true_eq,List.all_eq_true] at hf;obtain ⟨⟨⟨⟨⟨⟨⟨⟨_,h2⟩,_⟩,h3⟩,_⟩,_⟩,h4⟩,h5⟩,_⟩:=hf;exact ⟨h2,h3,h4,h5⟩
 have HP:=hide (And.intro hP (And.intro hid (And.intro hfl (CfP.al1 he hs))));clear hM hW h he hcv hP hid hs ht hk hfl hf;go_enter Tryz.func36,Tryz.ntmps36;go_upto_region 1 with fail;rw [←hW0];clear hW0;refine wp_region_lit ?_;refine aK rfl (.tmp 4) rfl (by rfl) hX hl ?_
 try simp only [Act.put,List.setIfInBounds_toArray,List.set_cons_zero,List.set_cons_succ]
 refine bZ (f:=81) rfl (by go_simp) HC.out ?_;rintro e w1 ⟨rfl,hb1⟩;refine ⟨_,rfl,?_⟩
 try simp only [Act.put,List.setIfInBounds_toArray,List.set_cons_zero,List.set_cons_succ]
 have hX1:=hX.below hb1 hX.lt;have Hb:=hide (hb0.trans (hb1.mono hb0.size));have x0:=(hX1.cell 0).trans p0;clear hX p0 hb0 hb1 HC;go_wp2_with fail;refine (HK.out _ Hb.out).mono ?_;rintro e w2 ⟨rfl,rfl⟩;clear HK x0;go_upto_region 6 with fail;refine wp_region_lit ?_;refine aM (v:=.pointer (some ⟨g,0,none⟩)) (w':=w1) (by rfl) (by first | rfl | go_simp) ?_
 try simp only [Act.put,List.setIfInBounds_toArray,List.set_cons_zero,List.set_cons_succ]
 refine aK rfl (.tmp 4) rfl (by rfl) hX1 hl ?_
 try simp only [Act.put,List.setIfInBounds_toArray,List.set_cons_zero,List.set_cons_succ]
 refine bM (f:=83) (by rfl) (by first | rfl | go_simp) (HCp.out _ Hb.out) ?_;rintro e w3 ⟨cv2,B8,d8,B10,d10,rfl,hl2,q11,q16,q17,hn8,hn10,hb3⟩;refine ⟨_,rfl,?_⟩
 try simp only [Act.put,List.setIfInBounds_toArray,List.set_cons_zero,List.set_cons_succ]
 have Hf:=hide (And.intro (And.intro q11 (And.intro q16 q17)) (And.intro hn8 (And.intro hn10 hb3)));clear q11 q16 q17 hn8 hn10 hb3 hX1 hl HCp;refine aM (v:=.int .i64 n) (w':=w3) (by rfl) (by first | rfl | go_simp) ?_
 try simp only [Act.put,List.setIfInBounds_toArray,List.set_cons_zero,List.set_cons_succ]
 refine aM (v:=.agg ((#[.pointer (some ⟨g,0,none⟩)]++cv2)++Cu n ⟨0,false,[],0,[]⟩ none 0)) (w':=w3) (by rfl) (J6 _ rfl _ (by rfl) (by rfl) (by rfl) hl2 _) ?_
 try simp only [Act.put,List.setIfInBounds_toArray,List.set_cons_zero,List.set_cons_succ]
 obtain ⟨cs,hcs⟩:∃cs,cs=(#[.pointer (some ⟨g,0,none⟩)]++cv2)++Cu n ⟨0,false,[],0,[]⟩ none 0:=⟨_,rfl⟩
 rw [←hcs];have Hcs:=hide hcs;clear hcs;go_wp2_with fail;go_ret2;obtain ⟨⟨q11,q16,q17⟩,hn8,hn10,hb3⟩:=Hf.out;obtain ⟨hP,hid,⟨hf1,hf2,hf3,hf4⟩,ha1⟩:=HP.out;have hbn:=az (w:=w3) (.cells cs 121);have hb13:=Hb.out.trans (hb3.mono Hb.out.size);have hb4:=hb13.trans (hbn.mono hb13.size);have hsz:=Hb.out.size;have hs3:=hb3.size
 have hz:(#[Value.pointer (some ⟨g,0,none⟩)]++cv2).size=24:=by
  have:cv2.size=23:=by simpa using hl2
  rw [Array.size_append,this];rfl
 have hat:∀i v,cv2[i]?=some v→(#[Value.pointer (some ⟨g,0,none⟩)]++cv2)[i+1]?=some v:=fun i v hv=>by
  rw [Array.getElem?_append_right (by simp)];exact hv
 refine ⟨w3.heap.size,#[Value.pointer (some ⟨g,0,none⟩)]++cv2,B8,d8,B10,d10,rfl,?_,hb4⟩
 exact {
     ok:=⟨by rw [Array.getElem?_append_left (by simp)];rfl,hat 11 _ q11,hat 16 _ q16,hat 17 _ q17,ha1,(by show c.al.length≤1000;omega),(by show c.ky.length≤1000;omega),(by show c.us.length≤1000;omega),fun a ha=>Nat.le_trans (hf4 a ha) (by decide),hsid⟩
     pay:=hP.below hb4
     zone:=fun i hi=>.inl (hP.ar.sL i hi)
     lo0:=hP.use.base
     lob:=by show w.heap.size≤w3.heap.size;omega
     cb:=⟨by rw [←Hcs.out];exact Blk.new w3 _ _,hz⟩
     ral:=by
      obtain ⟨A',c',hv,_,hS⟩:=hn8.newC;injection hv with e1 _ e3;subst e1 e3;exact nN.mk (hS.mono hsz) (Nat.le_refl _) (fun p _ h9=>hbn.cell h9)
     rky:=Df.mk ((PP hn10).mono hsz) (Nat.le_refl _) (fun p _ h9=>hbn.cell h9)
     tk:=⟨Nat.lt_succ_self _,Nat.le_refl _,(by simp),fun i hi=>.inl (by show i<w3.heap.size+1;have:=hP.ar.sL i hi;omega),fun V _ _=>⟨none,0,rfl,Sl.nil_⟩⟩
     id:=hid
     tkl:=Nat.zero_le _
     try_:=Nat.zero_le _
     alz:=Nat.zero_le _ }
end
structure StC (w:World) (b:Nat) (cv:Array Value) (sid:ByteArray):Prop where
 blk:Blk w b 32 (cv++#[Value.string sid])
 size:cv.toList.length=23
section
variable {w w' : World} {b : Nat} {cv : Array Value} {sid : ByteArray}
theorem StC.below (h:StC w b cv sid) (hb:Below w.heap.size w w'):StC w' b cv sid:=⟨h.blk.below hb h.blk.lt,h.size⟩
theorem StC.sz (h:StC w b cv sid):cv.size=23:=by have:=h.size;simpa using this
theorem StC.at_ (h:StC w b cv sid) {i:Nat} {v:Value} (hi:cv[i]?=some v):w.cell? ⟨b,i,none⟩=some v:=by
 have hl:i<cv.size:=by
  rcases Nat.lt_or_ge i cv.size with h2 | h2
  ·exact h2
  ·rw [Array.getElem?_eq_none h2] at hi;cases hi
 rw [h.blk.cell i,Array.getElem?_append_left hl,hi]
theorem StC.sid_ (h:StC w b cv sid):w.cell? ⟨b,23,none⟩=some (.string sid):=by
 rw [h.blk.cell 23,Array.getElem?_append_right (by rw [h.sz];exact Nat.le_refl _),h.sz];rfl
theorem StC.range (h:StC w b cv sid):w.rangeAt b 0 cv.toList:=fun j v hv=>by
 rw [Nat.zero_add];exact h.at_ (by simpa using hv)
theorem StC.all (h:StC w b cv sid):w.rangeAt b 0 (cv++#[Value.string sid]).toList:=yI (by rw [Array.toArray_toList];exact h.blk)
theorem NE:(Tryz.prog.info? 32).map (·.size)=some 24:=by kernel_rfl
theorem eG {ops:Array Oper} {rest:List Oper} {op:Oper} {a:Act} {Q:Exit→Act→World→Prop} (hw:Region.wanted op (yielded ops a.tmps)=true) (x:Operand) (ho:op.op=.load 30 x) (hx:a.eval x=.pointer (some ⟨b,0,none⟩)) (hX:StC w b cv sid)
  (h:wpList Tryz.prog ops Q rest (a.put op.dst (.agg cv)) w):wpList Tryz.prog ops Q (op :: rest) a w :=
 aM hw (by
  unfold execOp;have key:=run_loadAt_mid (P:=Tryz.prog) w b 0 30 cv.toList _ hX.range Tryz.underlying30 rfl (by rw [hX.size];exact oK);rw [Array.toArray_toList] at key;simp only [ho,hx]
  simp [Sem.run_bind,key]) h
theorem iT {ops:Array Oper} {rest:List Oper} {op:Oper} {a:Act} {Q:Exit→Act→World→Prop} (hw:Region.wanted op (yielded ops a.tmps)=true) (x:Operand) (ho:op.op=.load 32 x) (hx:a.eval x=.pointer (some ⟨b,0,none⟩)) (hX:StC w b cv sid)
  (h:wpList Tryz.prog ops Q rest (a.put op.dst (.agg (cv++#[Value.string sid]))) w):wpList Tryz.prog ops Q (op :: rest) a w :=
 aM hw (by
  unfold execOp;have key:=run_loadAt_mid (P:=Tryz.prog) w b 0 32 (cv++#[Value.string sid]).toList _ hX.all Tryz.underlying32 rfl (by rw [show (cv++#[Value.string sid]).toList.length=24 from by rw [Array.toList_append,List.length_append,hX.size];rfl];exact NE);rw [Array.toArray_toList] at key;simp only [ho,hx]
  simp [Sem.run_bind,key]) h
end
theorem Nq {s:ByteArray} (hs:s.size≤300):∀u,il s=some u→(enc u).length≤1000:=fun u h=>by
 unfold il at h
 split at h
 ·cases h
 ·rw [lZ hs] at h
  cases h
  have h2:s.data.toList.length=s.size:=aD s;simp only [enc,encs,head,mid,List.append_nil,List.length_append,List.length_cons,List.length_nil,bU];omega
section
variable {q : ClQ} {T T' : List Tm} {S S' : Nat → Prop} {s : bS} {z : TkP} {W W' : World}
theorem aI.rowLo (h:aI q T S s z W) {r:Nat} (k:W.grownBy W' (some r)) (hn:¬ S r) (hB:q.B≤r) (hb:r<q.lo):aI q T S s z W':=by
 have hlt:=h.blt;have hlb:=h.lob;obtain ⟨h1,h2,h3,h4,h5⟩:=h.tk;have hc:∀p:Addr,p.block≠r→p.block<W.heap.size→W'.cell? p=W.cell? p:=fun p h8 h9=>World.cell?_of_block (k.block p.block h9 (fun e=>h8 (Option.some.inj e)))
 exact { h with pay:=h.pay.kept k hn hB,cb:=⟨h.cb.blk.grown k (fun e=>by have:=Option.some.inj e;omega),h.cb.sz⟩,ral:=h.ral.step fun p _ h9=>hc p (by omega) (by omega),rky:=h.rky.step fun p _ h9=>hc p (by omega) (by omega),tk:=⟨h1,h2,Nat.le_trans h3 k.size,h4,h5.step fun p h8 h9=>hc p (by omega) (by omega)⟩ }
end
section
variable {w0 W0 w : World} {B g : Nat} {T : List Tm} {S : Nat → Prop} {n : Int}
def CNw (w0:World) (B g:Nat) (c:CfP) (no:Bool) (n:Int) (sid:Option Tm) (T:List Tm) (S:Nat→Prop) (w:World) (e:Ending) (w':World):Prop :=
 ∃p er,e=.returned (.tuple #[.pointer p,er])∧ErV w' (fB c no) er∧Below w.heap.size w w'∧(fB c no≠none→p=none) ∧
  (fB c no=none→∃b P A8 c8 A10 c10,p=some ⟨b,0,none⟩∧aI ⟨w0,B,g,w.heap.size,b,P,A8,c8,c.al,A10,c10,c.ky,c.us,n,sid⟩ T S ⟨0,false,[],0,[]⟩ ⟨none,0,b+1,b+1⟩ w')
theorem Lt (c:CfP) {cv:Array Value} (hcv:CvP c cv) (hM:fC w) (hW:gJ w) (h:c.M w) (hf:c.fw=true) (hP:Pay w0 B g T S w) {sid:Option Tm} (hid:Idn T sid n) {no:Bool} (hno:sid=none↔no=true) (hk:∀t,sid=some t→t.k≠0) (hsz:∀u,sid=some u→(enc u).length≤1000) :
  Calls Tryz.prog 36 #[.pointer (some ⟨g,0,none⟩),.agg cv,.int .i64 n] w (CNw w0 B g c no n sid T S w):=by
 rcases eD c.err with he | ⟨⟨ps,k⟩,he⟩
 ·by_cases hs:c.sv=true∨sid=none
  ·have hE:=FY he (hs.imp id hno.1)
   refine (Nc c hcv hM hW h hP.ar hid he hs).mono ?_;rintro e w' ⟨b,rfl,hi,hb⟩;refine ⟨none,aH b,rfl,by rw [hE];exact hi,hb,fun _=>rfl,fun h9=>?_⟩;rw [hE] at h9;cases h9
  ·have hs1:c.sv=false:=by
    cases hq:c.sv with
    | false=>rfl
    | true=>exact absurd (.inl hq) hs
   cases hsd:sid with
   | none=>exact absurd (.inr hsd) hs
   | some t =>
    have hnf:no=false:=by
     cases hq:no with
     | false=>rfl
     | true=>rw [hno.2 hq] at hsd;cases hsd
    have hE:=Gr he hs1 hnf;rw [←hsd];refine (FI c hcv hM hW h hf hP hid he hs1 hsd (hk t hsd) hsz).mono ?_;rintro e w' ⟨b,P,A8,c8,A10,c10,rfl,hS,hb⟩;exact ⟨_,_,rfl,by rw [hE];rfl,hb,fun h9=>absurd hE h9,fun _=>⟨b,P,A8,c8,A10,c10,rfl,hS⟩⟩
 ·have hE:=F9 (no:=no) he
  refine (Mw c hcv hM hW h _ n he).mono ?_;rintro e w' ⟨b,rfl,hi,hb⟩;refine ⟨none,aH b,rfl,by rw [hE];exact hi,hb,fun _=>rfl,fun h9=>?_⟩;rw [hE] at h9;cases h9
structure Uk (w0:World) (B g:Nat) (c:CfP) (sid:ByteArray) (cv:Array Value) (T:List Tm) (S:Nat→Prop) (w:World) (n:Int) (p:Option Addr) (er:Value) (bq:Nat) (T':List Tm) (S':Nat→Prop) (w':World):Prop where
 er:ErV w' (fB c (sid.toList == ([]:List UInt8))) er
 id:Idn T' (il sid) n
 pre:T <+: T'
 len:T'.length≤T.length+2
 pay:Pay w0 B g T' S' w'
 gr:Grown S w S' w'
 ref:RCl w' bq cv (bs (txt (il sid)))
 lb:w.heap.size≤bq
 sb:∀i,S' i→i<bq
 no:fB c (sid.toList == ([]:List UInt8))≠none→p=none
 ok:fB c (sid.toList == ([]:List UInt8))=none→∃lo b P A8 c8 A10 c10,w.heap.size≤lo∧b<bq∧p=some ⟨b,0,none⟩∧aI ⟨w0,B,g,lo,b,P,A8,c8,c.al,A10,c10,c.ky,c.us,n,il sid⟩ T' S' ⟨0,false,[],0,[]⟩ ⟨none,0,b+1,b+1⟩ w'
def TV (w0:World) (B g:Nat) (c:CfP) (sid:ByteArray) (cv:Array Value) (T:List Tm) (S:Nat→Prop) (w:World) (e:Ending) (w':World):Prop :=
 ∃n p er bq y T' S',e=.returned (.tuple #[.pointer p,.int .i64 n,er,.pointer (some ⟨bq,0,none⟩),.agg #[.int .i64 (pz (fB c (sid.toList == ([]:List UInt8)))),.string y]])∧y=bs (tL (fB c (sid.toList == ([]:List UInt8))))∧Uk w0 B g c sid cv T S w n p er bq T' S' w'
theorem AB (c:CfP) {cv:Array Value} (hcv:CvP c cv) (hM:fC w0) (hW:gJ w0) (h:c.M w0) (hf:c.fw=true) (u0:IntKind.i64.wrap c.q0=c.q0) (u1:IntKind.i64.wrap c.q1=c.q1) (u2:IntKind.i64.wrap c.q2=c.q2) (hP:Pay w0 B g T S w) (hT:T.length≤800000) (sid:ByteArray) (hs:sid.size≤300) :
  Calls Tryz.prog 9 #[.agg (cv++#[Value.string sid]),.pointer (some ⟨g,0,none⟩)] w (TV w0 B g c sid cv T S w):=by
 obtain ⟨W0,hW0⟩:∃W0,W0=(w.alloc (.cells (cv++#[Value.string sid]) 32)).alloc (.cells #[.int .i64 0,.string ⟨#[]⟩] 45):=⟨_,rfl⟩
 have hb0:Below w.heap.size w W0:=by rw [hW0];exact aa
 have hX:StC W0 w.heap.size cv sid:=⟨by rw [hW0];exact (Blk.new w _ _).alloc _,hcv.len⟩
 have hR0:Blk W0 (w.heap.size+1) 45 #[.int .i64 0,.string ⟨#[]⟩]:=by rw [hW0];exact gN w _ _ _
 have x23:=hX.sid_;have nS:∀k,¬ S (w.heap.size+k):=fun k h9=>by have:=hP.ar.sL _ h9;omega
 have HP:=hide (hP.below hb0);have HPB:=hide hP.use.base;have HA:=hide (fun (V:World) {T':List Tm} {S':Nat→Prop} {n:Int} (hP':Pay w0 B g T' S' V) (hid:Idn T' (il sid) n)=>Lt c hcv (hM.below hP'.bel) (hW.below hP'.bel) (h.below hP'.bel) hf hP' hid (rT hs) (R8 hs) (Nq hs));have HN:=hide (fun (V:World) (hb:Below w0.heap.size w0 V) (t:ByteArray) (hno:(t.toList == ([]:List UInt8))=(sid.toList == ([]:List UInt8)))=>Eu c (h.below hb) u0 u1 u2 hcv t _ hno);have Hb0:=hide hb0;generalize hcx:cv++#[Value.string sid]=cx at hW0;clear hM hW h hcv hP hb0 hcx;go_enter Tryz.func9,Tryz.ntmps9;go_upto_region 1 with fail;rw [←hW0];clear hW0
 cases hq:(sid.toList == ([]:List UInt8)) with
 | true =>
  have Hid5:=hide (show Idn T (il sid) (-1) from by rw [show il sid=none from (rT hs).2 hq];exact cu T);have Hno:=hide (show ((bs (txt (il sid))).toList == ([]:List UInt8))=(sid.toList == ([]:List UInt8)) from by rw [show il sid=none from (rT hs).2 hq,hq,aN];rfl)
  obtain ⟨tx5,htx5⟩:∃x,x=bs (txt (il sid)):=⟨_,rfl⟩
  have et:tx5=⟨#[]⟩:=by rw [htx5,show il sid=none from (rT hs).2 hq];rfl
  rw [←htx5] at Hno;have HG5:=hide (Grown.of_below (S:=S) Hb0.out);have HA5:=hide (HA.out W0 HP.out Hid5.out);have Hl5:=hide (show T <+: T∧T.length≤T.length+2 from ⟨List.prefix_refl _,by omega⟩);have HP5:=hide HP.out;have hX5:=hX;have hR5:=hR0;have hlo5:w.heap.size+2≤W0.heap.size:=hR0.lt;rw [et] at Hno;have Htx:=hide (htx5.symm.trans et);clear htx5 et tx5 HP;go_upto_region 4 with fail;refine wp_region_lit ?_;refine aM (v:=.pointer (some ⟨g,0,none⟩)) (w':=W0) (by rfl) (by first | rfl | go_simp) ?_
  try simp only [Act.put,List.setIfInBounds_toArray,List.set_cons_zero,List.set_cons_succ]
  refine aM (v:=.pointer (some ⟨w.heap.size,0,none⟩)) (w':=W0) (by rfl) (by first | rfl | go_simp) ?_
  try simp only [Act.put,List.setIfInBounds_toArray,List.set_cons_zero,List.set_cons_succ]
  refine eG (by rfl) (.tmp 30) rfl (by rfl) hX5 ?_
  try simp only [Act.put,List.setIfInBounds_toArray,List.set_cons_zero,List.set_cons_succ]
  refine aM (v:=.int .i64 (-1)) (w':=W0) (by rfl) (by first | rfl | go_simp) ?_
  try simp only [Act.put,List.setIfInBounds_toArray,List.set_cons_zero,List.set_cons_succ]
  refine bM (f:=36) (by rfl) (by first | rfl | go_simp) HA5.out ?_;rintro e w6 ⟨p,er,rfl,her,hb6,hpn,hpo⟩;refine ⟨_,rfl,?_⟩
  try simp only [Act.put,List.setIfInBounds_toArray,List.set_cons_zero,List.set_cons_succ]
  have hX6:=hX5.below hb6;have hR6:=hR5.below hb6 hR5.lt;have HP6:=hide (HP5.out.below hb6);have HG6:=hide (HG5.out.trans (Grown.of_below hb6));have HN6:=hide (HN.out w6 HP6.out.bel _ Hno.out);have HO:=hide (And.intro her (And.intro hpn hpo));clear her hb6 hpn hpo hX5 hR5 HA5 HN HP5 HG5 HA;go_upto_region 5 with fail;refine wp_region_lit ?_;refine aM (v:=.pointer (some ⟨w.heap.size,0,none⟩)) (w':=w6) (by rfl) (by first | rfl | go_simp) ?_
  try simp only [Act.put,List.setIfInBounds_toArray,List.set_cons_zero,List.set_cons_succ]
  refine eG (by rfl) (.tmp 37) rfl (by rfl) hX6 ?_
  try simp only [Act.put,List.setIfInBounds_toArray,List.set_cons_zero,List.set_cons_succ]
  refine aM (v:=.string ⟨#[]⟩) (w':=w6) (by rfl) (by first | rfl | go_simp) ?_
  try simp only [Act.put,List.setIfInBounds_toArray,List.set_cons_zero,List.set_cons_succ]
  refine bM (f:=42) (by rfl) (by first | rfl | go_simp) HN6.out ?_;rintro e w7 ⟨bq,y,rfl,hy,hRS,hlb,hb7⟩;refine ⟨_,rfl,?_⟩
  try simp only [Act.put,List.setIfInBounds_toArray,List.set_cons_zero,List.set_cons_succ]
  generalize hkk:pz (fB c (sid.toList == ([]:List UInt8)))=kk;have Hkk:=hide hkk;clear hkk
  obtain ⟨w8,hw8⟩:∃W8,W8=w7.alloc (.cells #[.int .i64 kk,.string y] 45):=⟨_,rfl⟩
  have hb8:Below w7.heap.size w7 w8:=by rw [hw8];exact az _
  have hB8:Blk w8 w7.heap.size 45 #[.int .i64 kk,.string y]:=by rw [hw8];exact Blk.new w7 _ _
  have hR8:=(hR6.below hb7 hR6.lt).below hb8 (hR6.below hb7 hR6.lt).lt;have z0:=hR8.cell 0;have z1:=hR8.cell 1;have fz0:=hR8.frozen 0;have fz1:=hR8.frozen 1;have v0:=hB8.cell 0;have v1:=hB8.cell 1;simp only [List.getElem?_toArray,List.getElem?_cons_zero,List.getElem?_cons_succ] at z0 z1 v0 v1;have hne7:w.heap.size+1≠w7.heap.size:=by have:=(hR6.below hb7 hR6.lt).lt;omega
  have HF:=hide (And.intro hy (And.intro (hRS.below hb8) (And.intro hlb (And.intro (hb7.trans (hb8.mono hb7.size)) hR8))));have hbq:bq<w7.heap.size:=hRS.blk.lt;have hs67:=hb7.size;have hltR:=hR6.lt;clear hy hRS hlb hb7 hb8 hR6 hX6 HN6 hR8 hB8;go_upto_region 6 with fail;rw [←hw8];clear hw8;generalize w7.heap.size=b7 at v0 v1 hne7 hbq hs67 ⊢;go_region;go_wp2_with fail;obtain ⟨hy,hRS8,hlb,hb68,hR8⟩:=HF.out;obtain ⟨her,hpn,hpo⟩:=HO.out;have hF9:=(dF hR8 (.int .i64 kk) (.string y)).below ((Below.refl _ _).drew) (dF hR8 (.int .i64 kk) (.string y)).lt;have q2:=hF9.cell 0;have q3:=hF9.cell 1;simp only [List.getElem?_toArray,List.getElem?_cons_zero,List.getElem?_cons_succ] at q2 q3;have k9:w8.grownBy ((w8.setCell ⟨w.heap.size+1,0,none⟩ (.int .i64 kk)).setCell ⟨w.heap.size+1,1,none⟩ (.string y)).drew (some (w.heap.size+1)):=au (ag (p:=⟨w.heap.size+1,1,none⟩) (ag (p:=⟨w.heap.size+1,0,none⟩) (aj w8 (some (w.heap.size+1))) (.inl rfl) (.int .i64 kk)) (.inl rfl) (.string y)) (ai ((Below.refl _ _).drew) (some (w.heap.size+1)));refine bodyPost_ret (v:=.tuple #[.pointer p,.int .i64 (-1),er,.pointer (some ⟨bq,0,none⟩),.agg #[.int .i64 kk,.string y]]) (by simp [results,Tryz.results9,go_sem,q2,q3]) rfl ?_;have hn6:¬ S (w.heap.size+1):=nS 1;have hP8:=HP6.out.below hb68;have hB1:B≤w.heap.size+1:=by have:=HPB.out;omega
  refine ⟨(-1),p,er,bq,y,T,S,by rw [Hkk.out],hy,((her.below hb68).own hR8 (by decide) k9),Hid5.out,Hl5.out.1,Hl5.out.2,hP8.kept k9 hn6 hB1,(HG6.out.trans (Grown.of_below hb68)).setNew k9 (Nat.le_succ _),(by rw [Htx.out];exact hRS8.grown k9 (by omega)),by omega,fun i hi=>by have:=HP6.out.ar.sL i hi;omega,hpn,fun h9=>?_⟩;obtain ⟨b,P,A8,c8,A10,c10,hp,hSv⟩:=hpo h9;exact ⟨W0.heap.size,b,P,A8,c8,A10,c10,(by omega),Nat.lt_of_lt_of_le hSv.blt hlb,hp,(hSv.below hb68).rowLo k9 hn6 hB1 (by show _<W0.heap.size;omega)⟩
 | false =>
  have hsr:il sid=kZ (aO sid):=by unfold il;rw [hq];rfl
  have HD:=hide (fun (V:World) (hb:Below W0.heap.size W0 V)=>x9 HP.out (s:=sid) (by omega) (by omega) hb);have HH:=hide (fun (V Vb:World) (T2:List Tm) (S2:Nat→Prop) (n2:Int) (hP2:Pay w0 B g T2 S2 Vb) (hi:Idn T2 (aO sid) n2) (hT2:T2.length≤900000) (hb:Below Vb.heap.size Vb V)=>Jp hP2 hi hT2 hb);have HRd:=hide (fun (V:World)=>show Calls Tryz.prog 41 #[.string sid] V (Says (txt (aO sid)) V) from (by have h9:=Iq sid.data.toList V (by rw [aD];omega);rwa [Tw] at h9));have HRh:=hide (fun (V:World)=>JW (o:=aO sid) (DL (by omega)) V);go_upto_region 3 with fail
  go_region_held3 (fun V=>V.cell? ⟨w.heap.size,23,none⟩=some (.string sid))
   (exact x23)
   (first
    | (go_at_call 38;refine (HD.out _ (by exact aa)).mono ?_;rintro e w2 ⟨T2,n2,S2,rfl,hi2,hp2,hl2,hP2,hG2⟩;replace x23:=hG2.outs.cell x23 (nS 0))
    | (go_at_call 39;refine (HH.out _ w2 T2 S2 n2 hP2 hi2 (by omega) (by exact aa)).mono ?_;rintro e w3 ⟨T3,n3,S3,rfl,hi3,hp3,hl3,hP3,hG3⟩;replace x23:=hG3.outs.cell x23 (hG2.notin2 (nS 0) hX.blk.lt))
    | (go_at_call 41;refine (HRd.out _).mono ?_;rintro e w4 ⟨rfl,hb4⟩;replace x23:=dh hb4 x23)
    | (go_at_call 40;refine (HRh.out _).mono ?_;rintro e w5 ⟨rfl,hb5⟩;replace x23:=dh hb5 x23)
    | fail)
  have Hno:=hide (show ((bs (txt (kZ (aO sid)))).toList == ([]:List UInt8))=(sid.toList == ([]:List UInt8)) from by rw [lZ hs,hq,aN];rfl);have hXb:=hG3.outs.blk (hG2.outs.blk hX.blk (nS 0)) (hG2.notin2 (nS 0) hX.blk.lt)
  have hX3:StC w3 w.heap.size cv sid:=⟨hXb,hX.size⟩
  have hX5:=(hX3.below hb4).below hb5;have hR3:=hG3.outs.blk (hG2.outs.blk hR0 (nS 1)) (hG2.notin2 (nS 1) hR0.lt);have hb35:=hb4.trans (hb5.mono hb4.size);have hR5:=hR3.below hb35 hR3.lt;have HP5:=hide (hP3.below hb35);have HG5:=hide ((((Grown.of_below (S:=S) Hb0.out).trans hG2).trans hG3).trans (Grown.of_below hb35));have Hid5:=hide (show Idn T3 (il sid) n3 from by rw [hsr];exact hi3);have Hl5:=hide (show T <+: T3∧T3.length≤T.length+2 from ⟨hp2.trans hp3,by omega⟩);have HA5:=hide (HA.out w5 HP5.out Hid5.out);have hS31:¬ S3 (w.heap.size+1):=hG3.notin2 (hG2.notin2 (nS 1) hR0.lt) (Nat.lt_of_lt_of_le hR0.lt hG2.size);have hlo5:w.heap.size+2≤w5.heap.size:=by have:=hR5.lt;omega
  clear hi2 hp2 hl2 hP2 hG2 hi3 hp3 hl3 hP3 hG3 hb4 hb5 hb35 hX3 hXb hR3 HD HH HRd HRh x23 HP hX hR0;go_upto_region 4 with fail;generalize htx:bs (txt (kZ (aO sid)))=tx5 at Hno ⊢;have Htx:=hide (show bs (txt (il sid))=tx5 from by rw [hsr];exact htx);clear htx;refine wp_region_lit ?_;refine aM (v:=.pointer (some ⟨g,0,none⟩)) (w':=w5) (by rfl) (by first | rfl | go_simp) ?_
  try simp only [Act.put,List.setIfInBounds_toArray,List.set_cons_zero,List.set_cons_succ]
  refine aM (v:=.pointer (some ⟨w.heap.size,0,none⟩)) (w':=w5) (by rfl) (by first | rfl | go_simp) ?_
  try simp only [Act.put,List.setIfInBounds_toArray,List.set_cons_zero,List.set_cons_succ]
  refine eG (by rfl) (.tmp 30) rfl (by rfl) hX5 ?_
  try simp only [Act.put,List.setIfInBounds_toArray,List.set_cons_zero,List.set_cons_succ]
  refine aM (v:=.int .i64 n3) (w':=w5) (by rfl) (by first | rfl | go_simp) ?_
  try simp only [Act.put,List.setIfInBounds_toArray,List.set_cons_zero,List.set_cons_succ]
  refine bM (f:=36) (by rfl) (by first | rfl | go_simp) HA5.out ?_;rintro e w6 ⟨p,er,rfl,her,hb6,hpn,hpo⟩;refine ⟨_,rfl,?_⟩
  try simp only [Act.put,List.setIfInBounds_toArray,List.set_cons_zero,List.set_cons_succ]
  have hX6:=hX5.below hb6;have hR6:=hR5.below hb6 hR5.lt;have HP6:=hide (HP5.out.below hb6);have HG6:=hide (HG5.out.trans (Grown.of_below hb6));have HN6:=hide (HN.out w6 HP6.out.bel _ Hno.out);have HO:=hide (And.intro her (And.intro hpn hpo));clear her hb6 hpn hpo hX5 hR5 HA5 HN HP5 HG5 HA;go_upto_region 5 with fail;refine wp_region_lit ?_;refine aM (v:=.pointer (some ⟨w.heap.size,0,none⟩)) (w':=w6) (by rfl) (by first | rfl | go_simp) ?_
  try simp only [Act.put,List.setIfInBounds_toArray,List.set_cons_zero,List.set_cons_succ]
  refine eG (by rfl) (.tmp 37) rfl (by rfl) hX6 ?_
  try simp only [Act.put,List.setIfInBounds_toArray,List.set_cons_zero,List.set_cons_succ]
  refine aM (v:=.string tx5) (w':=w6) (by rfl) (by first | rfl | go_simp) ?_
  try simp only [Act.put,List.setIfInBounds_toArray,List.set_cons_zero,List.set_cons_succ]
  refine bM (f:=42) (by rfl) (by first | rfl | go_simp) HN6.out ?_;rintro e w7 ⟨bq,y,rfl,hy,hRS,hlb,hb7⟩;refine ⟨_,rfl,?_⟩
  try simp only [Act.put,List.setIfInBounds_toArray,List.set_cons_zero,List.set_cons_succ]
  generalize hkk:pz (fB c (sid.toList == ([]:List UInt8)))=kk;have Hkk:=hide hkk;clear hkk
  obtain ⟨w8,hw8⟩:∃W8,W8=w7.alloc (.cells #[.int .i64 kk,.string y] 45):=⟨_,rfl⟩
  have hb8:Below w7.heap.size w7 w8:=by rw [hw8];exact az _
  have hB8:Blk w8 w7.heap.size 45 #[.int .i64 kk,.string y]:=by rw [hw8];exact Blk.new w7 _ _
  have hR8:=(hR6.below hb7 hR6.lt).below hb8 (hR6.below hb7 hR6.lt).lt;have z0:=hR8.cell 0;have z1:=hR8.cell 1;have fz0:=hR8.frozen 0;have fz1:=hR8.frozen 1;have v0:=hB8.cell 0;have v1:=hB8.cell 1;simp only [List.getElem?_toArray,List.getElem?_cons_zero,List.getElem?_cons_succ] at z0 z1 v0 v1;have hne7:w.heap.size+1≠w7.heap.size:=by have:=(hR6.below hb7 hR6.lt).lt;omega
  have HF:=hide (And.intro hy (And.intro (hRS.below hb8) (And.intro hlb (And.intro (hb7.trans (hb8.mono hb7.size)) hR8))));have hbq:bq<w7.heap.size:=hRS.blk.lt;have hs67:=hb7.size;have hltR:=hR6.lt;clear hy hRS hlb hb7 hb8 hR6 hX6 HN6 hR8 hB8;go_upto_region 6 with fail;rw [←hw8];clear hw8;generalize w7.heap.size=b7 at v0 v1 hne7 hbq hs67 ⊢;go_region;go_wp2_with fail;obtain ⟨hy,hRS8,hlb,hb68,hR8⟩:=HF.out;obtain ⟨her,hpn,hpo⟩:=HO.out;have hF9:=(dF hR8 (.int .i64 kk) (.string y)).below ((Below.refl _ _).drew) (dF hR8 (.int .i64 kk) (.string y)).lt;have q2:=hF9.cell 0;have q3:=hF9.cell 1;simp only [List.getElem?_toArray,List.getElem?_cons_zero,List.getElem?_cons_succ] at q2 q3;have k9:w8.grownBy ((w8.setCell ⟨w.heap.size+1,0,none⟩ (.int .i64 kk)).setCell ⟨w.heap.size+1,1,none⟩ (.string y)).drew (some (w.heap.size+1)):=au (ag (p:=⟨w.heap.size+1,1,none⟩) (ag (p:=⟨w.heap.size+1,0,none⟩) (aj w8 (some (w.heap.size+1))) (.inl rfl) (.int .i64 kk)) (.inl rfl) (.string y)) (ai ((Below.refl _ _).drew) (some (w.heap.size+1)));refine bodyPost_ret (v:=.tuple #[.pointer p,.int .i64 n3,er,.pointer (some ⟨bq,0,none⟩),.agg #[.int .i64 kk,.string y]]) (by simp [results,Tryz.results9,go_sem,q2,q3]) rfl ?_;have hn6:¬ S3 (w.heap.size+1):=hS31;have hP8:=HP6.out.below hb68;have hB1:B≤w.heap.size+1:=by have:=HPB.out;omega
  refine ⟨n3,p,er,bq,y,T3,S3,by rw [Hkk.out],hy,((her.below hb68).own hR8 (by decide) k9),Hid5.out,Hl5.out.1,Hl5.out.2,hP8.kept k9 hn6 hB1,(HG6.out.trans (Grown.of_below hb68)).setNew k9 (Nat.le_succ _),(by rw [Htx.out];exact hRS8.grown k9 (by omega)),by omega,fun i hi=>by have:=HP6.out.ar.sL i hi;omega,hpn,fun h9=>?_⟩;obtain ⟨b,P,A8,c8,A10,c10,hp,hSv⟩:=hpo h9;exact ⟨w5.heap.size,b,P,A8,c8,A10,c10,(by omega),Nat.lt_of_lt_of_le hSv.blt hlb,hp,(hSv.below hb68).rowLo k9 hn6 hB1 (by show _<w5.heap.size;omega)⟩
end
def Pg (w:World) (A:Option Addr) (l:List (Bool × List UInt8)):Prop:=∀k,(hk:k<l.length)→∃ad,A=some ad∧ad.block<w.heap.size∧w.cell? (ad.add (k*2))=some (.bool l[k].1)∧w.cell? ⟨(ad.add (k*2)).block,(ad.add (k*2)).off+1,none⟩=some (.string (bs l[k].2))
theorem Pg.below {w w':World} {A:Option Addr} {l:List (Bool × List UInt8)} (h:Pg w A l) (hb:Below w.heap.size w w'):Pg w' A l:=fun k hk=>by
 obtain ⟨ad,e,h1,h2,h3⟩:=h k hk;exact ⟨ad,e,Nat.lt_of_lt_of_le h1 hb.size,(hb.cell (p:=ad.add (k*2)) (by rw [ax];exact h1)).trans h2,(hb.cell (p:=⟨(ad.add (k*2)).block,(ad.add (k*2)).off+1,none⟩) (by show (ad.add (k*2)).block<_;rw [ax];exact h1)).trans h3⟩
section
variable {w : World}
def K9 (c:CfP) (sid:ByteArray) (l:List (Bool × List UInt8)):Bool:=decide (l.length≤12) && c.fw && decide (sid.size≤300) && l.all fun x=>decide (x.2.length≤3000)
theorem IM (c:CfP) (h:c.W w) {cv:Array Value} (hcv:CvP c cv) (sid:ByteArray) (hsd:sid.size≤maxLen) {A:Option Addr} {d:Nat} {l:List (Bool × List UInt8)} (hl:Pg w A l) (hll:l.length≤maxLen) (hlz:∀x∈l,x.2.length≤maxLen) :
  Calls Tryz.prog 6 #[.agg (cv++#[Value.string sid]),.slice A l.length d] w (fun e w'=>e=.returned (.bool (K9 c sid l))∧Below w.heap.size w w'):=by
 obtain ⟨W0,hW0⟩:∃W0,W0=w.alloc (.cells (cv++#[Value.string sid]) 32):=⟨_,rfl⟩
 have hb0:Below w.heap.size w W0:=by rw [hW0];exact az _
 have hX:StC W0 w.heap.size cv sid:=⟨by rw [hW0];exact Blk.new w _ _,hcv.len⟩
 have HF:=hide (c.few (h.below hb0));rw [hcv.val] at HF;have HT:=hide (hl.below hb0);have Hb0:=hide hb0;generalize hcx:cv++#[Value.string sid]=cx at hW0;unfold K9;clear hb0 h hl hcv
 by_cases h20:l.length≤12
 ·have g20:decide ((12:Int)<l.length)=false:=decide_eq_false (by omega)
  rw [decide_eq_true h20,Bool.true_and];have HZ:=hide (fun i (h9:i<l.length)=>hlz l[i] (List.getElem_mem h9));have hA:=HT.out;have x23:=hX.sid_;have hi20:¬ (12:Int)<l.length:=by omega
  clear HT g20 hlz;go_enter Tryz.func6,Tryz.ntmps6;go_upto_region 1 with fail;rw [←hW0];clear hW0 hcx;refine wp_region_lit ?_;refine aM (v:=.slice A l.length d) (w':=W0) (by rfl) (by first | rfl | go_simp) ?_
  try simp only [Act.put,List.setIfInBounds_toArray,List.set_cons_zero,List.set_cons_succ]
  refine aM (v:=.int .i64 l.length) (w':=W0) (by rfl) (by first | rfl | go_simp) ?_
  try simp only [Act.put,List.setIfInBounds_toArray,List.set_cons_zero,List.set_cons_succ]
  refine aM (v:=.bool false) (w':=W0) (by rfl) (by first | rfl | go_simp) ?_
  try simp only [Act.put,List.setIfInBounds_toArray,List.set_cons_zero,List.set_cons_succ]
  refine aM (v:=.bool false) (w':=W0) (by rfl) (by first | rfl | go_simp) ?_
  try simp only [Act.put,List.setIfInBounds_toArray,List.set_cons_zero,List.set_cons_succ]
  refine aM (v:=.pointer (some ⟨w.heap.size,0,none⟩)) (w':=W0) (by rfl) (by first | rfl | go_simp) ?_
  try simp only [Act.put,List.setIfInBounds_toArray,List.set_cons_zero,List.set_cons_succ]
  refine eG (by rfl) (.tmp 10) rfl (by rfl) hX ?_
  try simp only [Act.put,List.setIfInBounds_toArray,List.set_cons_zero,List.set_cons_succ]
  refine bM (f:=35) (by rfl) (by first | rfl | go_simp) HF.out ?_;rintro e w1 ⟨rfl,hb1⟩;refine ⟨_,rfl,?_⟩
  try simp only [Act.put,List.setIfInBounds_toArray,List.set_cons_zero,List.set_cons_succ]
  have x23:=dh hb1 x23;have Hb1:=hide (Hb0.out.trans (hb1.mono Hb0.out.size));have HA:=hide (hA.below hb1);clear hb1 hX HF Hb0 hA
  cases hc:c.fw with
  | false =>
   go_wp2_with fail;go_ret;exact ⟨by simp,Hb1.out⟩
  | true =>
   by_cases h300:sid.size≤300
   ·have hi300:¬ (300:Int)<sid.size:=by omega
    have E300:=hide (decide_eq_true h300);clear h300;go_wp2_with fail
    go_loopw [5] (fun vi wr=>wr=w1∧∃i:Nat,vi=.int .i64 i∧i≤l.length∧Hid (∀j,(hj:j<l.length)→j<i→l[j].2.length≤3000)) (fun vi _=>l.length - (intOf vi).toNat)
    case atStart=>exact ⟨rfl,0,rfl,Nat.zero_le _,hide (fun j _ h9=>by omega)⟩
    case round =>
     obtain ⟨rfl,i,rfl,hi,Hno⟩:=hrel
     by_cases hlt2:i<l.length
     ·have hii:(i:Int)<l.length:=by omega
      obtain ⟨ad,rfl,_,_,hc2⟩:=HA.out i hlt2;have hz:=HZ.out i hlt2;have He:=hide (show l[i].2=l[i].2 from rfl);generalize hy:l[i].2=y at hc2 hz He;have Hy:=hide hy;clear hy;have hys:(bs y).size=y.length:=rfl;have hzz:(bs y).size≤maxLen:=hz;generalize bs y=yb at hc2 hys hzz;clear hz
      by_cases h3:y.length≤3000
      ·have hi3:¬ (3000:Int)<yb.size:=by rw [hys];omega
       have HE:=hide (show ∀j,(hj:j<l.length)→j<i+1→l[j].2.length≤3000 from fun j hj h9=>by
        rcases Nat.lt_succ_iff_lt_or_eq.1 h9 with h8 | h8
        ·exact Hno.out j hj h8
        ·subst h8
         rw [Hy.out]
         exact h3)
       clear hys h3;go_wp2_with fail;exact ⟨⟨trivial,i+1,by go_num,by omega,HE⟩,by simp [intOf];omega⟩
      ·have hi3:(3000:Int)<yb.size:=by rw [hys];omega
       have HE:=hide (show (l.all fun x=>decide (x.2.length≤3000))=false from by
        rw [List.all_eq_false]
        exact ⟨l[i],List.getElem_mem hlt2,by rw [Hy.out];simpa using h3⟩)
       clear hys h3;go_wp2_with fail;go_ret;exact ⟨by rw [HE.out,E300.out];rfl,Hb1.out⟩
     ·obtain rfl:i=l.length:=by omega
      have hii:¬ (l.length:Int)<l.length:=by omega
      have HE:=hide (show (l.all fun x=>decide (x.2.length≤3000))=true from by
       rw [List.all_eq_true];intro x hx;obtain ⟨j,hj,rfl⟩:=List.getElem_of_mem hx
       exact decide_eq_true (Hno.out j hj hj))
      go_wp2_with fail;go_ret;exact ⟨by rw [HE.out,E300.out];rfl,Hb1.out⟩
   ·have hi300:(300:Int)<sid.size:=by omega
    have E300:=hide (decide_eq_false h300);clear h300;go_wp2_with fail;go_ret;exact ⟨by rw [E300.out];simp,Hb1.out⟩
 ·have g20:decide ((12:Int)<l.length)=true:=decide_eq_true (by omega)
  rw [decide_eq_false h20];go_enter Tryz.func6,Tryz.ntmps6;go_wp2_with fail;go_ret;exact ⟨by simp,by exact aa⟩
end
end Go.Proofs.YtnhekaepgpbijaaGreatDoor

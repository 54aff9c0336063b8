/-
  Several of my texts in one: AuY, AuZ.
-/
import Derived.Test.YtkfnepnghnicoaaGreatDoorKAuBG
import Derived.Test.YtkfnepnghnicoaaGreatDoorKAuQ
set_option linter.unusedVariables false
set_option linter.unusedSimpArgs false
set_option maxHeartbeats 40000000
set_option maxRecDepth 100000
namespace Go.Proofs.YtkfnepnghnicoaaGreatDoor
open Go.RowKit Go.ChangeShapes Go.WideShapes Go.Sort
def newE (c:CfP) (no:Bool):ErrO:=match c.err with
 | some (ps,k)=>some (authsL :: ps,k)
 | none=>if c.sv=true∧no=false then none else some ([authsL],1)
theorem newE_n {c:CfP} {no:Bool} (h:newE c no=none):c.err=none∧c.sv=true∧no=false:=by
 unfold newE at h
 rcases or_opt c.err with he | ⟨⟨qs,z⟩,he⟩
 ·rw [he] at h
  simp only at h
  split at h
  ·rename_i h2
   exact ⟨he,h2⟩
  ·cases h
 ·rw [he] at h
  cases h
theorem newE_e {c:CfP} {no:Bool} {ps:List (List UInt8)} {k:Int} (h:c.err=some (ps,k)):newE c no=some (authsL :: ps,k):=by unfold newE;rw [h]
theorem newE_a {c:CfP} {no:Bool} (h:c.err=none) (h2:c.sv=false∨no=true):newE c no=some ([authsL],1):=by
 unfold newE
 rw [h]
 simp only
 rw [if_neg]
 rintro ⟨h3,h4⟩
 rcases h2 with h5 | h5
 ·rw [h5] at h3;cases h3
 ·rw [h5] at h4;cases h4
theorem newE_o {c:CfP} {no:Bool} (h:c.err=none) (h2:c.sv=true) (h3:no=false):newE c no=none:=by
 unfold newE
 rw [h]
 simp only
 rw [if_pos ⟨h2,h3⟩]
theorem len_cons {α:Type} {l:List α} {n:Nat} (h:l.length=n+1):∃x r,l=x :: r∧r.length=n:=by
 cases l with
 | nil=>cases h
 | cons x r=>exact ⟨x,r,rfl,by simpa using h⟩
theorem list23 {α:Type} {l:List α} (h:l.length=23):∃a0 a1 a2 a3 a4 a5 a6 a7 a8 a9 a10 a11 a12 a13 a14 a15 a16 a17 a18 a19 a20 a21 a22,l=[a0,a1,a2,a3,a4,a5,a6,a7,a8,a9,a10,a11,a12,a13,a14,a15,a16,a17,a18,a19,a20,a21,a22]:=by
 obtain ⟨a0,l0,rfl,h0⟩:=len_cons h
 obtain ⟨a1,l1,rfl,h1⟩:=len_cons h0
 obtain ⟨a2,l2,rfl,h2⟩:=len_cons h1
 obtain ⟨a3,l3,rfl,h3⟩:=len_cons h2
 obtain ⟨a4,l4,rfl,h4⟩:=len_cons h3
 obtain ⟨a5,l5,rfl,h5⟩:=len_cons h4
 obtain ⟨a6,l6,rfl,h6⟩:=len_cons h5
 obtain ⟨a7,l7,rfl,h7⟩:=len_cons h6
 obtain ⟨a8,l8,rfl,h8⟩:=len_cons h7
 obtain ⟨a9,l9,rfl,h9⟩:=len_cons h8
 obtain ⟨a10,l10,rfl,h10⟩:=len_cons h9
 obtain ⟨a11,l11,rfl,h11⟩:=len_cons h10
 obtain ⟨a12,l12,rfl,h12⟩:=len_cons h11
 obtain ⟨a13,l13,rfl,h13⟩:=len_cons h12
 obtain ⟨a14,l14,rfl,h14⟩:=len_cons h13
 obtain ⟨a15,l15,rfl,h15⟩:=len_cons h14
 obtain ⟨a16,l16,rfl,h16⟩:=len_cons h15
 obtain ⟨a17,l17,rfl,h17⟩:=len_cons h16
 obtain ⟨a18,l18,rfl,h18⟩:=len_cons h17
 obtain ⟨a19,l19,rfl,h19⟩:=len_cons h18
 obtain ⟨a20,l20,rfl,h20⟩:=len_cons h19
 obtain ⟨a21,l21,rfl,h21⟩:=len_cons h20
 obtain ⟨a22,l22,rfl,h22⟩:=len_cons h21
 obtain rfl:l22=[]:=List.eq_nil_of_length_eq_zero h22
 exact ⟨_,_,_,_,_,_,_,_,_,_,_,_,_,_,_,_,_,_,_,_,_,_,_,rfl⟩
theorem build_srv (o:Oper) (ho:o.op=.build 58 #[(0,.tmp 9),(1,.tmp 10)]) (ρ:Operand→Value) {cv:Array Value} {sid:ByteArray} (h9:ρ (.tmp 9)=.agg cv) (h10:ρ (.tmp 10)=.string sid) (hl:cv.toList.length=23) (w:World) :
  (execOp ρ o).run Tryz.prog w=.ok (.value (.agg (cv++#[Value.string sid,.int .i64 (0:Nat),.int .i64 (0:Nat)]))) w:=by
 obtain ⟨d,op,t,p,af,gd⟩:=o
 simp only at ho
 subst ho
 obtain ⟨l⟩:=cv
 obtain ⟨a0,a1,a2,a3,a4,a5,a6,a7,a8,a9,a10,a11,a12,a13,a14,a15,a16,a17,a18,a19,a20,a21,a22,e⟩:=list23 (l:=l) hl
 subst e
 clear hl
 go_simp
section
variable {w : World}
def RNw (c:CfP) (no:Bool) (cv:Array Value) (sid:ByteArray) (w:World) (e:Ending) (w':World):Prop :=
 ∃b y,e=.returned (.tuple #[.pointer (some ⟨b,0,none⟩),.agg #[.int .i64 (errK (newE c no)),.string y]])∧y=bs (errS (newE c no))∧RSv w' b cv sid ⟨0,0⟩∧w.heap.size≤b∧Below w.heap.size w w'
theorem rnew28_any (c:CfP) (h:c.M w) (u0:IntKind.i64.wrap c.q0=c.q0) (u1:IntKind.i64.wrap c.q1=c.q1) (u2:IntKind.i64.wrap c.q2=c.q2) {cv:Array Value} (hcv:CvP c cv) (sid:ByteArray) (no:Bool) (hno:(sid.toList == ([]:List UInt8))=no) :
  Calls Tryz.prog 29 #[.agg cv,.string sid] w (RNw c no cv sid w):=by
 obtain ⟨W0,hW0⟩:∃W0,W0=(w.alloc (.cells cv 30)).alloc (.cells #[.int .i64 0,.string ⟨#[]⟩] 44):=⟨_,rfl⟩
 have hb0:Below w.heap.size w W0:=by rw [hW0];exact bel_by
 have hX:Blk W0 w.heap.size 30 cv:=by rw [hW0];exact (Blk.new w _ _).alloc _
 have hR0:Blk W0 (w.heap.size+1) 44 #[.int .i64 0,.string ⟨#[]⟩]:=by rw [hW0];exact blk_new2 w _ _ _
 have hsz0:W0.heap.size=w.heap.size+2:=by rw [hW0];simp
 obtain ⟨W1,hW1⟩:∃W1,W1=W0.alloc (.cells (cv++#[Value.string sid,.int .i64 (0:Nat),.int .i64 (0:Nat)]) 58):=⟨_,rfl⟩
 have hb1:Below W0.heap.size W0 W1:=by rw [hW1];exact bel_newF _
 have hl:=hcv.len
 have hS1:RSv W1 W0.heap.size cv sid ⟨0,0⟩:=⟨by have:=hl;simpa using this,by rw [hW1];exact Blk.new W0 _ _⟩
 have hX1:=hX.below hb1 hX.lt
 have hR1:=hR0.below hb1 hR0.lt
 have hb01:=hb0.trans (hb1.mono hb0.size)
 have HC:=hide (c.rcheck (h.below hb01) u0 u1 u2)
 rw [hcv.val] at HC
 have p0:=(hX1.cell 0).trans hcv.p0
 have HI:=hide (fun (ps:List (List UInt8)) (k:Int) (hs:(atL ps).length≤1000000) (V:World)=>rin_any k ps hs V)
 have HFi:=hide (fun (V:World)=>rfine_any V)
 have HG:=hide (And.intro hb01 (And.intro hR1 (And.intro hS1 hX1)))
 have hE1:=fun ps k (he:c.err=some (ps,k))=>newE_e (no:=no) he
 have hE2:=fun (he:c.err=none) h2=>newE_a (no:=no) he h2
 have hE3:=fun (he:c.err=none) h2 h3=>newE_o (no:=no) he h2 h3
 have hCk:ErrOk 3 c.err:=errOk_C _ _ _ _ _ _ _ _ _ _ _ _ _ _
 have hne:W0.heap.size≠w.heap.size+1:=by omega
 have hle:w.heap.size≤W0.heap.size:=by omega
 unfold RNw
 generalize newE c no=o at hE1 hE2 hE3 ⊢
 generalize hce:c.err=ce at HC hE1 hE2 hE3 hCk
 generalize c.sv=sv at p0 hE2 hE3
 have HE:=hide (And.intro hE1 (And.intro hE2 (And.intro hE3 hCk)))
 have Hsz:=hide (And.intro hne hle)
 clear hb0 hb1 hR0 hS1 hR1 hb01 h hcv u0 u1 u2 hce hE1 hE2 hE3 hCk hsz0 hne hle hX1
 go_enter Tryz.func29,Tryz.ntmps29
 go_upto_region 1 with fail
 rw [←hW0]
 clear hW0
 refine wp_region_lit ?_
 refine wpList_load_conf rfl (.tmp 2) rfl (by rfl) hX hl ?_
 try simp only [Act.put,List.setIfInBounds_toArray,List.set_cons_zero,List.set_cons_succ]
 refine wpList_val (v:=.string sid) (w':=W0) rfl (by go_simp) ?_
 try simp only [Act.put,List.setIfInBounds_toArray,List.set_cons_zero,List.set_cons_succ]
 refine wpList_val (v:=.agg (cv++#[Value.string sid,.int .i64 (0:Nat),.int .i64 (0:Nat)])) (w':=W0) rfl (build_srv _ rfl _ (by rfl) (by rfl) hl _) ?_
 try simp only [Act.put,List.setIfInBounds_toArray,List.set_cons_zero,List.set_cons_succ]
 generalize (cv++#[Value.string sid,.int .i64 (0:Nat),.int .i64 (0:Nat)])=cs at hW1 ⊢
 refine wpList_val (v:=.pointer (some ⟨W0.heap.size,0,none⟩)) (w':=W1) rfl (by rw [hW1];go_simp) ?_
 try simp only [Act.put,List.setIfInBounds_toArray,List.set_cons_zero,List.set_cons_succ]
 clear hW1 hX
 generalize W0.heap.size=bq at HG Hsz ⊢
 go_upto_region 2 with fail
 have hX1:=HG.out.2.2.2
 refine wp_region_lit ?_
 refine wpList_load_conf rfl (.tmp 2) rfl (by rfl) hX1 hl ?_
 try simp only [Act.put,List.setIfInBounds_toArray,List.set_cons_zero,List.set_cons_succ]
 refine wpList_call_ (f:=64) rfl (by go_simp) HC.out ?_
 rintro e w2 ⟨rfl,hb2⟩
 refine ⟨_,rfl,?_⟩
 try simp only [Act.put,List.setIfInBounds_toArray,List.set_cons_zero,List.set_cons_succ]
 have hR2:=HG.out.2.1.below hb2 HG.out.2.1.lt
 have hS2:=HG.out.2.2.1.below hb2
 have x0:=cellB hb2 p0
 have HB2:=hide (And.intro (HG.out.1.trans (hb2.mono HG.out.1.size)) (And.intro hR2 hS2))
 clear hX1 hl HC hb2 HG p0
 rcases ce with _ | ⟨ps,k⟩
 ·simp only [errK,errS]
  have z0:=hR2.cell 0;have z1:=hR2.cell 1;have fz0:=hR2.frozen 0;have fz1:=hR2.frozen 1
  simp at z0 z1
  have HI0:=hide (fun (V:World)=>HI.out [] 1 (by decide) V)
  rw [show bs (atL ([]:List (List UInt8)))=⟨#[]⟩ from rfl] at HI0
  have HIy:=hide (show bs (atL [authsL])=bs (atL [authsL]) from rfl)
  generalize hyy:bs (atL [authsL])=yy at HI0
  have Hyy:=hide hyy
  clear HI HIy hyy
  cases sv with
  | false =>
   have E:=hide (HE.out.2.1 rfl (.inl rfl))
   clear HE HFi
   go_wp2_with fail
   refine (HI0.out _).mono ?_
   rintro e w3 ⟨rfl,hb3⟩
   have hR3:=HB2.out.2.1.below hb3 HB2.out.2.1.lt
   have hS3:=HB2.out.2.2.below hb3
   have z0:=hR3.cell 0
   have z1:=hR3.cell 1
   have fz0:=hR3.frozen 0
   have fz1:=hR3.frozen 1
   simp at z0 z1
   have HB3:=hide (And.intro (HB2.out.1.trans (hb3.mono HB2.out.1.size)) (And.intro hR3 hS3))
   go_wp2_with fail
   obtain ⟨hb9,hR9,hS9⟩:=HB3.out
   have hF:=two_fin hR9 (.int .i64 1) (.string yy)
   have q2:=hF.cell 0
   have q3:=hF.cell 1
   simp at q2 q3
   refine bodyPost_ret (v:=.tuple #[.pointer (some ⟨bq,0,none⟩),.agg #[.int .i64 1,.string yy]]) (by simp [results,Tryz.results29,go_sem,q2,q3]) rfl ?_
   rw [E.out]
   exact ⟨bq,yy,rfl,Hyy.out.symm,(hS9.far (p:=⟨w.heap.size+1,0,none⟩) Hsz.out.1 _).far (p:=⟨w.heap.size+1,1,none⟩) Hsz.out.1 _,Hsz.out.2,(hb9.setCell (p:=⟨w.heap.size+1,0,none⟩) (Nat.le_succ _) _).setCell (p:=⟨w.heap.size+1,1,none⟩) (Nat.le_succ _) _⟩
  | true =>
   cases no with
   | true =>
    have E:=hide (HE.out.2.1 rfl (.inr rfl))
    clear HE HFi
    go_wp2_with fail
    refine (HI0.out _).mono ?_
    rintro e w3 ⟨rfl,hb3⟩
    have hR3:=HB2.out.2.1.below hb3 HB2.out.2.1.lt
    have hS3:=HB2.out.2.2.below hb3
    have z0:=hR3.cell 0
    have z1:=hR3.cell 1
    have fz0:=hR3.frozen 0
    have fz1:=hR3.frozen 1
    simp at z0 z1
    have HB3:=hide (And.intro (HB2.out.1.trans (hb3.mono HB2.out.1.size)) (And.intro hR3 hS3))
    go_wp2_with fail
    obtain ⟨hb9,hR9,hS9⟩:=HB3.out
    have hF:=two_fin hR9 (.int .i64 1) (.string yy)
    have q2:=hF.cell 0
    have q3:=hF.cell 1
    simp at q2 q3
    refine bodyPost_ret (v:=.tuple #[.pointer (some ⟨bq,0,none⟩),.agg #[.int .i64 1,.string yy]]) (by simp [results,Tryz.results29,go_sem,q2,q3]) rfl ?_
    rw [E.out]
    exact ⟨bq,yy,rfl,Hyy.out.symm,(hS9.far (p:=⟨w.heap.size+1,0,none⟩) Hsz.out.1 _).far (p:=⟨w.heap.size+1,1,none⟩) Hsz.out.1 _,Hsz.out.2,(hb9.setCell (p:=⟨w.heap.size+1,0,none⟩) (Nat.le_succ _) _).setCell (p:=⟨w.heap.size+1,1,none⟩) (Nat.le_succ _) _⟩
   | false =>
    have E:=hide (HE.out.2.2.1 rfl rfl rfl)
    clear HE HI0
    go_wp2_with fail
    refine (HFi.out _).mono ?_
    rintro e w3 ⟨rfl,hb3⟩
    have hR3:=HB2.out.2.1.below hb3 HB2.out.2.1.lt
    have hS3:=HB2.out.2.2.below hb3
    have z0:=hR3.cell 0
    have z1:=hR3.cell 1
    have fz0:=hR3.frozen 0
    have fz1:=hR3.frozen 1
    simp at z0 z1
    have HB3:=hide (And.intro (HB2.out.1.trans (hb3.mono HB2.out.1.size)) (And.intro hR3 hS3))
    go_wp2_with fail
    obtain ⟨hb9,hR9,hS9⟩:=HB3.out
    have hF:=two_fin hR9 (.int .i64 0) (.string ⟨#[]⟩)
    have q2:=hF.cell 0
    have q3:=hF.cell 1
    simp at q2 q3
    refine bodyPost_ret (v:=.tuple #[.pointer (some ⟨bq,0,none⟩),.agg #[.int .i64 0,.string ⟨#[]⟩]]) (by simp [results,Tryz.results29,go_sem,q2,q3]) rfl ?_
    rw [E.out]
    exact ⟨bq,⟨#[]⟩,rfl,rfl,(hS9.far (p:=⟨w.heap.size+1,0,none⟩) Hsz.out.1 _).far (p:=⟨w.heap.size+1,1,none⟩) Hsz.out.1 _,Hsz.out.2,(hb9.setCell (p:=⟨w.heap.size+1,0,none⟩) (Nat.le_succ _) _).setCell (p:=⟨w.heap.size+1,1,none⟩) (Nat.le_succ _) _⟩
 ·simp only [errK,errS]
  have E:=hide (HE.out.1 ps k rfl)
  have hk:=HE.out.2.2.2 ps k rfl
  have ek:(k != 0)=true:=by rw [bne_iff_ne];exact hk.1
  have HI0:=hide (fun (V:World)=>HI.out ps k (Nat.le_trans (atL_len hk.2.2) (Nat.le_trans (Nat.mul_le_mul_right 1001 hk.2.1) (by decide))) V)
  generalize bs (atL ps)=xx at HI0 ⊢
  generalize hyy:bs (atL (authsL :: ps))=yy at HI0
  have Hyy:=hide hyy
  clear HI hyy HFi HE hk
  go_wp2_with fail
  refine (HI0.out _).mono ?_
  rintro e w3 ⟨rfl,hb3⟩
  have hR3:=HB2.out.2.1.below hb3 HB2.out.2.1.lt
  have hS3:=HB2.out.2.2.below hb3
  have z0:=hR3.cell 0
  have z1:=hR3.cell 1
  have fz0:=hR3.frozen 0
  have fz1:=hR3.frozen 1
  simp at z0 z1
  have HB3:=hide (And.intro (HB2.out.1.trans (hb3.mono HB2.out.1.size)) (And.intro hR3 hS3))
  go_wp2_with fail
  obtain ⟨hb9,hR9,hS9⟩:=HB3.out
  have hF:=two_fin hR9 (.int .i64 k) (.string yy)
  have q2:=hF.cell 0
  have q3:=hF.cell 1
  simp at q2 q3
  refine bodyPost_ret (v:=.tuple #[.pointer (some ⟨bq,0,none⟩),.agg #[.int .i64 k,.string yy]]) (by simp [results,Tryz.results29,go_sem,q2,q3]) rfl ?_
  rw [E.out]
  exact ⟨bq,yy,rfl,Hyy.out.symm,(hS9.far (p:=⟨w.heap.size+1,0,none⟩) Hsz.out.1 _).far (p:=⟨w.heap.size+1,1,none⟩) Hsz.out.1 _,Hsz.out.2,(hb9.setCell (p:=⟨w.heap.size+1,0,none⟩) (Nat.le_succ _) _).setCell (p:=⟨w.heap.size+1,1,none⟩) (Nat.le_succ _) _⟩
end
def sidO (s:ByteArray):Option Tm:=if (s.toList == ([]:List UInt8))=true then none else tHash (tData s)
theorem data_some {s:ByteArray} (hs:s.size≤300):tData s=some (.mk 1 0 0 s []):=by
 refine lim_small ?_
 have h:s.data.toList.length=s.size:=size_len s
 unfold enc
 simp only [encs,head,mid,List.append_nil,List.length_append,List.length_cons,List.length_nil,q4_len]
 omega
theorem hash_some {s:ByteArray} (hs:s.size≤300):tHash (tData s)=some (.mk 7 0 0 eB [.mk 1 0 0 s []]):=by
 rw [data_some hs]
 refine lim_small ?_
 have h:s.data.toList.length=s.size:=size_len s
 unfold enc
 simp only [encs,enc,head,mid,List.append_nil,List.length_append,List.length_cons,List.length_nil,q4_len]
 omega
theorem sidO_k {s:ByteArray} (hs:s.size≤300):∀t,sidO s=some t→t.k≠0:=fun t h=>by
 unfold sidO at h
 split at h
 ·cases h
 ·rw [hash_some hs] at h
  cases h
  show (7:Nat)≠0
  decide
theorem sidO_no {s:ByteArray} (hs:s.size≤300):(sidO s=none)↔(s.toList == ([]:List UInt8))=true:=by
 unfold sidO
 split
 ·rename_i h
  exact ⟨fun _=>h,fun _=>rfl⟩
 ·rename_i h
  rw [hash_some hs]
  exact ⟨fun h2=>(by cases h2),fun h2=>absurd h2 h⟩
def DoB (w0:World) (B g:Nat) (T:List Tm) (S:Nat→Prop) (W0:World) (o:Option Tm) (e:Ending) (w':World):Prop :=
 ∃T' n S',e=.returned (.int .i64 n)∧Idn T' o n∧T <+: T'∧T'.length≤T.length+1∧Pay w0 B g T' S' w'∧Grown S W0 S' w'
section
variable {w0 W0 w : World} {B g : Nat} {T : List Tm} {S : Nat → Prop} {n : Int}
theorem data_base (hP:Pay w0 B g T S W0) {s:ByteArray} (hs:s.size≤1000000) (hT:T.length≤900000) {V:World} (hb:Below W0.heap.size W0 V):Calls Tryz.prog 25 #[.pointer (some ⟨g,0,none⟩),.string s] V (DoB w0 B g T S W0 (tData s)) :=
 (aData_any (hP.use.below hb) hs).mono fun e w' ⟨T',n,S',he,hpt,hA,hG⟩=>⟨T',n,S',he,hpt.idn,hpt.pre,hpt.len,(hP.below hb).grown hG hA (by have:=hpt.len;omega),(Grown.of_below hb).trans hG⟩
theorem hash_base (hP:Pay w0 B g T S W0) {o:Option Tm} (hid:Idn T o n) (hT:T.length≤900000) {V:World} (hb:Below W0.heap.size W0 V):Calls Tryz.prog 26 #[.pointer (some ⟨g,0,none⟩),.int .i64 n] V (DoB w0 B g T S W0 (tHash o)):=by
 have h:=aHash_any (hP.use.below hb) n
 rw [hid.1] at h
 exact h.mono fun e w' ⟨T',n,S',he,hpt,hA,hG⟩=>⟨T',n,S',he,hpt.idn,hpt.pre,hpt.len,(hP.below hb).grown hG hA (by have:=hpt.len;omega),(Grown.of_below hb).trans hG⟩
def ANw (w0:World) (B g:Nat) (c:CfP) (no:Bool) (n:Int) (sid:Option Tm) (T:List Tm) (S:Nat→Prop) (w:World) (e:Ending) (w':World):Prop :=
 ∃p er,e=.returned (.tuple #[.pointer p,er])∧ErV w' (newE c no) er∧Below w.heap.size w w'∧(newE c no≠none→p=none) ∧
  (newE c no=none→∃bs_ bg hi A9 c9 A8 c8,p=some ⟨bs_,0,none⟩∧SrvM w0 B g w.heap.size hi bs_ bg A9 c9 c.gr A8 c8 c.al c.lim n sid T S ⟨0,0⟩ w')
theorem anew_any (c:CfP) {cv:Array Value} (hcv:CvP c cv) (hM:MethV w) (hW:WordV w) (h:c.M w) (hP:Pay w0 B g T S w) {sid:Option Tm} (hid:Idn T sid n) {no:Bool} (hno:sid=none↔no=true) (hk:∀t,sid=some t→t.k≠0) :
  Calls Tryz.prog 24 #[.pointer (some ⟨g,0,none⟩),.agg cv,.int .i64 n] w (ANw w0 B g c no n sid T S w):=by
 rcases or_opt c.err with he | ⟨⟨ps,k⟩,he⟩
 ·by_cases hs:c.sv=false∨sid=none
  ·have hE:=newE_a he (hs.imp id hno.1)
   refine (anew_arg c hcv hM hW h hP.ar hid he hs).mono ?_
   rintro e w' ⟨b,rfl,hi,hb⟩
   refine ⟨none,errV b,rfl,by rw [hE];exact hi,hb,fun _=>rfl,fun h9=>?_⟩
   rw [hE] at h9
   cases h9
  ·have hs1:c.sv=true:=by
    cases hq:c.sv with
    | true=>rfl
    | false=>exact absurd (.inl hq) hs
   cases hsd:sid with
   | none=>exact absurd (.inr hsd) hs
   | some t =>
    have hnf:no=false:=by
     cases hq:no with
     | false=>rfl
     | true=>rw [hno.2 hq] at hsd;cases hsd
    have hE:=newE_o he hs1 hnf
    rw [←hsd]
    refine (anew_ok c hcv hM hW h hP hid he hs1 hsd (hk t hsd)).mono ?_
    rintro e w' ⟨bs_,bg,hi,A9,c9,A8,c8,rfl,hS,hb⟩
    exact ⟨_,_,rfl,by rw [hE];rfl,hb,fun h9=>absurd hE h9,fun _=>⟨bs_,bg,hi,A9,c9,A8,c8,rfl,hS⟩⟩
 ·have hE:=newE_e (no:=no) he
  refine (anew_bad c hcv hM hW h _ n he).mono ?_
  rintro e w' ⟨b,rfl,hi,hb⟩
  refine ⟨none,errV b,rfl,by rw [hE];exact hi,hb,fun _=>rfl,fun h9=>?_⟩
  rw [hE] at h9
  cases h9
theorem Grown.setNew {w w8 w9:World} {S S':Nat→Prop} {r:Nat} (h:Grown S w S' w8) (k:w8.grownBy w9 (some r)) (hr:w.heap.size≤r):Grown S w S' w9 :=
 ⟨k.os.trans h.os,k.tape.trans h.tape,k.output.trans h.output,Nat.le_trans h.size k.size,fun i hi hn=>(k.block i (Nat.lt_of_lt_of_le hi h.size) (fun e=>by have:=Option.some.inj e;omega)).trans (h.block i hi hn),h.sub,h.new⟩
theorem ErV.own {w w':World} {r:Nat} {t:TypeId} {cs:Array Value} {o:Option (List (List UInt8) × Int)} {v:Value} (h:ErV w o v) (hr:Blk w r t cs) (hne:t≠137) (k:w.grownBy w' (some r)):ErV w' o v:=by
 cases o with
 | none=>exact h
 | some x=>exact IsErr.own hr hne k h
theorem ErV.below {w w':World} {o:Option (List (List UInt8) × Int)} {v:Value} (h:ErV w o v) (hb:Below w.heap.size w w'):ErV w' o v:=by
 cases o with
 | none=>exact h
 | some x=>exact IsErr.below hb h
theorem RSv.grown {w w':World} {b r:Nat} {cv:Array Value} {sid:ByteArray} {s:SvS} (h:RSv w b cv sid s) (k:w.grownBy w' (some r)) (hne:b≠r):RSv w' b cv sid s:=⟨h.size,h.blk.grown k (fun e=>hne (Option.some.inj e))⟩
theorem SrvM.rowLo {w0 W W':World} {B g lo hi bs_ bg:Nat} {A9 A8:Option Addr} {c9 c8:Nat} {gr:List (List UInt8 × Int)} {al:List (List UInt8)} {lim n:Int} {sid:Option Tm} {T:List Tm} {S:Nat→Prop} {s:SvS} (h:SrvM w0 B g lo hi bs_ bg A9 c9 gr A8 c8 al lim n sid T S s W) {b:Nat} (k:W.grownBy W' (some b)) (hn:¬ S b) (hB:B≤b) (hb:b<lo):SrvM w0 B g lo hi bs_ bg A9 c9 gr A8 c8 al lim n sid T S s W' :=
 { h with pay:=h.pay.kept k hn hB,hiw:=Nat.le_trans h.hiw k.size,sb:=h.sb.grown k (fun e=>by have:=Option.some.inj e;have:=h.los;omega),gb:=h.gb.grown k (fun e=>by have:=Option.some.inj e;have:=h.log;omega),r9:=h.r9.kept k (.inr (fun e=>by have:=(h.r9.lt _ e).1;omega)),r8:=h.r8.kept k (.inr (fun e=>by have:=(h.r8.lt _ e).1;omega)) }
structure SetR (w0:World) (B g:Nat) (c:CfP) (sid:ByteArray) (cv:Array Value) (T:List Tm) (S:Nat→Prop) (w:World) (n:Int) (p:Option Addr) (er:Value) (bq:Nat) (T':List Tm) (S':Nat→Prop) (w':World):Prop where
 er:ErV w' (newE c (sid.toList == ([]:List UInt8))) er
 id:Idn T' (sidO sid) n
 pre:T <+: T'
 len:T'.length≤T.length+2
 pay:Pay w0 B g T' S' w'
 gr:Grown S w S' w'
 ref:RSv w' bq cv (bs (txt (sidO sid))) ⟨0,0⟩
 lb:w.heap.size≤bq
 sb:∀i,S' i→i<bq
 no:newE c (sid.toList == ([]:List UInt8))≠none→p=none
 ok:newE c (sid.toList == ([]:List UInt8))=none→∃lo hi bs_ bg A9 c9 A8 c8,w.heap.size≤lo∧hi≤bq∧p=some ⟨bs_,0,none⟩∧SrvM w0 B g lo hi bs_ bg A9 c9 c.gr A8 c8 c.al c.lim n (sidO sid) T' S' ⟨0,0⟩ w'
def SetP (w0:World) (B g:Nat) (c:CfP) (sid:ByteArray) (cv:Array Value) (T:List Tm) (S:Nat→Prop) (w:World) (e:Ending) (w':World):Prop :=
 ∃n p er bq y T' S',e=.returned (.tuple #[.pointer p,.int .i64 n,er,.pointer (some ⟨bq,0,none⟩),.agg #[.int .i64 (errK (newE c (sid.toList == ([]:List UInt8)))),.string y]])∧y=bs (errS (newE c (sid.toList == ([]:List UInt8))))∧SetR w0 B g c sid cv T S w n p er bq T' S' w'
theorem setnew_any (c:CfP) {cv:Array Value} (hcv:CvP c cv) (hM:MethV w0) (hW:WordV w0) (h:c.M w0) (u0:IntKind.i64.wrap c.q0=c.q0) (u1:IntKind.i64.wrap c.q1=c.q1) (u2:IntKind.i64.wrap c.q2=c.q2) (hP:Pay w0 B g T S w) (hT:T.length≤800000) (sid:ByteArray) (hs:sid.size≤300) :
  Calls Tryz.prog 8 #[.agg (cv++#[Value.string sid]),.pointer (some ⟨g,0,none⟩)] w (SetP w0 B g c sid cv T S w):=by
 obtain ⟨W0,hW0⟩:∃W0,W0=(w.alloc (.cells (cv++#[Value.string sid]) 32)).alloc (.cells #[.int .i64 0,.string ⟨#[]⟩] 44):=⟨_,rfl⟩
 have hb0:Below w.heap.size w W0:=by rw [hW0];exact bel_by
 have hX:StB W0 w.heap.size cv sid:=⟨by rw [hW0];exact (Blk.new w _ _).alloc _,hcv.len⟩
 have hR0:Blk W0 (w.heap.size+1) 44 #[.int .i64 0,.string ⟨#[]⟩]:=by rw [hW0];exact blk_new2 w _ _ _
 have x23:=hX.sid_
 have nS:∀k,¬ S (w.heap.size+k):=fun k h9=>by have:=hP.ar.sL _ h9;omega
 have HP:=hide (hP.below hb0)
 have HPB:=hide hP.use.base
 have HA:=hide (fun (V:World) {T':List Tm} {S':Nat→Prop} {n:Int} (hP':Pay w0 B g T' S' V) (hid:Idn T' (sidO sid) n)=>anew_any c hcv (hM.below hP'.bel) (hW.below hP'.bel) (h.below hP'.bel) hP' hid (sidO_no hs) (sidO_k hs))
 have HN:=hide (fun (V:World) (hb:Below w0.heap.size w0 V) (t:ByteArray) (hno:(t.toList == ([]:List UInt8))=(sid.toList == ([]:List UInt8)))=>rnew28_any c (h.below hb) u0 u1 u2 hcv t _ hno)
 have Hb0:=hide hb0
 generalize hcx:cv++#[Value.string sid]=cx at hW0
 clear hM hW h hcv hP hb0 hcx
 go_enter Tryz.func8,Tryz.ntmps8
 go_upto_region 1 with fail
 rw [←hW0]
 clear hW0
 cases hq:(sid.toList == ([]:List UInt8)) with
 | true =>
  have Hid5:=hide (show Idn T (sidO sid) (-1) from by rw [show sidO sid=none from (sidO_no hs).2 hq];exact idn_none T)
  have Hno:=hide (show ((bs (txt (sidO sid))).toList == ([]:List UInt8))=(sid.toList == ([]:List UInt8)) from by rw [show sidO sid=none from (sidO_no hs).2 hq,hq,bs_toList];rfl)
  obtain ⟨tx5,htx5⟩:∃x,x=bs (txt (sidO sid)):=⟨_,rfl⟩
  have et:tx5=⟨#[]⟩:=by rw [htx5,show sidO sid=none from (sidO_no hs).2 hq];rfl
  rw [←htx5] at Hno
  have HG5:=hide (Grown.of_below (S:=S) Hb0.out)
  have HA5:=hide (HA.out W0 HP.out Hid5.out)
  have Hl5:=hide (show T <+: T∧T.length≤T.length+2 from ⟨List.prefix_refl _,by omega⟩)
  have HP5:=hide HP.out
  have hX5:=hX
  have hR5:=hR0
  have hlo5:w.heap.size+2≤W0.heap.size:=hR0.lt
  rw [et] at Hno
  have Htx:=hide (htx5.symm.trans et)
  clear htx5 et tx5 HP
  go_upto_region 4 with fail
  refine wp_region_lit ?_
  refine wpList_valG (v:=.pointer (some ⟨g,0,none⟩)) (w':=W0) (by rfl) (by first | rfl | go_simp) ?_
  try simp only [Act.put,List.setIfInBounds_toArray,List.set_cons_zero,List.set_cons_succ]
  refine wpList_valG (v:=.pointer (some ⟨w.heap.size,0,none⟩)) (w':=W0) (by rfl) (by first | rfl | go_simp) ?_
  try simp only [Act.put,List.setIfInBounds_toArray,List.set_cons_zero,List.set_cons_succ]
  refine wpList_load_cf (by rfl) (.tmp 30) rfl (by rfl) hX5 ?_
  try simp only [Act.put,List.setIfInBounds_toArray,List.set_cons_zero,List.set_cons_succ]
  refine wpList_valG (v:=.int .i64 (-1)) (w':=W0) (by rfl) (by first | rfl | go_simp) ?_
  try simp only [Act.put,List.setIfInBounds_toArray,List.set_cons_zero,List.set_cons_succ]
  refine wpList_callG (f:=24) (by rfl) (by first | rfl | go_simp) HA5.out ?_
  rintro e w6 ⟨p,er,rfl,her,hb6,hpn,hpo⟩
  refine ⟨_,rfl,?_⟩
  try simp only [Act.put,List.setIfInBounds_toArray,List.set_cons_zero,List.set_cons_succ]
  have hX6:=hX5.below hb6
  have hR6:=hR5.below hb6 hR5.lt
  have HP6:=hide (HP5.out.below hb6)
  have HG6:=hide (HG5.out.trans (Grown.of_below hb6))
  have HN6:=hide (HN.out w6 HP6.out.bel _ Hno.out)
  have HO:=hide (And.intro her (And.intro hpn hpo))
  clear her hb6 hpn hpo hX5 hR5 HA5 HN HP5 HG5 HA
  go_upto_region 5 with fail
  refine wp_region_lit ?_
  refine wpList_valG (v:=.pointer (some ⟨w.heap.size,0,none⟩)) (w':=w6) (by rfl) (by first | rfl | go_simp) ?_
  try simp only [Act.put,List.setIfInBounds_toArray,List.set_cons_zero,List.set_cons_succ]
  refine wpList_load_cf (by rfl) (.tmp 37) rfl (by rfl) hX6 ?_
  try simp only [Act.put,List.setIfInBounds_toArray,List.set_cons_zero,List.set_cons_succ]
  refine wpList_valG (v:=.string ⟨#[]⟩) (w':=w6) (by rfl) (by first | rfl | go_simp) ?_
  try simp only [Act.put,List.setIfInBounds_toArray,List.set_cons_zero,List.set_cons_succ]
  refine wpList_callG (f:=29) (by rfl) (by first | rfl | go_simp) HN6.out ?_
  rintro e w7 ⟨bq,y,rfl,hy,hRS,hlb,hb7⟩
  refine ⟨_,rfl,?_⟩
  try simp only [Act.put,List.setIfInBounds_toArray,List.set_cons_zero,List.set_cons_succ]
  generalize hkk:errK (newE c (sid.toList == ([]:List UInt8)))=kk
  have Hkk:=hide hkk
  clear hkk
  obtain ⟨w8,hw8⟩:∃W8,W8=w7.alloc (.cells #[.int .i64 kk,.string y] 44):=⟨_,rfl⟩
  have hb8:Below w7.heap.size w7 w8:=by rw [hw8];exact bel_newF _
  have hB8:Blk w8 w7.heap.size 44 #[.int .i64 kk,.string y]:=by rw [hw8];exact Blk.new w7 _ _
  have hR8:=(hR6.below hb7 hR6.lt).below hb8 (hR6.below hb7 hR6.lt).lt
  have z0:=hR8.cell 0
  have z1:=hR8.cell 1
  have fz0:=hR8.frozen 0
  have fz1:=hR8.frozen 1
  have v0:=hB8.cell 0
  have v1:=hB8.cell 1
  simp only [List.getElem?_toArray,List.getElem?_cons_zero,List.getElem?_cons_succ] at z0 z1 v0 v1
  have hne7:w.heap.size+1≠w7.heap.size:=by have:=(hR6.below hb7 hR6.lt).lt;omega
  have HF:=hide (And.intro hy (And.intro (hRS.below hb8) (And.intro hlb (And.intro (hb7.trans (hb8.mono hb7.size)) hR8))))
  have hbq:bq<w7.heap.size:=hRS.blk.lt
  have hs67:=hb7.size
  have hltR:=hR6.lt
  clear hy hRS hlb hb7 hb8 hR6 hX6 HN6 hR8 hB8
  go_upto_region 6 with fail
  rw [←hw8]
  clear hw8
  generalize w7.heap.size=b7 at v0 v1 hne7 hbq hs67 ⊢
  go_region
  go_wp2_with fail
  obtain ⟨hy,hRS8,hlb,hb68,hR8⟩:=HF.out
  obtain ⟨her,hpn,hpo⟩:=HO.out
  have hF9:=(two_fin hR8 (.int .i64 kk) (.string y)).below ((Below.refl _ _).drew) (two_fin hR8 (.int .i64 kk) (.string y)).lt
  have q2:=hF9.cell 0
  have q3:=hF9.cell 1
  simp only [List.getElem?_toArray,List.getElem?_cons_zero,List.getElem?_cons_succ] at q2 q3
  have k9:w8.grownBy ((w8.setCell ⟨w.heap.size+1,0,none⟩ (.int .i64 kk)).setCell ⟨w.heap.size+1,1,none⟩ (.string y)).drew (some (w.heap.size+1)):=only_trans (only_setCell (p:=⟨w.heap.size+1,1,none⟩) (only_setCell (p:=⟨w.heap.size+1,0,none⟩) (only_refl w8 (some (w.heap.size+1))) (.inl rfl) (.int .i64 kk)) (.inl rfl) (.string y)) (only_of_below ((Below.refl _ _).drew) (some (w.heap.size+1)))
  refine bodyPost_ret (v:=.tuple #[.pointer p,.int .i64 (-1),er,.pointer (some ⟨bq,0,none⟩),.agg #[.int .i64 kk,.string y]]) (by simp [results,Tryz.results8,go_sem,q2,q3]) rfl ?_
  have hn6:¬ S (w.heap.size+1):=nS 1
  have hP8:=HP6.out.below hb68
  have hB1:B≤w.heap.size+1:=by have:=HPB.out;omega
  refine ⟨(-1),p,er,bq,y,T,S,by rw [Hkk.out],hy,((her.below hb68).own hR8 (by decide) k9),Hid5.out,Hl5.out.1,Hl5.out.2,hP8.kept k9 hn6 hB1,(HG6.out.trans (Grown.of_below hb68)).setNew k9 (Nat.le_succ _),(by rw [Htx.out];exact hRS8.grown k9 (by omega)),by omega,fun i hi=>by have:=HP6.out.ar.sL i hi;omega,hpn,fun h9=>?_⟩
  obtain ⟨bs_,bg,hi,A9,c9,A8,c8,hp,hSv⟩:=hpo h9
  exact ⟨W0.heap.size,hi,bs_,bg,A9,c9,A8,c8,(by omega),Nat.le_trans hSv.hiw hlb,hp,(hSv.below hb68).rowLo k9 hn6 hB1 (by omega)⟩
 | false =>
  have hsr:sidO sid=tHash (tData sid):=by unfold sidO;rw [hq];rfl
  have HD:=hide (fun (V:World) (hb:Below W0.heap.size W0 V)=>data_base HP.out (s:=sid) (by omega) (by omega) hb)
  have HH:=hide (fun (V Vb:World) (T2:List Tm) (S2:Nat→Prop) (n2:Int) (hP2:Pay w0 B g T2 S2 Vb) (hi:Idn T2 (tData sid) n2) (hT2:T2.length≤900000) (hb:Below Vb.heap.size Vb V)=>hash_base hP2 hi hT2 hb)
  have HRd:=hide (fun (V:World)=>show Calls Tryz.prog 28 #[.string sid] V (Says (txt (tData sid)) V) from (by have h9:=rData_any sid.data.toList V (by rw [size_len];omega);rwa [bs_of] at h9))
  have HRh:=hide (fun (V:World)=>rHash_any (o:=tData sid) (tData_fine (by omega)) V)
  go_upto_region 3 with fail
  go_region_held3 (fun V=>V.cell? ⟨w.heap.size,23,none⟩=some (.string sid))
   (exact x23)
   (first
    | (go_at_call 25;refine (HD.out _ (by exact bel_by)).mono ?_;rintro e w2 ⟨T2,n2,S2,rfl,hi2,hp2,hl2,hP2,hG2⟩;replace x23:=hG2.outs.cell x23 (nS 0))
    | (go_at_call 26;refine (HH.out _ w2 T2 S2 n2 hP2 hi2 (by omega) (by exact bel_by)).mono ?_;rintro e w3 ⟨T3,n3,S3,rfl,hi3,hp3,hl3,hP3,hG3⟩;replace x23:=hG3.outs.cell x23 (hG2.notin2 (nS 0) hX.blk.lt))
    | (go_at_call 28;refine (HRd.out _).mono ?_;rintro e w4 ⟨rfl,hb4⟩;replace x23:=cellB hb4 x23)
    | (go_at_call 27;refine (HRh.out _).mono ?_;rintro e w5 ⟨rfl,hb5⟩;replace x23:=cellB hb5 x23)
    | fail)
  have Hno:=hide (show ((bs (txt (tHash (tData sid)))).toList == ([]:List UInt8))=(sid.toList == ([]:List UInt8)) from by rw [hash_some hs,hq,bs_toList];rfl)
  have hXb:=hG3.outs.blk (hG2.outs.blk hX.blk (nS 0)) (hG2.notin2 (nS 0) hX.blk.lt)
  have hX3:StB w3 w.heap.size cv sid:=⟨hXb,hX.size⟩
  have hX5:=(hX3.below hb4).below hb5
  have hR3:=hG3.outs.blk (hG2.outs.blk hR0 (nS 1)) (hG2.notin2 (nS 1) hR0.lt)
  have hb35:=hb4.trans (hb5.mono hb4.size)
  have hR5:=hR3.below hb35 hR3.lt
  have HP5:=hide (hP3.below hb35)
  have HG5:=hide ((((Grown.of_below (S:=S) Hb0.out).trans hG2).trans hG3).trans (Grown.of_below hb35))
  have Hid5:=hide (show Idn T3 (sidO sid) n3 from by rw [hsr];exact hi3)
  have Hl5:=hide (show T <+: T3∧T3.length≤T.length+2 from ⟨hp2.trans hp3,by omega⟩)
  have HA5:=hide (HA.out w5 HP5.out Hid5.out)
  have hS31:¬ S3 (w.heap.size+1):=hG3.notin2 (hG2.notin2 (nS 1) hR0.lt) (Nat.lt_of_lt_of_le hR0.lt hG2.size)
  have hlo5:w.heap.size+2≤w5.heap.size:=by have:=hR5.lt;omega
  clear hi2 hp2 hl2 hP2 hG2 hi3 hp3 hl3 hP3 hG3 hb4 hb5 hb35 hX3 hXb hR3 HD HH HRd HRh x23 HP hX hR0
  go_upto_region 4 with fail
  generalize htx:bs (txt (tHash (tData sid)))=tx5 at Hno ⊢
  have Htx:=hide (show bs (txt (sidO sid))=tx5 from by rw [hsr];exact htx)
  clear htx
  refine wp_region_lit ?_
  refine wpList_valG (v:=.pointer (some ⟨g,0,none⟩)) (w':=w5) (by rfl) (by first | rfl | go_simp) ?_
  try simp only [Act.put,List.setIfInBounds_toArray,List.set_cons_zero,List.set_cons_succ]
  refine wpList_valG (v:=.pointer (some ⟨w.heap.size,0,none⟩)) (w':=w5) (by rfl) (by first | rfl | go_simp) ?_
  try simp only [Act.put,List.setIfInBounds_toArray,List.set_cons_zero,List.set_cons_succ]
  refine wpList_load_cf (by rfl) (.tmp 30) rfl (by rfl) hX5 ?_
  try simp only [Act.put,List.setIfInBounds_toArray,List.set_cons_zero,List.set_cons_succ]
  refine wpList_valG (v:=.int .i64 n3) (w':=w5) (by rfl) (by first | rfl | go_simp) ?_
  try simp only [Act.put,List.setIfInBounds_toArray,List.set_cons_zero,List.set_cons_succ]
  refine wpList_callG (f:=24) (by rfl) (by first | rfl | go_simp) HA5.out ?_
  rintro e w6 ⟨p,er,rfl,her,hb6,hpn,hpo⟩
  refine ⟨_,rfl,?_⟩
  try simp only [Act.put,List.setIfInBounds_toArray,List.set_cons_zero,List.set_cons_succ]
  have hX6:=hX5.below hb6
  have hR6:=hR5.below hb6 hR5.lt
  have HP6:=hide (HP5.out.below hb6)
  have HG6:=hide (HG5.out.trans (Grown.of_below hb6))
  have HN6:=hide (HN.out w6 HP6.out.bel _ Hno.out)
  have HO:=hide (And.intro her (And.intro hpn hpo))
  clear her hb6 hpn hpo hX5 hR5 HA5 HN HP5 HG5 HA
  go_upto_region 5 with fail
  refine wp_region_lit ?_
  refine wpList_valG (v:=.pointer (some ⟨w.heap.size,0,none⟩)) (w':=w6) (by rfl) (by first | rfl | go_simp) ?_
  try simp only [Act.put,List.setIfInBounds_toArray,List.set_cons_zero,List.set_cons_succ]
  refine wpList_load_cf (by rfl) (.tmp 37) rfl (by rfl) hX6 ?_
  try simp only [Act.put,List.setIfInBounds_toArray,List.set_cons_zero,List.set_cons_succ]
  refine wpList_valG (v:=.string tx5) (w':=w6) (by rfl) (by first | rfl | go_simp) ?_
  try simp only [Act.put,List.setIfInBounds_toArray,List.set_cons_zero,List.set_cons_succ]
  refine wpList_callG (f:=29) (by rfl) (by first | rfl | go_simp) HN6.out ?_
  rintro e w7 ⟨bq,y,rfl,hy,hRS,hlb,hb7⟩
  refine ⟨_,rfl,?_⟩
  try simp only [Act.put,List.setIfInBounds_toArray,List.set_cons_zero,List.set_cons_succ]
  generalize hkk:errK (newE c (sid.toList == ([]:List UInt8)))=kk
  have Hkk:=hide hkk
  clear hkk
  obtain ⟨w8,hw8⟩:∃W8,W8=w7.alloc (.cells #[.int .i64 kk,.string y] 44):=⟨_,rfl⟩
  have hb8:Below w7.heap.size w7 w8:=by rw [hw8];exact bel_newF _
  have hB8:Blk w8 w7.heap.size 44 #[.int .i64 kk,.string y]:=by rw [hw8];exact Blk.new w7 _ _
  have hR8:=(hR6.below hb7 hR6.lt).below hb8 (hR6.below hb7 hR6.lt).lt
  have z0:=hR8.cell 0
  have z1:=hR8.cell 1
  have fz0:=hR8.frozen 0
  have fz1:=hR8.frozen 1
  have v0:=hB8.cell 0
  have v1:=hB8.cell 1
  simp only [List.getElem?_toArray,List.getElem?_cons_zero,List.getElem?_cons_succ] at z0 z1 v0 v1
  have hne7:w.heap.size+1≠w7.heap.size:=by have:=(hR6.below hb7 hR6.lt).lt;omega
  have HF:=hide (And.intro hy (And.intro (hRS.below hb8) (And.intro hlb (And.intro (hb7.trans (hb8.mono hb7.size)) hR8))))
  have hbq:bq<w7.heap.size:=hRS.blk.lt
  have hs67:=hb7.size
  have hltR:=hR6.lt
  clear hy hRS hlb hb7 hb8 hR6 hX6 HN6 hR8 hB8
  go_upto_region 6 with fail
  rw [←hw8]
  clear hw8
  generalize w7.heap.size=b7 at v0 v1 hne7 hbq hs67 ⊢
  go_region
  go_wp2_with fail
  obtain ⟨hy,hRS8,hlb,hb68,hR8⟩:=HF.out
  obtain ⟨her,hpn,hpo⟩:=HO.out
  have hF9:=(two_fin hR8 (.int .i64 kk) (.string y)).below ((Below.refl _ _).drew) (two_fin hR8 (.int .i64 kk) (.string y)).lt
  have q2:=hF9.cell 0
  have q3:=hF9.cell 1
  simp only [List.getElem?_toArray,List.getElem?_cons_zero,List.getElem?_cons_succ] at q2 q3
  have k9:w8.grownBy ((w8.setCell ⟨w.heap.size+1,0,none⟩ (.int .i64 kk)).setCell ⟨w.heap.size+1,1,none⟩ (.string y)).drew (some (w.heap.size+1)):=only_trans (only_setCell (p:=⟨w.heap.size+1,1,none⟩) (only_setCell (p:=⟨w.heap.size+1,0,none⟩) (only_refl w8 (some (w.heap.size+1))) (.inl rfl) (.int .i64 kk)) (.inl rfl) (.string y)) (only_of_below ((Below.refl _ _).drew) (some (w.heap.size+1)))
  refine bodyPost_ret (v:=.tuple #[.pointer p,.int .i64 n3,er,.pointer (some ⟨bq,0,none⟩),.agg #[.int .i64 kk,.string y]]) (by simp [results,Tryz.results8,go_sem,q2,q3]) rfl ?_
  have hn6:¬ S3 (w.heap.size+1):=hS31
  have hP8:=HP6.out.below hb68
  have hB1:B≤w.heap.size+1:=by have:=HPB.out;omega
  refine ⟨n3,p,er,bq,y,T3,S3,by rw [Hkk.out],hy,((her.below hb68).own hR8 (by decide) k9),Hid5.out,Hl5.out.1,Hl5.out.2,hP8.kept k9 hn6 hB1,(HG6.out.trans (Grown.of_below hb68)).setNew k9 (Nat.le_succ _),(by rw [Htx.out];exact hRS8.grown k9 (by omega)),by omega,fun i hi=>by have:=HP6.out.ar.sL i hi;omega,hpn,fun h9=>?_⟩
  obtain ⟨bs_,bg,hi,A9,c9,A8,c8,hp,hSv⟩:=hpo h9
  exact ⟨w5.heap.size,hi,bs_,bg,A9,c9,A8,c8,(by omega),Nat.le_trans hSv.hiw hlb,hp,(hSv.below hb68).rowLo k9 hn6 hB1 (by omega)⟩
end
end Go.Proofs.YtkfnepnghnicoaaGreatDoor

/-
  The reference's Request without a signature. Conditions: texts that fit.
-/
import Derived.Test.YtnhekaepgpbijaaGreatDoorJAcKG
import Derived.Test.YtnhekaepgpbijaaGreatDoorJAuApG
import Derived.Test.YtnhekaepgpbijaaGreatDoorJRdrDG
set_option linter.unusedVariables false
set_option linter.unusedSimpArgs false
set_option maxHeartbeats 40000000
set_option maxRecDepth 100000
namespace Go.Proofs.YtnhekaepgpbijaaGreatDoor
open Go.RowKit Go.ChangeShapes Go.WideShapes Go.Sort
theorem I4 {x:Operand} {u:Value} {ts:Array TypeId} (o:Oper) (ho:o.op=.call { callee:=.value (.func 79),args:=#[x],argTypes:=ts }) (a:Act) (hx:a.eval x=u) (w:World):(execOp a.eval o).run Tryz.prog w=.ok (.enter 79 #[u]) w:=by
 obtain ⟨d,op,t,p,af,gd⟩:=o;simp only at ho;subst ho;have h1:a.eval (.func 79)=.func (.func 79) #[] #[]:=rfl;subst hx;go_simp
theorem Bl {P:Program} {Q:Exit→Act→World→Prop} {ops:Array Oper} {o:Oper} {a:Act} {w w':World} {v:Value} {K:Act→World→Prop} {F:Prop} (hgd:o.guard=none)
  (hr:(execOp a.eval o).run P w=.ok (.value v) w') (h:K (a.put o.dst v) w'):if Region.wanted o (yielded ops a.tmps)=true then Oper.wp P o a w K Q else F:=by
 rw [if_pos (by simp [Region.wanted,hgd])];unfold Oper.wp;rw [hr];exact h
theorem QM {x:Operand} {a0 a1 a2 a3:Value} (o:Oper) (ho:o.op=.buildSlice 53 1 #[(0,x)]) (ρ:Operand→Value) (hx:ρ x=.agg #[a0,a1,a2,a3]) (w:World) :
  (execOp ρ o).run Tryz.prog w=.ok (.value (.slice (some ⟨w.heap.size,0,none⟩) 1 1)) (w.alloc (.cells #[a0,a1,a2,a3] 60)):=by
 obtain ⟨d,op,t,p,af,gd⟩:=o;simp only at ho;subst ho;go_simp
theorem SL {x y:Operand} {g n c f:Nat} {A:Option Addr} {T:TypeId} {cs:Array Value} (o:Oper) (ho:o.op=.store 53 x y) (ρ:Operand→Value) (hρ:ρ x=.pointer (some ⟨g,f,none⟩)) (hρ2:ρ y=.slice A n c) (w:World) (hb:Blk w g T cs) (hc:f<cs.size):(execOp ρ o).run Tryz.prog w=.ok .skip (w.setCell ⟨g,f,none⟩ (.slice A n c)):=by
 obtain ⟨d,op,t,p,af,gd⟩:=o;simp only at ho;subst ho;have cc:w.cell? ⟨g,f,none⟩=some cs[f]:=(hb.cell f).trans (Array.getElem?_eq_getElem hc);have cf:=hb.frozen f;go_simp
structure RqM (w:World) (us:List UInt8) (rb mb tb:Nat) (A:Option Addr) (n c:Nat) (l:List Fld) (W:World):Prop where
 bel:Below w.heap.size w W
 m:Blk W mb 55 #[.int .i64 50,.slice A n c]
 own:W.ownsRow w.heap.size 60 4 (.slice A n c) n (l.flatMap iV)
 err:Blk W rb 45 #[.int .i64 0,.string ⟨#[]⟩]
 tx:Blk W tb 9 #[.string (bs us),.string (bs bA),.string (bs dG)]
 ge:w.heap.size≤mb
 hn:l.length=n
section
variable {w W w6 : World} {us : List UInt8} {rb mb tb n c c6 : Nat} {A A6 : Option Addr} {l : List Fld}
theorem RqM.below (h:RqM w us rb mb tb A n c l W) {W':World} (hb:Below W.heap.size W W'):RqM w us rb mb tb A n c l W' :=
 ⟨h.bel.trans (hb.mono h.bel.size),h.m.below hb h.m.lt,bP h.own hb,h.err.below hb h.err.lt,h.tx.below hb h.tx.lt,h.ge,h.hn⟩
theorem RqM.put (h:RqM w us rb mb tb A n c l W) (o:Obj) (x:Fld) (hown:w6.ownsRow w.heap.size 60 4 (.slice A6 (n+1) c6) (n+1) (l.flatMap iV++iV x))
  (hg:(W.alloc o).grownBy w6 (Value.slice A n c).ownBlock):RqM w us rb mb tb A6 (n+1) c6 (l++[x]) (w6.setCell ⟨mb,1,none⟩ (.slice A6 (n+1) c6)):=by
 have hm6:=(h.m.alloc o).grown hg (fun e=>aS h.own h.m (by decide) e.symm);have hset:=hm6.set_ 1 (.slice A6 (n+1) c6);have hown7:=uy hown hm6 (by decide) 1 (.slice A6 (n+1) c6);have he6:=(h.err.alloc o).grown hg (fun e=>aS h.own h.err (by decide) e.symm);have ht6:=(h.tx.alloc o).grown hg (fun e=>aS h.own h.tx (by decide) e.symm);have hb1:=h.bel.trans ((az (w:=W) o).mono h.bel.size);have hb6:=hb1.grown hg hb1.size (fun q e=>(h.own.lt q e).1);refine ⟨hb6.setCell (p:=⟨mb,1,none⟩) h.ge _,by simpa using hset,?_,he6.far (p:=⟨mb,1,none⟩) (Blk.ne_ he6 hm6 (by decide)) _,ht6.far (p:=⟨mb,1,none⟩) (Blk.ne_ ht6 hm6 (by decide)) _,h.ge,by rw [List.length_append,h.hn];rfl⟩;rw [List.flatMap_append];simpa using hown7
def kJ (us:List UInt8):List (List UInt8):=[us,bA,dG]
def txF (l:List (List UInt8)):List Fld:=l.map fun s=>⟨115,0,s,[]⟩
theorem MN {us:List UInt8} {k:Nat} {y:List UInt8} (h:(kJ us)[k]?=some y):txF ((kJ us).take (k+1))=txF ((kJ us).take k)++[⟨115,0,y,[]⟩]:=by
 obtain ⟨hl,he⟩:=List.getElem?_eq_some_iff.1 h;unfold txF;rw [List.take_succ_eq_append_getElem hl,List.map_append,he];rfl
theorem RqM.at_ (h:RqM w us rb mb tb A n c l W) {k:Nat} (hk:k<3):∃y,(kJ us)[k]?=some y∧W.cell? ⟨tb,k,none⟩=some (.string (bs y)):=by
 have:=h.tx.cell k
 match k,hk with
 | 0,_=>exact ⟨_,rfl,this⟩
 | 1,_=>exact ⟨_,rfl,this⟩
 | 2,_=>exact ⟨_,rfl,this⟩
theorem IY {x:Fld} (h:x.s.length≤100000) (hl:x.l=[]):SzF x:=⟨h,by rw [hl];exact Nat.zero_le _,fun y hy=>by rw [hl] at hy;cases hy⟩
end
section
variable {w : World}
theorem Fh {us al b:List UInt8} {who:Int} (hb:encS 50 (gQ us al (txt (gG (dW who))) 0)=.ok b) (hz:us.length≤1000) (hz2:al.length≤1000) (hz3:(txt (gG (dW who))).length≤1000) :
  Calls Tryz.prog 32 #[.string (bs us),.string (bs al),.int .i64 who,.string ⟨#[]⟩] w (fun e w'=>e=.returned (.tuple #[.string (bs b),.agg #[.int .i64 0,.string ⟨#[]⟩]])∧Below w.heap.size w w'):=by
 have HP:=hide (fun (V:World)=>show Calls Tryz.prog 79 #[.int .i64 who] V (fun e w'=>e=.returned (.string (bs (txt (gG (dW who)))))∧Below V.heap.size V w') from E5 who V);obtain ⟨iF,hiF,hF0,hF1,hF2⟩:=dK Dg;generalize txt (gG (dW who))=pk at hb hz3 HP;have Hb:=hide hb;have Hz:=hide (And.intro hz (And.intro hz2 hz3));clear hb hz hz2 hz3
 obtain ⟨w1,hw1⟩:∃W1,W1=w.alloc (.cells #[.int .i64 0,.string ⟨#[]⟩] 45):=⟨_,rfl⟩
 obtain ⟨w2,hw2⟩:∃W2,W2=w1.alloc (.cells #[.int .i64 50,.slice none 0 0] 55):=⟨_,rfl⟩
 obtain ⟨w3,hw3⟩:∃W3,W3=w2.alloc (.cells #[.string (bs us),.string ⟨#[115,115,104,45,99,111,110,110,101,99,116,105,111,110]⟩,.string ⟨#[112,117,98,108,105,99,107,101,121]⟩] 9):=⟨_,rfl⟩
 have s1:w1.heap.size=w.heap.size+1:=by rw [hw1];simp
 have s2:w2.heap.size=w.heap.size+1+1:=by rw [hw2,World.size_alloc,s1]
 have hb1:Below w.heap.size w w1:=by rw [hw1];exact az _
 have hb2:Below w1.heap.size w1 w2:=by rw [hw2];exact az _
 have hb3:Below w2.heap.size w2 w3:=by rw [hw3];exact az _
 have hI:RqM w us w.heap.size (w.heap.size+1) (w.heap.size+1+1) none 0 0 [] w3:=by
  have hr:Blk w1 w.heap.size 45 #[.int .i64 0,.string ⟨#[]⟩]:=by rw [hw1];exact Blk.new w _ _
  have hm:Blk w2 (w.heap.size+1) 55 #[.int .i64 50,.slice none 0 0]:=by rw [hw2,← s1];exact Blk.new w1 _ _
  have ht:Blk w3 (w.heap.size+1+1) 9 #[.string (bs us),.string (bs bA),.string (bs dG)]:=by rw [hw3,← s2];exact Blk.new w2 _ _
  exact ⟨(hb1.trans (hb2.mono hb1.size)).trans (hb3.mono (hb1.trans (hb2.mono hb1.size)).size),hm.below hb3 hm.lt,⟨rfl,.inl ⟨rfl,rfl⟩⟩,(hr.below hb2 hr.lt).below hb3 (Nat.lt_of_lt_of_le hr.lt hb2.size),ht,Nat.le_succ _,rfl⟩
 have HI0:=hide hI;clear hI hb1 hb2 hb3 s1 s2;go_enter Tryz.func32,Tryz.ntmps32;go_upto_region 3 with fail;rw [←hw1,← hw2,← hw3];clear hw1 hw2 hw3;go_wp2_with fail
 go_loopw [12] (fun vi wr=>∃(k:Nat) (A:Option Addr) (c:Nat),vi=.int .i64 k∧k≤3∧Hid (RqM w us w.heap.size (w.heap.size+1) (w.heap.size+1+1) A k c (txF ((kJ us).take k)) wr)) (fun vi _=>3 - (intOf vi).toNat)
 case atStart=>exact ⟨0,none,0,rfl,Nat.zero_le _,HI0⟩
 case round =>
  obtain ⟨k,A,c,rfl,hk,HI⟩:=hrel;clear HI0
  by_cases hlt:k<3
  ·have hki:(k:Int)<3:=by omega
   have hk0:(0:Int)≤k:=by omega
   obtain ⟨y,hy,_⟩:=HI.out.at_ hlt
   have htx:=hide (fun (V:World) (hB:Blk V (w.heap.size+1+1) 9 #[.string (bs us),.string (bs bA),.string (bs dG)])=>show V.cell? ⟨w.heap.size+1+1,k,none⟩=some (.string (bs y)) from by
    have h9:=hB.cell k;rw [h9]
    match k,hlt,hy with
    | 0,_,h8=>cases h8;rfl
    | 1,_,h8=>cases h8;rfl
    | 2,_,h8=>cases h8;rfl)
   have hsucc:=MN hy;have hlo:w.heap.size≤wr.heap.size:=HI.out.bel.size;clear hy;go_upto_region 6 with fail;refine iO (fun W=>Blk W (w.heap.size+1) 55 #[.int .i64 50,.slice A k c]∧Blk W (w.heap.size+1+1) 9 #[.string (bs us),.string (bs bA),.string (bs dG)]) (fun i=>[4,5,6,7,8].contains i) (by kernel_rfl) ?_
   obtain ⟨Wd,hWd⟩:∃Wd,Wd=wr.drew:=⟨_,rfl⟩
   have hQd:RqM w us w.heap.size (w.heap.size+1) (w.heap.size+1+1) A k c (txF ((kJ us).take k)) Wd:=by rw [hWd];exact HI.out.below ((Below.refl _ _).drew)
   have hSd:=And.intro hQd.m hQd.tx;rw [←hWd];clear hWd HI;have hlo:w.heap.size≤Wd.heap.size:=hQd.bel.size;refine ay (i:=0) (oi:=?_) (v:=.pointer (some ⟨w.heap.size+1,1,none⟩)) ?_ ?_ ?_ ?_ ?_ ?_ ?_ ?_;rotate_left 1
   ·(first | (simp only [List.getElem?_toArray,List.getElem?_cons_succ,List.getElem?_cons_zero];exact rfl) | exact rfl)
   ·kernel_rfl
   ·kernel_rfl
   ·kernel_rfl
   ·rfl
   ·exact fun _ _ _ h=>h
   ·exact Or.inl ⟨by rfl,fun w _=>by go_simp⟩
   try simp only [Act.put,List.setIfInBounds_toArray,List.set_cons_zero,List.set_cons_succ]
   refine ay (i:=2) (oi:=?_) (v:=.slice (some ⟨w.heap.size+1+1,0,none⟩) 3 3) ?_ ?_ ?_ ?_ ?_ ?_ ?_ ?_;rotate_left 1
   ·(first | (simp only [List.getElem?_toArray,List.getElem?_cons_succ,List.getElem?_cons_zero];exact rfl) | exact rfl)
   ·kernel_rfl
   ·kernel_rfl
   ·kernel_rfl
   ·rfl
   ·exact fun _ _ _ h=>h
   ·exact Or.inl ⟨by rfl,fun w _=>by go_simp⟩
   try simp only [Act.put,List.setIfInBounds_toArray,List.set_cons_zero,List.set_cons_succ]
   refine ay (i:=3) (oi:=?_) (v:=.int .i64 k) ?_ ?_ ?_ ?_ ?_ ?_ ?_ ?_;rotate_left 1
   ·(first | (simp only [List.getElem?_toArray,List.getElem?_cons_succ,List.getElem?_cons_zero];exact rfl) | exact rfl)
   ·kernel_rfl
   ·kernel_rfl
   ·kernel_rfl
   ·rfl
   ·exact fun _ _ _ h=>h
   ·exact Or.inl ⟨by rfl,fun w _=>by go_simp⟩
   try simp only [Act.put,List.setIfInBounds_toArray,List.set_cons_zero,List.set_cons_succ]
   refine aJ (i:=1) (oi:=?_) (v:=.slice A k c) ?_ ?_ ?_ ?_ ?_ ?_ ?_ hSd ?_;rotate_left 1
   ·(first | (simp only [List.getElem?_toArray,List.getElem?_cons_succ,List.getElem?_cons_zero];exact rfl) | exact rfl)
   ·kernel_rfl
   ·kernel_rfl
   ·kernel_rfl
   ·kernel_rfl
   ·exact fun _ _ _ h=>h
   ·refine Or.inl ⟨by rfl,fun w hSw=>?_⟩
    have k1:=hSw.1.cell 1;simp only [List.getElem?_toArray,List.getElem?_cons_zero,List.getElem?_cons_succ] at k1;clear hSw;go_simp
   try simp only [Act.put,List.setIfInBounds_toArray,List.set_cons_zero,List.set_cons_succ]
   refine aJ (i:=4) (oi:=?_) (v:=.pointer (some ⟨w.heap.size+1+1,k,none⟩)) ?_ ?_ ?_ ?_ ?_ ?_ ?_ hSd ?_;rotate_left 1
   ·(first | (simp only [List.getElem?_toArray,List.getElem?_cons_succ,List.getElem?_cons_zero];exact rfl) | exact rfl)
   ·kernel_rfl
   ·kernel_rfl
   ·kernel_rfl
   ·kernel_rfl
   ·exact fun _ _ _ h=>h
   ·refine Or.inl ⟨by rfl,fun w hSw=>?_⟩
    clear hSw;go_simp
   try simp only [Act.put,List.setIfInBounds_toArray,List.set_cons_zero,List.set_cons_succ]
   refine aJ (i:=5) (oi:=?_) (v:=.string (bs y)) ?_ ?_ ?_ ?_ ?_ ?_ ?_ hSd ?_;rotate_left 1
   ·(first | (simp only [List.getElem?_toArray,List.getElem?_cons_succ,List.getElem?_cons_zero];exact rfl) | exact rfl)
   ·kernel_rfl
   ·kernel_rfl
   ·kernel_rfl
   ·kernel_rfl
   ·exact fun _ _ _ h=>h
   ·refine Or.inl ⟨by rfl,fun w hSw=>?_⟩
    have k1:=htx.out _ hSw.2;clear hSw;go_simp
   try simp only [Act.put,List.setIfInBounds_toArray,List.set_cons_zero,List.set_cons_succ]
   refine aJ (i:=6) (oi:=?_) (v:=.agg #[.int .u8 115,.int .i64 0,.string (bs y),.slice none 0 0]) ?_ ?_ ?_ ?_ ?_ ?_ ?_ hSd ?_;rotate_left 1
   ·(first | (simp only [List.getElem?_toArray,List.getElem?_cons_succ,List.getElem?_cons_zero];exact rfl) | exact rfl)
   ·kernel_rfl
   ·kernel_rfl
   ·kernel_rfl
   ·kernel_rfl
   ·exact fun _ _ _ h=>h
   ·refine Or.inl ⟨by rfl,fun w hSw=>?_⟩
    clear hSw;go_simp
   try simp only [Act.put,List.setIfInBounds_toArray,List.set_cons_zero,List.set_cons_succ]
   refine ah (rs:=[7]) (by kernel_rfl) (by simp) ?_;refine ae.cons (o:=?_) ?_ (fun K hK=>?_) ae.nil;rotate_left 1
   ·(first | (simp only [List.getElem?_toArray,List.getElem?_cons_succ,List.getElem?_cons_zero];exact rfl) | exact rfl)
   refine Bl rfl (QM (x:=.tmp 27) (a0:=.int .u8 115) (a1:=.int .i64 0) (a2:=.string (bs y)) (a3:=.slice none 0 0) _ rfl _ (by rfl) _) ?_;have hnb:=Blk.new Wd 60 #[.int .u8 115,.int .i64 0,.string (bs y),.slice none 0 0];refine hK.out _ _ ⟨hSd.1.alloc _,hSd.2.alloc _⟩ (fun _=>?_);clear hK K
   try simp only [Act.put,List.setIfInBounds_toArray,List.set_cons_zero,List.set_cons_succ]
   refine ah (rs:=[8]) (by kernel_rfl) (by simp) ?_;refine ae.cons (o:=?_) ?_ (fun K hK=>?_) ae.nil;rotate_left 1
   ·(first | (simp only [List.getElem?_toArray,List.getElem?_cons_succ,List.getElem?_cons_zero];exact rfl) | exact rfl)
   refine bY _ rfl (.tmp 22) (.tmp 28) _ (by rfl) w.heap.size 60 iF (.agg #[.int .u8 0,.int .i64 0,.string ⟨#[]⟩,.slice none 0 0]) 4 56 Tryz.underlying53 hiF hF0 hF1 hF2 (by rfl) (by decide) (.slice A k c) k _ (by rfl) (bP hQd.own (az _)) _ _ 1 1 [.int .u8 115,.int .i64 0,.string (bs y),.slice none 0 0] (by rfl) (dx hnb (by rfl)) (by simp [Value.oneCell']) (by unfold maxLen;omega) (by omega) (by simp only [World.size_alloc];omega) ?_;intro v6 w6 hown6 hgr6 hor6;obtain ⟨AY,cY,rfl⟩:=di hown6;have hm6:=(hSd.1.alloc (.cells #[.int .u8 115,.int .i64 0,.string (bs y),.slice none 0 0] 60)).grown hgr6 (fun e=>aS hQd.own hQd.m (by decide) e.symm);have ht6:=(hSd.2.alloc (.cells #[.int .u8 115,.int .i64 0,.string (bs y),.slice none 0 0] 60)).grown hgr6 (fun e=>aS hQd.own hQd.tx (by decide) e.symm);refine hK.out _ _ ⟨hm6,ht6⟩ (fun _=>?_);clear hK K hnb
   try simp only [Act.put,List.setIfInBounds_toArray,List.set_cons_zero,List.set_cons_succ]
   refine ay (i:=9) (oi:=?_) (v:=.pointer (some ⟨w.heap.size+1,1,none⟩)) ?_ ?_ ?_ ?_ ?_ ?_ ?_ ?_;rotate_left 1
   ·(first | (simp only [List.getElem?_toArray,List.getElem?_cons_succ,List.getElem?_cons_zero];exact rfl) | exact rfl)
   ·kernel_rfl
   ·kernel_rfl
   ·kernel_rfl
   ·rfl
   ·exact fun _ _ _ h=>h
   ·exact Or.inl ⟨by rfl,fun w _=>by go_simp⟩
   try simp only [Act.put,List.setIfInBounds_toArray,List.set_cons_zero,List.set_cons_succ]
   refine ah (rs:=[10]) (by kernel_rfl) (by simp) ?_;refine ae.late (o:=?_) ?_ rfl (fun K hK=>?_) ae.nil;rotate_left 1
   ·(first | (simp only [List.getElem?_toArray,List.getElem?_cons_succ,List.getElem?_cons_zero];exact rfl) | exact rfl)
   refine dY (p:=⟨w.heap.size+1,1,none⟩) (x:=.tmp 30) (y:=.tmp 29) (u:=.pointer (some ⟨w.heap.size+1,1,none⟩)) (v:=.slice AY (k+1) cY) rfl (by rfl) (by rfl) (fun ρ hρ hρ2=>?_) ?_
   ·exact SL _ rfl ρ hρ hρ2 _ hm6 (by simp)
   have hQ9:=hQd.put (.cells #[.int .u8 115,.int .i64 0,.string (bs y),.slice none 0 0] 60) ⟨115,0,y,[]⟩ hown6 hgr6;refine hK.out _ _ ?_;clear hK K hown6 hgr6 hor6 hm6 ht6 hSd hQd
   try simp only [Act.put,List.setIfInBounds_toArray,List.set_cons_zero,List.set_cons_succ]
   refine dZ (by kernel_rfl) ?_ _;generalize w6.setCell ⟨w.heap.size+1,1,none⟩ (.slice AY (k+1) cY)=w9 at hQ9 ⊢;go_wp2_with fail;exact ⟨⟨k+1,AY,cY,by go_num,by omega,hide (hsucc ▸ hQ9)⟩,by simp [intOf];omega⟩
  ·have hki:¬ (k:Int)<3:=by omega
   obtain rfl:k=3:=by omega
   rw [show (kJ us).take 3=kJ us from rfl] at HI;generalize hA:A=Awr at HI;generalize hc:c=cwr at HI;clear hA hc;have m1:=HI.out.m.cell 1;have fm1:=HI.out.m.frozen 1;simp only [List.getElem?_toArray,List.getElem?_cons_zero,List.getElem?_cons_succ] at m1;have hlo:w.heap.size≤wr.heap.size:=HI.out.bel.size
   go_upto_region 11 with (first | (at_builtin;refine aA _ rfl (.tmp 34) (.tmp 37) _ rfl w.heap.size 60 iF (.agg #[.int .u8 0,.int .i64 0,.string ⟨#[]⟩,.slice none 0 0]) 4 56 Tryz.underlying53 hiF hF0 hF1 hF2 rfl (by decide) (.slice Awr 3 cwr) 3 _ rfl (bP HI.out.own (az _)) _ (some ⟨_,0,none⟩) 1 1 [.int .u8 98,.int .i64 0,.string ⟨#[]⟩,.slice none 0 0] rfl (dx (Blk.new _ _ _) rfl) (by simp [Value.oneCell']) (by unfold maxLen;omega) (by omega) (by simp only [World.size_alloc];omega) ?_;intro v6 w6 hown6 hgr6 hor6;obtain ⟨Awu,cwu,rfl⟩:=di hown6;have hm6:=(HI.out.m.alloc (.cells #[.int .u8 98,.int .i64 0,.string ⟨#[]⟩,.slice none 0 0] 60)).grown hgr6 (fun e=>aS HI.out.own HI.out.m (by decide) e.symm);have p1:=hm6.cell 1;have g1:=hm6.frozen 1;simp only [List.getElem?_toArray,List.getElem?_cons_zero,List.getElem?_cons_succ] at p1) | fail)
   have HI2:=hide (HI.out.put (.cells #[.int .u8 98,.int .i64 0,.string ⟨#[]⟩,.slice none 0 0] 60) ⟨98,0,[],[]⟩ hown6 hgr6);clear hm6 hown6 hgr6 hor6 p1 g1 m1 fm1 HI hlo;generalize w6.setCell ⟨w.heap.size+1,1,none⟩ (.slice Awu (3+1) cwu)=wu at HI2 ⊢;have m1:=HI2.out.m.cell 1;have fm1:=HI2.out.m.frozen 1;simp only [List.getElem?_toArray,List.getElem?_cons_zero,List.getElem?_cons_succ] at m1;have hlo:w.heap.size≤wu.heap.size:=HI2.out.bel.size
   go_upto_region 12 with (first | (at_builtin;refine aA _ rfl (.tmp 41) (.tmp 44) _ rfl w.heap.size 60 iF (.agg #[.int .u8 0,.int .i64 0,.string ⟨#[]⟩,.slice none 0 0]) 4 56 Tryz.underlying53 hiF hF0 hF1 hF2 rfl (by decide) (.slice Awu 4 cwu) 4 _ rfl (bP HI2.out.own (az _)) _ (some ⟨_,0,none⟩) 1 1 [.int .u8 115,.int .i64 0,.string (bs al),.slice none 0 0] rfl (dx (Blk.new _ _ _) rfl) (by simp [Value.oneCell']) (by unfold maxLen;omega) (by omega) (by simp only [World.size_alloc];omega) ?_;intro v6 w6 hown6 hgr6 hor6;obtain ⟨Awv,cwv,rfl⟩:=di hown6;have hm6:=(HI2.out.m.alloc (.cells #[.int .u8 115,.int .i64 0,.string (bs al),.slice none 0 0] 60)).grown hgr6 (fun e=>aS HI2.out.own HI2.out.m (by decide) e.symm);have p1:=hm6.cell 1;have g1:=hm6.frozen 1;simp only [List.getElem?_toArray,List.getElem?_cons_zero,List.getElem?_cons_succ] at p1) | fail)
   have HI3:=hide (HI2.out.put (.cells #[.int .u8 115,.int .i64 0,.string (bs al),.slice none 0 0] 60) ⟨115,0,al,[]⟩ hown6 hgr6);clear hm6 hown6 hgr6 hor6 p1 g1 m1 fm1 HI2 hlo;generalize w6.setCell ⟨w.heap.size+1,1,none⟩ (.slice Awv (4+1) cwv)=wv at HI3 ⊢;refine iO (fun W=>Blk W (w.heap.size+1) 55 #[.int .i64 50,.slice Awv 5 cwv]∧Blk W (w.heap.size+1+1) 9 #[.string (bs us),.string (bs bA),.string (bs dG)]) (fun i=>[3,4,5,6].contains i) (by kernel_rfl) ?_
   obtain ⟨Wd,hWd⟩:∃Wd,Wd=wv.drew:=⟨_,rfl⟩
   have hQd:RqM w us w.heap.size (w.heap.size+1) (w.heap.size+1+1) Awv 5 cwv (txF (kJ us)++[⟨98,0,[],[]⟩]++[⟨115,0,al,[]⟩]) Wd:=by rw [hWd];exact HI3.out.below ((Below.refl _ _).drew)
   have hSd:=And.intro hQd.m hQd.tx;rw [←hWd];clear hWd HI3;refine ay (i:=0) (oi:=?_) (v:=.pointer (some ⟨w.heap.size+1,1,none⟩)) ?_ ?_ ?_ ?_ ?_ ?_ ?_ ?_;rotate_left 1
   ·(first | (simp only [List.getElem?_toArray,List.getElem?_cons_succ,List.getElem?_cons_zero];exact rfl) | exact rfl)
   ·kernel_rfl
   ·kernel_rfl
   ·kernel_rfl
   ·rfl
   ·exact fun _ _ _ h=>h
   ·exact Or.inl ⟨by rfl,fun w _=>by go_simp⟩
   try simp only [Act.put,List.setIfInBounds_toArray,List.set_cons_zero,List.set_cons_succ]
   refine ay (i:=2) (oi:=?_) (v:=.int .i64 who) ?_ ?_ ?_ ?_ ?_ ?_ ?_ ?_;rotate_left 1
   ·(first | (simp only [List.getElem?_toArray,List.getElem?_cons_succ,List.getElem?_cons_zero];exact rfl) | exact rfl)
   ·kernel_rfl
   ·kernel_rfl
   ·kernel_rfl
   ·rfl
   ·exact fun _ _ _ h=>h
   ·exact Or.inl ⟨by rfl,fun w _=>by go_simp⟩
   try simp only [Act.put,List.setIfInBounds_toArray,List.set_cons_zero,List.set_cons_succ]
   refine aJ (i:=1) (oi:=?_) (v:=.slice Awv 5 cwv) ?_ ?_ ?_ ?_ ?_ ?_ ?_ hSd ?_;rotate_left 1
   ·(first | (simp only [List.getElem?_toArray,List.getElem?_cons_succ,List.getElem?_cons_zero];exact rfl) | exact rfl)
   ·kernel_rfl
   ·kernel_rfl
   ·kernel_rfl
   ·kernel_rfl
   ·exact fun _ _ _ h=>h
   ·refine Or.inl ⟨by rfl,fun w hSw=>?_⟩
    have k1:=hSw.1.cell 1;simp only [List.getElem?_toArray,List.getElem?_cons_zero,List.getElem?_cons_succ] at k1;clear hSw;go_simp
   try simp only [Act.put,List.setIfInBounds_toArray,List.set_cons_zero,List.set_cons_succ]
   refine ah (rs:=[3]) (by kernel_rfl) (by simp) ?_;refine ae.cons (o:=?_) ?_ (fun K hK=>?_) ae.nil;rotate_left 1
   ·(first | (simp only [List.getElem?_toArray,List.getElem?_cons_succ,List.getElem?_cons_zero];exact rfl) | exact rfl)
   refine Fe (u:=.int .i64 who) (f:=79) rfl (I4 (x:=.tmp 49) _ rfl _ (by rfl) _) (HP.out _) ?_;rintro e w4 ⟨rfl,hb4⟩;refine ⟨_,rfl,?_⟩;have hQ4:=hQd.below hb4;have hS4:=And.intro hQ4.m hQ4.tx;refine hK.out _ _ hS4 (fun _=>?_);clear hK K hSd hQd hb4
   try simp only [Act.put,List.setIfInBounds_toArray,List.set_cons_zero,List.set_cons_succ]
   have hlo:w.heap.size≤w4.heap.size:=hQ4.bel.size;refine aJ (i:=4) (oi:=?_) (v:=.agg #[.int .u8 116,.int .i64 0,.string (bs pk),.slice none 0 0]) ?_ ?_ ?_ ?_ ?_ ?_ ?_ hS4 ?_;rotate_left 1
   ·(first | (simp only [List.getElem?_toArray,List.getElem?_cons_succ,List.getElem?_cons_zero];exact rfl) | exact rfl)
   ·kernel_rfl
   ·kernel_rfl
   ·kernel_rfl
   ·kernel_rfl
   ·exact fun _ _ _ h=>h
   ·refine Or.inl ⟨by rfl,fun w hSw=>?_⟩
    clear hSw;go_simp
   try simp only [Act.put,List.setIfInBounds_toArray,List.set_cons_zero,List.set_cons_succ]
   refine ah (rs:=[5]) (by kernel_rfl) (by simp) ?_;refine ae.cons (o:=?_) ?_ (fun K hK=>?_) ae.nil;rotate_left 1
   ·(first | (simp only [List.getElem?_toArray,List.getElem?_cons_succ,List.getElem?_cons_zero];exact rfl) | exact rfl)
   refine Bl rfl (QM (x:=.tmp 51) (a0:=.int .u8 116) (a1:=.int .i64 0) (a2:=.string (bs pk)) (a3:=.slice none 0 0) _ rfl _ (by rfl) _) ?_;have hnb:=Blk.new w4 60 #[.int .u8 116,.int .i64 0,.string (bs pk),.slice none 0 0];refine hK.out _ _ ⟨hS4.1.alloc _,hS4.2.alloc _⟩ (fun _=>?_);clear hK K
   try simp only [Act.put,List.setIfInBounds_toArray,List.set_cons_zero,List.set_cons_succ]
   refine ah (rs:=[6]) (by kernel_rfl) (by simp) ?_;refine ae.cons (o:=?_) ?_ (fun K hK=>?_) ae.nil;rotate_left 1
   ·(first | (simp only [List.getElem?_toArray,List.getElem?_cons_succ,List.getElem?_cons_zero];exact rfl) | exact rfl)
   refine bY _ rfl (.tmp 48) (.tmp 52) _ (by rfl) w.heap.size 60 iF (.agg #[.int .u8 0,.int .i64 0,.string ⟨#[]⟩,.slice none 0 0]) 4 56 Tryz.underlying53 hiF hF0 hF1 hF2 (by rfl) (by decide) (.slice Awv 5 cwv) 5 _ (by rfl) (bP hQ4.own (az _)) _ _ 1 1 [.int .u8 116,.int .i64 0,.string (bs pk),.slice none 0 0] (by rfl) (dx hnb (by rfl)) (by simp [Value.oneCell']) (by unfold maxLen;omega) (by omega) (by simp only [World.size_alloc];omega) ?_;intro v6 w6 hown6 hgr6 hor6;obtain ⟨AY,cY,rfl⟩:=di hown6;have hm6:=(hS4.1.alloc (.cells #[.int .u8 116,.int .i64 0,.string (bs pk),.slice none 0 0] 60)).grown hgr6 (fun e=>aS hQ4.own hQ4.m (by decide) e.symm);have ht6:=(hS4.2.alloc (.cells #[.int .u8 116,.int .i64 0,.string (bs pk),.slice none 0 0] 60)).grown hgr6 (fun e=>aS hQ4.own hQ4.tx (by decide) e.symm);refine hK.out _ _ ⟨hm6,ht6⟩ (fun _=>?_);clear hK K hnb
   try simp only [Act.put,List.setIfInBounds_toArray,List.set_cons_zero,List.set_cons_succ]
   refine ay (i:=7) (oi:=?_) (v:=.pointer (some ⟨w.heap.size+1,1,none⟩)) ?_ ?_ ?_ ?_ ?_ ?_ ?_ ?_;rotate_left 1
   ·(first | (simp only [List.getElem?_toArray,List.getElem?_cons_succ,List.getElem?_cons_zero];exact rfl) | exact rfl)
   ·kernel_rfl
   ·kernel_rfl
   ·kernel_rfl
   ·rfl
   ·exact fun _ _ _ h=>h
   ·exact Or.inl ⟨by rfl,fun w _=>by go_simp⟩
   try simp only [Act.put,List.setIfInBounds_toArray,List.set_cons_zero,List.set_cons_succ]
   refine ah (rs:=[8]) (by kernel_rfl) (by simp) ?_;refine ae.late (o:=?_) ?_ rfl (fun K hK=>?_) ae.nil;rotate_left 1
   ·(first | (simp only [List.getElem?_toArray,List.getElem?_cons_succ,List.getElem?_cons_zero];exact rfl) | exact rfl)
   refine dY (p:=⟨w.heap.size+1,1,none⟩) (x:=.tmp 54) (y:=.tmp 53) (u:=.pointer (some ⟨w.heap.size+1,1,none⟩)) (v:=.slice AY (5+1) cY) rfl (by rfl) (by rfl) (fun ρ hρ hρ2=>?_) ?_
   ·exact SL _ rfl ρ hρ hρ2 _ hm6 (by simp)
   have hQ9:=hQ4.put (.cells #[.int .u8 116,.int .i64 0,.string (bs pk),.slice none 0 0] 60) ⟨116,0,pk,[]⟩ hown6 hgr6;refine hK.out _ _ ?_;clear hK K hown6 hgr6 hor6 hm6 ht6 hS4 hQ4
   try simp only [Act.put,List.setIfInBounds_toArray,List.set_cons_zero,List.set_cons_succ]
   refine dZ (by kernel_rfl) ?_ _;generalize w6.setCell ⟨w.heap.size+1,1,none⟩ (.slice AY (5+1) cY)=w9 at hQ9 ⊢
   have hF:kR w9 AY (gQ us al pk 0):=Au hQ9.own (fun x hx=>by
    simp only [gQ,List.mem_cons,List.not_mem_nil,or_false] at hx;rcases hx with rfl | rfl | rfl | rfl | rfl | rfl
    ·exact ⟨rfl,show (115:Nat)<256 by decide⟩
    ·exact ⟨rfl,show (115:Nat)<256 by decide⟩
    ·exact ⟨rfl,show (115:Nat)<256 by decide⟩
    ·exact ⟨rfl,show (98:Nat)<256 by decide⟩
    ·exact ⟨rfl,show (115:Nat)<256 by decide⟩
    ·exact ⟨rfl,show (116:Nat)<256 by decide⟩) rfl (by simp [gQ])
   have HEn:=hide (show Calls Tryz.prog 28 #[.agg #[.int .i64 50,.slice AY 6 cY]] w9 (fun e w'=>e=.returned (.tuple #[.string (bs b),.agg #[.int .i64 0,.string ⟨#[]⟩]])∧Below w9.heap.size w9 w') from (nW 50 (c:=cY) hF (fun x hx=>by
    simp only [gQ,List.mem_cons,List.not_mem_nil,or_false] at hx;rcases hx with rfl | rfl | rfl | rfl | rfl | rfl
    ·exact IY (by show us.length≤_;have:=Hz.out.1;omega) rfl
    ·exact IY (by decide) rfl
    ·exact IY (by decide) rfl
    ·exact IY (by decide) rfl
    ·exact IY (by show al.length≤_;have:=Hz.out.2.1;omega) rfl
    ·exact IY (by show pk.length≤_;have:=Hz.out.2.2;omega) rfl) (by simp [gQ])).mono fun e w' h9=>by
     obtain ⟨hb9,⟨s9,h8,rfl⟩ | ⟨ps9,k9,h8,h7,rfl⟩⟩:=h9
     ·rw [Hb.out] at h8
      cases h8
      exact ⟨rfl,hb9⟩
     ·rw [Hb.out] at h8
      cases h8)
   have m0:=hQ9.m.cell 0;have m1:=hQ9.m.cell 1;simp only [List.getElem?_toArray,List.getElem?_cons_zero,List.getElem?_cons_succ] at m0 m1;have HQ9:=hide hQ9;clear hQ9 hF;generalize hbb:bs b=bb at HEn;go_upto_region 15 with fail;refine wp_region_lit ?_;go_wp2_with (first | (go_at_call 28;refine HEn.out.mono ?_;rintro e w10 ⟨rfl,hb10⟩;have hE10:=HQ9.out.err.below hb10 HQ9.out.err.lt;have y0:=hE10.cell 0;have y1:=hE10.cell 1;have g0:=hE10.frozen 0;have g1:=hE10.frozen 1;simp only [List.getElem?_toArray,List.getElem?_cons_zero,List.getElem?_cons_succ] at y0 y1) | fail);have hE11:=(hE10.set_ 0 (.int .i64 0)).set_ 1 (.string ⟨#[]⟩);have q0:=hE11.cell 0;have q1:=hE11.cell 1;simp at q0 q1;have hbe:=((HQ9.out.bel.trans (hb10.mono HQ9.out.bel.size)).setCell (p:=⟨w.heap.size,0,none⟩) (Nat.le_refl _) (.int .i64 0)).setCell (p:=⟨w.heap.size,1,none⟩) (Nat.le_refl _) (.string ⟨#[]⟩);exact bodyPost_ret (v:=.tuple #[.string bb,.agg #[.int .i64 0,.string ⟨#[]⟩]]) (by simp [results,Tryz.results32,go_sem,q0,q1]) rfl ⟨by rw [hbb],hbe⟩
end
end Go.Proofs.YtnhekaepgpbijaaGreatDoor

/- Several of my texts in one: CfL, CfN, CfP, CfQ, CfR, CfLc. -/
import Derived.Test.YtnhekaepgpbijaaGreatDoorHCfKG
import Derived.Test.YtnhekaepgpbijaaGreatDoorHCfX0G
import Derived.Test.YtnhekaepgpbijaaGreatDoorHKx6G
import Derived.Test.YtnhekaepgpbijaaGreatDoorHMkrG
import Derived.Laws.Bits128
set_option linter.unusedVariables false
set_option linter.unusedSimpArgs false
set_option maxHeartbeats 40000000
set_option maxRecDepth 100000
namespace Go.Proofs.YtnhekaepgpbijaaGreatDoor
open Go.RowKit Go.ChangeShapes Go.WideShapes Go.Sort
def wrA:Array Value→Nat→List Value→Array Value
 | cs,_,[]=>cs
 | cs,o,v :: r=>wrA (cs.setIfInBounds o v) (o+1) r
theorem wrA_list:∀(vs pre post:List Value),post.length=vs.length→wrA (pre++post).toArray pre.length vs=(pre++vs).toArray
 | [],pre,post,h=>by
  have:post=[]:=List.eq_nil_of_length_eq_zero h
  subst this
  rfl
 | v :: r,pre,[],h=>by cases h
 | v :: r,pre,p :: post,h=>by
  have h2:=wrA_list r (pre++[v]) post (by simpa using h)
  rw [List.length_append,List.length_singleton] at h2
  unfold wrA
  rw [List.setIfInBounds_toArray,List.set_append_right _ _ (Nat.le_refl _),Nat.sub_self,List.set_cons_zero]
  rw [show pre++v :: post=pre++[v]++post by simp,h2]
  simp
theorem wrA_all {cs:Array Value} {vs:List Value} (h:cs.toList.length=vs.length):wrA cs 0 vs=vs.toArray:=by
 have:=wrA_list vs [] cs.toList h
 simpa using this
theorem Blk.setCells {b:Nat} {t:TypeId}:∀(vs:List Value) (o:Nat) {w:World} {cs:Array Value},Blk w b t cs→Blk (w.setCells b o vs) b t (wrA cs o vs)
 | [],_,_,_,h=>h
 | v :: r,o,_,_,h=>Blk.setCells r (o+1) (h.set_ o v)
theorem Blk.setCells_far {b g:Nat} {t:TypeId} {cs:Array Value} (hne:g≠b):∀(vs:List Value) (o:Nat) {w:World},Blk w g t cs→Blk (w.setCells b o vs) g t cs
 | [],_,_,h=>h
 | v :: r,o,_,h=>Blk.setCells_far hne r (o+1) (h.far (p:=⟨b,o,none⟩) hne v)
theorem below_setCells {B b:Nat} {w0:World} (hb:B≤b):∀(vs:List Value) (o:Nat) {w:World},Below B w0 w→Below B w0 (w.setCells b o vs)
 | [],_,_,h=>h
 | v :: r,o,_,h=>below_setCells hb r (o+1) (h.setCell (p:=⟨b,o,none⟩) hb v)
theorem NewC.setCells {lo b:Nat} {v:Value} {l:List (List UInt8)} (hb:b<lo):∀(vs:List Value) (o:Nat) {w:World},NewC lo w v l→NewC lo (w.setCells b o vs) v l
 | [],_,_,h=>h
 | u :: r,o,_,h=>NewC.setCells hb r (o+1) (h.set_ (p:=⟨b,o,none⟩) hb u)
theorem blk_there {w:World} {b:Nat} {t:TypeId} {cs:Array Value} {n:Nat} (h:Blk w b t cs) (hn:n≤cs.size):w.there b 0 n:=fun j hj=>by
 rw [Nat.zero_add,h.cell j,Array.getElem?_eq_getElem (by omega)]
 exact ⟨rfl,h.frozen j⟩
theorem wpList_store_conf {w:World} {ops:Array Oper} {rest:List Oper} {op:Oper} {a:Act} {Q:Exit→Act→World→Prop} (hgd:op.guard=none) (x y:Operand) (ho:op.op=.store 30 x y) {b:Nat} (hx:a.eval x=.pointer (some ⟨b,0,none⟩)) {cv cs:Array Value} (hy:a.eval y=.agg cv)
  (hX:Blk w b 30 cs) (hc:cs.size=23) (hl:cv.size=23) (h1:cv.all (·.oneCell')=true)
  (h:wpList Tryz.prog ops Q rest (a.put op.dst undef) (w.setCells b 0 cv.toList)):wpList Tryz.prog ops Q (op :: rest) a w :=
 wpList_store_mid hgd 30 x y ho b 0 cv hx hy (blk_there hX (by omega)) (by rw [hl];exact infoConf) h1 h
theorem wpList_val {w w':World} {v:Value} {ops:Array Oper} {rest:List Oper} {op:Oper} {a:Act} {Q:Exit→Act→World→Prop} (hgd:op.guard=none) (hr:(execOp a.eval op).run Tryz.prog w=.ok (.value v) w')
  (h:wpList Tryz.prog ops Q rest (a.put op.dst v) w'):wpList Tryz.prog ops Q (op :: rest) a w :=
 wpList_plain hgd fun _ hK=>by
  unfold Oper.wp
  rw [hr]
  exact hK _ _ h
theorem wpList_call_ {w:World} {f:FuncId} {args:Array Value} {ops:Array Oper} {rest:List Oper} {op:Oper} {a:Act} {Q:Exit→Act→World→Prop} (hgd:op.guard=none) (hr:(execOp a.eval op).run Tryz.prog w=.ok (.enter f args) w)
  {post:Ending→World→Prop} (hc:Calls Tryz.prog f args w post) (h:∀e w',post e w'→∃r,e=.returned r∧wpList Tryz.prog ops Q rest (a.put op.dst r) w'):wpList Tryz.prog ops Q (op :: rest) a w :=
 wpList_plain hgd fun _ hK=>by
  unfold Oper.wp
  rw [hr,Oper.upon_enter]
  refine hc.mono fun e w' hp=>?_
  obtain ⟨r,rfl,hk⟩:=h e w' hp
  exact hK _ _ hk
theorem results_cell1 {w:World} {fn:Func} {t:Tmp} {ty:TypeId} {d:TypeDesc} (h:fn.results=#[.cell t ty]) {tmps:Array Value} {b:Nat} (ht:tmps.getD t undef=.pointer (some ⟨b,0,none⟩)) {cs:List Value} (hX:Blk w b ty cs.toArray)
  (hu:Tryz.prog.underlying ty=some d) (hd:d.isRow=true) (hi:(Tryz.prog.info? ty).map (·.size)=some cs.length):(results fn tmps).run Tryz.prog w=.ok (.agg cs.toArray) w:=by
 have key:=run_loadVar_mid w b 0 ty cs d (rangeC hX) hu hd hi
 have ht2:tmps[t]?.getD undef=.pointer (some ⟨b,0,none⟩):=by simpa using ht
 simp [results,h,ht2,asAddr,Sem.run_bind,key]
theorem results_conf {w:World} {fn:Func} {t:Tmp} (h:fn.results=#[.cell t 30]) {tmps:Array Value} {b:Nat} (ht:tmps.getD t undef=.pointer (some ⟨b,0,none⟩)) {cs:Array Value} (hX:Blk w b 30 cs) (hl:cs.toList.length=23) :
  (results fn tmps).run Tryz.prog w=.ok (.agg cs) w:=by
 have:=results_cell1 h ht (cs:=cs.toList) (by rw [Array.toArray_toList];exact hX) Tryz.underlying30 rfl (by rw [hl];exact infoConf)
 rwa [Array.toArray_toList] at this
def zeroC:Array Value:=#[.bool false,.string ⟨#[]⟩,.string ⟨#[]⟩,.slice none 0 0,.slice none 0 0,.slice none 0 0,.slice none 0 0,.slice none 0 0,.slice none 0 0,.slice none 0 0,.slice none 0 0,.slice none 0 0,.int .i64 0,.slice none 0 0,.int .i64 0,.int .i64 0,.string ⟨#[]⟩,.slice none 0 0,.bool false,.bool false,.int .u32 0,.int .u32 0,.int .u32 0]
theorem buildC (o:Oper) (ho:o.op=.build 30 #[(0,.tmp 6),(1,.const (.string ⟨#[112,108,97,105,110]⟩)),(3,.tmp 7),(4,.tmp 8)]) (ρ:Operand→Value) {sv:Bool} {B0 B1 B2 B3 B4 B5 B6 B7 B8:Option Addr} {m0 m1 m2 m3 m4 m5 m6 m7 n8 d0 d1 d2 d3 d4 d5 d6 d7 d8:Nat} (h6:ρ (.tmp 6)=.bool sv) (h7:ρ (.tmp 7)=.agg #[.slice B0 m0 d0,.slice B1 m1 d1,.slice B2 m2 d2,.slice B3 m3 d3,.slice B4 m4 d4,.slice B5 m5 d5,.slice B6 m6 d6,.slice B7 m7 d7]) (h8:ρ (.tmp 8)=.slice B8 n8 d8) (hk:ρ (.const (.string ⟨#[112,108,97,105,110]⟩))=.string ⟨#[112,108,97,105,110]⟩) (w:World) :
  (execOp ρ o).run Tryz.prog w=.ok (.value (.agg #[.bool sv,.string ⟨#[112,108,97,105,110]⟩,.string ⟨#[]⟩,.slice B0 m0 d0,.slice B1 m1 d1,.slice B2 m2 d2,.slice B3 m3 d3,.slice B4 m4 d4,.slice B5 m5 d5,.slice B6 m6 d6,.slice B7 m7 d7,.slice B8 n8 d8,.int .i64 0,.slice none 0 0,.int .i64 0,.int .i64 0,.string ⟨#[]⟩,.slice none 0 0,.bool false,.bool false,.int .u32 0,.int .u32 0,.int .u32 0])) w:=by
 obtain ⟨d,op,t,p,af,gd⟩:=o
 simp only at ho
 subst ho
 go_simp
theorem allocC (o:Oper) (ho:o.op=.alloc 30) (ρ:Operand→Value) (w:World):(execOp ρ o).run Tryz.prog w=.ok (.value (.pointer (some ⟨w.heap.size,0,none⟩))) (w.alloc (.cells zeroC 30)):=by
 obtain ⟨d,op,t,p,af,gd⟩:=o
 simp only at ho
 subst ho
 unfold zeroC
 go_simp
theorem inc_blk {w:World} {g:Nat} {n:Int} {t:TypeId} (h:Blk w g t #[.int .i64 n]):InC w (some ⟨g,0,none⟩) [n]:=fun k hk=>by
 have hk0:k=0:=by simp at hk;exact hk
 subst hk0
 refine ⟨⟨g,0,none⟩,rfl,h.lt,?_⟩
 have:=h.cell 0
 simpa [Addr.add] using this
theorem all8_plain {lo:Nat} {w:World} {vs:List Value} (hv:vs.length=8) (h:∀(i:Nat) v l,vs[i]?=some v→plainLs[i]?=some l→NewC lo w v l):All8 w vs plainLs :=
 ⟨hv,rfl,fun i v l h1 h2=>by
  have hs:plainLs.all (fun l=>decide (l.length≤1000000) && l.all fun y=>decide (y.length≤1000000))=true:=by decide
  have h3:=List.all_eq_true.1 hs l (List.mem_of_getElem? h2)
  simp only [Bool.and_eq_true,decide_eq_true_eq,List.all_eq_true] at h3
  exact ⟨(h i v l h1 h2).txc,h3.1,h3.2⟩⟩
theorem NewC.keepL {lo lo2:Nat} {w V:World} {v:Value} {ls:List (List UInt8)} (h:NewC lo2 w v ls) (hl:lo≤lo2) (hs:w.heap.size≤V.heap.size) (hk:∀p:Addr,lo≤p.block→p.block<w.heap.size→V.cell? p=w.cell? p):NewC lo2 V v ls:=by
 obtain ⟨A,c,e,hc,hS⟩:=h
 exact ⟨A,c,e,hc,hS.keep hs (fun p h1 h2=>hk p (Nat.le_trans hl h1) h2)⟩
section
variable {w : World}
theorem wpList_wanted {P:Program} {ops:Array Oper} {rest:List Oper} {o:Oper} {a:Act} {Q:Exit→Act→World→Prop} (hw:Region.wanted o (yielded ops a.tmps)=true)
  (h:∀K:Act→World→Prop,(∀a w,wpList P ops Q rest a w→K a w)→o.wp P a w K Q):wpList P ops Q (o :: rest) a w:=by
 unfold wpList
 rw [if_pos hw]
 exact .inl (h _ (fun _ _ h=>h))
theorem wpList_valG {w':World} {v:Value} {ops:Array Oper} {rest:List Oper} {op:Oper} {a:Act} {Q:Exit→Act→World→Prop} (hw:Region.wanted op (yielded ops a.tmps)=true) (hr:(execOp a.eval op).run Tryz.prog w=.ok (.value v) w')
  (h:wpList Tryz.prog ops Q rest (a.put op.dst v) w'):wpList Tryz.prog ops Q (op :: rest) a w :=
 wpList_wanted hw fun _ hK=>by
  unfold Oper.wp
  rw [hr]
  exact hK _ _ h
theorem wpList_callG {f:FuncId} {args:Array Value} {ops:Array Oper} {rest:List Oper} {op:Oper} {a:Act} {Q:Exit→Act→World→Prop} (hw:Region.wanted op (yielded ops a.tmps)=true) (hr:(execOp a.eval op).run Tryz.prog w=.ok (.enter f args) w)
  {post:Ending→World→Prop} (hc:Calls Tryz.prog f args w post) (h:∀e w',post e w'→∃r,e=.returned r∧wpList Tryz.prog ops Q rest (a.put op.dst r) w'):wpList Tryz.prog ops Q (op :: rest) a w :=
 wpList_wanted hw fun _ hK=>by
  unfold Oper.wp
  rw [hr,Oper.upon_enter]
  refine hc.mono fun e w' hp=>?_
  obtain ⟨r,rfl,hk⟩:=h e w' hp
  exact hK _ _ hk
end
def flatG (gs:List (List UInt8 × Int)):List Value:=gs.flatMap fun g=>[.string (bs g.1),.int .i64 g.2]
theorem flatG_len (gs:List (List UInt8 × Int)):(flatG gs).length=gs.length*2:=by
 induction gs with
 | nil=>rfl
 | cons g r ih =>
  show (flatG r).length+2=_
  rw [ih,List.length_cons]
  omega
theorem flatG_get:∀(gs:List (List UInt8 × Int)) (k:Nat),(hk:k<gs.length)→(flatG gs)[k*2]?=some (.string (bs gs[k].1))∧(flatG gs)[k*2+1]?=some (.int .i64 gs[k].2)
 | g :: r,0,_=>⟨rfl,rfl⟩
 | g :: r,k+1,hk=>by
  have h:=flatG_get r k (by simpa using hk)
  have e1:(flatG (g :: r))[(k+1)*2]?=(flatG r)[k*2]?:=by
   show (Value.string (bs g.1) :: Value.int .i64 g.2 :: flatG r)[(k+1)*2]?=_
   rw [show (k+1)*2=k*2+1+1 by omega,List.getElem?_cons_succ,List.getElem?_cons_succ]
  have e2:(flatG (g :: r))[(k+1)*2+1]?=(flatG r)[k*2+1]?:=by
   show (Value.string (bs g.1) :: Value.int .i64 g.2 :: flatG r)[(k+1)*2+1]?=_
   rw [show (k+1)*2+1=k*2+1+1+1 by omega,List.getElem?_cons_succ,List.getElem?_cons_succ]
  rw [e1,e2]
  exact h
theorem flatG_one (gs:List (List UInt8 × Int)):∀u∈flatG gs,u.oneCell'=true:=by
 intro u hu
 unfold flatG at hu
 obtain ⟨g,_,hg⟩:=List.mem_flatMap.1 hu
 simp only [List.mem_cons,List.mem_nil_iff,or_false] at hg
 rcases hg with rfl | rfl <;> rfl
theorem add_odd {ad:Addr} {k:Nat}:ad.add (k*2+1)=⟨(ad.add (k*2)).block,(ad.add (k*2)).off+1,none⟩:=by
 rw [add_succ_]
 cases k with
 | zero=>simp [Addr.add]
 | succ m=>simp [Addr.add];omega
theorem GrC.reads {w:World} {A:Option Addr} {gs:List (List UInt8 × Int)} (h:GrC w A gs):Reads w w.heap.size 2 A gs.length (flatG gs):=by
 refine ⟨flatG_len gs,fun hn=>?_⟩
 obtain ⟨ad,e,hlt,_⟩:=h 0 hn
 refine ⟨ad,e,hlt,fun j u hu=>?_⟩
 have hj:j<gs.length*2:=by rw [←flatG_len];exact (List.getElem?_eq_some_iff.1 hu).1
 have hk:j / 2<gs.length:=by omega
 obtain ⟨ad2,e2,_,c0,c1⟩:=h (j / 2) hk
 obtain rfl:ad=ad2:=by rw [e] at e2;exact Option.some.inj e2
 obtain ⟨g0,g1⟩:=flatG_get gs (j / 2) hk
 rcases Nat.mod_two_eq_zero_or_one j with hm | hm
 ·have ej:j=j / 2*2:=by omega
  generalize j / 2=m at *
  subst ej
  rw [g0] at hu
  cases hu
  exact c0
 ·have ej:j=j / 2*2+1:=by omega
  generalize j / 2=m at *
  subst ej
  rw [g1] at hu
  cases hu
  rw [add_odd]
  exact c1
theorem InC.reads {w:World} {A:Option Addr} {ks:List Int} (h:InC w A ks):Reads w w.heap.size 1 A ks.length (ks.map (Value.int .i64)):=by
 refine ⟨by simp,fun hn=>?_⟩
 obtain ⟨ad,e,hlt,_⟩:=h 0 hn
 refine ⟨ad,e,hlt,fun j u hu=>?_⟩
 rw [List.getElem?_map,Option.map_eq_some_iff] at hu
 obtain ⟨x,hx,rfl⟩:=hu
 obtain ⟨hj,rfl⟩:=List.getElem?_eq_some_iff.1 hx
 obtain ⟨ad2,e2,_,c0⟩:=h j hj
 obtain rfl:ad=ad2:=by rw [e] at e2;exact Option.some.inj e2
 exact c0
theorem clone_gr {A:Option Addr} {n c:Nat} {xs:List Value} {w:World} (hr:Reads w w.heap.size 2 A n xs) (hone:∀u∈xs,u.oneCell'=true) (hb:n≤1000000) :
  Calls Tryz.prog 144 #[.slice A n c] w fun e w'=>∃v',e=.returned v'∧w'.ownsRow w.heap.size 158 2 v' n xs∧Below w.heap.size w w':=by
 obtain ⟨i0,hi,hz0,hz1,hz2⟩:=info_partsN (show (Tryz.prog.info? 158).map (fun i=>(i.zero,i.size,i.bytes))=some (some (.agg #[.string ByteArray.empty,.int .i64 0]),2,24) from by kernel_rfl)
 have q:∀(w:World) (a:Option Addr) (n c n' c':Nat),(binOp .eql 25 (.slice a n c) (.slice none n' c')).run Tryz.prog w=.ok (.bool a.isNone) w:=fun w a n c n' c'=>Lib.run_eql_slice_nil w _ _ a n c n' c' Tryz.underlying25
 cases A with
 | none =>
  have h0:n=0:=by
   rcases Nat.eq_zero_or_pos n with h0 | h0
   ·exact h0
   ·obtain ⟨ad,h,_⟩:=hr.2 h0
    cases h
  subst h0
  have hx:xs=[]:=List.eq_nil_of_length_eq_zero (by have:=hr.1;omega)
  subst hx
  clear hr hone
  go_enter Tryz.func144,Tryz.ntmps144
  go_wp2
  go_ret
  exact ⟨_,rfl,World.ownsRow_nil _ _ _ _,Below.refl _ _⟩
 | some ad =>
  have hr':=hr.alloc (Nat.le_refl _) (.cells #[] 158)
  have Hone:=hide hone
  have Hr:=hide (hr'.more (Nat.le_succ _))
  clear hone hr' hr
  go_enter Tryz.func144,Tryz.ntmps144
  go_wp2_with (at_builtin;refine wpList_append_any _ rfl (.tmp 5) (.tmp 6) _ rfl w.heap.size 158 i0 (.agg #[.string ByteArray.empty,.int .i64 0]) 2 24 Tryz.underlying25 hi hz0 hz1 hz2 rfl (by decide) _ 0 [] rfl (World.ownsRow_made w #[] 0 (Nat.le_refl _) (Nat.zero_le _) (by simp)) (w.heap.size+1) (some ad) n c xs rfl (by simpa using Hr.out) Hone.out (by unfold maxLen;omega) (by omega) (by simp) ?_;intro v' w1 hown hgrow _)
  rw [Nat.zero_add,List.nil_append] at hown
  go_wp2
  go_ret
  refine ⟨v',rfl,hown,?_⟩
  exact ((Below.refl _ w).alloc (Nat.le_refl _) _).grown hgrow (by simp) (by rintro k ⟨⟩;exact Nat.le_refl _)
theorem clone_in {A:Option Addr} {n c:Nat} {xs:List Value} {w:World} (hr:Reads w w.heap.size 1 A n xs) (hone:∀u∈xs,u.oneCell'=true) (hb:n≤1000000) :
  Calls Tryz.prog 145 #[.slice A n c] w fun e w'=>∃v',e=.returned v'∧w'.ownsRow w.heap.size 3 1 v' n xs∧Below w.heap.size w w':=by
 obtain ⟨i0,hi,hz0,hz1,hz2⟩:=info_partsN (show (Tryz.prog.info? 3).map (fun i=>(i.zero,i.size,i.bytes))=some (some (.int .i64 0),1,8) from by kernel_rfl)
 have q:∀(w:World) (a:Option Addr) (n c n' c':Nat),(binOp .eql 26 (.slice a n c) (.slice none n' c')).run Tryz.prog w=.ok (.bool a.isNone) w:=fun w a n c n' c'=>Lib.run_eql_slice_nil w _ _ a n c n' c' Tryz.underlying26
 cases A with
 | none =>
  have h0:n=0:=by
   rcases Nat.eq_zero_or_pos n with h0 | h0
   ·exact h0
   ·obtain ⟨ad,h,_⟩:=hr.2 h0
    cases h
  subst h0
  have hx:xs=[]:=List.eq_nil_of_length_eq_zero (by have:=hr.1;omega)
  subst hx
  clear hr hone
  go_enter Tryz.func145,Tryz.ntmps145
  go_wp2
  go_ret
  exact ⟨_,rfl,World.ownsRow_nil _ _ _ _,Below.refl _ _⟩
 | some ad =>
  have hr':=hr.alloc (Nat.le_refl _) (.cells #[] 3)
  have Hone:=hide hone
  have Hr:=hide (hr'.more (Nat.le_succ _))
  clear hone hr' hr
  go_enter Tryz.func145,Tryz.ntmps145
  go_wp2_with (at_builtin;refine wpList_append_any _ rfl (.tmp 5) (.tmp 6) _ rfl w.heap.size 3 i0 (.int .i64 0) 1 8 Tryz.underlying26 hi hz0 hz1 hz2 rfl (by decide) _ 0 [] rfl (World.ownsRow_made w #[] 0 (Nat.le_refl _) (Nat.zero_le _) (by simp)) (w.heap.size+1) (some ad) n c xs rfl (by simpa using Hr.out) Hone.out (by unfold maxLen;omega) (by omega) (by simp) ?_;intro v' w1 hown hgrow _)
  rw [Nat.zero_add,List.nil_append] at hown
  go_wp2
  go_ret
  refine ⟨v',rfl,hown,?_⟩
  exact ((Below.refl _ w).alloc (Nat.le_refl _) _).grown hgrow (by simp) (by rintro k ⟨⟩;exact Nat.le_refl _)
theorem wrA_mid (pre mid post vs:List Value) (h:mid.length=vs.length):wrA (pre++mid++post).toArray pre.length vs=(pre++vs++post).toArray:=by
 induction vs generalizing pre mid with
 | nil =>
  have:mid=[]:=List.eq_nil_of_length_eq_zero h
  subst this
  simp [wrA]
 | cons v r ih =>
  match mid,h with
  | p :: m,h =>
   unfold wrA
   rw [List.setIfInBounds_toArray,List.append_assoc,List.set_append_right _ _ (Nat.le_refl _),Nat.sub_self,List.cons_append,List.set_cons_zero]
   have h2:=ih (pre++[v]) m (by simpa using h)
   rw [List.length_append,List.length_singleton] at h2
   rw [show pre++v :: (m++post)=pre++[v]++m++post by simp,h2]
   simp
theorem wpList_skip {w w':World} {ops:Array Oper} {rest:List Oper} {op:Oper} {a:Act} {Q:Exit→Act→World→Prop} (hgd:op.guard=none) (hr:(execOp a.eval op).run Tryz.prog w=.ok .skip w')
  (h:wpList Tryz.prog ops Q rest (a.put op.dst undef) w'):wpList Tryz.prog ops Q (op :: rest) a w :=
 wpList_plain hgd fun _ hK=>by
  unfold Oper.wp
  rw [hr]
  exact hK _ _ h
theorem RowC.eight {w:World} {g:Nat} {ls:List (List (List UInt8))} (h:RowC w g ls) (hs:∀l∈ls,l.length≤1000000):Eight w g ls :=
 ⟨h.1,hs,fun i l hl=>by
  obtain ⟨hi,rfl⟩:=List.getElem?_eq_some_iff.1 hl
  obtain ⟨A,c,h1,h2,_⟩:=h.2.2 i hi
  exact ⟨A,c,h1,h2⟩⟩
theorem blk_there_at {w:World} {b o:Nat} {t:TypeId} {cs:Array Value} {n:Nat} (h:Blk w b t cs) (hn:o+n≤cs.size):w.there b o n:=fun j hj=>by
 rw [h.cell (o+j),Array.getElem?_eq_getElem (by omega)]
 exact ⟨rfl,h.frozen (o+j)⟩
theorem own_baseC {w:World} {b b':Nat} {e:TypeId} {size n:Nat} {v:Value} {xs:List Value} (h:w.ownsRow b e size v n xs) (hb:b'≤b):w.ownsRow b' e size v n xs:=by
 refine ⟨h.1,?_⟩
 rcases h.2 with h0 | ⟨g,cap,cur,h1,h2,h3⟩
 ·exact .inl h0
 ·exact .inr ⟨g,cap,cur,h1,Nat.le_trans hb h2,h3⟩
theorem own_setC {w:World} {b:Nat} {e:TypeId} {size n:Nat} {v:Value} {xs:List Value} (h:w.ownsRow b e size v n xs) {p:Addr} (hp:p.block<b) (u:Value):(w.setCell p u).ownsRow b e size v n xs:=by
 have hg:w.grownBy (w.setCell p u) (some p.block):=only_setCell (only_refl w _) (.inl rfl) u
 refine h.kept hg ?_
 cases ev:v.ownBlock with
 | none=>exact .inl rfl
 | some i =>
  right
  intro e2
  have:=(h.lt i ev).1
  cases e2
  omega
theorem own_setCells {b g:Nat} {e:TypeId} {size n:Nat} {v:Value} {xs:List Value} (hg:g<b):∀(vs:List Value) (o:Nat) {w:World},w.ownsRow b e size v n xs→(w.setCells g o vs).ownsRow b e size v n xs
 | [],_,_,h=>h
 | u :: r,o,_,h=>own_setCells hg r (o+1) (own_setC h (p:=⟨g,o,none⟩) hg u)
theorem infoPrefs:(Tryz.prog.info? 24).map (·.size)=some 8:=by kernel_rfl
@[go_sem] theorem confField3 (v0 v1 v2 v3 v4 v5 v6 v7 v8 v9 v10 v11 v12 v13 v14 v15 v16 v17 v18 v19 v20 v21 v22:Value) (w:World):(Instr.field 30 (.agg #[v0,v1,v2,v3,v4,v5,v6,v7,v8,v9,v10,v11,v12,v13,v14,v15,v16,v17,v18,v19,v20,v21,v22]) 3).run Tryz.prog w=.ok (.agg #[v3,v4,v5,v6,v7,v8,v9,v10]) w:=by kernel_rfl
theorem inc_keep {w w':World} {lo:Nat} {A:Option Addr} {ks:List Int} (h:InC w A ks) (ha:∀ad,A=some ad→lo≤ad.block) (hs:w.heap.size≤w'.heap.size) (hk:∀p:Addr,lo≤p.block→p.block<w.heap.size→w'.cell? p=w.cell? p):InC w' A ks:=fun k hk2=>by
 obtain ⟨ad,e,h1,h2⟩:=h k hk2
 exact ⟨ad,e,Nat.lt_of_lt_of_le h1 hs,(hk (ad.add k) (by rw [block_of_add];exact ha ad e) (by rw [block_of_add];exact h1)).trans h2⟩
section
variable {w : World}
theorem cplain_cN (hM:MethV w) (host:Int):Calls Tryz.prog 37 #[.bool false,.int .i64 host] w (fun e w'=>∃B0 m0 d0 B1 m1 d1 B2 m2 d2 B3 m3 d3 B4 m4 d4 B5 m5 d5 B6 m6 d6 B7 m7 d7 B8 d8 B9 d9,e=.returned (.agg #[.bool false,.string ⟨#[112,108,97,105,110]⟩,.string ⟨#[]⟩,.slice B0 m0 d0,.slice B1 m1 d1,.slice B2 m2 d2,.slice B3 m3 d3,.slice B4 m4 d4,.slice B5 m5 d5,.slice B6 m6 d6,.slice B7 m7 d7,.slice B8 1 d8,.int .i64 0,.slice none 0 0,.int .i64 0,.int .i64 host,.string ⟨#[97,110,110]⟩,.slice B9 1 d9,.bool true,.bool false,.int .u32 2048,.int .u32 3072,.int .u32 8192])∧CfM w' [112,108,97,105,110] [] [97,110,110] [.slice B0 m0 d0,.slice B1 m1 d1,.slice B2 m2 d2,.slice B3 m3 d3,.slice B4 m4 d4,.slice B5 m5 d5,.slice B6 m6 d6,.slice B7 m7 d7] plainLs B8 d8 [[115,115,104,45,101,100,50,53,53,49,57]] none [] B9 [8]∧(∀V:World,w'.heap.size≤V.heap.size→(∀p:Addr,w.heap.size≤p.block→p.block<w'.heap.size→V.cell? p=w'.cell? p)→CfM V [112,108,97,105,110] [] [97,110,110] [.slice B0 m0 d0,.slice B1 m1 d1,.slice B2 m2 d2,.slice B3 m3 d3,.slice B4 m4 d4,.slice B5 m5 d5,.slice B6 m6 d6,.slice B7 m7 d7] plainLs B8 d8 [[115,115,104,45,101,100,50,53,53,49,57]] none [] B9 [8])∧Below w.heap.size w w'):=by
 obtain ⟨W0,hW0⟩:∃W0,W0=w.alloc (.cells zeroC 30):=⟨_,rfl⟩
 have hb0:Below w.heap.size w W0:=by rw [hW0];exact bel_by
 have hX0:Blk W0 w.heap.size 30 zeroC:=by rw [hW0];exact Blk.new w _ _
 have HP:=hide (pplain_any (hM.below hb0))
 have HX:=hide (And.intro hb0 hX0)
 have hlt0:=hX0.lt
 clear hb0 hX0 hM
 go_enter Tryz.func37,Tryz.ntmps37
 go_upto_region 1 with fail
 unfold zeroC at hW0
 rw [←hW0]
 clear hW0
 refine wp_region_lit ?_
 refine wpList_val (v:=.bool false) (w':=W0) rfl rfl ?_
 try simp only [Act.put,List.setIfInBounds_toArray,List.set_cons_zero,List.set_cons_succ]
 refine wpList_call_ (f:=84) (args:=#[]) rfl (by go_simp) HP.out ?_
 rintro e w1 ⟨B0,m0,d0,B1,m1,d1,B2,m2,d2,B3,m3,d3,B4,m4,d4,B5,m5,d5,B6,m6,d6,B7,m7,d7,rfl,hall,hb1⟩
 refine ⟨_,rfl,?_⟩
 try simp only [Act.put,List.setIfInBounds_toArray,List.set_cons_zero,List.set_cons_succ]
 obtain ⟨w2,hw2⟩:∃w2,w2=w1.alloc (.cells #[.string ⟨#[115,115,104,45,101,100,50,53,53,49,57]⟩] 9):=⟨_,rfl⟩
 have hN2:NewC w1.heap.size w2 (.slice (some ⟨w1.heap.size,0,none⟩) 1 1) [[115,115,104,45,101,100,50,53,53,49,57]]:=by rw [hw2];exact newC_blk [[115,115,104,45,101,100,50,53,53,49,57]]
 have hb2:Below w1.heap.size w1 w2:=by rw [hw2];exact bel_newN _
 refine wpList_val (v:=.slice (some ⟨w1.heap.size,0,none⟩) 1 1) (w':=w2) rfl (by rw [hw2];go_simp) ?_
 clear hw2
 obtain ⟨gb,hgb⟩:∃gb,gb=w1.heap.size:=⟨_,rfl⟩
 rw [←hgb] at hN2
 simp only [←hgb]
 have Hgb:=hide hgb
 clear hgb
 try simp only [Act.put,List.setIfInBounds_toArray,List.set_cons_zero,List.set_cons_succ]
 refine wpList_val (v:=.agg #[.bool false,.string ⟨#[112,108,97,105,110]⟩,.string ⟨#[]⟩,.slice B0 m0 d0,.slice B1 m1 d1,.slice B2 m2 d2,.slice B3 m3 d3,.slice B4 m4 d4,.slice B5 m5 d5,.slice B6 m6 d6,.slice B7 m7 d7,.slice (some ⟨gb,0,none⟩) 1 1,.int .i64 0,.slice none 0 0,.int .i64 0,.int .i64 0,.string ⟨#[]⟩,.slice none 0 0,.bool false,.bool false,.int .u32 0,.int .u32 0,.int .u32 0]) (w':=w2) rfl (buildC _ rfl _ rfl rfl rfl rfl _) ?_
 try simp only [Act.put,List.setIfInBounds_toArray,List.set_cons_zero,List.set_cons_succ]
 obtain ⟨w3,hw3⟩:∃w3,w3=w2.alloc (.cells zeroC 30):=⟨_,rfl⟩
 have hX3:Blk w3 w2.heap.size 30 zeroC:=by rw [hw3];exact Blk.new w2 _ _
 have hb3:Below w2.heap.size w2 w3:=by rw [hw3];exact bel_newN _
 refine wpList_val (v:=.pointer (some ⟨w2.heap.size,0,none⟩)) (w':=w3) rfl (by rw [hw3];exact allocC _ rfl _ _) ?_
 clear hw3
 have hsz2:=hb2.size
 have hsz1:=hb1.size
 obtain ⟨b5,hb5⟩:∃b5,b5=w2.heap.size:=⟨_,rfl⟩
 rw [←hb5] at hX3
 simp only [←hb5]
 try simp only [Act.put,List.setIfInBounds_toArray,List.set_cons_zero,List.set_cons_succ]
 refine wpList_store_conf rfl (.tmp 5) (.tmp 9) rfl (by rfl) (by rfl) hX3 rfl rfl (by simp [Value.oneCell']) ?_
 have hX4:Blk (w3.setCells b5 0 [.bool false,.string ⟨#[112,108,97,105,110]⟩,.string ⟨#[]⟩,.slice B0 m0 d0,.slice B1 m1 d1,.slice B2 m2 d2,.slice B3 m3 d3,.slice B4 m4 d4,.slice B5 m5 d5,.slice B6 m6 d6,.slice B7 m7 d7,.slice (some ⟨gb,0,none⟩) 1 1,.int .i64 0,.slice none 0 0,.int .i64 0,.int .i64 0,.string ⟨#[]⟩,.slice none 0 0,.bool false,.bool false,.int .u32 0,.int .u32 0,.int .u32 0]) b5 30 #[.bool false,.string ⟨#[112,108,97,105,110]⟩,.string ⟨#[]⟩,.slice B0 m0 d0,.slice B1 m1 d1,.slice B2 m2 d2,.slice B3 m3 d3,.slice B4 m4 d4,.slice B5 m5 d5,.slice B6 m6 d6,.slice B7 m7 d7,.slice (some ⟨gb,0,none⟩) 1 1,.int .i64 0,.slice none 0 0,.int .i64 0,.int .i64 0,.string ⟨#[]⟩,.slice none 0 0,.bool false,.bool false,.int .u32 0,.int .u32 0,.int .u32 0]:=by
  have h9:=Blk.setCells [.bool false,.string ⟨#[112,108,97,105,110]⟩,.string ⟨#[]⟩,.slice B0 m0 d0,.slice B1 m1 d1,.slice B2 m2 d2,.slice B3 m3 d3,.slice B4 m4 d4,.slice B5 m5 d5,.slice B6 m6 d6,.slice B7 m7 d7,.slice (some ⟨gb,0,none⟩) 1 1,.int .i64 0,.slice none 0 0,.int .i64 0,.int .i64 0,.string ⟨#[]⟩,.slice none 0 0,.bool false,.bool false,.int .u32 0,.int .u32 0,.int .u32 0] 0 hX3
  rw [wrA_all (by rfl)] at h9
  exact h9
 have hb4:Below w2.heap.size w2 (w3.setCells b5 0 [.bool false,.string ⟨#[112,108,97,105,110]⟩,.string ⟨#[]⟩,.slice B0 m0 d0,.slice B1 m1 d1,.slice B2 m2 d2,.slice B3 m3 d3,.slice B4 m4 d4,.slice B5 m5 d5,.slice B6 m6 d6,.slice B7 m7 d7,.slice (some ⟨gb,0,none⟩) 1 1,.int .i64 0,.slice none 0 0,.int .i64 0,.int .i64 0,.string ⟨#[]⟩,.slice none 0 0,.bool false,.bool false,.int .u32 0,.int .u32 0,.int .u32 0]):=below_setCells (by omega) [.bool false,.string ⟨#[112,108,97,105,110]⟩,.string ⟨#[]⟩,.slice B0 m0 d0,.slice B1 m1 d1,.slice B2 m2 d2,.slice B3 m3 d3,.slice B4 m4 d4,.slice B5 m5 d5,.slice B6 m6 d6,.slice B7 m7 d7,.slice (some ⟨gb,0,none⟩) 1 1,.int .i64 0,.slice none 0 0,.int .i64 0,.int .i64 0,.string ⟨#[]⟩,.slice none 0 0,.bool false,.bool false,.int .u32 0,.int .u32 0,.int .u32 0] 0 hb3
 generalize w3.setCells b5 0 [.bool false,.string ⟨#[112,108,97,105,110]⟩,.string ⟨#[]⟩,.slice B0 m0 d0,.slice B1 m1 d1,.slice B2 m2 d2,.slice B3 m3 d3,.slice B4 m4 d4,.slice B5 m5 d5,.slice B6 m6 d6,.slice B7 m7 d7,.slice (some ⟨gb,0,none⟩) 1 1,.int .i64 0,.slice none 0 0,.int .i64 0,.int .i64 0,.string ⟨#[]⟩,.slice none 0 0,.bool false,.bool false,.int .u32 0,.int .u32 0,.int .u32 0]=w4 at hX4 hb4 ⊢
 try simp only [Act.put,List.setIfInBounds_toArray,List.set_cons_zero,List.set_cons_succ]
 have c15:=hX4.cell 15
 have f15:=hX4.frozen 15
 have c16:=hX4.cell 16
 have f16:=hX4.frozen 16
 have c17:=hX4.cell 17
 have f17:=hX4.frozen 17
 have c18:=hX4.cell 18
 have f18:=hX4.frozen 18
 have c20:=hX4.cell 20
 have f20:=hX4.frozen 20
 have c21:=hX4.cell 21
 have f21:=hX4.frozen 21
 have c22:=hX4.cell 22
 have f22:=hX4.frozen 22
 simp only [List.getElem?_toArray,List.getElem?_cons_zero,List.getElem?_cons_succ] at c15 c16 c17 c18 c20 c21 c22
 have hlt4:=hX4.lt
 have H4:=hide (And.intro hX4 (And.intro hb4 (And.intro hN2 (And.intro hb2 (And.intro hall hb1)))))
 have hb5e:=hide hb5
 clear hX4 hb4 hN2 hb2 hall hb1 hX3 hb3 hb5
 go_upto_region 6 with fail
 have hs2:=H4.out.2.2.2.1.size
 have hs1:=H4.out.2.2.2.2.2.size
 have hs0:=HX.out.1.size
 have h5e:=hb5e.out
 have hX6:Blk (((((((((w4.setCell ⟨b5,15,none⟩ (.int .i64 host)).setCell ⟨b5,16,none⟩ (.string ⟨#[97,110,110]⟩)).setCell ⟨b5,17,none⟩ (.slice (some ⟨w4.heap.size,0,none⟩) 1 1)).setCell ⟨b5,18,none⟩ (.bool true)).setCell ⟨b5,20,none⟩ (.int .u32 2048)).setCell ⟨b5,21,none⟩ (.int .u32 3072)).setCell ⟨b5,22,none⟩ (.int .u32 8192)).alloc (.cells #[.int .i64 8] 3))) b5 30 #[.bool false,.string ⟨#[112,108,97,105,110]⟩,.string ⟨#[]⟩,.slice B0 m0 d0,.slice B1 m1 d1,.slice B2 m2 d2,.slice B3 m3 d3,.slice B4 m4 d4,.slice B5 m5 d5,.slice B6 m6 d6,.slice B7 m7 d7,.slice (some ⟨gb,0,none⟩) 1 1,.int .i64 0,.slice none 0 0,.int .i64 0,.int .i64 host,.string ⟨#[97,110,110]⟩,.slice (some ⟨w4.heap.size,0,none⟩) 1 1,.bool true,.bool false,.int .u32 2048,.int .u32 3072,.int .u32 8192]:=by
  have h9:=((((((((H4.out.1.set_ 15 (.int .i64 host)).set_ 16 (.string ⟨#[97,110,110]⟩)).set_ 17 (.slice (some ⟨w4.heap.size,0,none⟩) 1 1)).set_ 18 (.bool true)).set_ 20 (.int .u32 2048)).set_ 21 (.int .u32 3072)).set_ 22 (.int .u32 8192)).alloc (.cells #[.int .i64 8] 3))
  simpa using h9
 have hB2:Below w2.heap.size w2 (((((((((w4.setCell ⟨b5,15,none⟩ (.int .i64 host)).setCell ⟨b5,16,none⟩ (.string ⟨#[97,110,110]⟩)).setCell ⟨b5,17,none⟩ (.slice (some ⟨w4.heap.size,0,none⟩) 1 1)).setCell ⟨b5,18,none⟩ (.bool true)).setCell ⟨b5,20,none⟩ (.int .u32 2048)).setCell ⟨b5,21,none⟩ (.int .u32 3072)).setCell ⟨b5,22,none⟩ (.int .u32 8192)).alloc (.cells #[.int .i64 8] 3))):=(((((((((H4.out.2.1).setCell (p:=⟨b5,15,none⟩) (by show _≤b5;omega) _).setCell (p:=⟨b5,16,none⟩) (by show _≤b5;omega) _).setCell (p:=⟨b5,17,none⟩) (by show _≤b5;omega) _).setCell (p:=⟨b5,18,none⟩) (by show _≤b5;omega) _).setCell (p:=⟨b5,20,none⟩) (by show _≤b5;omega) _).setCell (p:=⟨b5,21,none⟩) (by show _≤b5;omega) _).setCell (p:=⟨b5,22,none⟩) (by show _≤b5;omega) _).alloc (by simp only [World.size_setCell];omega) _)
 have hB1:Below w1.heap.size w1 (((((((((w4.setCell ⟨b5,15,none⟩ (.int .i64 host)).setCell ⟨b5,16,none⟩ (.string ⟨#[97,110,110]⟩)).setCell ⟨b5,17,none⟩ (.slice (some ⟨w4.heap.size,0,none⟩) 1 1)).setCell ⟨b5,18,none⟩ (.bool true)).setCell ⟨b5,20,none⟩ (.int .u32 2048)).setCell ⟨b5,21,none⟩ (.int .u32 3072)).setCell ⟨b5,22,none⟩ (.int .u32 8192)).alloc (.cells #[.int .i64 8] 3))):=(((((((((H4.out.2.2.2.1.trans (H4.out.2.1.mono hs2)).setCell (p:=⟨b5,15,none⟩) (by show _≤b5;omega) _).setCell (p:=⟨b5,16,none⟩) (by show _≤b5;omega) _).setCell (p:=⟨b5,17,none⟩) (by show _≤b5;omega) _).setCell (p:=⟨b5,18,none⟩) (by show _≤b5;omega) _).setCell (p:=⟨b5,20,none⟩) (by show _≤b5;omega) _).setCell (p:=⟨b5,21,none⟩) (by show _≤b5;omega) _).setCell (p:=⟨b5,22,none⟩) (by show _≤b5;omega) _).alloc (by simp only [World.size_setCell];omega) _)
 have hB0:Below W0.heap.size W0 (((((((((w4.setCell ⟨b5,15,none⟩ (.int .i64 host)).setCell ⟨b5,16,none⟩ (.string ⟨#[97,110,110]⟩)).setCell ⟨b5,17,none⟩ (.slice (some ⟨w4.heap.size,0,none⟩) 1 1)).setCell ⟨b5,18,none⟩ (.bool true)).setCell ⟨b5,20,none⟩ (.int .u32 2048)).setCell ⟨b5,21,none⟩ (.int .u32 3072)).setCell ⟨b5,22,none⟩ (.int .u32 8192)).alloc (.cells #[.int .i64 8] 3))):=(((((((((H4.out.2.2.2.2.2.trans ((H4.out.2.2.2.1.trans (H4.out.2.1.mono hs2)).mono hs1)).setCell (p:=⟨b5,15,none⟩) (by show _≤b5;omega) _).setCell (p:=⟨b5,16,none⟩) (by show _≤b5;omega) _).setCell (p:=⟨b5,17,none⟩) (by show _≤b5;omega) _).setCell (p:=⟨b5,18,none⟩) (by show _≤b5;omega) _).setCell (p:=⟨b5,20,none⟩) (by show _≤b5;omega) _).setCell (p:=⟨b5,21,none⟩) (by show _≤b5;omega) _).setCell (p:=⟨b5,22,none⟩) (by show _≤b5;omega) _).alloc (by simp only [World.size_setCell];omega) _)
 have hG6:Blk (((((((((w4.setCell ⟨b5,15,none⟩ (.int .i64 host)).setCell ⟨b5,16,none⟩ (.string ⟨#[97,110,110]⟩)).setCell ⟨b5,17,none⟩ (.slice (some ⟨w4.heap.size,0,none⟩) 1 1)).setCell ⟨b5,18,none⟩ (.bool true)).setCell ⟨b5,20,none⟩ (.int .u32 2048)).setCell ⟨b5,21,none⟩ (.int .u32 3072)).setCell ⟨b5,22,none⟩ (.int .u32 8192)).alloc (.cells #[.int .i64 8] 3))) w4.heap.size 3 #[.int .i64 8]:=by
  have h9:=Blk.new (((((((w4.setCell ⟨b5,15,none⟩ (.int .i64 host)).setCell ⟨b5,16,none⟩ (.string ⟨#[97,110,110]⟩)).setCell ⟨b5,17,none⟩ (.slice (some ⟨w4.heap.size,0,none⟩) 1 1)).setCell ⟨b5,18,none⟩ (.bool true)).setCell ⟨b5,20,none⟩ (.int .u32 2048)).setCell ⟨b5,21,none⟩ (.int .u32 3072)).setCell ⟨b5,22,none⟩ (.int .u32 8192)) 3 #[.int .i64 8]
  simpa only [World.size_setCell] using h9
 have hR6:=HX.out.2.below hB0 hlt0
 have hg4:w.heap.size≠w4.heap.size:=by omega
 have hg5:w.heap.size≤w4.heap.size:=by omega
 generalize ((((((((w4.setCell ⟨b5,15,none⟩ (.int .i64 host)).setCell ⟨b5,16,none⟩ (.string ⟨#[97,110,110]⟩)).setCell ⟨b5,17,none⟩ (.slice (some ⟨w4.heap.size,0,none⟩) 1 1)).setCell ⟨b5,18,none⟩ (.bool true)).setCell ⟨b5,20,none⟩ (.int .u32 2048)).setCell ⟨b5,21,none⟩ (.int .u32 3072)).setCell ⟨b5,22,none⟩ (.int .u32 8192)).alloc (.cells #[.int .i64 8] 3))=w6 at hX6 hB2 hB1 hB0 hG6 hR6 ⊢
 generalize w4.heap.size=g2 at hX6 hG6 hg4 hg5 ⊢
 have hone:(#[.bool false,.string ⟨#[112,108,97,105,110]⟩,.string ⟨#[]⟩,.slice B0 m0 d0,.slice B1 m1 d1,.slice B2 m2 d2,.slice B3 m3 d3,.slice B4 m4 d4,.slice B5 m5 d5,.slice B6 m6 d6,.slice B7 m7 d7,.slice (some ⟨gb,0,none⟩) 1 1,.int .i64 0,.slice none 0 0,.int .i64 0,.int .i64 host,.string ⟨#[97,110,110]⟩,.slice (some ⟨g2,0,none⟩) 1 1,.bool true,.bool false,.int .u32 2048,.int .u32 3072,.int .u32 8192]:Array Value).all (·.oneCell')=true:=by simp [Value.oneCell']
 obtain ⟨cF,hcF⟩:∃c:Array Value,c=#[.bool false,.string ⟨#[112,108,97,105,110]⟩,.string ⟨#[]⟩,.slice B0 m0 d0,.slice B1 m1 d1,.slice B2 m2 d2,.slice B3 m3 d3,.slice B4 m4 d4,.slice B5 m5 d5,.slice B6 m6 d6,.slice B7 m7 d7,.slice (some ⟨gb,0,none⟩) 1 1,.int .i64 0,.slice none 0 0,.int .i64 0,.int .i64 host,.string ⟨#[97,110,110]⟩,.slice (some ⟨g2,0,none⟩) 1 1,.bool true,.bool false,.int .u32 2048,.int .u32 3072,.int .u32 8192]:=⟨_,rfl⟩
 have hlF:cF.toList.length=23:=by rw [hcF];rfl
 rw [←hcF] at hX6 hone
 refine wp_region_lit ?_
 refine wpList_load_confA rfl (.tmp 5) rfl (by rfl) hX6 hlF ?_
 try simp only [Act.put,List.setIfInBounds_toArray,List.set_cons_zero,List.set_cons_succ]
 refine wpList_store_conf rfl (.tmp 4) (.tmp 26) rfl (by rfl) (by rfl) hR6 rfl hlF hone ?_
 have hR7:Blk (w6.setCells w.heap.size 0 cF.toList) w.heap.size 30 cF:=by
  have h9:=Blk.setCells cF.toList 0 hR6
  rw [wrA_all (by rw [hlF];rfl),Array.toArray_toList] at h9
  exact h9
 have hG7:=Blk.setCells_far (Ne.symm hg4) cF.toList 0 hG6
 have hb7:Below w.heap.size w (w6.setCells w.heap.size 0 cF.toList):=below_setCells (Nat.le_refl _) _ _ (HX.out.1.trans (hB0.mono hs0))
 have hn7:∀(i:Nat) v l,([.slice B0 m0 d0,.slice B1 m1 d1,.slice B2 m2 d2,.slice B3 m3 d3,.slice B4 m4 d4,.slice B5 m5 d5,.slice B6 m6 d6,.slice B7 m7 d7]:List Value)[i]?=some v→plainLs[i]?=some l→NewC _ _ v l:=fun i v l h1 h2=>NewC.setCells hlt0 cF.toList 0 ((H4.out.2.2.2.2.1 i v l h1 h2).belowW hB1)
 have ha7:=NewC.setCells (b:=w.heap.size) (by have:=Hgb.out;omega) cF.toList 0 (H4.out.2.2.1.belowW hB2)
 generalize w6.setCells w.heap.size 0 cF.toList=w7 at hR7 hG7 hb7 hn7 ha7 ⊢
 clear hX6 hB2 hB1 hB0 hG6 hR6 hone H4 HX c15 f15 c16 f16 c17 f17 c18 f18 c20 f20 c21 f21 c22 f22
 try simp only [Act.put,List.setIfInBounds_toArray,List.set_cons_zero,List.set_cons_succ]
 go_wp2_with fail
 refine bodyPost_ret (results_conf rfl (by rfl) hR7 hlF) rfl ?_
 subst hcF
 exact ⟨B0,m0,d0,B1,m1,d1,B2,m2,d2,B3,m3,d3,B4,m4,d4,B5,m5,d5,B6,m6,d6,B7,m7,d7,some ⟨gb,0,none⟩,1,some ⟨g2,0,none⟩,1,rfl,⟨by decide,by decide,by decide,all8_plain rfl hn7,ha7.txc.1,Nat.le_refl _,by decide,by decide,(fun k hk=>absurd hk (Nat.not_lt_zero _)),by decide,by decide,inc_blk hG7,by decide⟩,fun V hs hk=>⟨by decide,by decide,by decide,all8_plain rfl (fun i v l h1 h2=>(hn7 i v l h1 h2).keepL (Nat.le_of_lt hlt0) hs hk),(ha7.keepL (by have:=Hgb.out;omega) hs hk).txc.1,Nat.le_refl _,by decide,by decide,(fun k hk=>absurd hk (Nat.not_lt_zero _)),by decide,by decide,inc_keep (inc_blk hG7) (fun ad e=>by cases e;exact hg5) hs hk,by decide⟩,hb7⟩
end
end Go.Proofs.YtnhekaepgpbijaaGreatDoor

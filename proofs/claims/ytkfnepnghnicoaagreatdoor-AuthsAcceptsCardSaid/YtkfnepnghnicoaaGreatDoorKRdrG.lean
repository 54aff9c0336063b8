/-
  Several of my texts in one: MakeA, Rdr, EncA.
-/
import Derived.Test.YtkfnepnghnicoaaGreatDoorKPut
import Derived.Test.YtkfnepnghnicoaaGreatDoorKSortA
import Derived.Test.YtkfnepnghnicoaaGreatDoorKWholeAG
set_option linter.unusedVariables false
set_option linter.unusedSimpArgs false
set_option maxHeartbeats 40000000
set_option maxRecDepth 100000
namespace Go.Proofs.YtkfnepnghnicoaaGreatDoor
open Go.RowKit Go.ChangeShapes Go.WideShapes Go.Sort
section
variable {B g : Nat} {w w2 : World} {T : List Tm} {S : Nat → Prop}
theorem Done.from_ {o:Option Tm} {e:Ending} {w':World} (h:Done B w2 g T S o e w') (hb:Below w.heap.size w w2):Done B w g T S o e w':=by
 obtain ⟨T',n,S',h1,h2,h3,h4⟩:=h
 exact ⟨T',n,S',h1,h2,h3,(Grown.of_below hb).trans h4⟩
structure Use (B:Nat) (w:World) (g:Nat) (T:List Tm) (S:Nat→Prop):Prop where
 ar:Ar B w g T S
 old:∃w0:World,Tab w0∧w0.heap.size≤B∧Below w0.heap.size w0 w
 base:B≤w.heap.size
 few:T.length≤1000000000
theorem Use.tab (h:Use B w g T S):Tab w:=by
 obtain ⟨w0,h1,_,h2⟩:=h.old
 exact h1.below h2
theorem Use.below (h:Use B w g T S) (hb:Below w.heap.size w w2):Use B w2 g T S:=by
 obtain ⟨w0,h1,h2,h3⟩:=h.old
 exact ⟨h.ar.below hb,⟨w0,h1,h2,h3.trans (hb.mono h3.size)⟩,Nat.le_trans h.base hb.size,h.few⟩
theorem Use.grown (h:Use B w g T S) {T':List Tm} {S':Nat→Prop} (hg:Grown S w S' w2) (ha:Ar B w2 g T' S') (hf:T'.length≤1000000000):Use B w2 g T' S':=by
 obtain ⟨w0,h1,h2,h3⟩:=h.old
 exact ⟨ha,⟨w0,h1,h2,h3.trans ((hg.below h.base h.ar.sB).mono h2)⟩,Nat.le_trans h.base hg.size,hf⟩
theorem Use.kept {row:Option Nat} (h:Use B w g T S) (k:w.grownBy w2 row) (hr:∀b,row=some b→¬ S b∧B≤b):Use B w2 g T S:=by
 obtain ⟨w0,h1,h2,h3⟩:=h.old
 refine ⟨h.ar.kept k fun b e=>(hr b e).1,⟨w0,h1,h2,?_⟩,Nat.le_trans h.base k.size,h.few⟩
 exact ⟨k.os.trans h3.os,k.tape.trans h3.tape,k.output.trans h3.output,Nat.le_trans h3.size k.size,fun i hi=>(k.block i (Nat.lt_of_lt_of_le hi h3.size) (fun e=>by have:=(hr i e.symm).2;omega)).trans (h3.block i hi)⟩
theorem put_at (h:Use B w g T S) (hbw:Below w.heap.size w w2) {k a b:Nat} {s:ByteArray} {av:Value} {ns:List Int} (hI:Ids w2 av ns) (ha:a<4294967296) (hb:b<4294967296) (hs:s.size≤1000000) (hn:ns.length≤40)
  (hh:∀l,argl T ns=some l→hd k a b s l.length∧kids k l) (x y z:Int) (hx:x=k) (hy:y=a) (hz:z=b) :
  Calls Tryz.prog 45 #[.pointer (some ⟨g,0,none⟩),.agg #[.int .i64 x,.int .i64 y,.int .i64 z,.string s,av]] w2 (Done B w g T S (nodeO T k a b s ns)):=by
 subst hx hy hz
 have h2:=h.below hbw
 exact (put_any h2.ar h2.tab h2.base h2.few hI ha hb hs hn hh).mono fun e w' hd=>hd.from_ hbw
theorem eB_size:eB.size≤1000000:=Nat.zero_le _
theorem argl_nil {T l:List Tm} (h:argl T []=some l):l=[]:=by
 unfold argl at h
 simp only [List.map_nil,alls,Option.some.injEq] at h
 exact h.symm
theorem ids_blk {w:World} {b:Nat} {t:TypeId} {ns:List Int} (h:Blk w b t (ns.map (Value.int .i64)).toArray) (v:Value) (c:Nat) (hv:v=.slice (some ⟨b,0,none⟩) ns.length c):Ids w v ns:=by
 subst hv
 exact ⟨_,_,rfl,by simp,fun _=>⟨_,rfl,Nat.zero_le _,h.lt,fun j u hu=>by rw [add_zero_,h.cell j];simpa using hu⟩⟩
theorem ids_new1 (w:World) (t:TypeId) (n:Int):Ids (w.alloc (.cells #[.int .i64 n] t)) (.slice (some ⟨w.heap.size,0,none⟩) 1 1) [n]:=ids_blk (Blk.new w t _) _ 1 rfl
theorem ids_new2 (w:World) (t:TypeId) (n m:Int):Ids (w.alloc (.cells #[.int .i64 n,.int .i64 m] t)) (.slice (some ⟨w.heap.size,0,none⟩) 2 2) [n,m]:=ids_blk (Blk.new w t _) _ 2 rfl
theorem ids_new3 (w:World) (t:TypeId) (n m p:Int):Ids (w.alloc (.cells #[.int .i64 n,.int .i64 m,.int .i64 p] t)) (.slice (some ⟨w.heap.size,0,none⟩) 3 3) [n,m,p]:=ids_blk (Blk.new w t _) _ 3 rfl
theorem bel_new {w:World} (o:Obj):Below w.heap.size w (w.alloc o):=(Below.refl _ _).alloc (Nat.le_refl _) o
theorem number_any (n:Int) (w:World):Calls Tryz.prog 46 #[.int .i64 n] w fun e w'=>e=.returned (.bool (okN n))∧w=w':=by
 go_enter Tryz.func46,Tryz.ntmps46
 go_wp2
 all_goals go_ret
 all_goals exact ⟨ret_bool (by unfold okN;(first | (simp_all;done) | (simp_all;omega) | (rw [Bool.eq_iff_iff];simp_all;done) | (rw [Bool.eq_iff_iff];simp_all;omega))),rfl⟩
def okT (s:ByteArray) (m:Int):Bool:=decide (1≤s.size∧(s.size:Int)≤m)
theorem text_any (s:ByteArray) (m:Int) (w:World) (hs:s.size≤9223372036854775807):Calls Tryz.prog 157 #[.string s,.int .i64 m] w fun e w'=>e=.returned (.bool (okT s m))∧w=w':=by
 go_enter Tryz.func157,Tryz.ntmps157
 go_wp2
 all_goals go_ret
 all_goals exact ⟨ret_bool (by unfold okT;(first | (simp_all;done) | (simp_all;omega) | (rw [Bool.eq_iff_iff];simp_all;done) | (rw [Bool.eq_iff_iff];simp_all;omega))),rfl⟩
theorem okT_iff {s:ByteArray} {m:Int}:okT s m=true↔1≤s.size∧(s.size:Int)≤m:=by simp [okT]
theorem aData_any (h:Use B w g T S) {s:ByteArray} (hs:s.size≤1000000) :
  Calls Tryz.prog 25 #[.pointer (some ⟨g,0,none⟩),.string s] w (Done B w g T S (tData s)):=by
 have HP:=hide (fun w2 (hb:Below w.heap.size w w2)=>put_at h hb (k:=1) (a:=0) (b:=0) (s:=s) (av:=.slice none 0 0) (ids_nil w2 0) (by omega) (by omega) hs (by simp) (fun l hl=>by rw [argl_nil hl];exact ⟨⟨rfl,rfl,rfl,by omega⟩,trivial⟩) 1 0 0 rfl rfl rfl)
 clear h
 go_enter Tryz.func25,Tryz.ntmps25
 go_wp2_with (go_at_call 45;refine (HP.out _ (by exact bel_by)).mono ?_;rintro e w' ⟨T',n,S',rfl,hp,hA,hG⟩)
 go_ret
 exact ⟨T',n,S',rfl,hp,hA,hG⟩
theorem aNonce_any (h:Use B w g T S) (who n:Int) :
  Calls Tryz.prog 227 #[.pointer (some ⟨g,0,none⟩),.int .i64 who,.int .i64 n] w (Done B w g T S (tNonce who n)):=by
 by_cases h1:okN who=true
 ·by_cases h2:okN n=true
  ·have HP:=hide (fun w2 (hb:Below w.heap.size w w2)=>put_at h hb (k:=2) (a:=who.toNat) (b:=n.toNat) (s:=eB) (av:=.slice none 0 0) (ids_nil w2 0) (by have:=okN_iff.1 h1;omega) (by have:=okN_iff.1 h2;omega) eB_size (by simp) (fun l hl=>by rw [argl_nil hl];have:=okN_iff.1 h1;have:=okN_iff.1 h2;exact ⟨⟨by omega,by omega,rfl,rfl⟩,trivial⟩) 2 who n rfl (by have:=okN_iff.1 h1;omega) (by have:=okN_iff.1 h2;omega))
   rw [nodeO_nonce h1 h2] at HP
   clear h
   go_enter Tryz.func227,Tryz.ntmps227
   go_wp2_with (first
    | (go_at_call 46;refine (number_any _ _).mono ?_;rintro e w1 ⟨rfl,rfl⟩)
    | (go_at_call 45;refine (HP.out _ (by exact bel_by)).mono ?_;rintro e w' ⟨T',n,S',rfl,hp,hA,hG⟩))
   go_ret
   exact ⟨T',_,S',rfl,hp,hA,hG⟩
  ·have h2:okN n=false:=by simpa using h2
   have Hn:=hide (Done.none_ h.ar (Below.refl _ _))
   have Ho:=hide (show tNonce who n=none by unfold tNonce;rw [h1,h2];rfl)
   clear h
   go_enter Tryz.func227,Tryz.ntmps227
   go_wp2_with (go_at_call 46;refine (number_any _ _).mono ?_;rintro e w1 ⟨rfl,rfl⟩)
   go_ret
   rw [Ho.out]
   exact Hn.out
 ·have h1:okN who=false:=by simpa using h1
  have Hn:=hide (Done.none_ h.ar (Below.refl _ _))
  have Ho:=hide (show tNonce who n=none by unfold tNonce;rw [h1];rfl)
  clear h
  go_enter Tryz.func227,Tryz.ntmps227
  go_wp2_with (go_at_call 46;refine (number_any _ _).mono ?_;rintro e w1 ⟨rfl,rfl⟩)
  go_ret
  rw [Ho.out]
  exact Hn.out
theorem aKey_any (h:Use B w g T S) (who:Int) :
  Calls Tryz.prog 17 #[.pointer (some ⟨g,0,none⟩),.int .i64 who] w (Done B w g T S (tKey who)):=by
 by_cases h1:okN who=true
 ·have HP:=hide (fun w2 (hb:Below w.heap.size w w2)=>put_at h hb (k:=3) (a:=who.toNat) (b:=0) (s:=eB) (av:=.slice none 0 0) (ids_nil w2 0) (by have:=okN_iff.1 h1;omega) (by omega) eB_size (by simp) (fun l hl=>by rw [argl_nil hl];have:=okN_iff.1 h1;exact ⟨⟨by omega,rfl,rfl,rfl⟩,trivial⟩) 3 who 0 rfl (by have:=okN_iff.1 h1;omega) rfl)
  rw [nodeO_key h1] at HP
  clear h
  go_enter Tryz.func17,Tryz.ntmps17
  go_wp2_with (first
   | (go_at_call 46;refine (number_any _ _).mono ?_;rintro e w1 ⟨rfl,rfl⟩)
   | (go_at_call 45;refine (HP.out _ (by exact bel_by)).mono ?_;rintro e w' ⟨T',n,S',rfl,hp,hA,hG⟩))
  go_ret
  exact ⟨T',_,S',rfl,hp,hA,hG⟩
 ·have h1:okN who=false:=by simpa using h1
  have Hn:=hide (Done.none_ h.ar (Below.refl _ _))
  have Ho:=hide (show tKey who=none by unfold tKey;rw [h1];rfl)
  clear h
  go_enter Tryz.func17,Tryz.ntmps17
  go_wp2_with (go_at_call 46;refine (number_any _ _).mono ?_;rintro e w1 ⟨rfl,rfl⟩)
  go_ret
  rw [Ho.out]
  exact Hn.out
theorem isK_isKo (T:List Tm) (n k:Int):isK T n k=isKo (arg T n) k:=rfl
theorem argl_one {T l:List Tm} {n:Int} (h:argl T [n]=some l):∃t,arg T n=some t∧l=[t]:=by
 unfold argl at h
 simp only [List.map_cons,List.map_nil] at h
 cases e:arg T n with
 | none=>rw [e] at h;cases h
 | some t=>rw [e] at h;simp only [alls,Option.some.injEq] at h;exact ⟨t,rfl,h.symm⟩
theorem argl_two {T l:List Tm} {n m:Int} (h:argl T [n,m]=some l):∃t u,arg T n=some t∧l=[t,u]:=by
 unfold argl at h
 simp only [List.map_cons,List.map_nil] at h
 cases e:arg T n with
 | none=>rw [e] at h;cases h
 | some t=>cases e2:arg T m with
  | none=>rw [e,e2] at h;cases h
  | some u=>rw [e,e2] at h;simp only [alls,Option.some.injEq] at h;exact ⟨t,u,rfl,h.symm⟩
theorem aPub_any (h:Use B w g T S) (n:Int) :
  Calls Tryz.prog 16 #[.pointer (some ⟨g,0,none⟩),.int .i64 n] w (Done B w g T S (tPub (arg T n))):=by
 have HI:=hide (ais_any h.ar n 3)
 cases h1:isK T n 3 with
 | true =>
  rw [h1] at HI
  rw [isK_isKo] at h1
  have hok:=h.ar.ok
  have HP:=hide (fun w2 (hb:Below w.heap.size w w2) (av:Value) (hI:Ids w2 av [n])=>put_at h hb (k:=4) (a:=0) (b:=0) (s:=eB) hI (by omega) (by omega) eB_size (by simp) (fun l hl=>by
   obtain ⟨t,ht,rfl⟩:=argl_one hl
   obtain ⟨t',ht',hk⟩:=isKo_some (k:=3) h1
   rw [ht] at ht'
   cases ht'
   exact ⟨⟨rfl,rfl,rfl,rfl⟩,by simpa [kids] using hk⟩) 4 0 0 rfl rfl rfl)
  rw [nodeO_pub hok h1] at HP
  clear h h1 hok
  go_enter Tryz.func16,Tryz.ntmps16
  go_wp2_with (first
   | (go_at_call 44;refine HI.out.mono ?_;rintro e w1 ⟨rfl,rfl⟩)
   | (go_at_call 45;refine (HP.out _ (by exact bel_by) _ (ids_new1 _ _ _)).mono ?_;rintro e w' ⟨T',n,S',rfl,hp,hA,hG⟩))
  go_ret
  exact ⟨T',_,S',rfl,hp,hA,hG⟩
 | false =>
  rw [h1] at HI
  rw [isK_isKo] at h1
  have Hn:=hide (Done.none_ h.ar (Below.refl _ _))
  have Ho:=hide (tPub_no h1)
  clear h h1
  go_enter Tryz.func16,Tryz.ntmps16
  go_wp2_with (go_at_call 44;refine HI.out.mono ?_;rintro e w1 ⟨rfl,rfl⟩)
  go_ret
  rw [Ho.out]
  exact Hn.out
theorem tBase_no {s:ByteArray} (h:okT s 2100=false):tBase s=none:=by
 unfold tBase
 rw [if_neg]
 rintro ⟨h1,h2⟩
 have:okT s 2100=true:=okT_iff.2 ⟨h1,by omega⟩
 rw [this] at h
 cases h
theorem aBase_any (h:Use B w g T S) {s:ByteArray} (hs:s.size≤9223372036854775807) :
  Calls Tryz.prog 225 #[.pointer (some ⟨g,0,none⟩),.string s] w (Done B w g T S (tBase s)):=by
 cases h1:okT s 2100 with
 | true =>
  have h2:=okT_iff.1 h1
  have HP:=hide (fun w2 (hb:Below w.heap.size w w2)=>put_at h hb (k:=5) (a:=0) (b:=0) (s:=s) (av:=.slice none 0 0) (ids_nil w2 0) (by omega) (by omega) (by omega) (by simp) (fun l hl=>by rw [argl_nil hl];exact ⟨⟨rfl,rfl,by simp,by omega,by omega⟩,by simp,List.Pairwise.nil⟩) 5 0 0 rfl rfl rfl)
  rw [nodeO_base ⟨h2.1,by omega⟩] at HP
  clear h h2
  go_enter Tryz.func225,Tryz.ntmps225
  go_wp2_with (first
   | (go_at_call 157;refine (text_any _ _ _ hs).mono ?_;rintro e w1 ⟨rfl,rfl⟩)
   | (go_at_call 45;refine (HP.out _ (by exact bel_by)).mono ?_;rintro e w' ⟨T',n,S',rfl,hp,hA,hG⟩))
  go_ret
  exact ⟨T',_,S',rfl,hp,hA,hG⟩
 | false =>
  have Hn:=hide (Done.none_ h.ar (Below.refl _ _))
  have Ho:=hide (tBase_no h1)
  clear h
  go_enter Tryz.func225,Tryz.ntmps225
  go_wp2_with (go_at_call 157;refine (text_any _ _ _ hs).mono ?_;rintro e w1 ⟨rfl,rfl⟩)
  go_ret
  rw [Ho.out]
  exact Hn.out
theorem aSign_any (h:Use B w g T S) {s:ByteArray} (hs:s.size≤9223372036854775807) (n m:Int) :
  Calls Tryz.prog 89 #[.pointer (some ⟨g,0,none⟩),.string s,.int .i64 n,.int .i64 m] w (Done B w g T S (tSign s (arg T n) (arg T m))):=by
 have HI:=hide (ais_any h.ar n 3)
 cases h0:okT s 64 with
 | false =>
  have Hn:=hide (Done.none_ h.ar (Below.refl _ _))
  have Ho:=hide (tSign_no (alg:=s) (o:=arg T n) (p:=arg T m) (.inl (fun hc=>by
   have:okT s 64=true:=okT_iff.2 ⟨hc.1,by omega⟩
   rw [this] at h0
   cases h0)))
  clear h
  go_enter Tryz.func89,Tryz.ntmps89
  go_wp2_with (go_at_call 157;refine (text_any _ _ _ hs).mono ?_;rintro e w1 ⟨rfl,rfl⟩)
  go_ret
  rw [Ho.out]
  exact Hn.out
 | true =>
 have h2:=okT_iff.1 h0
 cases h1:isK T n 3 with
 | true =>
  rw [h1] at HI
  rw [isK_isKo] at h1
  have HP:=hide (fun w2 (hb:Below w.heap.size w w2) (av:Value) (hI:Ids w2 av [n,m])=>put_at h hb (k:=6) (a:=0) (b:=0) (s:=s) hI (by omega) (by omega) (by omega) (by simp) (fun l hl=>by
   obtain ⟨t,u,ht,rfl⟩:=argl_two hl
   obtain ⟨t',ht',hk⟩:=isKo_some (k:=3) h1
   rw [ht] at ht'
   cases ht'
   exact ⟨⟨rfl,rfl,rfl,by omega,by omega⟩,by simpa [kids] using hk⟩) 6 0 0 rfl rfl rfl)
  rw [nodeO_sign (alg:=s) ⟨h2.1,by omega⟩ h1] at HP
  clear h h1 h2
  go_enter Tryz.func89,Tryz.ntmps89
  go_wp2_with (first
   | (go_at_call 157;refine (text_any _ _ _ hs).mono ?_;rintro e w1 ⟨rfl,rfl⟩)
   | (go_at_call 44;refine HI.out.mono ?_;rintro e w1 ⟨rfl,rfl⟩)
   | (go_at_call 45;refine (HP.out _ (by exact bel_by) _ (ids_new2 _ _ _ _)).mono ?_;rintro e w' ⟨T',n,S',rfl,hp,hA,hG⟩))
  go_ret
  exact ⟨T',_,S',rfl,hp,hA,hG⟩
 | false =>
  rw [h1] at HI
  rw [isK_isKo] at h1
  have Hn:=hide (Done.none_ h.ar (Below.refl _ _))
  have Ho:=hide (tSign_no (alg:=s) (o:=arg T n) (p:=arg T m) (.inr h1))
  clear h h1 h2
  go_enter Tryz.func89,Tryz.ntmps89
  go_wp2_with (first
   | (go_at_call 157;refine (text_any _ _ _ hs).mono ?_;rintro e w1 ⟨rfl,rfl⟩)
   | (go_at_call 44;refine HI.out.mono ?_;rintro e w1 ⟨rfl,rfl⟩))
  go_ret
  rw [Ho.out]
  exact Hn.out
theorem aHash_any (h:Use B w g T S) (n:Int) :
  Calls Tryz.prog 26 #[.pointer (some ⟨g,0,none⟩),.int .i64 n] w (Done B w g T S (tHash (arg T n))):=by
 have HP:=hide (fun w2 (hb:Below w.heap.size w w2) (av:Value) (hI:Ids w2 av [n])=>put_at h hb (k:=7) (a:=0) (b:=0) (s:=eB) hI (by omega) (by omega) eB_size (by simp) (fun l hl=>by
  obtain ⟨t,ht,rfl⟩:=argl_one hl
  exact ⟨⟨rfl,rfl,rfl,rfl⟩,trivial⟩) 7 0 0 rfl rfl rfl)
 rw [nodeO_hash] at HP
 clear h
 go_enter Tryz.func26,Tryz.ntmps26
 go_wp2_with (go_at_call 45;refine (HP.out _ (by exact bel_by) _ (ids_new1 _ _ _)).mono ?_;rintro e w' ⟨T',n,S',rfl,hp,hA,hG⟩)
 go_ret
 exact ⟨T',_,S',rfl,hp,hA,hG⟩
theorem aDerive_any (h:Use B w g T S) (c:Nat) (hc:c<256) (n m p:Int) :
  Calls Tryz.prog 150 #[.pointer (some ⟨g,0,none⟩),.int .u8 c,.int .i64 n,.int .i64 m,.int .i64 p] w (Done B w g T S (tDerive c (arg T n) (arg T m) (arg T p))):=by
 have HP:=hide (fun w2 (hb:Below w.heap.size w w2) (av:Value) (hI:Ids w2 av [n,m,p])=>put_at h hb (k:=8) (a:=0) (b:=c) (s:=eB) hI (by omega) (by omega) eB_size (by simp) (fun l hl=>by
  have:=argl_len hl
  exact ⟨⟨rfl,by omega,this,rfl⟩,trivial⟩) 8 0 c rfl rfl rfl)
 rw [nodeO_derive] at HP
 clear h
 have hc1:(c:Int)<256:=by omega
 have hc0:(0:Int)≤c:=by omega
 go_enter Tryz.func150,Tryz.ntmps150
 go_wp2_with (go_at_call 45;refine (HP.out _ (by exact bel_by) _ (ids_new3 _ _ _ _ _)).mono ?_;rintro e w' ⟨T',n,S',rfl,hp,hA,hG⟩)
 go_ret
 exact ⟨T',_,S',rfl,hp,hA,hG⟩
theorem aSeal_any (h:Use B w g T S) (c:Nat) (hc:c<4294967296) (n m:Int) :
  Calls Tryz.prog 153 #[.pointer (some ⟨g,0,none⟩),.int .i64 n,.int .u32 c,.int .i64 m] w (Done B w g T S (tSeal c (arg T n) (arg T m))):=by
 have HP:=hide (fun w2 (hb:Below w.heap.size w w2) (av:Value) (hI:Ids w2 av [n,m])=>put_at h hb (k:=9) (a:=0) (b:=c) (s:=eB) hI (by omega) (by omega) eB_size (by simp) (fun l hl=>by
  have:=argl_len hl
  exact ⟨⟨rfl,by omega,this,rfl⟩,trivial⟩) 9 0 c rfl rfl rfl)
 rw [nodeO_seal] at HP
 clear h
 have hc1:(c:Int)<4294967296:=by omega
 have hc0:(0:Int)≤c:=by omega
 go_enter Tryz.func153,Tryz.ntmps153
 go_wp2_with (go_at_call 45;refine (HP.out _ (by exact bel_by) _ (ids_new2 _ _ _ _)).mono ?_;rintro e w' ⟨T',n,S',rfl,hp,hA,hG⟩)
 go_ret
 exact ⟨T',_,S',rfl,hp,hA,hG⟩
theorem aList_any (h:Use B w g T S) {av:Value} {ns:List Int} (hI:Ids w av ns) (hn:ns.length≤1000000000) :
  Calls Tryz.prog 155 #[.pointer (some ⟨g,0,none⟩),av] w (Done B w g T S (tList (ns.map (arg T)))):=by
 obtain ⟨A,c,rfl,hr⟩:=hI
 by_cases h1:ns.length≤32
 ·have HP:=hide (fun w2 (hb:Below w.heap.size w w2)=>put_at h hb (k:=10) (a:=0) (b:=0) (s:=eB) (Ids.below ⟨A,c,rfl,hr⟩ hb) (by omega) (by omega) eB_size (by omega) (fun l hl=>by
   have:=argl_len hl
   exact ⟨⟨rfl,rfl,by omega,rfl⟩,trivial⟩) 10 0 0 rfl rfl rfl)
  rw [nodeO_list h1] at HP
  clear h hr
  have hi:¬ (32:Int)<ns.length:=by omega
  go_enter Tryz.func155,Tryz.ntmps155
  go_wp2_with (go_at_call 45;refine (HP.out _ (by exact bel_by)).mono ?_;rintro e w' ⟨T',n,S',rfl,hp,hA,hG⟩)
  go_ret
  exact ⟨T',_,S',rfl,hp,hA,hG⟩
 ·have Hn:=hide (Done.none_ h.ar (Below.refl _ _))
  have Ho:=hide (tList_long (l:=ns.map (arg T)) (by simpa using h1))
  clear h hr
  have hi:(32:Int)<ns.length:=by omega
  go_enter Tryz.func155,Tryz.ntmps155
  go_wp2
  go_ret
  rw [Ho.out]
  exact Hn.out
end
end Go.Proofs.YtkfnepnghnicoaaGreatDoor

namespace Go.Proofs.YtkfnepnghnicoaaGreatDoor
open Go.RowKit Go.ChangeShapes Go.WideShapes
theorem own_row {w:World} {b n:Nat} {v:Value} {js:List Nat} (h:w.ownsRow b 38 1 v n ((js.map Int.ofNat).map (Value.int .i64))) (hn:n=js.length) (h0:0<n):∃gb cap,v=.slice (some ⟨gb,0,none⟩) n cap∧b≤gb∧RowW w w gb js:=by
 rcases h.2 with ⟨_,h1⟩ | ⟨gb,cap,cur,rfl,hb,hh,hnc,_,_,hx⟩
 ·omega
 ·refine ⟨gb,cap,rfl,hb,only_refl _ _,cur,hh,fun k v hk=>?_⟩
  have h1:(cur.toList.take (n*1))[k]?=some (.int .i64 v):=by
   rw [hx]
   simp [hk]
  have hk2:=(List.getElem?_eq_some_iff.1 hk).1
  rw [List.getElem?_take_of_lt (by omega)] at h1
  simpa using h1
theorem RowW.ids {w0 w:World} {gb:Nat} {vs:List Nat} (h:RowW w0 w gb vs) {n cap:Nat} (hn:n=vs.length):Ids w (.slice (some ⟨gb,0,none⟩) n cap) (vs.map Int.ofNat):=by
 subst hn
 refine ⟨some ⟨gb,0,none⟩,cap,by simp,by simp,fun _=>⟨_,rfl,Nat.zero_le _,h.lt,fun j u hu=>?_⟩⟩
 rw [add_zero_]
 simp only [List.getElem?_map,Option.map_eq_some_iff] at hu
 obtain ⟨y,⟨z,hz,rfl⟩,rfl⟩:=hu
 exact h.cell hz
theorem args_argl {T l:List Tm} {js:List Nat} (h:Args T l js):argl T (js.map Int.ofNat)=some l:=by
 unfold argl
 rw [List.map_map]
 have:js.map (arg T ∘ Int.ofNat)=l.map some:=by
  rw [←h]
  exact List.map_congr_left fun j _=>arg_at
 rw [this,alls_some]
theorem share_good {t:Tm} (h:good t) (hk:t.k=5):hd 5 0 0 t.s t.l.length∧(∀x∈t.l,x.k=2)∧t.l.Pairwise tle∧goods t.l:=by
 obtain ⟨k,a,b,s,l⟩:=t
 simp only [Tm.k] at hk
 subst hk
 simp only [good,hd,kids,true_and] at h
 obtain ⟨⟨_,_,h3⟩,h4,h5⟩:=h
 exact ⟨⟨rfl,rfl,h3⟩,h4.1,h4.2,h5⟩
theorem encs_nonces {l:List Tm} (hg:goods l) (hk:∀x∈l,x.k=2):(encs l).length=9*l.length:=by
 induction l with
 | nil=>rfl
 | cons t l ih =>
  simp only [goods] at hg
  simp only [encs,List.length_append,List.length_cons]
  rw [nonce_len hg.1 (hk t (by simp)),ih hg.2 fun x hx=>hk x (by simp [hx])]
  omega
theorem tExp_no {o p:Option Tm} (h:isKo o 5=false∨isKo p 2=false):tExp o p=none:=by
 cases o with
 | none=>rfl
 | some s=>cases p with
  | none=>rfl
  | some x =>
   show (if _ then _ else none)=none
   rw [if_neg]
   rintro ⟨h1,h2,_⟩
   rcases h with h | h
   ·exact isKo_not (k:=5) h rfl h1
   ·exact isKo_not (k:=2) h rfl h2
theorem infoID8:(Tryz.prog.info? 38).map (fun i=>(i.zero,i.size,i.bytes))=some (some (.int .i64 0),1,8):=by kernel_rfl
section
variable {B g : Nat} {w : World} {T : List Tm} {S : Nat → Prop}
theorem nodeO_exp (hT:AOK T) {s x:Tm} (hs:s∈T) (hx:x∈T) (ks:s.k=5) (kx:x.k=2) (h8:s.l.length<8) {vs:List Nat} (hv:Args T (ins x s.l) vs) :
  nodeO T 5 0 0 s.s (vs.map Int.ofNat)=tExp (some s) (some x)∧∀l,argl T (vs.map Int.ofNat)=some l→hd 5 0 0 s.s l.length∧kids 5 l:=by
 have gs:=share_good (hT.fine s hs).1 ks
 have gx:=(hT.fine x hx).1
 have e:=args_argl hv
 have hkk:∀z∈ins x s.l,z.k=2:=fun z hz=>by
  rcases mem_ins.1 hz with rfl | hz
  ·exact kx
  ·exact gs.2.1 z hz
 have hgg:goods (ins x s.l):=(goods_iff _).2 fun z hz=>by
  rcases mem_ins.1 hz with rfl | hz
  ·exact gx
  ·exact (goods_iff _).1 gs.2.2.2 z hz
 have h1:=gs.1
 simp only [hd] at h1
 constructor
 ·unfold nodeO
  rw [e]
  show lim _=if _ then _ else none
  rw [if_pos ⟨ks,kx,h8⟩,lim_small]
  simp only [enc,List.length_append,encs_nonces hgg hkk,ins_len,head,mid,List.length_cons,q4_len,size_len]
  omega
 ·intro l hl
  rw [e] at hl
  cases hl
  rw [ins_len]
  exact ⟨⟨rfl,rfl,by omega,h1.2.2.2⟩,hkk,ins_sorted gs.2.2.1⟩
theorem aExp_any (h:Use B w g T S) (n m:Int) :
  Calls Tryz.prog 226 #[.pointer (some ⟨g,0,none⟩),.int .i64 n,.int .i64 m] w (Done B w g T S (tExp (arg T n) (arg T m))):=by
 have HI:=hide (ais_any h.ar n 5)
 have HJ:=hide (ais_any h.ar m 2)
 cases h1:isK T n 5 with
 | false =>
  rw [h1] at HI
  have Hn:=hide (Done.none_ h.ar (Below.refl _ _))
  have Ho:=hide (tExp_no (o:=arg T n) (p:=arg T m) (.inl (by rw [←isK_isKo];exact h1)))
  clear h h1
  go_enter Tryz.func226,Tryz.ntmps226
  go_wp2_with (go_at_call 44;refine HI.out.mono ?_;rintro e w1 ⟨rfl,rfl⟩)
  go_ret
  rw [Ho.out]
  exact Hn.out
 | true =>
 rw [h1] at HI
 cases h2:isK T m 2 with
 | false =>
  rw [h2] at HJ
  have Hn:=hide (Done.none_ h.ar (Below.refl _ _))
  have Ho:=hide (tExp_no (o:=arg T n) (p:=arg T m) (.inr (by rw [←isK_isKo];exact h2)))
  clear h h1 h2
  go_enter Tryz.func226,Tryz.ntmps226
  go_wp2_with (first
   | (go_at_call 44;with_reducible refine HI.out.mono ?_;rintro e w1 ⟨rfl,rfl⟩)
   | (go_at_call 44;with_reducible refine HJ.out.mono ?_;rintro e w1 ⟨rfl,rfl⟩))
  go_ret
  rw [Ho.out]
  exact Hn.out
 | true =>
 rw [h2] at HJ
 rw [isK_isKo] at h1 h2
 obtain ⟨s,hs,ks⟩:=isKo_some (k:=5) h1
 obtain ⟨x,hx,kx⟩:=isKo_some (k:=2) h2
 rw [hs,hx]
 obtain ⟨i,rfl,hi⟩:=arg_some hs
 obtain ⟨j,rfl,hj⟩:=arg_some hx
 have hA:=h.ar
 obtain ⟨nv,sv,mb,rows,D,hX⟩:=hA
 obtain ⟨nb,cap,av,js,rfl,hlt,c0,c1,c2,c3,c4,ha,hI⟩:=hX.cells hi
 have h0:w.cell? ⟨g,0,none⟩=some (.slice (some ⟨nb,0,none⟩) T.length cap):=hX.blk.cell 0
 have hil:=(List.getElem?_eq_some_iff.1 hi).1
 have hii:(i:Int)<T.length:=by omega
 have hi0:(0:Int)≤i:=by omega
 have hjl:=ha.len
 have h8:=share_len hX.ok (List.mem_of_getElem? hi) ks
 obtain ⟨A,c,rfl,hAI⟩:=hI
 have HI2:Hid (Ids w (.slice A js.length c) (js.map Int.ofNat)):=⟨A,c,by simp,hAI⟩
 simp only [List.length_map] at c4
 by_cases hl8:s.l.length<8
 ·have hSrt:Srt T s.l js x j:=⟨ha,hj,(share_good (hX.ok.fine s (List.mem_of_getElem? hi)).1 ks).2.1,kx,(share_good (hX.ok.fine s (List.mem_of_getElem? hi)).1 ks).2.2.1⟩
  have HS:=hide hSrt
  have HX:=hide hX
  have HU:=hide h
  have Hi:=hide hi
  have Hj:=hide hj
  have Hjl:=hide hjl
  have Ks:=hide ks
  have Kx:=hide kx
  clear ks kx
  have hjs8:(js.length:Int)<8:=by omega
  have hjs7:js.length≤8:=by omega
  have hgl:=hX.blk.lt
  have HC:=hide (fun w2 (hb:Below w.heap.size w w2)=>clone_ids (w:=w2) (HI2.out.below hb) (by simp;omega))
  simp only [List.length_map] at HC
  obtain ⟨iI,hiI,hI0,hI1,hI2⟩:=info_parts infoID8
  clear h h1 h2 hs hx hi hj hX ha hAI hjl hSrt h8
  go_enter Tryz.func226,Tryz.ntmps226
  go_wp2_with (first
   | (go_at_call 44;with_reducible refine HI.out.mono ?_;rintro e w1 ⟨rfl,rfl⟩)
   | (go_at_call 44;with_reducible refine HJ.out.mono ?_;rintro e w1 ⟨rfl,rfl⟩)
   | (go_at_call 86;refine (HC.out _ (by exact bel_by)).mono ?_;rintro e w1 ⟨v',rfl,hown,hb1⟩;obtain ⟨A1,d1,rfl⟩:=own_sl hown;have hz1:=hb1.size)
   | (at_builtin;refine wpList_append_any _ rfl (.tmp 38) (.tmp 40) _ rfl w.heap.size 38 iI (.int .i64 0) 1 8 Tryz.underlying111 hiI hI0 hI1 hI2 rfl (by decide) (.slice A1 js.length d1) js.length ((js.map Int.ofNat).map (Value.int .i64)) rfl (hown.alloc _) _ (some ⟨w1.heap.size,0,none⟩) 1 1 [.int .i64 j] rfl (reads_blk (Blk.new w1 _ _) rfl) (by simp [Value.oneCell']) (by unfold maxLen;omega) (by omega) (by simp;omega) ?_;intro v2 w2 hown2 hgr2 hat2;have hlo:=fun i hi=>(hown.lt i hi).1;clear hown))
  have hb2:Below w.heap.size w w2:=(hb1.alloc hb1.size _).grown hgr2 (by simp;omega) hlo
  have hown3:w2.ownsRow w.heap.size 38 1 v2 (js.length+1) (((js++[j]).map Int.ofNat).map (Value.int .i64)):=by simpa using hown2
  obtain ⟨gb,cap2,rfl,hgb,hRow⟩:=own_row hown3 (by simp) (by omega)
  have hSgb:¬ S gb:=fun hc=>by
   have:=HU.out.ar.sL gb hc
   omega
  refine (sortf_any (HU.out.ar.below hb2) HS.out rfl (by omega) hSgb hRow).mono ?_
  rintro e w3 ⟨rfl,vs,hf,hw3⟩
  have hb3:Below w.heap.size w w3:=below_only hb2 hw3.1 hgb hb2.size
  have hvl:vs.length=js.length+1:=by
   have h1:vs.length=(ins x s.l).length:=hf.len
   rw [h1,ins_len,Hjl.out]
  have hI3:Ids w3 (.slice (some ⟨gb,0,none⟩) (js.length+1) cap2) (vs.map Int.ofNat):=hw3.ids hvl.symm
  have hsz:s.s.size≤1000000:=by
   have h1:=(share_good (HU.out.ar.ok.fine s (List.mem_of_getElem? Hi.out)).1 Ks.out).1
   simp only [hd] at h1
   omega
  have hno:=nodeO_exp HU.out.ar.ok (List.mem_of_getElem? Hi.out) (List.mem_of_getElem? Hj.out) Ks.out Kx.out hl8 hf
  have hvl2:(vs.map Int.ofNat).length≤40:=by rw [List.length_map,hvl];omega
  have HP:=hide (put_at HU.out hb3 hI3 (k:=5) (a:=0) (b:=0) (s:=s.s) (by omega) (by omega) hsz hvl2 hno.2 5 0 0 rfl rfl rfl)
  have HNo:=hide hno.1
  have d0:=cellB_ hb3 h0
  have d3:=cellB_ hb3 c3
  clear hno hI3 hw3 hf hvl hvl2 hb2 hown2 hown3 hgr2 hat2 hRow h0 c0 c1 c2 c3 c4 hlo hb1
  go_wp2_with (go_at_call 45;refine HP.out.mono ?_;rintro e w4 ⟨T',n',S',rfl,hp,hA,hG⟩)
  go_ret
  rw [←HNo.out]
  exact ⟨T',_,S',rfl,hp,hA,hG⟩
 ·have Hn:=hide (Done.none_ h.ar (Below.refl _ _))
  have Ho:=hide (show tExp (some s) (some x)=none by
   show (if _ then _ else none)=none
   rw [if_neg (fun hc=>hl8 hc.2.2)])
  have hjs8:¬ (js.length:Int)<8:=by omega
  clear h h1 h2 hs hx hi hj hX ha hAI hjl h8
  go_enter Tryz.func226,Tryz.ntmps226
  go_wp2_with (first
   | (go_at_call 44;with_reducible refine HI.out.mono ?_;rintro e w1 ⟨rfl,rfl⟩)
   | (go_at_call 44;with_reducible refine HJ.out.mono ?_;rintro e w1 ⟨rfl,rfl⟩))
  go_ret
  rw [Ho.out]
  exact Hn.out
end
def Newed (w:World) (e:Ending) (w':World):Prop:=∃g S,e=.returned (.pointer (some ⟨g,0,none⟩))∧Ar w.heap.size w' g [] S∧Below w.heap.size w w'
theorem newed (w:World):Newed w (.returned (.pointer (some ⟨w.heap.size+1,0,none⟩))) ((w.alloc (.map #[] 0)).alloc (.cells #[.slice none 0 0,.slice none 0 0,.map (some w.heap.size)] 88)):=by
 refine ⟨_,fun i=>i=w.heap.size∨i=w.heap.size+1,rfl,⟨.slice none 0 0,.slice none 0 0,w.heap.size,[],.map [],?_⟩,(bel_new _).alloc (by simp) _⟩
 have hb:=Blk.new (w.alloc (.map #[] 0)) 88 #[.slice none 0 0,.slice none 0 0,.map (some w.heap.size)]
 simp only [World.size_alloc] at hb
 have hm:=(World.ownsMap_made (H:=Unit) w Tryz.prog 165 (plainElem Tryz.prog 38)).alloc (.cells #[.slice none 0 0,.slice none 0 0,.map (some w.heap.size)] 88)
 refine ⟨aok_nil,hb,World.ownsRow_nil _ _ _ _,rfl,fun i t us hi=>by simp at hi,World.ownsRow_nil _ _ _ _,hm,idx_nil,.inr rfl,.inl rfl,fun i hi=>by simp [Value.ownBlock] at hi,fun i hi=>by simp [Value.ownBlock] at hi,?_,?_⟩
 ·rintro i (rfl | rfl) <;> omega
 ·rintro i (rfl | rfl) <;> first | (simp;done) | (simp;omega)
theorem new_any (w:World):Calls Tryz.prog 7 #[] w (Newed w):=by
 have hmm:=@run_makeMap Tryz.prog
 go_enter Tryz.func7,Tryz.ntmps7
 go_wp2
 go_ret
 exact newed w
end Go.Proofs.YtkfnepnghnicoaaGreatDoor
namespace Go.Proofs.YtkfnepnghnicoaaGreatDoor
open Go.RowKit Go.ChangeShapes Go.WideShapes Go.Sort
def Bk (w:World) (b g:Nat) (s:ByteArray) (p:Nat):Prop:=Blk w b 170 #[.pointer (some ⟨g,0,none⟩),.string s,.int .i64 p]
section
variable {w wr : World} {b g : Nat} {s : ByteArray} {p : Nat}
theorem Bk.set_ (h:Bk w b g s p) (q:Nat):Bk (w.setCell ⟨b,2,none⟩ (.int .i64 q)) b g s q:=by
 have:=Blk.set_ (cs:=#[.pointer (some ⟨g,0,none⟩),.string s,.int .i64 p]) h 2 (.int .i64 q)
 simpa [Bk] using this
theorem Bk.drewN (h:Bk w b g s p) (n:Nat):Bk (w.drewN n) b g s p:=Blk.below h (below_drewN (Below.refl _ _) n) (Blk.lt h)
def B1 (s:ByteArray) (p:Nat) (b g:Nat) (w:World) (e:Ending) (w':World):Prop :=
 ∃p',(if h:p<s.size then e=.returned (.tuple #[.int .u8 s[p].toNat,.bool true])∧p'=p+1 else e=.returned (.tuple #[.int .u8 0,.bool false])∧p'=p)∧Bk w' b g s p'∧w.grownBy w' (some b)
theorem byte1_any (h:Bk w b g s p) (hs:s.size≤1000000) (hp:p≤s.size):Calls Tryz.prog 142 #[.pointer (some ⟨b,0,none⟩)] w (B1 s p b g w):=by
 have H:=hide h
 have c1:w.cell? ⟨b,1,none⟩=some (.string s):=Blk.cell h 1
 have c2:w.cell? ⟨b,2,none⟩=some (.int .i64 p):=Blk.cell h 2
 have f2:=Blk.frozen h 2
 clear h
 by_cases hlt:p<s.size
 ·have hle:¬ (s.size:Int)≤p:=by omega
  have w1:IntKind.i64.wrap ((p:Int)+1)=((p+1:Nat):Int):=by rw [IntKind.wrap_i64];omega
  have d1:(w.setCell ⟨b,2,none⟩ (.int .i64 ((p+1:Nat):Int))).cell? ⟨b,1,none⟩=some (.string s):=Blk.cell (H.out.set_ (p+1)) 1
  have d2:(w.setCell ⟨b,2,none⟩ (.int .i64 ((p+1:Nat):Int))).cell? ⟨b,2,none⟩=some (.int .i64 ((p+1:Nat):Int)):=Blk.cell (H.out.set_ (p+1)) 2
  go_enter Tryz.func142,Tryz.ntmps142
  go_wp2
  go_quiet (fail)
  go_wp2
  go_quiet (fail)
  go_wp2
  go_ret2
  exact ⟨p+1,by rw [dif_pos hlt];exact ⟨rfl,rfl⟩,((H.out.drewN _).set_ (p+1)).drewN _,only_drewN (only_setCell (only_drewN (only_refl _ _) _) (.inl rfl) _) _⟩
 ·have hle:(s.size:Int)≤p:=by omega
  go_enter Tryz.func142,Tryz.ntmps142
  go_wp2
  go_quiet (fail)
  go_wp2
  go_ret2
  exact ⟨p,by rw [dif_neg hlt];exact ⟨rfl,rfl⟩,H.out.drewN _,only_drewN (only_refl _ _) _⟩
theorem cNum_no (h:Bk w b g s p) (hs:s.size≤1000000) (hp:p≤s.size) (hn:s.size<p+4):Calls Tryz.prog 151 #[.pointer (some ⟨b,0,none⟩)] w fun e w'=>e=.returned (.tuple #[.int .i64 0,.bool false])∧Bk w' b g s p∧w.grownBy w' (some b):=by
 have H:=hide h
 have c1:w.cell? ⟨b,1,none⟩=some (.string s):=Blk.cell h 1
 have c2:w.cell? ⟨b,2,none⟩=some (.int .i64 p):=Blk.cell h 2
 clear h
 have hi:((s.size:Int) - (p:Int))<4:=by omega
 go_enter Tryz.func151,Tryz.ntmps151
 go_wp2
 go_quiet (fail)
 go_wp2
 go_ret2
 exact ⟨rfl,H.out.drewN _,only_drewN (only_refl _ _) _⟩
def nbP (l:List UInt8) (i:Nat):Nat:=(l.take i).foldl (fun n c=>n*256+c.toNat) 0
theorem nb_step {l:List UInt8} {i:Nat} {c:UInt8} (h:l[i]?=some c):nbP l (i+1)=nbP l i*256+c.toNat:=by
 unfold nbP
 rw [List.take_add_one,h]
 simp
theorem nb_lt (l:List UInt8) (i:Nat):nbP l i<256 ^ i:=by
 induction i with
 | zero=>simp [nbP]
 | succ i ih =>
  cases h:l[i]? with
  | none =>
   have:nbP l (i+1)=nbP l i:=by unfold nbP;rw [List.take_add_one,h];simp
   rw [this,Nat.pow_succ]
   omega
  | some c =>
   rw [nb_step h,Nat.pow_succ]
   have:=c.toNat_lt
   omega
theorem nb_four {l:List UInt8} (h:4≤l.length):nbP l 4=n4 l:=by
 match l,h with
 | x :: y :: z :: u :: r,_ =>
  simp only [nbP,List.take_succ_cons,List.take_zero,List.foldl_cons,List.foldl_nil,n4]
  omega
theorem or_i64 {n c:Nat} (hn:n<16777216) (hc:c<256):bits .or .i64 ((n*256:Nat):Int) (c:Int)=((n*256+c:Nat):Int):=by
 have h:=bits_join .i64 63 (by decide) (fun x h0 h1=>by rw [IntKind.wrap_i64];omega) 8 ((n*256:Nat):Int) (c:Int) (by omega) (by omega) (by omega) (by omega) (by omega) (by omega)
 rw [h]
 omega
theorem cNum_yes (h:Bk w b g s p) (hs:s.size≤1000000) (hn:p+4≤s.size):Calls Tryz.prog 151 #[.pointer (some ⟨b,0,none⟩)] w fun e w'=>e=.returned (.tuple #[.int .i64 (n4 (s.data.toList.drop p)),.bool true])∧Bk w' b g s (p+4)∧w.grownBy w' (some b):=by
 have H:=hide h
 have c1:w.cell? ⟨b,1,none⟩=some (.string s):=Blk.cell h 1
 have c2:w.cell? ⟨b,2,none⟩=some (.int .i64 p):=Blk.cell h 2
 clear h
 have hi:¬ ((s.size:Int) - (p:Int))<4:=by omega
 go_enter Tryz.func151,Tryz.ntmps151
 go_wp2
 go_quiet (fail)
 go_wp2_with fail
 go_loopw [16,4] (fun vi vn wr=>∃i:Nat,vi=.int .i64 i∧i≤4∧vn=.int .i64 (nbP (s.data.toList.drop p) i)∧Hid (Bk wr b g s (p+i))∧Hid (w.grownBy wr (some b))) (fun vi _ _=>4 - (intOf vi).toNat)
 case atStart=>exact ⟨0,rfl,by omega,rfl,hide (H.out.drewN _),hide (only_drewN (only_refl _ _) _)⟩
 case round =>
  obtain ⟨i,rfl,hi4,rfl,hB,hG⟩:=hrel
  by_cases h4:i<4
  ·have hii:(i:Int)<4:=by omega
   obtain ⟨q,hq⟩:∃q,q=p+i:=⟨_,rfl⟩
   rw [←hq] at hB
   have e1:wr.cell? ⟨b,1,none⟩=some (.string s):=Blk.cell hB.out 1
   have e2:wr.cell? ⟨b,2,none⟩=some (.int .i64 q):=Blk.cell hB.out 2
   have f2:=Blk.frozen hB.out 2
   have hb:=nb_lt (s.data.toList.drop p) i
   have hlt:q<s.size:=by omega
   have hpw:256 ^ i≤16777216:=by
    obtain rfl | rfl | rfl | rfl:i=0∨i=1∨i=2∨i=3:=by omega
    all_goals decide
   have hc:(s.data.toList.drop p)[i]?=some (s[q]):=by
    rw [List.getElem?_drop,← hq,List.getElem?_eq_getElem (by exact hlt)]
    rfl
   have Hst:=hide (nb_step hc)
   have hclt:=s[q].toNat_lt
   generalize nbP (s.data.toList.drop p) i=n at Hst hb ⊢
   have hqi:(q:Int)<s.size:=by omega
   have hq0:(0:Int)≤q:=by omega
   have w8:IntKind.i64.wrap ((n:Int)*256)=((n*256:Nat):Int):=by rw [IntKind.wrap_i64];omega
   have wq:IntKind.i64.wrap ((q:Int)+1)=((q+1:Nat):Int):=by rw [IntKind.wrap_i64];omega
   have Hq:=hide hq
   have Ho:=hide (or_i64 (n:=n) (c:=s[q].toNat) (by omega) hclt)
   clear hq hc
   go_wp2
   go_quiet (fail)
   go_wp2
   refine ⟨⟨i+1,by go_num,by omega,?_,hide ?_,hide ?_⟩,by simp [intOf];omega⟩
   ·rw [Hst.out,show ((n:Int)*256)=((n*256:Nat):Int) by omega,Ho.out]
   ·rw [←Nat.add_assoc,← Hq.out]
    exact (hB.out.drewN _).set_ (q+1)
   ·exact only_setCell (only_drewN hG.out _) (.inl rfl) _
  ·obtain rfl:i=4:=by omega
   have HN:=hide (nb_four (l:=s.data.toList.drop p) (by rw [List.length_drop,size_len];omega))
   go_wp2
   go_ret2
   exact ⟨by rw [HN.out];rfl,hB.out,hG.out⟩
theorem cText1_no1 (h:Bk w b g s p) (hs:s.size≤1000000) (hp:p≤s.size) (h4:s.size<p+4):Calls Tryz.prog 147 #[.pointer (some ⟨b,0,none⟩)] w fun e w'=>e=.returned (.tuple #[.string ⟨#[]⟩,.bool false])∧Bk w' b g s p∧w.grownBy w' (some b):=by
 have HN:=hide (cNum_no h hs hp h4)
 clear h
 go_enter Tryz.func147,Tryz.ntmps147
 go_wp2_with (go_at_call 151;refine HN.out.mono ?_;rintro e w1 ⟨rfl,hB1,hG1⟩)
 refine wp_region_quiet_lit (by kernel_rfl) (by kernel_rfl) ?_
 repeat (first | go_big_quiet_skip | quiet_step (fail))
 refine wpQuiet_nil ?_
 intro _ hw'
 obtain ⟨nq,hw''⟩:=hw'
 subst hw''
 go_wp2
 go_ret2
 exact ⟨rfl,hB1.drewN _,only_drewN hG1 _⟩
theorem cText1_no2 (h:Bk w b g s p) (hs:s.size≤1000000) {n:Nat} (hn:n=n4 (s.data.toList.drop p)) (h4:p+4≤s.size) (h5:s.size<p+4+n):Calls Tryz.prog 147 #[.pointer (some ⟨b,0,none⟩)] w fun e w'=>e=.returned (.tuple #[.string ⟨#[]⟩,.bool false])∧Bk w' b g s (p+4)∧w.grownBy w' (some b):=by
 have HN:=hide (cNum_yes h hs h4)
 rw [←hn] at HN
 have hi:(s.size:Int) - ((p+4:Nat):Int)<n:=by omega
 generalize p+4=q at HN hi h4 h5 ⊢
 have hi2:(s.size:Int)<(n:Int)+q:=by omega
 have hi3:(s.size:Int)<(q:Int)+n:=by omega
 have hi4:s.size<n+q:=by omega
 have hi5:¬ n≤s.size - q∨True:=.inr trivial
 have wq:IntKind.i64.wrap ((s.size:Int) - q)=(s.size:Int) - q:=by rw [IntKind.wrap_i64];omega
 clear h hn h4 hi5
 go_enter Tryz.func147,Tryz.ntmps147
 go_wp2_with (go_at_call 151;refine HN.out.mono ?_;rintro e w1 ⟨rfl,hB1,hG1⟩;have e1:w1.cell? ⟨b,1,none⟩=some (.string s):=Blk.cell hB1 1;have e2:w1.cell? ⟨b,2,none⟩=some (.int .i64 q):=Blk.cell hB1 2)
 go_quiet (fail)
 go_wp2
 go_ret2
 exact ⟨rfl,hB1.drewN _,only_drewN hG1 _⟩
theorem cText1_yes (h:Bk w b g s p) (hs:s.size≤1000000) {n:Nat} (hn:n=n4 (s.data.toList.drop p)) (h5:p+4+n≤s.size):Calls Tryz.prog 147 #[.pointer (some ⟨b,0,none⟩)] w fun e w'=>e=.returned (.tuple #[.string (bs ((s.data.toList.drop (p+4)).take n)),.bool true])∧Bk w' b g s (p+4+n)∧w.grownBy w' (some b):=by
 have HN:=hide (cNum_yes h hs (by omega))
 rw [←hn] at HN
 have He:=hide (show s.extract (p+4) (p+4+n)=bs ((s.data.toList.drop (p+4)).take n) by rw [ext_bs];congr 2;omega)
 generalize p+4=q at HN He h5 ⊢
 have hi2:¬ (s.size:Int)<(n:Int)+q:=by omega
 have hi3:¬ (s.size:Int)<(q:Int)+n:=by omega
 have hi4:¬ s.size<n+q:=by omega
 have hi:¬ (s.size:Int) - (q:Int)<n:=by omega
 have wq:IntKind.i64.wrap ((s.size:Int) - q)=(s.size:Int) - q:=by rw [IntKind.wrap_i64];omega
 obtain ⟨q2,hq2⟩:∃q2,q2=q+n:=⟨_,rfl⟩
 have w1':IntKind.i64.wrap ((q:Int)+n)=(q2:Int):=by rw [IntKind.wrap_i64];omega
 have w2':(q:Int)+n=(q2:Int):=by omega
 have w3':(q2:Int) - n=(q:Int):=by omega
 have b1:(0:Int)≤q:=by omega
 have b2:(q:Int)≤q2:=by omega
 have b3:(q2:Int)≤s.size:=by omega
 rw [←hq2] at He h5 ⊢
 clear h hn hq2
 go_enter Tryz.func147,Tryz.ntmps147
 go_wp2_with (go_at_call 151;refine HN.out.mono ?_;rintro e w1 ⟨rfl,hB1,hG1⟩;have e1:w1.cell? ⟨b,1,none⟩=some (.string s):=Blk.cell hB1 1;have e2:w1.cell? ⟨b,2,none⟩=some (.int .i64 q):=Blk.cell hB1 2;have f2:=Blk.frozen hB1 2)
 go_quiet (fail)
 go_wp2
 go_quiet (fail)
 go_wp2
 go_ret2
 exact ⟨by rw [←He.out];rfl,((hB1.drewN _).set_ q2).drewN _,only_drewN (only_setCell (only_drewN hG1 _) (.inl rfl) _) _⟩
end
end Go.Proofs.YtkfnepnghnicoaaGreatDoor
namespace Go.Proofs.YtkfnepnghnicoaaGreatDoor
open Go.RowKit Go.ChangeShapes Go.WideShapes
structure BlS (B:Nat) (S:Nat→Prop) (b:Nat) (l:List UInt8) (w:World):Prop where
 ex:∃p v,(p=.pointer none∨p=.pointer (some ⟨b,0,none⟩))∧Lib.BuilderAt 224 5 B b p (Lib.byteCells l) w∧Blk w b 224 #[p,v]∧∀i,v.ownBlock=some i→S i
 sb:S b
 sB:∀i,S i→B≤i
 sL:∀i,S i→i<w.heap.size
theorem Grown.row {S0 S:Nat→Prop} {w wx wz:World} {row:Option Nat} (h:Grown S0 w S wx) (k:wx.grownBy wz row) (hr:∀b,row=some b→S b):Grown S0 w S wz :=
 ⟨k.os.trans h.os,k.tape.trans h.tape,k.output.trans h.output,Nat.le_trans h.size k.size,fun i hi hn=>(k.block i (Nat.lt_of_lt_of_le hi h.size) (fun e=>by
  rcases h.new i (hr i e.symm) with h3 | h3
  ·exact hn h3
  ·omega)).trans (h.block i hi hn),h.sub,h.new⟩
section
variable {B b : Nat} {S : Nat → Prop} {l : List UInt8} {w w' : World}
theorem BlS.below (h:BlS B S b l w) (hb:Below w.heap.size w w'):BlS B S b l w':=by
 obtain ⟨p,v,hp,hB,hk,hs⟩:=h.ex
 refine ⟨⟨p,v,hp,?_,hk.below hb hk.lt,hs⟩,h.sb,h.sB,fun i hi=>Nat.lt_of_lt_of_le (h.sL i hi) hb.size⟩
 obtain ⟨h1,v',h2,h3,h4⟩:=hB
 exact ⟨h1,v',Blk.below (cs:=#[p,v']) h2 hb (Blk.lt (cs:=#[p,v']) h2),h3.kept (only_of_below hb none) (by cases v'.ownBlock <;> simp),h4⟩
end
end Go.Proofs.YtkfnepnghnicoaaGreatDoor

namespace Go.Proofs.YtkfnepnghnicoaaGreatDoor
open Go.RowKit Go.ChangeShapes Go.WideShapes Go.Sort
theorem enc_eta (t:Tm):enc t=head t.k t.a t.b t.s.data.toList t.l.length++encs t.l:=by
 cases t
 simp [enc,Tm.k,Tm.a,Tm.b,Tm.s,Tm.l]
theorem view_none {T:List Tm} {n:Int} {w w':World} {e:Ending} (h:arg T n=none) (hv:Viewed T n w e w') :
  e=.returned (.tuple #[.agg #[.int .i64 0,.int .i64 0,.int .i64 0,.string ⟨#[]⟩,.slice none 0 0],.bool false])∧Below w.heap.size w w':=by
 obtain ⟨hv | ⟨t,js,av,h1,_⟩,hb⟩:=hv
 ·exact ⟨hv.2,hb⟩
 ·rw [h] at h1;cases h1
theorem view_some {T:List Tm} {n:Int} {w w':World} {e:Ending} {t:Tm} (h:arg T n=some t) (hv:Viewed T n w e w') :
  ∃js A c,Args T t.l js∧e=.returned (.tuple #[.agg #[.int .i64 t.k,.int .i64 t.a,.int .i64 t.b,.string t.s,.slice A t.l.length c],.bool true])∧w'.ownsRow w.heap.size 38 1 (.slice A t.l.length c) js.length ((js.map Int.ofNat).map (Value.int .i64))∧Below w.heap.size w w':=by
 obtain ⟨hv | ⟨u,js,av,h1,ha,rfl,ho⟩,hb⟩:=hv
 ·rw [h] at hv;cases hv.1
 ·rw [h] at h1
  cases h1
  obtain ⟨A,c,rfl⟩:=own_sl ho
  rw [ha.len] at ho ⊢
  exact ⟨js,A,c,ha,rfl,by rw [ha.len];exact ho,hb⟩
theorem Grown.outs_ {S S':Nat→Prop} {w w':World} (h:Grown S w S' w'):Outs S w w':=⟨h.os,h.tape,h.output,h.size,h.block⟩
end Go.Proofs.YtkfnepnghnicoaaGreatDoor

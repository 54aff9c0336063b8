/-
  Several of my texts in one: Builder, Join.
-/
import Derived.Test.YtkfnepnghnicoaaGreatDoorKMkrG
import Derived.Test.YtkfnepnghnicoaaGreatDoorKShelf
import Derived.Test.YtkfnepnghnicoaaGreatDoorKArenaA
import Derived.Lib.SmallJoins
import Derived.Lib.ItoaLen
set_option linter.unusedVariables false
set_option linter.unusedSimpArgs false
set_option maxHeartbeats 40000000
set_option maxRecDepth 100000
namespace Go.Proofs.YtkfnepnghnicoaaGreatDoor
open Go.RowKit
def Bld (B b:Nat) (l:List UInt8) (w:World):Prop:=Lib.IsBuilder 224 5 B b (Lib.byteCells l) w
section
variable {B b : Nat} {w : World}
theorem bsize:(Tryz.prog.info? 224).map (·.size)=some 2:=by kernel_rfl
theorem bcopy_used (b:Nat) (w:World) (h0:w.cell? ⟨b,0,none⟩=some (.pointer (some ⟨b,0,none⟩))) :
  Calls Tryz.prog 223 #[.pointer (some ⟨b,0,none⟩)] w fun e w'=>e=.returned (.tuple #[])∧w'=w:=by
 obtain ⟨j,hj,_⟩:=Option.map_eq_some_iff.1 bsize
 go_enter Tryz.func223,Tryz.ntmps223
 go_wp2
 rw [Lib.run_neq_ptr_same w _ Tryz.underlying222 hj]
 go_wp2
 go_end0
 exact ⟨rfl,rfl⟩
theorem bcopy_fresh (b:Nat) (w:World) (h0:w.cell? ⟨b,0,none⟩=some (.pointer none)) (hsh:w.shape? b=some (224,2)) (hfz:w.frozen? ⟨b,0,none⟩=false) :
  Calls Tryz.prog 223 #[.pointer (some ⟨b,0,none⟩)] w fun e w'=>e=.returned (.tuple #[])∧w'=w.setCell ⟨b,0,none⟩ (.pointer (some ⟨b,0,none⟩)):=by
 obtain ⟨j,hj,hjs⟩:=Option.map_eq_some_iff.1 bsize
 go_enter Tryz.func223,Tryz.ntmps223
 go_wp2
 rw [Lib.run_to_unsafe w ⟨b,0,none⟩ Tryz.underlying222 Tryz.underlying251 hj (by rw [hjs];decide) hsh (Nat.zero_lt_succ 1)]
 simp only [Result.andThen]
 rw [Oper.upon_value]
 go_wp2
 rw [run_callFunc_extern Tryz.func258 (by kernel_rfl) (by kernel_rfl) (by kernel_rfl) (e:=Extern.AbiNoEscape.same) (by kernel_rfl)]
 rw [Lib.run_noEscape]
 simp only [Result.andThen]
 rw [Oper.upon_value]
 go_wp2
 rw [Lib.run_from_unsafe w ⟨b,0,none⟩ Tryz.underlying251 Tryz.underlying222 hj hsh (by kernel_rfl)]
 simp only [Result.andThen]
 rw [Oper.upon_value]
 go_wp2
 go_end0
 exact ⟨rfl,rfl⟩
theorem bcopy {bs:List Value} (h:Lib.IsBuilder 224 5 B b bs w) :
  Calls Tryz.prog 223 #[.pointer (some ⟨b,0,none⟩)] w fun e w'=>e=.returned (.tuple #[])∧(Lib.BuilderAt 224 5 B b (.pointer (some ⟨b,0,none⟩)) bs w'∧Below B w w'):=by
 rcases h with h | h
 ·refine (bcopy_fresh b w h.cell0 h.shape h.frozen0).mono ?_
  rintro e w' ⟨rfl,rfl⟩
  exact ⟨rfl,h.used _,(Below.refl B w).setCell (p:=⟨b,0,none⟩) h.1 _⟩
 ·refine (bcopy_used b w h.cell0).mono ?_
  rintro e w' ⟨rfl,rfl⟩
  exact ⟨rfl,h,Below.refl B _⟩
theorem infoByte:(Tryz.prog.info? 5).map (fun i=>(i.zero,i.size,i.bytes))=some (some (.int .u8 0),1,1):=by kernel_rfl
theorem bwrite {bs:List Value} (s:ByteArray) (h:Lib.IsBuilder 224 5 B b bs w) (hlen:bs.length+s.size≤140737488355328) (hBw:B≤w.heap.size) :
  Calls Tryz.prog 140 #[.pointer (some ⟨b,0,none⟩),.string s] w fun e w'=>e=.returned (.tuple #[.int .i64 s.size,.nilIface])∧(Lib.BuilderAt 224 5 B b (.pointer (some ⟨b,0,none⟩)) (bs++Lib.strCells s) w'∧Below B w w'):=by
 obtain ⟨i0,hi,hz0,hz1,hz2⟩:=info_parts infoByte
 go_enter Tryz.func140,Tryz.ntmps140
 go_wp2_with (go_at_call 223;refine (bcopy h).mono ?_)
 rintro e w1 ⟨rfl,h1,hb1⟩
 obtain ⟨hB,v,hbk,hown,hne⟩:=h1
 have c0:w1.cell? ⟨b,0,none⟩=some (.pointer (some ⟨b,0,none⟩)):=by rw [Lib.cell_of_heap hbk];rfl
 have c1:w1.cell? ⟨b,1,none⟩=some v:=by rw [Lib.cell_of_heap hbk];rfl
 go_wp2_with (at_builtin;refine Lib.wpList_append_own_string _ rfl _ _ 191 9 rfl B 5 i0 Tryz.underlying191 Tryz.underlying9 hi hz0 hz1 hz2 _ _ _ rfl hown s rfl ?c3 ?c4 ?c5 ?_)
 case c3=>unfold maxLen;omega
 case c4=>omega
 case c5=>have:=hb1.size;omega
 intro v' w2 hown' hgrow _
 have hlt:b<w1.heap.size:=by
  rcases Nat.lt_or_ge b w1.heap.size with h' | h'
  ·exact h'
  ·simp [Array.getElem?_eq_none h'] at hbk
 have hb2:w2.heap[b]?=some (.cells #[.pointer (some ⟨b,0,none⟩),v] 224 (0,0)):=by
  rw [hgrow.block b hlt (fun e=>hne e.symm)]
  exact hbk
 have d0:w2.cell? ⟨b,0,none⟩=some (.pointer (some ⟨b,0,none⟩)):=by rw [Lib.cell_of_heap hb2];rfl
 have d1:w2.cell? ⟨b,1,none⟩=some v:=by rw [Lib.cell_of_heap hb2];rfl
 have f1:w2.frozen? ⟨b,1,none⟩=false:=Lib.frozen_of_heap hb2 1
 obtain ⟨ao,n',cap,rfl⟩:∃ao n' cap,v'=.slice ao n' cap:=by
  rcases hown'.2 with ⟨hv,_⟩ | ⟨g,cap,cur,hv,_⟩
  ·exact ⟨_,_,_,hv⟩
  ·exact ⟨_,_,_,hv⟩
 go_wp2
 go_ret2
 refine ⟨rfl,?_,?_⟩
 ·exact Lib.BuilderAt.put (T:=224) (e:=5) hB hb2 (bs':=bs++Lib.strCells s) (by simpa [Lib.strCells_length] using hown') (by decide)
 ·exact (hb1.grown hgrow (by have:=hb1.size;omega) (fun k hk=>(hown.lt k hk).1)).setCell (p:=⟨b,1,none⟩) hB _
theorem bytes_app (l m:List UInt8):Lib.byteCells l++Lib.byteCells m=Lib.byteCells (l++m):=by simp [Lib.byteCells]
theorem bld_write {l:List UInt8} (s:ByteArray) (h:Bld B b l w) (hlen:l.length+s.size≤140737488355328) (hBw:B≤w.heap.size) :
  Calls Tryz.prog 140 #[.pointer (some ⟨b,0,none⟩),.string s] w fun e w'=>e=.returned (.tuple #[.int .i64 s.size,.nilIface])∧Bld B b (l++s.data.toList) w'∧Below B w w':=by
 refine (bwrite s h (by simpa [Lib.byteCells] using hlen) hBw).mono ?_
 rintro e w' ⟨rfl,h1,h2⟩
 refine ⟨rfl,.inr ?_,h2⟩
 rw [←bytes_app]
 exact h1
theorem bld_string {l:List UInt8} (h:Bld B b l w) (hBw:B≤w.heap.size):Calls Tryz.prog 141 #[.pointer (some ⟨b,0,none⟩)] w fun e w'=>e=.returned (.string ⟨l.toArray⟩)∧Below B w w' :=
 Tryz.Builder_String_any B b l w h hBw
end
end Go.Proofs.YtkfnepnghnicoaaGreatDoor

namespace Go.Proofs.YtkfnepnghnicoaaGreatDoor
open Go.RowKit Go.ChangeShapes Go.WideShapes Go.Sort
def Tab (w:World):Prop:=Lib.TabIs Tryz.prog w "internal/strconv.uint64pow10" .u64 Lib.pow10Tab
theorem tabGlobal:∃g,Tryz.prog.globalNamed "internal/strconv.uint64pow10" = some g:=⟨3,by kernel_rfl⟩
theorem Tab.below {w w':World} (h:Tab w) (hb:Below w.heap.size w w'):Tab w':=by
 obtain ⟨g,hg⟩:=tabGlobal
 exact Joins.tab_stays hg h hb (Nat.le_refl _)
theorem itoa_nat (i:Nat):Lib.itoa (i:Int)=Lib.decDigits i:=by
 unfold Lib.itoa
 rw [if_neg (by omega)]
 rfl
theorem below_grown (w:World) (k:Nat) (os:Array Obj):Below w.heap.size w (grow (w.drewN k) os) :=
 ⟨rfl,rfl,rfl,by simp [grow],fun k hk=>by simp [grow,Array.getElem?_append,hk]⟩
theorem bld_new (w:World):Bld w.heap.size w.heap.size [] (w.alloc (.cells #[.pointer none,.slice none 0 0] 224)) :=
 .inl ⟨Nat.le_refl _,_,heap_alloc_new w _,World.ownsRow_nil _ _ _ _,by simp [Value.ownBlock]⟩
theorem bld_below {B b:Nat} {l:List UInt8} {w w':World} (h:Bld B b l w) (hb:Below w.heap.size w w'):Bld B b l w':=by
 have key:∀p,Lib.BuilderAt 224 5 B b p (Lib.byteCells l) w→Lib.BuilderAt 224 5 B b p (Lib.byteCells l) w':=by
  rintro p ⟨h1,v,h2,h3,h4⟩
  exact ⟨h1,v,Blk.below (cs:=#[p,v]) h2 hb (Blk.lt (cs:=#[p,v]) h2),h3.kept (only_of_below hb none) (by cases v.ownBlock <;> simp),h4⟩
 rcases h with h | h
 ·exact .inl (key _ h)
 ·exact .inr (key _ h)
theorem itoa_any (n:Nat) (w:World) (hn:n≤9223372036854775807) (ht:Tab w):Calls Tryz.prog 80 #[.int .i64 n] w fun e w'=>e=.returned (.string ⟨(Lib.decDigits n).toArray⟩)∧Below w.heap.size w w':=by
 refine (Tryz.strconv_Itoa n (by omega) (by omega) w ht).mono ?_
 rintro e w' ⟨rfl,k,os,rfl⟩
 exact ⟨by rw [itoa_nat],below_grown w k os⟩
theorem dec_len (n:Nat) (h:n≤9223372036854775807):(Lib.decDigits n).length≤21:=by
 have:=Lib.itoa_length_le (n:Int) (by omega) (by omega)
 rwa [itoa_nat] at this
theorem joinS_len {js:List Nat} (h:∀j∈js,j≤9223372036854775807):(joinS js).length≤js.length*22:=by
 induction js with
 | nil=>simp [joinS]
 | cons j js ih =>
  have h1:=dec_len j (h j (by simp))
  have h2:=ih fun x hx=>h x (by simp [hx])
  have:joinS (j :: js)=Lib.decDigits j++32 :: joinS js:=by simp [joinS]
  rw [this]
  simp only [List.length_append,List.length_cons]
  omega
theorem join_any {v:Value} {js:List Nat} {w:World} (h:Ids w v (js.map Int.ofNat)) (ht:Tab w) (hl:js.length≤1000000) (hj:∀j∈js,j≤9223372036854775807) :
  Calls Tryz.prog 85 #[v] w fun e w'=>e=.returned (.string (joinB js))∧Below w.heap.size w w':=by
 obtain ⟨A,c,rfl,hr⟩:=h
 simp only [List.length_map] at hr ⊢
 have HB:=hide (bld_new w)
 have Hj:=hide hj
 have Ht:=hide ht
 clear hj ht
 go_enter Tryz.func85,Tryz.ntmps85
 go_wp2
 go_loopw [8,5] (fun i _ wr=>∃k:Nat,k≤js.length∧i=.int .i64 k∧Bld w.heap.size w.heap.size (joinS (js.take k)) wr∧Below w.heap.size w wr) (fun i _ _=>js.length - (intOf i).toNat)
 case atStart=>exact ⟨0,Nat.zero_le _,rfl,HB.out,by exact bel_by⟩
 case round =>
  obtain ⟨k,hk,rfl,hB,hbr⟩:=hrel
  by_cases hlt:k<js.length
  ·have hki:(k:Int)<js.length:=by omega
   obtain ⟨ad,u,rfl,_,hab,hu,hc0⟩:=hr.at_ hlt
   simp only [List.getElem?_map,List.getElem?_eq_getElem hlt,Option.map_some,Option.some.injEq] at hu
   subst hu
   have hc:=cellAdd hbr hab hc0
   have hjk:=Hj.out _ (List.getElem_mem hlt)
   have hT:=joinS_len (js:=js.take k) (fun x hx=>Hj.out x (List.mem_of_mem_take hx))
   have hs:=joinS_snoc (js.take k) js[k]
   rw [←List.take_succ_eq_append_getElem hlt] at hs
   have Hs:=hide hs
   have hdl:=dec_len js[k] hjk
   clear hs hc0
   generalize js[k]=n at hc hjk hdl Hs
   have hI:=hide (itoa_any n wr hjk (Ht.out.below hbr))
   have hws:=hbr.size
   have hTl:(js.take k).length≤js.length:=List.length_take_le' _ _
   have hsz:(⟨(Lib.decDigits n).toArray⟩:ByteArray).size≤21:=hdl
   have hlen:(joinS (js.take k)).length+((⟨(Lib.decDigits n).toArray⟩:ByteArray)++(⟨#[32]⟩:ByteArray)).size≤140737488355328:=by
    rw [ByteArray.size_append]
    have:(⟨#[32]⟩:ByteArray).size=1:=rfl
    omega
   have Hlen:=hide hlen
   clear hT hlen
   go_wp2_with (first
    | (go_at_call 80;refine hI.out.mono ?_;rintro e w1 ⟨rfl,hb1⟩;have hB1:=bld_below hB hb1;have ha1:=hbr.trans (hb1.mono hws);have hz1:=ha1.size)
    | (go_at_call 140;refine (bld_write _ hB1 Hlen.out hz1).mono ?_;rintro e w2 ⟨rfl,hB2,hb2⟩))
   go_round
   case rel =>
    refine ⟨k+1,hlt,by go_num,?_,ha1.trans hb2⟩
    rw [Hs.out]
    simpa using hB2
   case measure=>simp [intOf];omega
  ·have hki:¬ (k:Int)<js.length:=by omega
   obtain rfl:k=js.length:=by omega
   rw [List.take_length] at hB
   go_wp2_with (go_at_call 141;refine (bld_string hB hbr.size).mono ?_;rintro e w1 ⟨rfl,hb1⟩)
   go_ret
   exact ⟨rfl,hbr.trans hb1⟩
end Go.Proofs.YtkfnepnghnicoaaGreatDoor

/-
  Several of my texts in one: AsN, Chn.
-/
import Derived.Test.YtkfnepnghnicoaaGreatDoorKAsG
import Derived.Test.YtkfnepnghnicoaaGreatDoorKWholeAG
import Derived.Deep.RegionHeld3
import Derived.Deep.DeepCutAuto
set_option linter.unusedVariables false
set_option linter.unusedSimpArgs false
set_option maxHeartbeats 40000000
set_option maxRecDepth 100000
namespace Go.Proofs.YtkfnepnghnicoaaGreatDoor
open Go.RowKit Go.Extern.Stop Go.Stop Go.Extern
def errV (b:Nat):Value:=.iface 135 (.pointer (some ⟨b,0,none⟩))
def IsErr (w:World):Value→List (List UInt8)→Int→Prop
 | v,[],k=>v=.iface 42 (.int .i64 k)
 | v,s :: r,k=>∃b v',v=errV b∧Blk w b 137 #[.string (bs s),v']∧IsErr w v' r k
theorem IsErr.below {w w':World} (hb:Below w.heap.size w w'):∀{ps:List (List UInt8)} {v:Value} {k:Int},IsErr w v ps k→IsErr w' v ps k
 | [],_,_,h=>h
 | _ :: _,_,_,h=>by
  obtain ⟨b,v',e,hB,h2⟩:=h
  exact ⟨b,v',e,hB.below hb hB.lt,IsErr.below hb h2⟩
theorem IsErr.own {w w':World} {g:Nat} {t:TypeId} {cs:Array Value} (hg:Blk w g t cs) (hne:t≠137) (hb:w.grownBy w' (some g)):∀{ps:List (List UInt8)} {v:Value} {k:Int},IsErr w v ps k→IsErr w' v ps k
 | [],_,_,h=>h
 | _ :: _,_,_,h=>by
  obtain ⟨b,v',e,hB,h2⟩:=h
  exact ⟨b,v',e,hB.grown hb (fun e2=>Blk.ne_ hg hB hne (Option.some.inj e2).symm),IsErr.own hg hne hb h2⟩
noncomputable def depE (w:World) (v:Value):Nat:=by
 classical exact if h:∃ps k,IsErr w v ps k then h.choose.length else 0
theorem isErr_len {w:World}:∀{ps ps':List (List UInt8)} {v:Value} {k k':Int},IsErr w v ps k→IsErr w v ps' k'→ps.length=ps'.length
 | [],[],_,_,_,_,_=>rfl
 | [],_ :: _,_,_,_,h,h2=>by
  obtain ⟨b,v',e,_⟩:=h2
  rw [e] at h
  cases h
 | _ :: _,[],_,_,_,h,h2=>by
  obtain ⟨b,v',e,_⟩:=h
  rw [e] at h2
  cases h2
 | _ :: r,_ :: r2,v,_,_,h,h2=>by
  obtain ⟨b,v',rfl,hB,h3⟩:=h
  obtain ⟨b2,v2,e2,hB2,h4⟩:=h2
  cases e2
  have e1:=(hB.cell 1).symm.trans (hB2.cell 1)
  simp only [List.getElem?_toArray,List.getElem?_cons_zero,List.getElem?_cons_succ,Option.some.injEq] at e1
  subst e1
  rw [List.length_cons,List.length_cons,isErr_len h3 h4]
theorem depE_eq {w:World} {v:Value} {ps:List (List UInt8)} {k:Int} (h:IsErr w v ps k):depE w v=ps.length:=by
 have hx:∃ps k,IsErr w v ps k:=⟨ps,k,h⟩
 unfold depE
 rw [dif_pos hx]
 exact isErr_len hx.choose_spec.choose_spec h
section
variable {w : World}
theorem asE_any (b:Nat) {ps:List (List UInt8)} {k:Int} (h:IsErr w (errV b) ps k) (t:Addr) (old:Value) (hg:Hand w) (ht0:w.cell? t=some old) (hf0:w.frozen? t=false) :
  Calls Tryz.prog 110 #[errV b,.iface 198 (.pointer (some t))] w fun ev w'=>ev=.returned (.bool true)∧∃W,Below w.heap.size w W∧w'=W.setCell t (.int .i64 k):=by
 have h139:=@run_callFunc_extern Tryz.prog 183 _ (fun args=>ReflectliteValue.unpack (args.getD 0 (.tuple #[]))) Tryz.func183 (by kernel_rfl) (by kernel_rfl) (by kernel_rfl) (by kernel_rfl)
 have h140:=@run_callFunc_extern Tryz.prog 184 _ (ReflectliteValue.methodAny (ReflectliteValue.valueError "reflectlite.Value.Type" 0) (fun t _ _ _=>ReflectliteType.toType t)) Tryz.func184 (by kernel_rfl) (by kernel_rfl) (by kernel_rfl) (by kernel_rfl)
 have h141:=@run_callFunc_extern Tryz.prog 185 _ (ReflectliteValue.method (ReflectliteValue.valueError "reflectlite.Value.IsNil" 0) ReflectliteValue.isNil) Tryz.func185 (by kernel_rfl) (by kernel_rfl) (by kernel_rfl) (by kernel_rfl)
 have h203:=@run_callFunc_extern Tryz.prog 331 _ (ReflectliteType.abiMethod fun t=>do pure (.int .u8 (← Rtype.kind t))) Tryz.func331 (by kernel_rfl) (by kernel_rfl) (by kernel_rfl) (by kernel_rfl)
 have h217:=@run_callFunc_extern Tryz.prog 344 _ (ReflectliteType.method ReflectliteType.elem) Tryz.func344 (by kernel_rfl) (by kernel_rfl) (by kernel_rfl) (by kernel_rfl)
 have h218:=@run_callFunc_extern Tryz.prog 345 _ (ReflectliteType.relation "Implements" ReflectliteType.implements_) Tryz.func345 (by kernel_rfl) (by kernel_rfl) (by kernel_rfl) (by kernel_rfl)
 have h155:=@run_callFunc_extern Tryz.prog 240 _ ReflectliteType.typeOf Tryz.func240 (by kernel_rfl) (by kernel_rfl) (by kernel_rfl) (by kernel_rfl)
 have h215:=@run_callFunc_extern Tryz.prog 342 _ (ReflectliteType.relation "AssignableTo" ReflectliteType.assignableTo) Tryz.func342 (by kernel_rfl) (by kernel_rfl) (by kernel_rfl) (by kernel_rfl)
 have h156:=@run_callFunc_extern Tryz.prog 241 _ (ReflectliteValue.method (ReflectliteValue.valueError "reflectlite.Value.Elem" 0) ReflectliteValue.elem) Tryz.func241 (by kernel_rfl) (by kernel_rfl) (by kernel_rfl) (by kernel_rfl)
 have h157:=@run_callFunc_extern Tryz.prog 242 _ ReflectliteValue.set Tryz.func242 (by kernel_rfl) (by kernel_rfl) (by kernel_rfl) (by kernel_rfl)
 have tO:=q_typeOfF
 have tE:=q_typeOfE
 have aFE:=q_assFE
 have aEE:=q_assEE
 have vE:=q_valueOfE
 have f6:=q_valueOfEE
 have f7:=q_typeEE
 have kEE:=q_kindEE
 have kE:=q_kindE
 have eEE:=q_elemEE
 have iE:=q_implE
 have n1:=q_noAsF
 have n2:=q_isUnF
 have n3:=q_noAsE
 have mU:=q_mUn
 have mA:=q_mAss
 have mK:=q_mKind
 have mE:=q_mElem
 have mI:=q_mImpl
 have hlt:=hg.lt
 have htl:t.block<w.heap.size:=by
  rcases Nat.lt_or_ge t.block w.heap.size with h | h
  ·exact h
  ·simp [World.cell?,Array.getElem?_eq_none h] at ht0
 have n8:=q_isNilE ⟨w.heap.size,0,none⟩ t ((w.alloc (.cells #[.pointer (some t)] 198)).alloc (.cells #[.pointer (some ⟨9,198,none⟩),.pointer (some ⟨w.heap.size,0,none⟩),.int .u64 150] 254)) (by simp)
 have hg2:((w.alloc (.cells #[.pointer (some t)] 198)).alloc (.cells #[.pointer (some ⟨9,198,none⟩),.pointer (some ⟨w.heap.size,0,none⟩),.int .u64 150] 254)).cell? ⟨1,0,none⟩=some (.iface 286 (.agg #[.pointer (some ⟨9,40,none⟩)])):=by
  rw [World.cell?_alloc_lt _ _ ⟨1,0,none⟩ (by first | (simp;done) | (simp;omega)),World.cell?_alloc_lt _ _ ⟨1,0,none⟩ hlt];exact hg
 have el:=q_elemVE ⟨w.heap.size,0,none⟩ t (((w.alloc (.cells #[.pointer (some t)] 198)).alloc (.cells #[.pointer (some ⟨9,198,none⟩),.pointer (some ⟨w.heap.size,0,none⟩),.int .u64 150] 254)).alloc (.cells #[.pointer (some ⟨9,198,none⟩),.pointer (some ⟨w.heap.size,0,none⟩),.int .u64 150] 254)) (by rw [World.cell?_alloc_lt _ _ ⟨w.heap.size,0,none⟩ (by simp;omega)];simp)
 have st:=q_setE t ⟨w.heap.size+1+1+1,0,none⟩ k old ((((w.alloc (.cells #[.pointer (some t)] 198)).alloc (.cells #[.pointer (some ⟨9,198,none⟩),.pointer (some ⟨w.heap.size,0,none⟩),.int .u64 150] 254)).alloc (.cells #[.pointer (some ⟨9,198,none⟩),.pointer (some ⟨w.heap.size,0,none⟩),.int .u64 150] 254)).alloc (.cells #[.int .i64 k] 42))
  (by rw [World.cell?_alloc_at _ _ _ _ (by simp)];rfl)
  (by rw [World.cell?_alloc_lt _ _ t (by simp;omega),World.cell?_alloc_lt _ _ t (by simp;omega),World.cell?_alloc_lt _ _ t (by simp;omega),World.cell?_alloc_lt _ _ t htl];exact ht0)
  (by rw [World.frozen?_alloc_old _ _ t (by simp;omega),World.frozen?_alloc_old _ _ t (by simp;omega),World.frozen?_alloc_old _ _ t (by simp;omega),World.frozen?_alloc_old _ _ t (Nat.ne_of_lt htl)];exact hf0)
 have hbl:Below w.heap.size w ((((w.alloc (.cells #[.pointer (some t)] 198)).alloc (.cells #[.pointer (some ⟨9,198,none⟩),.pointer (some ⟨w.heap.size,0,none⟩),.int .u64 150] 254)).alloc (.cells #[.pointer (some ⟨9,198,none⟩),.pointer (some ⟨w.heap.size,0,none⟩),.int .u64 150] 254)).alloc (.cells #[.int .i64 k] 42)):=by exact bel_by
 have HW3:=hide (h.below (show Below w.heap.size w (((w.alloc (.cells #[.pointer (some t)] 198)).alloc (.cells #[.pointer (some ⟨9,198,none⟩),.pointer (some ⟨w.heap.size,0,none⟩),.int .u64 150] 254)).alloc (.cells #[.pointer (some ⟨9,198,none⟩),.pointer (some ⟨w.heap.size,0,none⟩),.int .u64 150] 254)) from by exact bel_by))
 clear h hg ht0 hf0 hlt htl
 obtain ⟨w3,hw3⟩:∃w3,w3=(((w.alloc (.cells #[.pointer (some t)] 198)).alloc (.cells #[.pointer (some ⟨9,198,none⟩),.pointer (some ⟨w.heap.size,0,none⟩),.int .u64 150] 254)).alloc (.cells #[.pointer (some ⟨9,198,none⟩),.pointer (some ⟨w.heap.size,0,none⟩),.int .u64 150] 254)):=⟨_,rfl⟩
 rw [←hw3] at HW3 el
 unfold errV
 go_enter Tryz.func110,Tryz.ntmps110
 go_wp2
 rw [←hw3]
 have Hw3:=hide hw3
 clear hw3
 go_loopw [0] (fun vi wr=>wr=w3∧∃ps' v,vi=v∧Hid (IsErr w3 v ps' k)) (fun vi _=>depE w3 vi)
 case atStart=>exact ⟨rfl,ps,_,rfl,HW3⟩
 case round =>
  obtain ⟨rfl,ps',v,hv,HI⟩:=hrel
  have hd:=depE_eq HI.out
  cases ps' with
  | nil =>
   have e:v=.iface 42 (.int .i64 k):=HI.out
   subst e
   subst hv
   have hw3:=Hw3.out
   subst hw3
   go_wp2
   go_ret
   exact ⟨rfl,_,hbl,rfl⟩
  | cons s1 r =>
   obtain ⟨b1,v1,e,q1,h1⟩:=HI.out
   have hd1:=depE_eq h1
   have e1:=q1.cell 1
   simp only [List.getElem?_toArray,List.getElem?_cons_zero,List.getElem?_cons_succ] at e1
   have H1:=hide h1
   subst e
   subst hv
   unfold errV
   cases r with
   | nil =>
    have e:v1=.iface 42 (.int .i64 k):=h1
    subst e
    clear h1 q1
    go_wp2
    exact ⟨⟨trivial,[],_,rfl,H1⟩,(show depE wr (.iface 42 (.int .i64 k))<depE wr (errV b1) from by rw [hd1,hd];simp)⟩
   | cons s2 r2 =>
    obtain ⟨b2,v2,e,_,_⟩:=h1
    subst e
    clear q1
    unfold errV at e1
    go_wp2
    exact ⟨⟨trivial,_,_,rfl,H1⟩,(show depE wr (errV b2)<depE wr (errV b1) from by rw [hd1,hd];simp)⟩
end
end Go.Proofs.YtkfnepnghnicoaaGreatDoor
namespace Go.Proofs.YtkfnepnghnicoaaGreatDoor
open Go.RowKit
section
variable {w : World}
theorem fof_any (s:ByteArray) (k:Int) (hk:(k == 0)=false) (w:World):Calls Tryz.prog 31 #[.string s,.int .i64 k] w (fun e w'=>∃b,e=.returned (errV b)∧IsErr w' (errV b) [s.data.toList] k∧Below w.heap.size w w'):=by
 go_enter Tryz.func31,Tryz.ntmps31
 go_wp2
 go_ret
 exact ⟨w.heap.size,rfl,⟨_,_,rfl,Blk.new _ _ _,rfl⟩,by exact bel_by⟩
theorem fof_nil (s:ByteArray) (w:World):Calls Tryz.prog 31 #[.string s,.int .i64 0] w (fun e w'=>e=.returned .nilIface∧w'=w):=by
 go_enter Tryz.func31,Tryz.ntmps31
 go_wp2
 go_ret
 exact ⟨rfl,rfl⟩
theorem fat_any (s:ByteArray) (b:Nat) {ps:List (List UInt8)} {k:Int} (h:IsErr w (errV b) ps k):Calls Tryz.prog 42 #[.string s,errV b] w (fun e w'=>∃b',e=.returned (errV b')∧IsErr w' (errV b') (s.data.toList :: ps) k∧Below w.heap.size w w'):=by
 have H:=hide (fun w' (hb:Below w.heap.size w w')=>h.below hb)
 unfold errV
 clear h
 go_enter Tryz.func42,Tryz.ntmps42
 go_wp2
 go_ret
 exact ⟨w.heap.size,rfl,⟨_,_,rfl,Blk.new _ _ _,H.out _ (by exact bel_by)⟩,by exact bel_by⟩
theorem code_any (b:Nat) {ps:List (List UInt8)} {k:Int} (h:IsErr w (errV b) ps k) (hg:Hand w):Calls Tryz.prog 67 #[errV b] w (fun e w'=>e=.returned (.int .i64 k)∧Below w.heap.size w w'):=by
 have hb0:=(Below.refl w.heap.size w).alloc (Nat.le_refl _) (.cells #[.int .i64 0] 42)
 have hB:=Blk.new w 42 #[.int .i64 0]
 have HA:=hide (asE_any b (h.below hb0) ⟨w.heap.size,0,none⟩ (.int .i64 0) (hg.below hb0) (hB.cell 0) (hB.frozen 0))
 clear hg h
 unfold errV at HA ⊢
 go_enter Tryz.func67,Tryz.ntmps67
 go_wp2_with fail
 refine HA.out.mono ?_
 rintro e w1 ⟨rfl,W,hbW,rfl⟩
 have hc:(W.setCell ⟨w.heap.size,0,none⟩ (.int .i64 k)).cell? ⟨w.heap.size,0,none⟩=some (.int .i64 k):=by
  have:=(hB.below hbW hB.lt).set_ 0 (.int .i64 k)
  simpa using this.cell 0
 have hbl:Below w.heap.size w (W.setCell ⟨w.heap.size,0,none⟩ (.int .i64 k)):=(hb0.trans (hbW.mono hb0.size)).setCell (Nat.le_refl _) _
 clear hB hb0 hbW
 go_wp2_with fail
 go_ret
 exact ⟨rfl,hbl⟩
theorem own_belowN {B0 size n:Nat} {t:TypeId} {v:Value} {xs:List Value} {w w':World} (h:w.ownsRow B0 t size v n xs) (hb:Below w.heap.size w w'):w'.ownsRow B0 t size v n xs:=by
 refine h.kept (only_of_below hb none) ?_
 cases eo:v.ownBlock with
 | none=>exact .inl rfl
 | some i=>exact .inr (fun e=>by cases e)
theorem own_slN {w:World} {base:Nat} {e:TypeId} {size n:Nat} {v:Value} {xs:List Value} (h:w.ownsRow base e size v n xs):∃A c,v=.slice A n c:=by
 rcases h.2 with ⟨rfl,rfl⟩ | ⟨g',cap,cur,rfl,_⟩
 ·exact ⟨none,0,rfl⟩
 ·exact ⟨_,_,rfl⟩
theorem reads_blkN {W:World} {b:Nat} {t:TypeId} {us:List Value} {size m:Nat} (h:Blk W b t us.toArray) (hl:us.length=m*size):Reads W W.heap.size size (some ⟨b,0,none⟩) m us :=
 ⟨hl,fun _=>⟨_,rfl,h.lt,fun j u hu=>by rw [add_zero_,h.cell j];simpa using hu⟩⟩
theorem info_partsN {o:Option TypeInfo} {z:Option Value} {n b:Nat} (h:o.map (fun i=>(i.zero,i.size,i.bytes))=some (z,n,b)):∃i,o=some i∧i.zero=z∧i.size=n∧i.bytes=b:=by
 cases o with
 | none=>cases h
 | some i =>
  simp only [Option.map_some,Option.some.injEq,Prod.mk.injEq] at h
  exact ⟨i,rfl,h.1,h.2.1,h.2.2⟩
theorem own_txsN {w:World} {B i:Nat} {e:TypeId} {v:Value} {ls:List (List UInt8)} (h:w.ownsRow B e 1 v i ((ls.map bs).map Value.string)) (hi:(ls.map bs).length=i):Txs w v ls:=by
 obtain ⟨A,c,rfl⟩:=own_slN h
 refine ⟨A,c,by rw [hi],?_⟩
 rw [hi]
 exact Sl.of_reads (Reads.of_own h)
theorem infoStN:(Tryz.prog.info? 9).map (fun i=>(i.zero,i.size,i.bytes))=some (some (.string ⟨#[]⟩),1,16):=by kernel_rfl
def lenV:Value→Nat
 | .slice _ n _=>n
 | _=>0
structure PathI (w:World) (ps:List (List UInt8)) (k:Int) (tb:Nat) (i:Nat) (A:Option Addr) (c:Nat) (vi:Value) (wr:World):Prop where
 err:IsErr w vi (ps.drop i) k
 own:wr.ownsRow w.heap.size 9 1 (.slice A i c) i (((ps.take i).map bs).map Value.string)
 blk:∃p,Blk wr tb 135 #[.pointer p]
 bel:Below w.heap.size w wr
theorem path_any (b:Nat) {ps:List (List UInt8)} {k:Int} (hps:ps.length≤1000) (h:IsErr w (errV b) ps k) (hg:Hand w):Calls Tryz.prog 66 #[errV b] w (fun e w'=>∃A c,e=.returned (.slice A ps.length c)∧Txs w' (.slice A ps.length c) ps∧Below w.heap.size w w'):=by
  have hb0:=(Below.refl w.heap.size w).alloc (Nat.le_refl _) (.cells #[.pointer none] 135)
  have hB:=Blk.new w 135 #[.pointer none]
  obtain ⟨w0,hw0⟩:∃w0,w0=w.alloc (.cells #[.pointer none] 135):=⟨_,rfl⟩
  rw [←hw0] at hb0 hB
  obtain ⟨tb,htb⟩:∃tb,tb=w.heap.size:=⟨_,rfl⟩
  rw [←htb] at hB
  obtain ⟨iI,hiI,hI0,hI1,hI2⟩:=info_partsN infoStN
  have HP0:=hide (show PathI w ps k tb 0 none 0 (errV b) w0 from ⟨h,World.ownsRow_nil _ _ _ _,⟨none,hB⟩,hb0⟩)
  have Hg:=hide hg
  unfold errV at HP0 ⊢
  clear h hg hB hb0
  go_enter Tryz.func66,Tryz.ntmps66
  go_upto_region 3 with fail
  rw [←hw0,← htb]
  have Htb:=hide htb
  clear hw0 htb
  go_loopw [0,3] (fun ve vo wr=>∃(i:Nat) (A:Option Addr) (c:Nat),vo=.slice A i c∧i≤ps.length∧Hid (PathI w ps k tb i A c ve wr)) (fun _ vo _=>ps.length - lenV vo)
  case atStart=>exact ⟨0,none,0,rfl,Nat.zero_le _,HP0⟩
  case round =>
    obtain ⟨i,A,c,rfl,hi,HI⟩:=hrel
    have herr:=HI.out.err
    obtain ⟨p0,hBl⟩:=HI.out.blk
    have hbr:=HI.out.bel
    have hown:=HI.out.own
    by_cases hlt:i<ps.length
    · rw [List.drop_eq_getElem_cons hlt] at herr
      obtain ⟨b1,v',rfl,q1,herr2⟩:=herr
      have htk:=hide (show ((ps.take (i+1)).map bs).map Value.string=((ps.take i).map bs).map Value.string++[.string (bs ps[i])] from by
        rw [List.take_succ_eq_append_getElem hlt,List.map_append,List.map_append]
        rfl)
      have Herr2:=hide herr2
      have H1:=hide (asF_hit (w:=wr) ⟨b1,0,none⟩ ⟨tb,0,none⟩ (.pointer p0) (Hg.out.below hbr) (hBl.cell 0) (hBl.frozen 0))
      have HO:=hide hown
      have HQ:=hide q1
      have HB:=hide hBl
      have Hbr:=hide hbr
      have hi0:i≤1000:=by omega
      unfold errV at H1 ⊢
      clear herr2 hown q1 hBl hbr HI
      go_wp2_with fail
      refine H1.out.mono ?_
      rintro e w1 ⟨rfl,W1,hbW1,rfl⟩
      have hbX1:Below w.heap.size w (W1.setCell ⟨tb,0,none⟩ (.pointer (some ⟨b1,0,none⟩))):=(Hbr.out.trans (hbW1.mono Hbr.out.size)).setCell (by rw [Htb.out];exact Nat.le_refl _) _
      have hBX1:Blk (W1.setCell ⟨tb,0,none⟩ (.pointer (some ⟨b1,0,none⟩))) tb 135 #[.pointer (some ⟨b1,0,none⟩)]:=by
        have:=(HB.out.below hbW1 HB.out.lt).set_ 0 (.pointer (some ⟨b1,0,none⟩))
        simpa using this
      have hoX1:(W1.setCell ⟨tb,0,none⟩ (.pointer (some ⟨b1,0,none⟩))).ownsRow w.heap.size 9 1 (.slice A i c) i (((ps.take i).map bs).map Value.string):=by
        have h1:wr.grownBy (W1.setCell ⟨tb,0,none⟩ (.pointer (some ⟨b1,0,none⟩))) (some tb):=only_setCell (only_of_below hbW1 (some tb)) (.inl rfl) _
        refine HO.out.kept h1 ?_
        cases eo:(Value.slice A i c).ownBlock with
        | none=>exact .inl rfl
        | some j=>exact .inr (fun e=>by
            have:=Option.some.inj e
            subst this
            exact own_blk_ne HO.out HB.out (by decide) eo)
      generalize W1.setCell ⟨tb,0,none⟩ (.pointer (some ⟨b1,0,none⟩))=X1 at hbX1 hBX1 hoX1 ⊢
      have c1:X1.cell? ⟨tb,0,none⟩=some (.pointer (some ⟨b1,0,none⟩)):=hBX1.cell 0
      have c2:X1.cell? ⟨b1,0,none⟩=some (.string (bs ps[i])):=(HQ.out.below hbX1 HQ.out.lt).cell 0
      have hsz1:w.heap.size≤(X1.alloc (.cells #[.string (bs ps[i])] 9)).heap.size:=by
        have:=hbX1.size
        simp only [World.size_alloc]
        omega
      clear hbW1 H1 HO
      go_wp2_with (first
        | (at_builtin;refine wpList_append_any _ rfl (.tmp 16) (.tmp 21) _ rfl w.heap.size 9 iI (.string ⟨#[]⟩) 1 16 Tryz.underlying22 hiI hI0 hI1 hI2 rfl (by decide) (.slice A i c) i _ rfl (hoX1.alloc _) _ (some ⟨_,0,none⟩) 1 1 [.string (bs ps[i])] rfl (reads_blkN (Blk.new _ _ _) rfl) (by simp [Value.oneCell']) (by unfold maxLen;omega) (by omega) (by simp only [World.size_alloc];have:=hbX1.size;omega) ?_;intro v6 w6 hown6 hgr6 hor6;obtain ⟨A6,c6,rfl⟩:=own_slN hown6;
           have hbY:=(hbX1.alloc hbX1.size (.cells #[.string (bs ps[i])] 9)).grown hgr6 hsz1 (fun k e=>(hoX1.lt k e).1);
           have hBY:=Blk.grown (hBX1.alloc (.cells #[.string (bs ps[i])] 9)) hgr6 (fun e=>own_blk_ne hoX1 hBX1 (by decide) e.symm);
           have d1:=hBY.cell 0;have d2:=(HQ.out.below hbY HQ.out.lt).cell 1;simp only [List.getElem?_toArray,List.getElem?_cons_zero,List.getElem?_cons_succ] at d1 d2)
        | fail)
      refine ⟨⟨i+1,A6,c6,by first | rfl | (simp;done),by omega,hide ⟨Herr2.out,?_,⟨_,hBY⟩,hbY⟩⟩,by simp [lenV];omega⟩
      rw [htk.out]
      exact hown6
    · have hil:i=ps.length:=by omega
      subst hil
      rw [List.drop_length] at herr
      cases herr
      have H3:=hide (asF_miss (w:=wr) k ⟨tb,0,none⟩ (.pointer p0) (Hg.out.below hbr) (hBl.cell 0))
      have HO:=hide hown
      have Hbr:=hide hbr
      clear hBl hbr hown HI
      go_wp2_with fail
      refine H3.out.mono ?_
      rintro e w8 ⟨rfl,hb8⟩
      have ho8:=own_belowN HO.out hb8
      rw [List.take_length] at ho8
      go_wp2_with fail
      go_ret
      exact ⟨A,c,rfl,own_txsN ho8 (by rw [List.length_map]),Hbr.out.trans (hb8.mono Hbr.out.size)⟩
end
end Go.Proofs.YtkfnepnghnicoaaGreatDoor

/-
  The law AuthcSigns: a client signs nothing but requests of its own session, as its own user, with its own keys, each key at most once, and each time this is an event. Conditions: none but the listed variables.
-/
import Derived.Test.YtnhekaepgpbijaaGreatDoorHAcSgG
import Derived.Test.YtnhekaepgpbijaaGreatDoorHAuthcSignsFG
set_option linter.unusedVariables false
set_option linter.unusedSimpArgs false
set_option maxHeartbeats 40000000
set_option maxRecDepth 100000
namespace Go.Proofs.YtnhekaepgpbijaaGreatDoor
open Go.ChangeShapes Go.WideShapes Go.ChangeAt Go.RowKit Go.Sort
open Go.ChangeMaps (open_string shut_string)
theorem authcSigns_l {w:World} (hT:Tab w) (hMx:MaxL w) (hMe:MethV w) (hWo:WordV w) (c:CfP) (hc:c.W w) (sid:ByteArray) (hsd:sid.size≤maxLen) {A:Option Addr} {d:Nat} {l:List (Bool × List UInt8)} (hl:ActC w A l) (hll:l.length≤maxLen) (hlz:∀x∈l,x.2.length≤maxLen) :
  Calls Tryz.prog 3 #[.agg (c.cells++#[Value.string sid]).toList.toArray,.slice A l.length d] w (fun e w'=>e=.returned (.bool true)∧Below w.heap.size w w'):=by
 rw [Array.toArray_toList]
 exact authcSigns_any hT hMx hMe hWo c hc sid hsd hl hll hlz

theorem lifted_AuthcSigns (os:Os) (started:os.Started) (H:Type) (enc:TypeId × Value→H) :
  ReturnsInHanded {} Tryz.checked os 3 .any (fun w args=>(Rows.authcSignsSpec.pre enc Tryz.prog Tryz.f3 [] false w args∧laidMetH Tryz.prog Rows.authcSignsRow.laid w)∧sizedMet enc Tryz.prog Tryz.f3 (OpenSpec.ofChange Rows.authcSignsSpec) false w args)
   (Rows.authcSignsSpec.post enc Tryz.prog Tryz.f3 false true false false):=by
 refine handed_shaped (C:=Tryz.checked) (X:=fun w _=>laidMetH Tryz.prog Rows.authcSignsRow.laid w) (fun _ _ _ hh h=>h.of_heap hh) own started (by kernel_rfl) Tryz.func3
  (ChangeSpec.witness_shaped (enc:=enc) (C:=Tryz.checked) (os:=os) (X:=fun w _=>laidMetH Tryz.prog Rows.authcSignsRow.laid w) false (World.laidAll Tryz.prog os Rows.authcSignsRow.laid) #[.agg #[.bool false,.string ByteArray.empty,.string ByteArray.empty,.slice none 0 0,.slice none 0 0,.slice none 0 0,.slice none 0 0,.slice none 0 0,.slice none 0 0,.slice none 0 0,.slice none 0 0,.slice none 0 0,.int .i64 0,.slice none 0 0,.int .i64 0,.int .i64 0,.string ByteArray.empty,.slice none 0 0,.bool false,.bool false,.int .u32 0,.int .u32 0,.int .u32 0,.string ByteArray.empty],.slice none 0 0] 8 (World.laidAll_os _ _ _)
   (World.shaped_of_ZipB (by kernel_rfl) (by kernel_rfl)) (by kernel_rfl) (by kernel_rfl) (by kernel_rfl)
   (by rw [MakeChecks.laidMetH_plain _ _ _ (by kernel_rfl)];exact laidMet_laidAll _ (by kernel_rfl) (by kernel_rfl))) ?_
 intro W base args ds gs before hval0 hW hL hsh
 have hval:∀(j:Nat) t v,Tryz.f3.params[j]?=some t→args[j]?=some v→Value.okWide Tryz.prog W .any base t v:=hval0
 have hW':=hW
 obtain ⟨p,q,hA0,hV,rfl,hfz,hnd⟩:=hW
 have hA:DataW.TrodAll enc Tryz.prog W 0 (fun _=>true) true Tryz.f3.params.toList args.toList ds p:=hA0
 rw [Tryz.params3] at hA hval
 obtain ⟨v0,vs0,d0,ds0,p0,q0,hargs,rfl,rfl,h0,r0⟩:=trodAll_cons hA
 obtain ⟨v1,vs1,d1,ds1,p1,q1,rfl,rfl,rfl,h1,r1⟩:=trodAll_cons r0
 obtain ⟨rfl,rfl,rfl⟩:=trodAll_nil r1
 obtain rfl:args=#[v0,v1]:=by cases args;simp_all
 obtain ⟨cs0,rfl,ho0⟩:=open_struct 9 (l:=setupS) Tryz.underlying32 (by kernel_rfl) (hval 0 32 v0 rfl rfl) h0
 obtain ⟨cf0,sd0,rfl,hC0,hsd0⟩:=open_setup ho0
 obtain ⟨ls1,A1,c1,rfl,hl1,hll1,hlz1⟩:=open_acts (open_slice 6 (l:=[.b,.s]) Tryz.underlying33 (by kernel_rfl) (hval 1 33 v1 rfl rfl) h1)
 rw [MakeChecks.laidMetH_plain _ _ _ (by kernel_rfl)] at hL
 have hT:=tab_of_laid hL
 have hMe:=meth_of (Lib.laidMet.reads hL (by unfold Rows.authcSignsRow;simp))
 have hWo:=word_of (Lib.laidMet.reads hL (by unfold Rows.authcSignsRow;simp))
 have hM:=maxL_of hsh
 refine (authcSigns_l hT hM hMe hWo cf0 hC0 sd0 hsd0 hl1 hll1 hlz1).mono fun e W' ⟨he,bel⟩=>?_
 subst he
 exact ⟨_,rfl,law_post 4 laidOut (by kernel_rfl) rfl Tryz.underlying4 rfl hW' (fun ds' hl _=>by match ds',hl with | [x0,x1],_=>rfl) bel⟩

theorem over_AuthcSigns:Rows.authcSignsRow.holds Tryz.pinned (OpenSpec.ofChange Rows.authcSignsSpec) :=
 OpenClaim.holds_of_wide 3 Tryz.f3 rfl rfl rfl rfl rfl rfl rfl ⟨rfl,rfl,rfl,rfl,rfl⟩ rfl rfl rfl rfl rfl (by kernel_rfl) Tryz.func3 (by unfold joinedFacts;rw [joined0_AuthcSigns,joined1_AuthcSigns,joined2_AuthcSigns,joined3_AuthcSigns];kernel_rfl)
  (of_decide_eq_true (by kernel_rfl)) (by unfold Func.isWrapper;first | (rw [if_pos (by decide +kernel)];kernel_rfl) | (rw [if_neg (by decide +kernel)];exact ⟨rfl,rfl⟩))
  (fun os started H enc _=>lifted_AuthcSigns os started H enc)

theorem stand_AuthcSigns:∀(j:Nat) (t:TypeId),Tryz.f3.params[j]?=some t→Tryz.prog.wantsStandIn t=false:=fun j t ht=>by
 have hall:(Tryz.f3.params.toList.all fun u=>!Tryz.prog.wantsStandIn u)=true:=by kernel_rfl
 have hm:t∈Tryz.f3.params.toList:=Array.mem_toList_iff.2 (Array.mem_of_getElem? ht)
 simpa using List.all_eq_true.1 hall t hm

theorem authcSigns_holds:Rows.AuthcSignsCardSaid :=
 show Claim7.holds Tryz.pinned (.plain (OpenSpec.ofChange Rows.authcSignsSpec)) Rows.authcSignsCard from
 Claim7.holds_tied_plain_at .later [] _ true _ true over_AuthcSigns (fun _ h=>by cases h) wfb_AuthcSigns (fun _ h=>by cases h) authcSigns_row_tie rfl ⟨rfl,rfl⟩ main_AuthcSigns rfl
  (fun f fn hf hfn=>by
   obtain rfl:f=3:=Option.some.inj (named_AuthcSigns.symm.trans hf) |>.symm
   obtain rfl:fn=Tryz.f3:=(Option.some.inj (Tryz.func3.symm.trans hfn)).symm
   exact ⟨looks_AuthcSigns,stand_AuthcSigns⟩)
  goes_AuthcSigns

end Go.Proofs.YtnhekaepgpbijaaGreatDoor

/-
  The law AuthsLimit: how many refusals there are: as many less one as the limit, and then a server gives up. Conditions: none but the listed variables.
-/
import Derived.Test.YtihfpbaaiedfbaaGreatDoorKAuLmG
import Derived.Test.YtihfpbaaiedfbaaGreatDoorKCardCG
set_option linter.unusedVariables false
set_option linter.unusedSimpArgs false
set_option maxHeartbeats 40000000
set_option maxRecDepth 100000
namespace Go.Proofs.YtihfpbaaiedfbaaGreatDoor
open Go.ChangeShapes Go.WideShapes Go.ChangeAt Go.RowKit Go.Sort
open Go.ChangeMaps (open_string shut_string)
theorem authsLimit_l {w:World} (hT:Tab w) (hMx:MaxL w) (hMe:MethV w) (hWo:WordV w) (hH:Hand w) (c:CfP) (hc:c.W w) (sid:ByteArray) (hsd:sid.size≤maxLen) {A:Option Addr} {d:Nat} {l:List (List UInt8)} (hl:Txs w (.slice A l.length d) l) (hll:l.length≤maxLen) (hlz:∀x∈l,x.length≤maxLen) :
  Calls Tryz.prog 5 #[.agg (c.cells++#[Value.string sid]).toList.toArray,.slice A l.length d] w (fun e w'=>e=.returned (.bool true)∧Below w.heap.size w w'):=by
 rw [Array.toArray_toList]
 exact authsLimit_any hT hMx hMe hWo hH c hc sid hsd hl hll hlz

theorem lifted_AuthsLimit (os:Os) (started:os.Started) (H:Type) (enc:TypeId × Value→H) :
  ReturnsInHanded {} Tryz.checked os 5 .any (fun w args=>(Rows.authsLimitSpec.pre enc Tryz.prog Tryz.f5 [] false w args∧laidMetH Tryz.prog Rows.authsLimitRow.laid w)∧sizedMet enc Tryz.prog Tryz.f5 (OpenSpec.ofChange Rows.authsLimitSpec) false w args)
   (Rows.authsLimitSpec.post enc Tryz.prog Tryz.f5 false true false false):=by
 refine handed_shaped (C:=Tryz.checked) (X:=fun w _=>laidMetH Tryz.prog Rows.authsLimitRow.laid w) (fun _ _ _ hh h=>h.of_heap hh) own started (by kernel_rfl) Tryz.func5
  (ChangeSpec.witness_shaped (enc:=enc) (C:=Tryz.checked) (os:=os) (X:=fun w _=>laidMetH Tryz.prog Rows.authsLimitRow.laid w) false (handWorld os) #[.agg #[.bool false,.string ByteArray.empty,.string ByteArray.empty,.slice none 0 0,.slice none 0 0,.slice none 0 0,.slice none 0 0,.slice none 0 0,.slice none 0 0,.slice none 0 0,.slice none 0 0,.slice none 0 0,.int .i64 0,.slice none 0 0,.int .i64 0,.int .i64 0,.string ByteArray.empty,.slice none 0 0,.bool false,.bool false,.int .u32 0,.int .u32 0,.int .u32 0,.string ByteArray.empty],.slice none 0 0] 8 (handWorld_os os)
   (handWorld_shaped os) (by kernel_rfl) (by kernel_rfl) (by kernel_rfl)
   (laidMetH_hand os _)) ?_
 intro W base args ds gs before hval0 hW hL hsh
 have hval:∀(j:Nat) t v,Tryz.f5.params[j]?=some t→args[j]?=some v→Value.okWide Tryz.prog W .any base t v:=hval0
 have hW':=hW
 obtain ⟨p,q,hA0,hV,rfl,hfz,hnd⟩:=hW
 have hA:DataW.TrodAll enc Tryz.prog W 0 (fun _=>true) true Tryz.f5.params.toList args.toList ds p:=hA0
 rw [Tryz.params5] at hA hval
 obtain ⟨v0,vs0,d0,ds0,p0,q0,hargs,rfl,rfl,h0,r0⟩:=trodAll_cons hA
 obtain ⟨v1,vs1,d1,ds1,p1,q1,rfl,rfl,rfl,h1,r1⟩:=trodAll_cons r0
 obtain ⟨rfl,rfl,rfl⟩:=trodAll_nil r1
 obtain rfl:args=#[v0,v1]:=by cases args;simp_all
 obtain ⟨cs0,rfl,ho0⟩:=open_struct 9 (l:=setupS) Tryz.underlying32 (by kernel_rfl) (hval 0 32 v0 rfl rfl) h0
 obtain ⟨cf0,sd0,rfl,hC0,hsd0⟩:=open_setup ho0
 obtain ⟨ls1,A1,c1,rfl,hl1,hll1,hlz1⟩:=open_msgs (open_slice 6 (l:=[.s]) Tryz.underlying22 (by kernel_rfl) (hval 1 22 v1 rfl rfl) h1)
 have hS:=hand_split hL
 have hT:=tab_of_laid hS.1
 have hE:=hand_of_met hS.2
 have hMe:=meth_of (Lib.laidMet.reads hS.1 (by unfold dataL;simp))
 have hWo:=word_of (Lib.laidMet.reads hS.1 (by unfold dataL;simp))
 have hM:=maxL_of hsh
 refine (authsLimit_l hT hM hMe hWo hE cf0 hC0 sd0 hsd0 hl1 hll1 hlz1).mono fun e W' ⟨he,bel⟩=>?_
 subst he
 exact ⟨_,rfl,law_post 4 laidOut (by kernel_rfl) rfl Tryz.underlying4 rfl hW' (fun ds' hl _=>by match ds',hl with | [x0,x1],_=>rfl) bel⟩

theorem joined0_AuthsLimit:(Rows.authsLimitRow.inPlace == Tryz.pinned.checked.prog.inPlace 5)=true:=by kernel_rfl
theorem joined1_AuthsLimit:(Rows.authsLimitRow.unfollowed == Tryz.pinned.checked.prog.unfollowed 5)=true:=by kernel_rfl
theorem joined2_AuthsLimit:(Rows.authsLimitRow.recurses == Tryz.pinned.checked.prog.recurses 5)=true:=by kernel_rfl
theorem joined3_AuthsLimit:(Rows.authsLimitRow.named == Tryz.pinned.checked.prog.varsNamed 5)=true:=by kernel_rfl
theorem over_AuthsLimit:Rows.authsLimitRow.holds Tryz.pinned (OpenSpec.ofChange Rows.authsLimitSpec) :=
 OpenClaim.holds_of_wide 5 Tryz.f5 rfl rfl rfl rfl rfl rfl rfl ⟨rfl,rfl,rfl,rfl,rfl⟩ rfl rfl rfl rfl rfl (by kernel_rfl) Tryz.func5 (by unfold joinedFacts;rw [joined0_AuthsLimit,joined1_AuthsLimit,joined2_AuthsLimit,joined3_AuthsLimit];kernel_rfl)
  (of_decide_eq_true (by kernel_rfl)) (by unfold Func.isWrapper;first | (rw [if_pos (by decide +kernel)];kernel_rfl) | (rw [if_neg (by decide +kernel)];exact ⟨rfl,rfl⟩))
  (fun os started H enc _=>lifted_AuthsLimit os started H enc)

theorem stand_AuthsLimit:∀(j:Nat) (t:TypeId),Tryz.f5.params[j]?=some t→Tryz.prog.wantsStandIn t=false:=fun j t ht=>by
 have hall:(Tryz.f5.params.toList.all fun u=>!Tryz.prog.wantsStandIn u)=true:=by kernel_rfl
 have hm:t∈Tryz.f5.params.toList:=Array.mem_toList_iff.2 (Array.mem_of_getElem? ht)
 simpa using List.all_eq_true.1 hall t hm
theorem authsLimit_holds:Rows.AuthsLimitCardSaid :=
 show Claim7.holds Tryz.pinned (.plain (OpenSpec.ofChange Rows.authsLimitSpec)) Rows.authsLimitCard from
 Claim7.holds_tied_plain_at .later [] _ true _ true over_AuthsLimit (fun _ h=>by cases h) (by kernel_rfl) (fun _ h=>by cases h) authsLimit_row_tie rfl ⟨rfl,rfl⟩ (by kernel_rfl) rfl
  (fun f fn hf hfn=>by
   obtain rfl:f=5:=Option.some.inj ((show Tryz.prog.funcNamed Rows.authsLimitRow.func=some 5 by kernel_rfl).symm.trans hf) |>.symm
   obtain rfl:fn=Tryz.f5:=(Option.some.inj (Tryz.func5.symm.trans hfn)).symm
   exact ⟨by kernel_rfl,stand_AuthsLimit⟩)
  (by kernel_rfl)

end Go.Proofs.YtihfpbaaiedfbaaGreatDoor

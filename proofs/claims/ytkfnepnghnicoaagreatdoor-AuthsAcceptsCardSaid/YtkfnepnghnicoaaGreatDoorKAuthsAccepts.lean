/-
  The law AuthsAccepts: nobody is let in but by a signature of this session, by a key that a grant gives, with an algorithm that is taken, below the limit; and nobody twice. Conditions: none but the listed variables.
-/
import Derived.Test.YtkfnepnghnicoaaGreatDoorKAuAcG
import Derived.Test.YtkfnepnghnicoaaGreatDoorKCardCG
set_option linter.unusedVariables false
set_option linter.unusedSimpArgs false
set_option maxHeartbeats 40000000
set_option maxRecDepth 100000
namespace Go.Proofs.YtkfnepnghnicoaaGreatDoor
open Go.ChangeShapes Go.WideShapes Go.ChangeAt Go.RowKit Go.Sort
open Go.ChangeMaps (open_string shut_string)
theorem authsAccepts_l {w:World} (hT:Tab w) (hMx:MaxL w) (hMe:MethV w) (hWo:WordV w) (hH:Hand w) (c:CfP) (hc:c.W w) (sid:ByteArray) (hsd:sid.size≤maxLen) {A:Option Addr} {d:Nat} {l:List (List UInt8)} (hl:Txs w (.slice A l.length d) l) (hll:l.length≤maxLen) (hlz:∀x∈l,x.length≤maxLen) :
  Calls Tryz.prog 4 #[.agg (c.cells++#[Value.string sid]).toList.toArray,.slice A l.length d] w (fun e w'=>e=.returned (.bool true)∧Below w.heap.size w w'):=by
 rw [Array.toArray_toList]
 exact authsAccepts_any hT hMx hMe hWo hH c hc sid hsd hl hll hlz

theorem lifted_AuthsAccepts (os:Os) (started:os.Started) (H:Type) (enc:TypeId × Value→H) :
  ReturnsInHanded {} Tryz.checked os 4 .any (fun w args=>(Rows.authsAcceptsSpec.pre enc Tryz.prog Tryz.f4 [] false w args∧laidMetH Tryz.prog Rows.authsAcceptsRow.laid w)∧sizedMet enc Tryz.prog Tryz.f4 (OpenSpec.ofChange Rows.authsAcceptsSpec) false w args)
   (Rows.authsAcceptsSpec.post enc Tryz.prog Tryz.f4 false true false false):=by
 refine handed_shaped (C:=Tryz.checked) (X:=fun w _=>laidMetH Tryz.prog Rows.authsAcceptsRow.laid w) (fun _ _ _ hh h=>h.of_heap hh) own started (by kernel_rfl) Tryz.func4
  (ChangeSpec.witness_shaped (enc:=enc) (C:=Tryz.checked) (os:=os) (X:=fun w _=>laidMetH Tryz.prog Rows.authsAcceptsRow.laid w) false (handWorld os) #[.agg #[.bool false,.string ByteArray.empty,.string ByteArray.empty,.slice none 0 0,.slice none 0 0,.slice none 0 0,.slice none 0 0,.slice none 0 0,.slice none 0 0,.slice none 0 0,.slice none 0 0,.slice none 0 0,.int .i64 0,.slice none 0 0,.int .i64 0,.int .i64 0,.string ByteArray.empty,.slice none 0 0,.bool false,.bool false,.int .u32 0,.int .u32 0,.int .u32 0,.string ByteArray.empty],.slice none 0 0] 8 (handWorld_os os)
   (handWorld_shaped os) (by kernel_rfl) (by kernel_rfl) (by kernel_rfl)
   (laidMetH_hand os _)) ?_
 intro W base args ds gs before hval0 hW hL hsh
 have hval:∀(j:Nat) t v,Tryz.f4.params[j]?=some t→args[j]?=some v→Value.okWide Tryz.prog W .any base t v:=hval0
 have hW':=hW
 obtain ⟨p,q,hA0,hV,rfl,hfz,hnd⟩:=hW
 have hA:DataW.TrodAll enc Tryz.prog W 0 (fun _=>true) true Tryz.f4.params.toList args.toList ds p:=hA0
 rw [Tryz.params4] at hA hval
 obtain ⟨v0,vs0,d0,ds0,p0,q0,hargs,rfl,rfl,h0,r0⟩:=trodAll_cons hA
 obtain ⟨v1,vs1,d1,ds1,p1,q1,rfl,rfl,rfl,h1,r1⟩:=trodAll_cons r0
 obtain ⟨rfl,rfl,rfl⟩:=trodAll_nil r1
 obtain rfl:args=#[v0,v1]:=by cases args;simp_all
 obtain ⟨cs0,rfl,ho0⟩:=open_struct 9 (l:=setupS) Tryz.underlying32 (by kernel_rfl) (hval 0 32 v0 rfl rfl) h0
 obtain ⟨cf0,sd0,rfl,hC0,hsd0⟩:=open_setup ho0
 obtain ⟨ls1,A1,c1,rfl,hl1,hll1,hlz1⟩:=open_msgs (open_slice 6 (l:=[.s]) Tryz.underlying22 (by kernel_rfl) (hval 1 22 v1 rfl rfl) h1)
 have hS:=hand_split hL
 have hT:=tab_of_laid hS.1
 have hE:=hand_of_met hS.2
 have hMe:=meth_of (Lib.laidMet.reads hS.1 (by unfold dataL;simp))
 have hWo:=word_of (Lib.laidMet.reads hS.1 (by unfold dataL;simp))
 have hM:=maxL_of hsh
 refine (authsAccepts_l hT hM hMe hWo hE cf0 hC0 sd0 hsd0 hl1 hll1 hlz1).mono fun e W' ⟨he,bel⟩=>?_
 subst he
 exact ⟨_,rfl,law_post 4 laidOut (by kernel_rfl) rfl Tryz.underlying4 rfl hW' (fun ds' hl _=>by match ds',hl with | [x0,x1],_=>rfl) bel⟩

theorem joined0_AuthsAccepts:(Rows.authsAcceptsRow.inPlace == Tryz.pinned.checked.prog.inPlace 4)=true:=by kernel_rfl
theorem joined1_AuthsAccepts:(Rows.authsAcceptsRow.unfollowed == Tryz.pinned.checked.prog.unfollowed 4)=true:=by kernel_rfl
theorem joined2_AuthsAccepts:(Rows.authsAcceptsRow.recurses == Tryz.pinned.checked.prog.recurses 4)=true:=by kernel_rfl
theorem joined3_AuthsAccepts:(Rows.authsAcceptsRow.named == Tryz.pinned.checked.prog.varsNamed 4)=true:=by kernel_rfl
theorem over_AuthsAccepts:Rows.authsAcceptsRow.holds Tryz.pinned (OpenSpec.ofChange Rows.authsAcceptsSpec) :=
 OpenClaim.holds_of_wide 4 Tryz.f4 rfl rfl rfl rfl rfl rfl rfl ⟨rfl,rfl,rfl,rfl,rfl⟩ rfl rfl rfl rfl rfl (by kernel_rfl) Tryz.func4 (by unfold joinedFacts;rw [joined0_AuthsAccepts,joined1_AuthsAccepts,joined2_AuthsAccepts,joined3_AuthsAccepts];kernel_rfl)
  (of_decide_eq_true (by kernel_rfl)) (by unfold Func.isWrapper;first | (rw [if_pos (by decide +kernel)];kernel_rfl) | (rw [if_neg (by decide +kernel)];exact ⟨rfl,rfl⟩))
  (fun os started H enc _=>lifted_AuthsAccepts os started H enc)

theorem stand_AuthsAccepts:∀(j:Nat) (t:TypeId),Tryz.f4.params[j]?=some t→Tryz.prog.wantsStandIn t=false:=fun j t ht=>by
 have hall:(Tryz.f4.params.toList.all fun u=>!Tryz.prog.wantsStandIn u)=true:=by kernel_rfl
 have hm:t∈Tryz.f4.params.toList:=Array.mem_toList_iff.2 (Array.mem_of_getElem? ht)
 simpa using List.all_eq_true.1 hall t hm
theorem authsAccepts_holds:Rows.AuthsAcceptsCardSaid :=
 show Claim7.holds Tryz.pinned (.plain (OpenSpec.ofChange Rows.authsAcceptsSpec)) Rows.authsAcceptsCard from
 Claim7.holds_tied_plain_at .later [] _ true _ true over_AuthsAccepts (fun _ h=>by cases h) (by kernel_rfl) (fun _ h=>by cases h) authsAccepts_row_tie rfl ⟨rfl,rfl⟩ (by kernel_rfl) rfl
  (fun f fn hf hfn=>by
   obtain rfl:f=4:=Option.some.inj ((show Tryz.prog.funcNamed Rows.authsAcceptsRow.func=some 4 by kernel_rfl).symm.trans hf) |>.symm
   obtain rfl:fn=Tryz.f4:=(Option.some.inj (Tryz.func4.symm.trans hfn)).symm
   exact ⟨by kernel_rfl,stand_AuthsAccepts⟩)
  (by kernel_rfl)

end Go.Proofs.YtkfnepnghnicoaaGreatDoor

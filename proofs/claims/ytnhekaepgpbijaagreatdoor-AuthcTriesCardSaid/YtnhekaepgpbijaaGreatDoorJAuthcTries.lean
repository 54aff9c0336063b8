/-
  The law AuthcTries: which keys a client tries where none will do: all, in order, each once, and then it gives up; with the algorithm that it likes best among those that the server takes. Conditions: none but the listed variables.
-/
import Derived.Test.YtnhekaepgpbijaaGreatDoorJAcTr
import Derived.Test.YtnhekaepgpbijaaGreatDoorJAuthcTriesFG
set_option linter.unusedVariables false
set_option linter.unusedSimpArgs false
set_option maxHeartbeats 40000000
set_option maxRecDepth 100000
namespace Go.Proofs.YtnhekaepgpbijaaGreatDoor
open Go.ChangeShapes Go.WideShapes Go.ChangeAt Go.RowKit Go.Sort
open Go.ChangeMaps (open_string shut_string)
theorem yY {w:World} (hT:Tab w) (hMx:jq w) (hMe:fC w) (hWo:gJ w) (hH:Hand w) (c:CfP) (hc:c.W w) (sid:ByteArray) (hsd:sid.size≤maxLen) {A:Option Addr} {d:Nat} {tk:List (List UInt8)} (htk:Txs w (.slice A tk.length d) tk) (htl:tk.length≤maxLen) (htz:∀x∈tk,x.length≤maxLen) (tell:Bool) :
  Calls Tryz.prog 5 #[.agg (c.cells++#[Value.string sid]).toList.toArray,.slice A tk.length d,.bool tell] w (fun e w'=>e=.returned (.bool true)∧Below w.heap.size w w'):=by
 rw [Array.toArray_toList];exact rZ hT hMx hMe hWo hH c hc sid hsd htk htl htz tell

theorem pG (os:Os) (started:os.Started) (H:Type) (enc:TypeId × Value→H) :
  ReturnsInHanded {} Tryz.checked os 5 .any (fun w args=>(Rows.authcTriesSpec.pre enc Tryz.prog Tryz.f5 [] false w args∧laidMetH Tryz.prog Rows.authcTriesRow.laid w)∧sizedMet enc Tryz.prog Tryz.f5 (OpenSpec.ofChange Rows.authcTriesSpec) false w args)
   (Rows.authcTriesSpec.post enc Tryz.prog Tryz.f5 false true false false):=by
 refine vK (C:=Tryz.checked) (X:=fun w _=>laidMetH Tryz.prog Rows.authcTriesRow.laid w) (fun _ _ _ hh h=>h.of_heap hh) own started (by kernel_rfl) Tryz.func5
  (ChangeSpec.witness_shaped (enc:=enc) (C:=Tryz.checked) (os:=os) (X:=fun w _=>laidMetH Tryz.prog Rows.authcTriesRow.laid w) false (kI os) #[.agg #[.bool false,.string ByteArray.empty,.string ByteArray.empty,.slice none 0 0,.slice none 0 0,.slice none 0 0,.slice none 0 0,.slice none 0 0,.slice none 0 0,.slice none 0 0,.slice none 0 0,.slice none 0 0,.int .i64 0,.slice none 0 0,.int .i64 0,.int .i64 0,.string ByteArray.empty,.slice none 0 0,.bool false,.bool false,.int .u32 0,.int .u32 0,.int .u32 0,.string ByteArray.empty],.slice none 0 0,.bool false] 8 (yX os)
   (qm os) (by kernel_rfl) (by kernel_rfl) (by kernel_rfl)
   (vL os _)) ?_
 intro W base args ds gs before hval0 hW hL hsh;have hval:∀(j:Nat) t v,Tryz.f5.params[j]?=some t→args[j]?=some v→Value.okWide Tryz.prog W .any base t v:=hval0;have hW':=hW;obtain ⟨p,q,hA0,hV,rfl,hfz,hnd⟩:=hW;have hA:DataW.TrodAll enc Tryz.prog W 0 (fun _=>true) true Tryz.f5.params.toList args.toList ds p:=hA0;rw [Tryz.params5] at hA hval;obtain ⟨v0,vs0,d0,ds0,p0,q0,hargs,rfl,rfl,h0,r0⟩:=trodAll_cons hA;obtain ⟨v1,vs1,d1,ds1,p1,q1,rfl,rfl,rfl,h1,r1⟩:=trodAll_cons r0;obtain ⟨v2,vs2,d2,ds2,p2,q2,rfl,rfl,rfl,h2,r2⟩:=trodAll_cons r1;obtain ⟨rfl,rfl,rfl⟩:=trodAll_nil r2;obtain rfl:args=#[v0,v1,v2]:=by cases args;simp_all
 obtain ⟨cs0,rfl,ho0⟩:=BH 9 (l:=Lj) Tryz.underlying32 (by kernel_rfl) (hval 0 32 v0 rfl rfl) h0;obtain ⟨cf0,sd0,rfl,hC0,hsd0⟩:=Dc ho0;obtain ⟨ls1,A1,c1,rfl,hl1,hll1,hlz1⟩:=JC (open_slice 6 (l:=[.s]) Tryz.underlying22 (by kernel_rfl) (hval 1 22 v1 rfl rfl) h1);obtain ⟨b2,rfl,_⟩:=open_bool Tryz.underlying4 (hval 2 4 v2 rfl rfl) h2;have hS:=DY hL;have hT:=Am hS.1;have hE:=zL hS.2;have hMe:=P8 (Lib.laidMet.reads hS.1 (by unfold mZ;simp));have hWo:=PV (Lib.laidMet.reads hS.1 (by unfold mZ;simp));have hM:=Pb hsh;refine (yY hT hM hMe hWo hE cf0 hC0 sd0 hsd0 hl1 hll1 hlz1 b2).mono fun e W' ⟨he,bel⟩=>?_
 subst he;exact ⟨_,rfl,M7 4 laidOut (by kernel_rfl) rfl Tryz.underlying4 rfl hW' (fun ds' hl _=>by match ds',hl with | [x0,x1,x2],_=>rfl) bel⟩

theorem ry:Rows.authcTriesRow.holds Tryz.pinned (OpenSpec.ofChange Rows.authcTriesSpec) :=
 OpenClaim.holds_of_wide 5 Tryz.f5 rfl rfl rfl rfl rfl rfl rfl ⟨rfl,rfl,rfl,rfl,rfl⟩ rfl rfl rfl rfl rfl (by kernel_rfl) Tryz.func5 (by unfold joinedFacts;rw [nR,nH,nM,nT];kernel_rfl)
  (of_decide_eq_true (by kernel_rfl)) (by unfold Func.isWrapper;first | (rw [if_pos (by decide +kernel)];kernel_rfl) | (rw [if_neg (by decide +kernel)];exact ⟨rfl,rfl⟩))
  (fun os started H enc _=>pG os started H enc)

theorem qy:∀(j:Nat) (t:TypeId),Tryz.f5.params[j]?=some t→Tryz.prog.wantsStandIn t=false:=fun j t ht=>by
 have hall:(Tryz.f5.params.toList.all fun u=>!Tryz.prog.wantsStandIn u)=true:=by kernel_rfl
 have hm:t∈Tryz.f5.params.toList:=Array.mem_toList_iff.2 (Array.mem_of_getElem? ht);simpa using List.all_eq_true.1 hall t hm

theorem authcTries_holds:Rows.AuthcTriesCardSaid :=
 show Claim7.holds Tryz.pinned (.plain (OpenSpec.ofChange Rows.authcTriesSpec)) Rows.authcTriesCard from
 Claim7.holds_tied_plain_at .later [] _ true _ true ry (fun _ h=>by cases h) sV (fun _ h=>by cases h) authcTries_row_tie rfl ⟨rfl,rfl⟩ rE rfl
  (fun f fn hf hfn=>by
   obtain rfl:f=5:=Option.some.inj (qi.symm.trans hf) |>.symm
   obtain rfl:fn=Tryz.f5:=(Option.some.inj (Tryz.func5.symm.trans hfn)).symm
   exact ⟨qI,qy⟩)
  Kg

end Go.Proofs.YtnhekaepgpbijaaGreatDoor

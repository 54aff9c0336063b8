/- Several of my texts in one: AuthsAny. -/
import Derived.Test.YtnhekaepgpbijaaGreatDoorKAli
import Derived.Test.YtnhekaepgpbijaaGreatDoorKAuAnG
import Derived.Test.YtnhekaepgpbijaaGreatDoorKCardCG
set_option linter.unusedVariables false
set_option linter.unusedSimpArgs false
set_option maxHeartbeats 40000000
set_option maxRecDepth 100000
namespace Go.Proofs.YtnhekaepgpbijaaGreatDoor
open Go.Proofs.Tryz Go.ChangeShapes Go.WideShapes Go.ChangeAt Go.RowKit Go.Sort
open Go.ChangeMaps (open_string shut_string)
theorem D7 {w:World} (u:Tab w) (h:kH w) (g:gL w) (j:iW w) (r:Hand w) (c:CfP) (v:c.W w) (sid:ByteArray) (q:sid.size<=maxLen) {A:Option Addr} {d:Nat} {l:List (List UInt8)} (z:Txs w (.slice A l.length d) l) (o:l.length<=maxLen) (p:∀x∈l,x.length<=maxLen) :
  Calls prog 4 #[.agg (c.cells++#[Value.string sid]).toList.toArray,.slice A l.length d] w (fun e w'=>e=.returned (.bool true)/\Below w.heap.size w w'):=by
 rw [YN];exact Bd u h g j r c v sid q z o p

theorem uG (os:Os) (o:os.Started) (H:Type) (enc:TypeId × Value->H) :
  ReturnsInHanded {} Tryz.checked os 4 .any (fun w args=>(Rows.authsAnySpec.pre enc prog Tryz.f4 [] false w args/\laidMetH prog Rows.authsAnyRow.laid w)/\sizedMet enc prog Tryz.f4 (OpenSpec.ofChange Rows.authsAnySpec) false w args)
   (Rows.authsAnySpec.post enc prog Tryz.f4 false true false false):=by
 refine yh (C:=Tryz.checked) (X:=fun w _=>laidMetH prog Rows.authsAnyRow.laid w) (fun _ _ _ hh h=>h.of_heap hh) own o Z1 func4
  (ChangeSpec.witness_shaped (enc:=enc) (C:=Tryz.checked) (os:=os) (X:=fun w _=>laidMetH prog Rows.authsAnyRow.laid w) false (mD os) #[.agg #[.bool false,.string ByteArray.empty,.string ByteArray.empty,.slice none 0 0,.slice none 0 0,.slice none 0 0,.slice none 0 0,.slice none 0 0,.slice none 0 0,.slice none 0 0,.slice none 0 0,.slice none 0 0,.int .i64 0,.slice none 0 0,.int .i64 0,.int .i64 0,.string ByteArray.empty,.slice none 0 0,.bool false,.bool false,.int .u32 0,.int .u32 0,.int .u32 0,.string ByteArray.empty],.slice none 0 0] 8 (Aw os)
   (sW os) Z1 Z1 Z1
   (yj os _)) ?_
 intro W base args V gs B r T hL Q;have g:∀(j:Nat) t v,Tryz.f4.params[j]?=some t->args[j]?=some v->Value.okWide prog W .any base t v:=r;have K:=T;obtain ⟨p,q,G,hV,rfl,aa,ab⟩:=T;have S:DataW.TrodAll enc prog W 0 (fun _=>true) true Tryz.f4.params.toList args.toList V p:=G;rw [Tryz.params4] at S g;obtain ⟨v0,ad,d0,Y,p0,q0,N,rfl,rfl,h0,r0⟩:=trodAll_cons S;obtain ⟨v1,af,d1,Z,p1,q1,rfl,rfl,rfl,h1,r1⟩:=trodAll_cons r0;obtain ⟨rfl,rfl,rfl⟩:=trodAll_nil r1;obtain rfl:args=#[v0,v1]:=by cases args;simp_all
 obtain ⟨U,rfl,P⟩:=C9 9 (l:=Nk) underlying73 Z1 (g 0 73 v0 rfl rfl) h0;obtain ⟨F,R,rfl,I,A⟩:=Eo P;obtain ⟨ac,A1,c1,rfl,O,u,z⟩:=Lf (open_slice 6 (l:=[.s]) underlying22 Z1 (g 1 22 v1 rfl rfl) h1);have D:=Fp hL;have hT:=BV D.1;have hE:=Bw D.2;have J:=RP (Lib.laidMet.reads D.1 (by unfold pR;simp));have L:=RF (Lib.laidMet.reads D.1 (by unfold pR;simp));have hM:=QU Q;refine (D7 hT hM J L hE F I R A O u z).mono fun e W' ⟨he,bel⟩=>?_
 subst he;exact ⟨_,rfl,OP 4 laidOut Z1 rfl underlying4 rfl K (fun ds' hl _=>by match ds',hl with | [x0,x1],_=>rfl) bel⟩

theorem sJ:(Rows.authsAnyRow.inPlace == Tryz.pinned.checked.prog.inPlace 4)=true:=Z1
theorem rO:(Rows.authsAnyRow.unfollowed == Tryz.pinned.checked.prog.unfollowed 4)=true:=Z1
theorem rM:(Rows.authsAnyRow.recurses == Tryz.pinned.checked.prog.recurses 4)=true:=Z1
theorem sZ:(Rows.authsAnyRow.named == Tryz.pinned.checked.prog.varsNamed 4)=true:=Z1
theorem x9:Rows.authsAnyRow.holds Tryz.pinned (OpenSpec.ofChange Rows.authsAnySpec) :=
 OpenClaim.holds_of_wide 4 Tryz.f4 rfl rfl rfl rfl rfl rfl rfl ⟨rfl,rfl,rfl,rfl,rfl⟩ rfl rfl rfl rfl rfl Z1 func4 (by unfold joinedFacts;rw [sJ,rO,rM,sZ];kernel_rfl)
  (of_decide_eq_true Z1) (by unfold Func.isWrapper;first | (rw [Y6 Z7];kernel_rfl) | (rw [Y5 Z7];exact ⟨rfl,rfl⟩))
  (fun os g H enc _=>uG os g H enc)

theorem xM:∀(j:Nat) (t:TypeId),Tryz.f4.params[j]?=some t->prog.wantsStandIn t=false:=fun j t o=>by
 have g:(Tryz.f4.params.toList.all fun u=>!prog.wantsStandIn u)=true:=Z1;have h:t∈Tryz.f4.params.toList:=Array.mem_toList_iff.2 (Array.mem_of_getElem? o);simpa using List.all_eq_true.1 g t h
theorem wfbA:Rows.authsAnyRow.wfByText (OpenSpec.ofChange Rows.authsAnySpec)=true:=by kernel_rfl
theorem mainA:Tryz.pinned.checked.prog.mainIs=some (Rows.authsAnyCard.stood.harness.1,Rows.authsAnyCard.stood.harness.2.toList):=by kernel_rfl
theorem looksA:true=Tryz.pinned.checked.prog.looks []:=by kernel_rfl
theorem namedA:prog.funcNamed Rows.authsAnyRow.func=some 4:=by kernel_rfl
theorem goesA:false=Rows.authsAnyRow.goesBy Tryz.pinned.checked.prog:=by kernel_rfl
theorem authsAny_holds:Rows.AuthsAnyCardSaid :=
 show Claim7.holds Tryz.pinned (.plain (OpenSpec.ofChange Rows.authsAnySpec)) Rows.authsAnyCard from
 Claim7.holds_tied_plain_at .later [] _ true _ true x9 (fun _ h=>ZM) wfbA (fun _ h=>ZM) authsAny_row_tie rfl ⟨rfl,rfl⟩ mainA rfl
  (fun f j o g=>by
   obtain rfl:f=4:=Y9 (namedA.symm.trans o) |>.symm
   obtain rfl:j=Tryz.f4:=(Y9 (func4.symm.trans g)).symm
   exact ⟨looksA,xM⟩)
  goesA

end Go.Proofs.YtnhekaepgpbijaaGreatDoor

/-
  The plain law of a server that lets a client in. Conditions: none.
-/
import Derived.Test.YtkfnepnghnicoaaGreatDoorKPayP
import Derived.Test.YtkfnepnghnicoaaGreatDoorKSignCG
import Derived.Test.YtkfnepnghnicoaaGreatDoorKDecWG
set_option linter.unusedVariables false
set_option linter.unusedSimpArgs false
set_option maxHeartbeats 40000000
set_option maxRecDepth 100000
namespace Go.Proofs.YtkfnepnghnicoaaGreatDoor
open Go.RowKit
structure SvS where
 ph:Nat
 fl:Nat
structure OutA where
 out:List UInt8
 ev:Option (Nat × List UInt8 × List UInt8)
 err:Option (List (List UInt8) × Int)
def authsL:List UInt8:=[97,117,116,104,115]
def serviceL:List UInt8:=[115,101,114,118,105,99,101]
def limitL:List UInt8:=[108,105,109,105,116]
def signedL:List UInt8:=[115,105,103,110,101,100]
def userauthL:List UInt8:=[115,115,104,45,117,115,101,114,97,117,116,104]
def connectL:List UInt8:=[115,115,104,45,99,111,110,110,101,99,116,105,111,110]
def pubkeyL:List UInt8:=[112,117,98,108,105,99,107,101,121]
def acceptL:List UInt8:=[6,0,0,0,12,115,115,104,45,117,115,101,114,97,117,116,104]
def refuseL:List UInt8:=[51,0,0,0,9,112,117,98,108,105,99,107,101,121,0]
theorem enc_accept:encS 6 [⟨115,0,userauthL,[]⟩]=.ok acceptL:=by kernel_rfl
theorem enc_refuse:encS 51 [⟨110,0,[],[pubkeyL]⟩,⟨98,0,[],[]⟩]=.ok refuseL:=by kernel_rfl
theorem enc_success:encS 52 []=.ok [52]:=by kernel_rfl
def failA (s:SvS) (ps:List (List UInt8)) (k:Int):SvS × OutA:=(s,⟨[],none,some (ps,k)⟩)
def wrapA (r:SvS × OutA):SvS × OutA:=match r.2.err with
 | none=>r
 | some (ps,k)=>(⟨3,r.1.fl⟩,⟨[],none,some (authsL :: ps,k)⟩)
def refuseA (lim:Int) (s:SvS):SvS × OutA:=if lim≤(s.fl+1:Nat) then failA ⟨s.ph,s.fl+1⟩ [limitL] 12 else (⟨s.ph,s.fl+1⟩,⟨refuseL,none,none⟩)
def hasG (gr:List (List UInt8 × Int)) (al:List (List UInt8)) (user alg:List UInt8) (key:Option Tm):Bool :=
 isPb key && (decide (alg∈al) && decide ((user,(whoO key:Int))∈gr))
def atF (l:List Fld) (i:Nat):Fld:=(l[i]?).getD ⟨0,0,[],[]⟩
def signedA (sid:Option Tm) (user service alg:List UInt8) (key sig:Option Tm):Prop :=
 chkS (isPb key=false) (sig=none∨sig≠userO sid (bs user) (bs service) (bs alg) (whoO key))=⟨#[]⟩
def queryA (s:SvS) (l:List Fld):SvS × OutA:=match encS 60 [⟨115,0,(atF l 4).s,[]⟩,⟨116,0,(atF l 5).s,[]⟩] with
 | .ok b=>(s,⟨b,none,none⟩)
 | r=>match encErr 60 r with
  | some (ps,k)=>failA s ps (k:Nat)
  | none=>(s,⟨[],none,none⟩)
open Classical in
noncomputable def knownA (lim:Int) (sid:Option Tm) (s:SvS) (l:List Fld) (many:Nat):SvS × OutA :=
 if many=6 then queryA s l
 else if signedA sid (atF l 0).s (atF l 1).s (atF l 4).s (ofT (atF l 5).s) (ofT (atF l 6).s) then
  (⟨2,s.fl⟩,⟨[52],some (whoO (ofT (atF l 5).s),(atF l 0).s,(atF l 4).s),none⟩)
 else refuseA lim s
noncomputable def askA (gr:List (List UInt8 × Int)) (al:List (List UInt8)) (lim:Int) (sid:Option Tm) (s:SvS) (l:List Fld):SvS × OutA :=
 if l.length≠6∧l.length≠7 then refuseA lim s
 else if (atF l 2).s≠pubkeyL then refuseA lim s
 else if (atF l 3).n≠(l.length:Int) - 6 then failA s [signedL] 3
 else if hasG gr al (atF l 0).s (atF l 4).s (ofT (atF l 5).s)=false then refuseA lim s
 else knownA lim sid s l l.length
noncomputable def stepA (gr:List (List UInt8 × Int)) (al:List (List UInt8)) (lim:Int) (sid:Option Tm) (s:SvS) (num:Nat) (l:List Fld):SvS × OutA :=
 if num=5∧s.ph=0 then (if (atF l 0).s=userauthL then (⟨1,s.fl⟩,⟨acceptL,none,none⟩) else failA s [serviceL] 13)
 else if num=50∧s.ph=2 then (s,⟨[],none,none⟩)
 else if num=50∧s.ph=1 then (if (atF l 1).s≠connectL then failA s [serviceL] 13 else askA gr al lim sid s l)
 else failA s [] 7
noncomputable def takA (gr:List (List UInt8 × Int)) (al:List (List UInt8)) (lim:Int) (sid:Option Tm) (s:SvS) (p:List UInt8):SvS × OutA :=
 wrapA <| if s.ph=3 then failA s [] 7
 else match decS p with
  | .ok num l=>stepA gr al lim sid s num l
  | r=>match decErr r with
   | some (ps,k)=>failA s ps k
   | none=>failA s [] 7
end Go.Proofs.YtkfnepnghnicoaaGreatDoor

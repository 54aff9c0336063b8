/- Several of my texts in one: RdW, RdX, RRd. -/
import Derived.Test.YtnhekaepgpbijaaGreatDoorJMsgHG
import Derived.Test.YtnhekaepgpbijaaGreatDoorJChnG
import Derived.Deep.RegionHeld3
import Derived.Deep.DeepCutAuto
set_option linter.unusedVariables false
set_option linter.unusedSimpArgs false
set_option maxHeartbeats 40000000
set_option maxRecDepth 100000
namespace Go.Proofs.YtnhekaepgpbijaaGreatDoor
open Go.RowKit Go.ChangeShapes Go.WideShapes Go.Sort
def qz (l:List UInt8):Nat:=l.foldl (fun a b=>a*256 % 4294967296+b.toNat) 0
theorem Io (l:List UInt8) (b:UInt8):qz (l++[b])=qz l*256 % 4294967296+b.toNat:=by
 unfold qz;rw [List.foldl_append];rfl
theorem FM (l:List UInt8):qz l<4294967296:=by
 have h:∀(l:List UInt8) (a:Nat),a<4294967296→l.foldl (fun a b=>a*256 % 4294967296+b.toNat) a<4294967296:=by
  intro l
  induction l with
  | nil=>exact fun a h=>h
  | cons b l ih =>
   intro a _;refine ih _ ?_;have:=b.toNat_lt;show a*256 % 4294967296+b.toNat<4294967296;omega
 exact h l 0 (by omega)
theorem Tk (l:List UInt8) (h:l.length=4):qz l=n4 l:=by
 match l,h with
 | [x,y,z,u],_ =>
  have h1:=x.toNat_lt;have h2:=y.toNat_lt;have h3:=z.toNat_lt;have h4:=u.toNat_lt;simp only [qz,n4,List.foldl_cons,List.foldl_nil];omega
theorem Re (y b:Nat) (hb:b<256):bits .or .u32 ((y:Int)*256 % 4294967296) ((b:Int) % 4294967296)=((y*256 % 4294967296+b:Nat):Int):=by
 have e1:((y:Int)*256 % 4294967296)=((y*256 % 4294967296:Nat):Int):=by omega
 have e2:((b:Int) % 4294967296)=((b:Nat):Int):=by omega
 rw [e1,e2,u32_or_nat _ _ (by omega) (by omega)];have e3:y*256 % 4294967296=(y % 16777216) <<< 8:=by rw [Nat.shiftLeft_eq];omega
 rw [e3,Nat.shiftLeft_add_eq_or_of_lt (by omega)]
theorem jP (s:ByteArray) (w:World) (hs:s.size≤9223372036854775807):Calls Tryz.prog 234 #[.string s] w fun e w'=>e=.returned (.int .u32 (qz s.data.toList))∧w'=w:=by
 go_enter Tryz.func234,Tryz.ntmps234;go_wp2
 go_loop [3,7] (fun v i=>∃k y:Nat,y<4294967296∧k≤s.size∧i=.int .i64 k∧v=.int .u32 y∧Hid (y=qz (s.data.toList.take k))) (fun _ i=>s.size - (intOf i).toNat)
 case atStart=>exact ⟨0,0,by omega,Nat.zero_le _,rfl,rfl,hide rfl⟩
 case round =>
  obtain ⟨k,y,hy,hk,rfl,rfl,H⟩:=hrel
  by_cases hlt:k<s.size
  ·have Hb:=hide (Re y s[k].toNat s[k].toNat_lt)
   go_wp2;rw [Hb.out];go_round
   case rel =>
    refine ⟨k+1,_,?_,hlt,by go_num,rfl,hide ?_⟩
    ·have:=s[k].toNat_lt
     omega
    ·rw [H.out]
     have hl:k<s.data.toList.length:=hlt;rw [List.take_succ_eq_append_getElem hl,Io];rfl
   case measure=>simp [intOf];omega
  ·go_wp2
   go_ret;exact ⟨oP (by rw [H.out,List.take_of_length_le (by show s.size≤k;omega)]),rfl⟩
def Rdr (w:World) (g:Nat) (s:ByteArray) (p:Nat) (e:Int):Prop:=Blk w g 237 #[.string s,.int .i64 p,.int .i64 e]
theorem Rdr.below {w w':World} {g:Nat} {s:ByteArray} {p:Nat} {e:Int} (h:Rdr w g s p e) (hb:Below w.heap.size w w'):Rdr w' g s p e:=Blk.below h hb (Blk.lt h)
theorem NQ (s:ByteArray) (w:World):Calls Tryz.prog 91 #[.string s] w fun e w'=>e=.returned (.pointer (some ⟨w.heap.size,0,none⟩))∧Rdr w' w.heap.size s 0 0∧Below w.heap.size w w':=by
 go_enter Tryz.func91,Tryz.ntmps91;go_wp2;go_ret;exact ⟨rfl,Blk.new _ _ _,by exact aa⟩
section
variable {w : World} {g p : Nat} {s : ByteArray} {x : Int}
theorem bi (h:Rdr w g s p x):Calls Tryz.prog 163 #[.pointer (some ⟨g,0,none⟩)] w fun e w'=>e=.returned (.int .i64 x)∧w'=w:=by
 have h0:w.cell? ⟨g,2,none⟩=some (.int .i64 x):=Blk.cell h 2;go_enter Tryz.func163,Tryz.ntmps163;go_wp2;go_ret;exact ⟨rfl,rfl⟩
theorem bW (h:Rdr w g s p x) (hp:p≤s.size) (hs:s.size≤1000000):Calls Tryz.prog 165 #[.pointer (some ⟨g,0,none⟩)] w fun e w'=>e=.returned (.int .i64 ((s.size:Int) - p))∧∃n,w'=w.drewN n:=by
 have h0:w.cell? ⟨g,0,none⟩=some (.string s):=Blk.cell h 0;have h1:w.cell? ⟨g,1,none⟩=some (.int .i64 p):=Blk.cell h 1;go_enter Tryz.func165,Tryz.ntmps165;go_wp2;go_quiet (fail);go_wp2;go_ret;exact ⟨rfl,_,rfl⟩
end
theorem uT (s:ByteArray) (w:World):Calls Tryz.prog 235 #[.string s] w fun e w'=>e=.returned (.bool true)∧w'=w:=by
 go_enter Tryz.func235,Tryz.ntmps235;go_wp2;go_ret;exact ⟨rfl,rfl⟩
theorem Kt (s:ByteArray) (hs:s.size=1) (w:World):Calls Tryz.prog 233 #[.string s] w fun e w'=>e=.returned (.bool (decide (s[0].toNat≤1)))∧w'=w:=by
 have h0:0<s.size:=by omega
 have e1:(decide ((s[0].toNat:Int)≤1))=decide (s[0].toNat≤1):=by
  rw [Bool.eq_iff_iff];simp only [decide_eq_true_eq];omega
 generalize decide (s[0].toNat≤1)=b at e1
 by_cases h1:s[0].toNat≤1
 ·have h1':(s[0].toNat:Int)≤1:=by omega
  rw [decide_eq_true h1'] at e1;subst e1;go_enter Tryz.func233,Tryz.ntmps233;go_wp2_with fail;go_ret;exact ⟨rfl,rfl⟩
 ·have h1':¬ (s[0].toNat:Int)≤1:=by omega
  rw [decide_eq_false h1'] at e1;subst e1;go_enter Tryz.func233,Tryz.ntmps233;go_wp2_with fail;go_ret;exact ⟨rfl,rfl⟩
theorem Dj (s:ByteArray) (hs:s.size≤1000000) (w:World):Calls Tryz.prog 238 #[.string s] w fun e w'=>e=.returned (.bool (dH s.data.toList))∧w'=w:=by
 by_cases h0:s=⟨#[]⟩
 ·subst h0
  go_enter Tryz.func238,Tryz.ntmps238;go_wp2_with fail;go_ret;exact ⟨rfl,rfl⟩
 ·have hne:=dU h0
  have hne2:=gq h0
  obtain ⟨l,rfl⟩:∃l,s=bs l:=⟨s.data.toList,rfl⟩
  have hsz:(bs l).size=l.length:=rfl;rw [aU]
  cases l with
  | nil=>exact absurd rfl h0
  | cons c r =>
   have hpos:0<(bs (c :: r)).size:=by rw [hsz];simp
   have g0:(bs (c :: r))[0]=c:=rfl;have hcl:=c.toNat_lt
   by_cases h1:128≤c.toNat
   ·have h1':(128:Int)≤(bs (c :: r))[0].toNat:=by rw [g0];omega
    have E:=hide (show dH (c :: r)=false by simp [dH,h1]);go_enter Tryz.func238,Tryz.ntmps238;go_wp2_with fail;go_ret;exact ⟨by rw [E.out];rfl,rfl⟩
   ·have h1':¬ (128:Int)≤(bs (c :: r))[0].toNat:=by rw [g0];omega
    by_cases h2:c.toNat=0
    ·have h2':(((bs (c :: r))[0].toNat:Int) == 0)=true:=by rw [g0,h2];rfl
     cases r with
     | nil =>
      have hl:¬ (1:Int)<(bs [c]).size:=by rw [hsz];simp
      have E:=hide (show dH [c]=false by simp [dH,h1,h2]);clear g0;go_enter Tryz.func238,Tryz.ntmps238;go_wp2_with fail;go_ret;exact ⟨by rw [E.out];rfl,rfl⟩
     | cons d q =>
      have hl:(1:Int)<(bs (c :: d :: q)).size:=by rw [hsz];simp;omega
      have hl2:1<(bs (c :: d :: q)).size:=by rw [hsz];simp
      have g1:(bs (c :: d :: q))[1]=d:=rfl
      by_cases h3:128≤d.toNat
      ·have h3':(128:Int)≤(bs (c :: d :: q))[1].toNat:=by rw [g1];omega
       have E:=hide (show dH (c :: d :: q)=true by simp [dH,h1,h2,h3]);clear g0 g1;go_enter Tryz.func238,Tryz.ntmps238;go_wp2_with fail;go_ret;exact ⟨by rw [E.out];rfl,rfl⟩
      ·have h3':¬ (128:Int)≤(bs (c :: d :: q))[1].toNat:=by rw [g1];omega
       have E:=hide (show dH (c :: d :: q)=false by simp [dH,h1,h2,h3]);have h4':=decide_eq_false h3';clear g0 g1;go_enter Tryz.func238,Tryz.ntmps238;go_wp2_with fail;go_ret;exact ⟨by rw [E.out];rfl,rfl⟩
    ·have h2':(((bs (c :: r))[0].toNat:Int) == 0)=false:=by rw [g0,beq_eq_false_iff_ne];omega
     have E:=hide (show dH (c :: r)=true by simp [dH,h1,h2]);clear g0;go_enter Tryz.func238,Tryz.ntmps238;go_wp2_with fail;go_ret;exact ⟨by rw [E.out];rfl,rfl⟩
def nY (w:World) (g:Nat) (s:ByteArray) (t:ByteArray) (p':Nat) (x':Int) (e:Ending) (w':World):Prop:=e=.returned (.string t)∧Rdr w' g s p' x'∧w.grownBy w' (some g)
section
variable {w : World} {g p k n : Nat} {s : ByteArray} {x : Int}

theorem Jw (h:Rdr w g s p x) (hx:(x == 0)=false) (m q:Int):Calls Tryz.prog 232 #[.pointer (some ⟨g,0,none⟩),.int .i64 m,.int .i64 q,.func (.func 235) #[] #[]] w (nY w g s ⟨#[]⟩ p x):=by
 go_enter Tryz.func232,Tryz.ntmps232;go_wp2_with fail;refine (bi h).mono ?_;rintro e w1 ⟨rfl,rfl⟩;go_wp2_with fail;go_ret;exact ⟨rfl,h,aj _ _⟩
theorem jS (h:Rdr w g s p 0) (hs:s.size≤1000000) (hp:p≤s.size) (hk:k≤4) (hn:n<4294967296) (hfit:s.size<p+k+n) :
  Calls Tryz.prog 232 #[.pointer (some ⟨g,0,none⟩),.int .i64 k,.int .i64 n,.func (.func 235) #[] #[]] w (nY w g s ⟨#[]⟩ p 4):=by
 have f1:w.frozen? ⟨g,2,none⟩=false:=Blk.frozen h 2;have h2:w.cell? ⟨g,2,none⟩=some (.int .i64 0):=Blk.cell h 2;have i1:¬ (n:Int)<0:=by omega
 have i2:(s.size:Int) - p<(k:Int)+n:=by omega
 go_enter Tryz.func232,Tryz.ntmps232;go_wp2_with fail;refine (bi h).mono ?_;rintro e w1 ⟨rfl,rfl⟩;go_wp2_with (first | (go_at_call 165;refine (bW h hp hs).mono ?_;rintro e w2 ⟨rfl,m2,rfl⟩) | fail);go_ret;refine ⟨rfl,?_,ag (aL (aj _ _) _) (.inl rfl) _⟩;exact Blk.set_ (Blk.drewN h _) 2 _
theorem pW (h:Rdr w g s p 0) (hs:s.size≤1000000) (hfit:p+k+n≤s.size) (HM:Hid (∀W,Calls Tryz.prog 235 #[.string (s.extract (p+k) (p+k+n))] W fun e w'=>e=.returned (.bool true)∧w'=W)) :
  Calls Tryz.prog 232 #[.pointer (some ⟨g,0,none⟩),.int .i64 k,.int .i64 n,.func (.func 235) #[] #[]] w (nY w g s (s.extract (p+k) (p+k+n)) (p+k+n) 0):=by
 have h0:w.cell? ⟨g,0,none⟩=some (.string s):=Blk.cell h 0;have h1:w.cell? ⟨g,1,none⟩=some (.int .i64 p):=Blk.cell h 1;have f1:w.frozen? ⟨g,1,none⟩=false:=Blk.frozen h 1;go_enter Tryz.func232,Tryz.ntmps232;go_wp2_with fail;refine (bi h).mono ?_;rintro e w1 ⟨rfl,rfl⟩;go_wp2_with (first | (go_at_call 165;refine (bW h (by omega) hs).mono ?_;rintro e w2 ⟨rfl,m2,rfl⟩) | fail);go_quiet (fail);go_wp2_with (first | (go_at_call 235;refine (HM.out _).mono ?_;rintro e w3 ⟨rfl,rfl⟩) | fail);go_ret;refine ⟨rfl,?_,ag (aL (aj _ _) _) (.inl rfl) _⟩;have e:((p+k+n:Nat):Int)=(p:Int)+((k:Int)+n):=by omega
 rw [Rdr,e];exact Blk.set_ (Blk.drewN h _) 1 _

theorem CB (h:Rdr w g s p 0) (hs:s.size≤1000000) (hp:p≤s.size) (hk:k≤4) (hn:n<4294967296) (hfit:s.size<p+k+n) :
  Calls Tryz.prog 232 #[.pointer (some ⟨g,0,none⟩),.int .i64 k,.int .i64 n,.func (.func 233) #[] #[]] w (nY w g s ⟨#[]⟩ p 4):=by
 have f1:w.frozen? ⟨g,2,none⟩=false:=Blk.frozen h 2;have h2:w.cell? ⟨g,2,none⟩=some (.int .i64 0):=Blk.cell h 2;have i1:¬ (n:Int)<0:=by omega
 have i2:(s.size:Int) - p<(k:Int)+n:=by omega
 go_enter Tryz.func232,Tryz.ntmps232;go_wp2_with fail;refine (bi h).mono ?_;rintro e w1 ⟨rfl,rfl⟩;go_wp2_with (first | (go_at_call 165;refine (bW h hp hs).mono ?_;rintro e w2 ⟨rfl,m2,rfl⟩) | fail);go_ret;refine ⟨rfl,?_,ag (aL (aj _ _) _) (.inl rfl) _⟩;exact Blk.set_ (Blk.drewN h _) 2 _
theorem Jr (h:Rdr w g s p 0) (hs:s.size≤1000000) (hfit:p+k+n≤s.size) (HM:Hid (∀W,Calls Tryz.prog 233 #[.string (s.extract (p+k) (p+k+n))] W fun e w'=>e=.returned (.bool false)∧w'=W)) :
  Calls Tryz.prog 232 #[.pointer (some ⟨g,0,none⟩),.int .i64 k,.int .i64 n,.func (.func 233) #[] #[]] w (nY w g s ⟨#[]⟩ p 3):=by
 have h0:w.cell? ⟨g,0,none⟩=some (.string s):=Blk.cell h 0;have h1:w.cell? ⟨g,1,none⟩=some (.int .i64 p):=Blk.cell h 1;have f1:w.frozen? ⟨g,2,none⟩=false:=Blk.frozen h 2;have h2:w.cell? ⟨g,2,none⟩=some (.int .i64 0):=Blk.cell h 2;go_enter Tryz.func232,Tryz.ntmps232;go_wp2_with fail;refine (bi h).mono ?_;rintro e w1 ⟨rfl,rfl⟩;go_wp2_with (first | (go_at_call 165;refine (bW h (by omega) hs).mono ?_;rintro e w2 ⟨rfl,m2,rfl⟩) | fail);go_quiet (fail);go_wp2_with (first | (go_at_call 233;refine (HM.out _).mono ?_;rintro e w3 ⟨rfl,rfl⟩) | fail);go_ret;refine ⟨rfl,?_,ag (aL (aj _ _) _) (.inl rfl) _⟩;exact Blk.set_ (Blk.drewN h _) 2 _
theorem I9 (h:Rdr w g s p 0) (hs:s.size≤1000000) (hfit:p+k+n≤s.size) (HM:Hid (∀W,Calls Tryz.prog 233 #[.string (s.extract (p+k) (p+k+n))] W fun e w'=>e=.returned (.bool true)∧w'=W)) :
  Calls Tryz.prog 232 #[.pointer (some ⟨g,0,none⟩),.int .i64 k,.int .i64 n,.func (.func 233) #[] #[]] w (nY w g s (s.extract (p+k) (p+k+n)) (p+k+n) 0):=by
 have h0:w.cell? ⟨g,0,none⟩=some (.string s):=Blk.cell h 0;have h1:w.cell? ⟨g,1,none⟩=some (.int .i64 p):=Blk.cell h 1;have f1:w.frozen? ⟨g,1,none⟩=false:=Blk.frozen h 1;go_enter Tryz.func232,Tryz.ntmps232;go_wp2_with fail;refine (bi h).mono ?_;rintro e w1 ⟨rfl,rfl⟩;go_wp2_with (first | (go_at_call 165;refine (bW h (by omega) hs).mono ?_;rintro e w2 ⟨rfl,m2,rfl⟩) | fail);go_quiet (fail);go_wp2_with (first | (go_at_call 233;refine (HM.out _).mono ?_;rintro e w3 ⟨rfl,rfl⟩) | fail);go_ret;refine ⟨rfl,?_,ag (aL (aj _ _) _) (.inl rfl) _⟩;have e:((p+k+n:Nat):Int)=(p:Int)+((k:Int)+n):=by omega
 rw [Rdr,e];exact Blk.set_ (Blk.drewN h _) 1 _

theorem Av (h:Rdr w g s p 0) (hs:s.size≤1000000) (hp:p≤s.size) (hk:k≤4) (hn:n<4294967296) (hfit:s.size<p+k+n) :
  Calls Tryz.prog 232 #[.pointer (some ⟨g,0,none⟩),.int .i64 k,.int .i64 n,.func (.func 238) #[] #[]] w (nY w g s ⟨#[]⟩ p 4):=by
 have f1:w.frozen? ⟨g,2,none⟩=false:=Blk.frozen h 2;have h2:w.cell? ⟨g,2,none⟩=some (.int .i64 0):=Blk.cell h 2;have i1:¬ (n:Int)<0:=by omega
 have i2:(s.size:Int) - p<(k:Int)+n:=by omega
 go_enter Tryz.func232,Tryz.ntmps232;go_wp2_with fail;refine (bi h).mono ?_;rintro e w1 ⟨rfl,rfl⟩;go_wp2_with (first | (go_at_call 165;refine (bW h hp hs).mono ?_;rintro e w2 ⟨rfl,m2,rfl⟩) | fail);go_ret;refine ⟨rfl,?_,ag (aL (aj _ _) _) (.inl rfl) _⟩;exact Blk.set_ (Blk.drewN h _) 2 _
theorem Iz (h:Rdr w g s p 0) (hs:s.size≤1000000) (hfit:p+k+n≤s.size) (HM:Hid (∀W,Calls Tryz.prog 238 #[.string (s.extract (p+k) (p+k+n))] W fun e w'=>e=.returned (.bool false)∧w'=W)) :
  Calls Tryz.prog 232 #[.pointer (some ⟨g,0,none⟩),.int .i64 k,.int .i64 n,.func (.func 238) #[] #[]] w (nY w g s ⟨#[]⟩ p 3):=by
 have h0:w.cell? ⟨g,0,none⟩=some (.string s):=Blk.cell h 0;have h1:w.cell? ⟨g,1,none⟩=some (.int .i64 p):=Blk.cell h 1;have f1:w.frozen? ⟨g,2,none⟩=false:=Blk.frozen h 2;have h2:w.cell? ⟨g,2,none⟩=some (.int .i64 0):=Blk.cell h 2;go_enter Tryz.func232,Tryz.ntmps232;go_wp2_with fail;refine (bi h).mono ?_;rintro e w1 ⟨rfl,rfl⟩;go_wp2_with (first | (go_at_call 165;refine (bW h (by omega) hs).mono ?_;rintro e w2 ⟨rfl,m2,rfl⟩) | fail);go_quiet (fail);go_wp2_with (first | (go_at_call 238;refine (HM.out _).mono ?_;rintro e w3 ⟨rfl,rfl⟩) | fail);go_ret;refine ⟨rfl,?_,ag (aL (aj _ _) _) (.inl rfl) _⟩;exact Blk.set_ (Blk.drewN h _) 2 _
theorem GR (h:Rdr w g s p 0) (hs:s.size≤1000000) (hfit:p+k+n≤s.size) (HM:Hid (∀W,Calls Tryz.prog 238 #[.string (s.extract (p+k) (p+k+n))] W fun e w'=>e=.returned (.bool true)∧w'=W)) :
  Calls Tryz.prog 232 #[.pointer (some ⟨g,0,none⟩),.int .i64 k,.int .i64 n,.func (.func 238) #[] #[]] w (nY w g s (s.extract (p+k) (p+k+n)) (p+k+n) 0):=by
 have h0:w.cell? ⟨g,0,none⟩=some (.string s):=Blk.cell h 0;have h1:w.cell? ⟨g,1,none⟩=some (.int .i64 p):=Blk.cell h 1;have f1:w.frozen? ⟨g,1,none⟩=false:=Blk.frozen h 1;go_enter Tryz.func232,Tryz.ntmps232;go_wp2_with fail;refine (bi h).mono ?_;rintro e w1 ⟨rfl,rfl⟩;go_wp2_with (first | (go_at_call 165;refine (bW h (by omega) hs).mono ?_;rintro e w2 ⟨rfl,m2,rfl⟩) | fail);go_quiet (fail);go_wp2_with (first | (go_at_call 238;refine (HM.out _).mono ?_;rintro e w3 ⟨rfl,rfl⟩) | fail);go_ret;refine ⟨rfl,?_,ag (aL (aj _ _) _) (.inl rfl) _⟩;have e:((p+k+n:Nat):Int)=(p:Int)+((k:Int)+n):=by omega
 rw [Rdr,e];exact Blk.set_ (Blk.drewN h _) 1 _

theorem IK (h:Rdr w g s p x) (hx:(x == 0)=false):Calls Tryz.prog 237 #[.pointer (some ⟨g,0,none⟩),.func (.func 235) #[] #[]] w (nY w g s ⟨#[]⟩ p x):=by
 have hx2:(x != 0)=true:=by simp only [bne,hx,Bool.not_false]
 go_enter Tryz.func237,Tryz.ntmps237;go_wp2_with fail;refine (bi h).mono ?_;rintro e w1 ⟨rfl,rfl⟩;go_wp2_with fail;refine (Jw h hx 0 4).mono ?_;rintro e w2 ⟨rfl,hr,ho⟩;go_wp2_with fail;go_ret;exact ⟨rfl,hr,ho⟩
theorem EJ (h:Rdr w g s p 0) (hs:s.size≤1000000) (hp:p≤s.size) (hfit:s.size<p+4):Calls Tryz.prog 237 #[.pointer (some ⟨g,0,none⟩),.func (.func 235) #[] #[]] w (nY w g s ⟨#[]⟩ p 4):=by
 have i2:(s.size:Int) - p<4:=by omega
 go_enter Tryz.func237,Tryz.ntmps237;go_wp2_with fail;refine (bi h).mono ?_;rintro e w1 ⟨rfl,rfl⟩;go_wp2_with (first | (go_at_call 165;refine (bW h hp hs).mono ?_;rintro e w2 ⟨rfl,m2,rfl⟩) | fail);have h2:Rdr (w1.drewN m2) g s p 0:=Blk.drewN h _;refine (jS (k:=0) (n:=4) h2 hs hp (by omega) (by omega) (by omega)).mono ?_;rintro e w3 ⟨rfl,hr,ho⟩;go_wp2_with fail;go_ret;exact ⟨rfl,hr,au (aL (aj _ _) _) ho⟩
theorem AV {R:ByteArray→World→Prop} (h:Rdr w g s p 0) (hs:s.size≤1000000) (hfit:p+4≤s.size)
  (HT:Hid (∀W,Rdr W g s p 0→w.grownBy W (some g)→Calls Tryz.prog 232 #[.pointer (some ⟨g,0,none⟩),.int .i64 4,.int .i64 (qz (s.extract p (p+4)).data.toList),.func (.func 235) #[] #[]] W (fun e w'=>∃t,e=.returned (.string t)∧R t w'))) :
  Calls Tryz.prog 237 #[.pointer (some ⟨g,0,none⟩),.func (.func 235) #[] #[]] w (fun e w'=>∃t,e=.returned (.string t)∧R t w'):=by
 have h0:w.cell? ⟨g,0,none⟩=some (.string s):=Blk.cell h 0;have h1:w.cell? ⟨g,1,none⟩=some (.int .i64 p):=Blk.cell h 1;have i2:¬ (s.size:Int) - p<4:=by omega
 have hnl:(s.extract p (p+4)).size≤9223372036854775807:=by rw [ByteArray.size_extract];omega
 have HN:=hide (fun W=>jP (s.extract p (p+4)) W hnl);have hq:=FM (s.extract p (p+4)).data.toList;generalize qz (s.extract p (p+4)).data.toList=q at HN HT hq;have hq2:(q:Int)<4294967296:=by omega
 have HX:=hide (And.intro hfit hs);have hwp:IntKind.i64.wrap ((p:Int)+4)=((p+4:Nat):Int):=by rw [wrap_small _ (by omega) (by omega)];omega
 have hw:IntKind.i64.wrap (q:Int)=q:=wrap_small _ (by omega) (by omega);clear hnl hq hq2;go_enter Tryz.func237,Tryz.ntmps237;go_wp2_with fail;refine (bi h).mono ?_;rintro e w1 ⟨rfl,rfl⟩
 go_upto_region 3 with (first | (go_at_call 165;refine (bW h (by have:=HX.out;omega) hs).mono ?_;rintro e w2 ⟨rfl,m2,rfl⟩) | fail)
 go_quiet ((go_at_call 234;exact (HN.out _).mono fun _ _ h9=>⟨h9.1,_,h9.2⟩));go_wp2_with fail;refine (HT.out _ (Blk.drewN h _) (aL (aj _ _) _)).mono ?_;rintro e w3 ⟨t,rfl,hQ⟩;go_wp2_with fail;go_ret;exact ⟨t,rfl,hQ⟩

theorem CS (h:Rdr w g s p 0) (hs:s.size≤1000000) (hp:p≤s.size) (hfit:s.size<p+4):Calls Tryz.prog 237 #[.pointer (some ⟨g,0,none⟩),.func (.func 238) #[] #[]] w (nY w g s ⟨#[]⟩ p 4):=by
 have i2:(s.size:Int) - p<4:=by omega
 go_enter Tryz.func237,Tryz.ntmps237;go_wp2_with fail;refine (bi h).mono ?_;rintro e w1 ⟨rfl,rfl⟩;go_wp2_with (first | (go_at_call 165;refine (bW h hp hs).mono ?_;rintro e w2 ⟨rfl,m2,rfl⟩) | fail);have h2:Rdr (w1.drewN m2) g s p 0:=Blk.drewN h _;refine (jS (k:=0) (n:=4) h2 hs hp (by omega) (by omega) (by omega)).mono ?_;rintro e w3 ⟨rfl,hr,ho⟩;go_wp2_with fail;go_ret;exact ⟨rfl,hr,au (aL (aj _ _) _) ho⟩
theorem uF {R:ByteArray→World→Prop} (h:Rdr w g s p 0) (hs:s.size≤1000000) (hfit:p+4≤s.size)
  (HT:Hid (∀W,Rdr W g s p 0→w.grownBy W (some g)→Calls Tryz.prog 232 #[.pointer (some ⟨g,0,none⟩),.int .i64 4,.int .i64 (qz (s.extract p (p+4)).data.toList),.func (.func 238) #[] #[]] W (fun e w'=>∃t,e=.returned (.string t)∧R t w'))) :
  Calls Tryz.prog 237 #[.pointer (some ⟨g,0,none⟩),.func (.func 238) #[] #[]] w (fun e w'=>∃t,e=.returned (.string t)∧R t w'):=by
 have h0:w.cell? ⟨g,0,none⟩=some (.string s):=Blk.cell h 0;have h1:w.cell? ⟨g,1,none⟩=some (.int .i64 p):=Blk.cell h 1;have i2:¬ (s.size:Int) - p<4:=by omega
 have hnl:(s.extract p (p+4)).size≤9223372036854775807:=by rw [ByteArray.size_extract];omega
 have HN:=hide (fun W=>jP (s.extract p (p+4)) W hnl);have hq:=FM (s.extract p (p+4)).data.toList;generalize qz (s.extract p (p+4)).data.toList=q at HN HT hq;have hq2:(q:Int)<4294967296:=by omega
 have HX:=hide (And.intro hfit hs);have hwp:IntKind.i64.wrap ((p:Int)+4)=((p+4:Nat):Int):=by rw [wrap_small _ (by omega) (by omega)];omega
 have hw:IntKind.i64.wrap (q:Int)=q:=wrap_small _ (by omega) (by omega);clear hnl hq hq2;go_enter Tryz.func237,Tryz.ntmps237;go_wp2_with fail;refine (bi h).mono ?_;rintro e w1 ⟨rfl,rfl⟩
 go_upto_region 3 with (first | (go_at_call 165;refine (bW h (by have:=HX.out;omega) hs).mono ?_;rintro e w2 ⟨rfl,m2,rfl⟩) | fail)
 go_quiet ((go_at_call 234;exact (HN.out _).mono fun _ _ h9=>⟨h9.1,_,h9.2⟩));go_wp2_with fail;refine (HT.out _ (Blk.drewN h _) (aL (aj _ _) _)).mono ?_;rintro e w3 ⟨t,rfl,hQ⟩;go_wp2_with fail;go_ret;exact ⟨t,rfl,hQ⟩

theorem GU (h:Rdr w g s p 0):Calls Tryz.prog 232 #[.pointer (some ⟨g,0,none⟩),.int .i64 0,.int .i64 (-1),.func (.func 235) #[] #[]] w (nY w g s ⟨#[]⟩ p 4):=by
 have f1:w.frozen? ⟨g,2,none⟩=false:=Blk.frozen h 2;have h2:w.cell? ⟨g,2,none⟩=some (.int .i64 0):=Blk.cell h 2;go_enter Tryz.func232,Tryz.ntmps232;go_wp2_with fail;refine (bi h).mono ?_;rintro e w1 ⟨rfl,rfl⟩;go_wp2_with fail;go_ret;refine ⟨rfl,?_,ag (aj _ _) (.inl rfl) _⟩;exact Blk.set_ h 2 _

end
def Es {α:Type} (f:α→Value) (z:Value) (R:Res α) (w:World) (g:Nat) (s:ByteArray) (p:Nat) (e:Ending) (w':World):Prop :=
 (∃a p',R=.ok a (s.data.toList.drop p')∧e=.returned (f a)∧Rdr w' g s p' 0∧p'≤s.size∧w.grownBy w' (some g)) ∨
 (∃x:Nat,R=.no x∧x≠0∧e=.returned z∧Rdr w' g s p x∧w.grownBy w' (some g))
theorem ol (s:ByteArray) (a n:Nat):s.extract a (a+n)=bs ((s.data.toList.drop a).take n):=by
 apply kV;have:=Lib.extract_data s a (a+n);rw [this];congr 1;omega
theorem Qe {l:List UInt8} (h:4≤l.length):n4 (l.take 4)=n4 l:=by
 match l,h with
 | x :: y :: z :: u :: q,_=>rfl
 | [],h=>simp at h
 | [_],h=>simp at h
 | [_,_],h=>simp at h
 | [_,_,_],h=>simp at h
theorem tV {s:ByteArray} {p:Nat} (h:p+4≤s.size):qz (s.extract p (p+4)).data.toList=n4 (s.data.toList.drop p):=by
 have hl:4≤(s.data.toList.drop p).length:=by
  rw [List.length_drop];show 4≤s.size - p;omega
 rw [ol,aU,Tk _ (by rw [List.length_take];omega),Qe hl]
theorem jB (s:ByteArray) (p:Nat):(s.data.toList.drop p).length=s.size - p:=by
 rw [List.length_drop];rfl
theorem qV {r:List UInt8} (h:r.length<4):dz r=.no 4:=by
 unfold dz;rw [if_pos h]
theorem tN {r:List UInt8} (h:¬ r.length<4) (h2:r.length - 4<n4 r):dz r=.no 4:=by
 unfold dz;rw [if_neg h,if_pos h2]
theorem xO {r:List UInt8} (h:¬ r.length<4) (h2:¬ r.length - 4<n4 r):dz r=.ok ((r.drop 4).take (n4 r)) (r.drop (4+n4 r)):=by
 unfold dz;rw [if_neg h,if_neg h2]
def yG (r:List UInt8):Res (List UInt8):=match dz r with
 | .no e=>.no e
 | .ok s r'=>if dH s=true then .ok s r' else .no 3
theorem FU {r:List UInt8} {e:Nat} (h:dz r=.no e):yG r=.no e:=by
 unfold yG;rw [h]
theorem Pw {r s r':List UInt8} (h:dz r=.ok s r') (hk:dH s=true):yG r=.ok s r':=by
 unfold yG;rw [h];simp only [hk,if_true]
theorem Oj {r s r':List UInt8} (h:dz r=.ok s r') (hk:dH s=false):yG r=.no 3:=by
 unfold yG;rw [h];simp [hk]
theorem Ee (r:List UInt8):jF r=(yG r).map bE:=by
 unfold jF yG
 cases dz r with
 | no e=>rfl
 | ok s r' =>
  simp only
  split <;> rfl
def uZ (l:List UInt8):Nat:=if l=[] then 0 else 3
section
variable {w : World} {g p : Nat} {s : ByteArray} {x : Int}
theorem Ea (h:Rdr w g s p 0) (hs:s.size≤1000000) (hp:p≤s.size):Calls Tryz.prog 237 #[.pointer (some ⟨g,0,none⟩),.func (.func 235) #[] #[]] w (Es (fun l=>.string (bs l)) (.string ⟨#[]⟩) (dz (s.data.toList.drop p)) w g s p):=by
 have hdl:=jB s p
 by_cases h4:s.size<p+4
 ·refine (EJ h hs hp h4).mono ?_
  rintro e w' ⟨rfl,hr,ho⟩;exact .inr ⟨4,qV (by omega),by decide,rfl,hr,ho⟩
 ·have hn:=tV (s:=s) (p:=p) (by omega)
  have hlt:=jT (s.data.toList.drop p);have hn4:¬ (s.data.toList.drop p).length<4:=by omega
  by_cases h5:s.size<p+4+n4 (s.data.toList.drop p)
  ·refine (AV (R:=fun t w'=>t=⟨#[]⟩∧Rdr w' g s p 4∧w.grownBy w' (some g)) h hs (by omega) (hide (fun W hW hG=>?_))).mono ?_
   ·rw [hn]
    refine (jS (k:=4) hW hs hp (by omega) hlt h5).mono ?_;rintro e w' ⟨rfl,hr,ho⟩;exact ⟨_,rfl,rfl,hr,au hG ho⟩
   ·rintro e w' ⟨t,rfl,rfl,hr,ho⟩
    exact .inr ⟨4,tN hn4 (by omega),by decide,rfl,hr,ho⟩
  ·have hf:=xO hn4 (by omega:¬ (s.data.toList.drop p).length - 4<n4 (s.data.toList.drop p))
   refine (AV (R:=fun t w'=>t=bs (((s.data.toList.drop p).drop 4).take (n4 (s.data.toList.drop p)))∧Rdr w' g s (p+4+n4 (s.data.toList.drop p)) 0∧w.grownBy w' (some g)) h hs (by omega) (hide (fun W hW hG=>?_))).mono ?_
   ·rw [hn]
    refine (pW (k:=4) hW hs (by omega) (hide (fun W2=>uT _ W2))).mono ?_;rintro e w' ⟨rfl,hr,ho⟩;exact ⟨_,rfl,by rw [ol,List.drop_drop],hr,au hG ho⟩
   ·rintro e w' ⟨t,rfl,rfl,hr,ho⟩
    refine .inl ⟨_,_,?_,rfl,hr,by omega,ho⟩;rw [hf];simp only [List.drop_drop,Nat.add_assoc]
theorem Ig (h:Rdr w g s p 0) (hs:s.size≤1000000) (hp:p≤s.size):Calls Tryz.prog 237 #[.pointer (some ⟨g,0,none⟩),.func (.func 238) #[] #[]] w (Es (fun l=>.string (bs l)) (.string ⟨#[]⟩) (yG (s.data.toList.drop p)) w g s p):=by
 have hdl:=jB s p
 by_cases h4:s.size<p+4
 ·refine (CS h hs hp h4).mono ?_
  rintro e w' ⟨rfl,hr,ho⟩;exact .inr ⟨4,FU (qV (by omega)),by decide,rfl,hr,ho⟩
 ·have hn:=tV (s:=s) (p:=p) (by omega)
  have hlt:=jT (s.data.toList.drop p);have hn4:¬ (s.data.toList.drop p).length<4:=by omega
  by_cases h5:s.size<p+4+n4 (s.data.toList.drop p)
  ·refine (uF (R:=fun t w'=>t=⟨#[]⟩∧Rdr w' g s p 4∧w.grownBy w' (some g)) h hs (by omega) (hide (fun W hW hG=>?_))).mono ?_
   ·rw [hn]
    refine (Av (k:=4) hW hs hp (by omega) hlt h5).mono ?_;rintro e w' ⟨rfl,hr,ho⟩;exact ⟨_,rfl,rfl,hr,au hG ho⟩
   ·rintro e w' ⟨t,rfl,rfl,hr,ho⟩
    exact .inr ⟨4,FU (tN hn4 (by omega)),by decide,rfl,hr,ho⟩
  ·have hf:=xO hn4 (by omega:¬ (s.data.toList.drop p).length - 4<n4 (s.data.toList.drop p))
   have hext:s.extract (p+4) (p+4+n4 (s.data.toList.drop p))=bs (((s.data.toList.drop p).drop 4).take (n4 (s.data.toList.drop p))):=by rw [ol,List.drop_drop]
   have hsz:(s.extract (p+4) (p+4+n4 (s.data.toList.drop p))).size≤1000000:=by rw [ByteArray.size_extract];omega
   have HW:=hide (fun W2=>Dj (s.extract (p+4) (p+4+n4 (s.data.toList.drop p))) hsz W2);rw [hext,aU,← hext] at HW
   cases hk:dH (((s.data.toList.drop p).drop 4).take (n4 (s.data.toList.drop p))) with
   | true =>
    rw [hk] at HW;refine (uF (R:=fun t w'=>t=bs (((s.data.toList.drop p).drop 4).take (n4 (s.data.toList.drop p)))∧Rdr w' g s (p+4+n4 (s.data.toList.drop p)) 0∧w.grownBy w' (some g)) h hs (by omega) (hide (fun W hW hG=>?_))).mono ?_
    ·rw [hn]
     refine (GR (k:=4) hW hs (by omega) HW).mono ?_;rintro e w' ⟨rfl,hr,ho⟩;exact ⟨_,rfl,hext,hr,au hG ho⟩
    ·rintro e w' ⟨t,rfl,rfl,hr,ho⟩
     refine .inl ⟨_,_,?_,rfl,hr,by omega,ho⟩;rw [Pw hf hk];simp only [List.drop_drop,Nat.add_assoc]
   | false =>
    rw [hk] at HW;refine (uF (R:=fun t w'=>t=⟨#[]⟩∧Rdr w' g s p 3∧w.grownBy w' (some g)) h hs (by omega) (hide (fun W hW hG=>?_))).mono ?_
    ·rw [hn]
     refine (Iz (k:=4) hW hs (by omega) HW).mono ?_;rintro e w' ⟨rfl,hr,ho⟩;exact ⟨_,rfl,rfl,hr,au hG ho⟩
    ·rintro e w' ⟨t,rfl,rfl,hr,ho⟩
     exact .inr ⟨3,Oj hf hk,by decide,rfl,hr,ho⟩
theorem nK (h:Rdr w g s p 0) (hs:s.size≤1000000) (hp:p≤s.size):Calls Tryz.prog 160 #[.pointer (some ⟨g,0,none⟩)] w (Es (fun l=>.string (bs l)) (.string ⟨#[]⟩) (dz (s.data.toList.drop p)) w g s p):=by
 have H:=hide (Ea h hs hp);clear h;go_enter Tryz.func160,Tryz.ntmps160;go_wp2_with fail;refine H.out.mono ?_;rintro e w1 (⟨a,p',h1,rfl,h2,h3,h4⟩ | ⟨x,h1,h2,rfl,h3,h4⟩)
 ·go_wp2_with fail
  go_ret;exact .inl ⟨a,p',h1,rfl,h2,h3,h4⟩
 ·go_wp2_with fail
  go_ret;exact .inr ⟨x,h1,h2,rfl,h3,h4⟩
theorem EI (h:Rdr w g s p x) (hx:(x == 0)=false):Calls Tryz.prog 160 #[.pointer (some ⟨g,0,none⟩)] w (nY w g s ⟨#[]⟩ p x):=by
 have H:=hide (IK h hx);clear h;go_enter Tryz.func160,Tryz.ntmps160;go_wp2_with fail;refine H.out.mono ?_;rintro e w1 ⟨rfl,h1,h2⟩;go_wp2_with fail;go_ret;exact ⟨rfl,h1,h2⟩
theorem Bh (h:Rdr w g s p 0) (hs:s.size≤1000000) (hp:p≤s.size):Calls Tryz.prog 158 #[.pointer (some ⟨g,0,none⟩)] w (Es (fun l=>.string (bs l)) (.string ⟨#[]⟩) (jF (s.data.toList.drop p)) w g s p):=by
 have H:=hide (Ig h hs hp);have HG:=hide (Ee (s.data.toList.drop p));have HP0:=hide (fun W=>nG [] W);clear h;go_enter Tryz.func158,Tryz.ntmps158;go_wp2_with fail;refine H.out.mono ?_;rintro e w1 (⟨a,p',h1,rfl,h2,h3,h4⟩ | ⟨x,h1,h2,rfl,h3,h4⟩)
 ·have HP:=hide (nG a w1)
  have H1:=hide h1;clear h1 HP0;go_wp2_with fail;refine HP.out.mono ?_;rintro e w2 ⟨rfl,hb2⟩;go_wp2_with fail;go_ret;refine .inl ⟨bE a,p',?_,rfl,h2.below hb2,h3,au h4 (ai hb2 _)⟩;rw [HG.out,H1.out,Res.map_ok]
 ·have HP:=hide (HP0.out w1)
  have H1:=hide h1;clear h1 HP0;rw [show bs []=⟨#[]⟩ from rfl] at HP;go_wp2_with fail;refine HP.out.mono ?_;rintro e w2 ⟨rfl,hb2⟩;go_wp2_with fail;go_ret;refine .inr ⟨x,?_,h2,rfl,h3.below hb2,au h4 (ai hb2 _)⟩;rw [HG.out,H1.out];rfl
theorem Aw (h:Rdr w g s p 0) (hs:s.size≤1000000) (hp:p≤s.size):Calls Tryz.prog 161 #[.pointer (some ⟨g,0,none⟩),.int .i64 16] w (Es (fun l=>.string (bs l)) (.string ⟨#[]⟩) (jV 16 (s.data.toList.drop p)) w g s p):=by
 have hdl:=jB s p
 by_cases h4:s.size<p+16
 ·have i2:(s.size:Int) - p<16:=by omega
  have hg:jV 16 (s.data.toList.drop p)=.no 4:=by
   unfold jV;rw [if_pos (by omega)]
  have f1:w.frozen? ⟨g,2,none⟩=false:=Blk.frozen h 2;have h2:w.cell? ⟨g,2,none⟩=some (.int .i64 0):=Blk.cell h 2;have HG:=hide hg;have HT:=hide (fun W (hW:Rdr W g s p 0)=>GU hW);have HH:=hide (And.intro hs hp);clear hg hdl;go_enter Tryz.func161,Tryz.ntmps161;go_wp2_with (first | (go_at_call 165;refine (bW h HH.out.2 HH.out.1).mono ?_;rintro e w2 ⟨rfl,m2,rfl⟩) | fail);refine (HT.out _ (Blk.drewN h _)).mono ?_;rintro e w3 ⟨rfl,hr,ho⟩;go_wp2_with fail;go_ret;exact .inr ⟨4,HG.out,by decide,rfl,hr,au (aL (aj _ _) _) ho⟩
 ·have i2:¬ (s.size:Int) - p<16:=by omega
  have hg:jV 16 (s.data.toList.drop p)=.ok ((s.data.toList.drop p).take 16) (s.data.toList.drop (p+16)):=by
   unfold jV;rw [if_neg (by omega),List.drop_drop]
  have HG:=hide hg;have HT:=hide (fun W (hW:Rdr W g s p 0)=>pW (k:=0) (n:=16) hW hs (by omega) (hide (fun W2=>uT _ W2)));have HH:=hide (And.intro hs (And.intro hp h4));clear hg hdl h4;go_enter Tryz.func161,Tryz.ntmps161;go_wp2_with (first | (go_at_call 165;refine (bW h HH.out.2.1 HH.out.1).mono ?_;rintro e w2 ⟨rfl,m2,rfl⟩) | fail);refine (HT.out _ (Blk.drewN h _)).mono ?_;rintro e w3 ⟨rfl,hr,ho⟩;go_wp2_with fail;go_ret;refine .inl ⟨_,p+16,HG.out,?_,hr,by have:=HH.out;omega,au (aL (aj _ _) _) ho⟩;exact congrArg (fun t=>Ending.returned (.string t)) (ol s p 16)
theorem xP (h:Rdr w g s p 0) (hs:s.size≤1000000) (hp:p≤s.size):Calls Tryz.prog 157 #[.pointer (some ⟨g,0,none⟩)] w (Es (fun n:Nat=>.int .u32 n) (.int .u32 0) (mM (s.data.toList.drop p)) w g s p):=by
 have hdl:=jB s p
 by_cases h4:s.size<p+4
 ·have hg:mM (s.data.toList.drop p)=.no 4:=by
   unfold mM;rw [if_pos (by omega)]
  have HG:=hide hg;have HT:=hide (jS (k:=0) (n:=4) h hs hp (by omega) (by omega) (by omega));have HN:=hide (fun W=>jP ⟨#[]⟩ W (by decide));clear hg hdl;go_enter Tryz.func157,Tryz.ntmps157;go_wp2_with fail;refine HT.out.mono ?_;rintro e w3 ⟨rfl,hr,ho⟩;go_wp2_with fail;refine (HN.out _).mono ?_;rintro e w4 ⟨rfl,rfl⟩;go_wp2_with fail;go_ret;exact .inr ⟨4,HG.out,by decide,rfl,hr,ho⟩
 ·have hg:mM (s.data.toList.drop p)=.ok (n4 (s.data.toList.drop p)) (s.data.toList.drop (p+4)):=by
   unfold mM;rw [if_neg (by omega),List.drop_drop]
  have HG:=hide hg;have HT:=hide (pW (k:=0) (n:=4) h hs (by omega) (hide (fun W2=>uT _ W2)));have HN:=hide (fun W=>jP (s.extract (p+0) (p+0+4)) W (by rw [ByteArray.size_extract];omega));have hnn:=tV (s:=s) (p:=p) (by omega);rw [Nat.add_zero] at HT HN;rw [hnn] at HN;have HH:=hide h4;generalize n4 (s.data.toList.drop p)=q at HG HN;clear hg hdl hnn h4;go_enter Tryz.func157,Tryz.ntmps157;go_wp2_with fail;refine HT.out.mono ?_;rintro e w3 ⟨rfl,hr,ho⟩;go_wp2_with fail;refine (HN.out _).mono ?_;rintro e w4 ⟨rfl,rfl⟩;go_wp2_with fail;go_ret;exact .inl ⟨_,p+4,HG.out,rfl,hr,by have:=HH.out;omega,ho⟩
theorem DF (h:Rdr w g s p 0) (hs:s.size≤1000000) (hp:p≤s.size):Calls Tryz.prog 156 #[.pointer (some ⟨g,0,none⟩)] w (Es (fun n:Int=>.bool (n == 1)) (.bool false) (pO (s.data.toList.drop p)) w g s p):=by
 have hdl:=jB s p
 by_cases h4:s.size<p+1
 ·have hg:pO (s.data.toList.drop p)=.no 4:=by
   have:s.data.toList.drop p=[]:=List.eq_nil_of_length_eq_zero (by omega);rw [this];rfl
  have HG:=hide hg;have HT:=hide (CB (k:=0) (n:=1) h hs hp (by omega) (by omega) (by omega));clear hg hdl;go_enter Tryz.func156,Tryz.ntmps156;go_wp2_with fail;refine HT.out.mono ?_;rintro e w3 ⟨rfl,hr,ho⟩;go_wp2_with fail;go_ret;exact .inr ⟨4,HG.out,by decide,rfl,hr,ho⟩
 ·obtain ⟨c,r,hcr⟩:=List.exists_cons_of_ne_nil (show s.data.toList.drop p≠[] from fun e=>by rw [e] at hdl;simp at hdl;omega)
  have hr1:s.data.toList.drop (p+1)=r:=by
   rw [←List.drop_drop,hcr];rfl
  have hext:s.extract (p+0) (p+0+1)=bs [c]:=by
   rw [ol,Nat.add_zero,hcr];rfl
  have HB:=hide (fun W=>Kt (bs [c]) rfl W);have hz1:0<(bs [c]).size:=Nat.zero_lt_one;have hb0:(bs [c])[0]=c:=rfl;have hlt:=c.toNat_lt
  by_cases hc:c.toNat≤1
  ·have hg:pO (s.data.toList.drop p)=.ok c.toNat (s.data.toList.drop (p+1)):=by rw [hcr,jH,if_pos hc,hr1]
   rw [show decide ((bs [c])[0].toNat≤1)=true from by rw [hb0];exact decide_eq_true hc,← hext] at HB;have HT:=hide (I9 (k:=0) (n:=1) h hs (by omega) HB);rw [hext] at HT;have HG:=hide hg;have HH:=hide h4;clear hg hdl hcr hr1 hext HB hb0 hz1 h4;obtain h01 | h01:c.toNat=0∨c.toNat=1:=by omega
   ·obtain rfl:c=0:=UInt8.toNat_inj.1 (by simpa using h01)
    have ht:((bs [0]).toList == [1])=false:=by decide +kernel
    go_enter Tryz.func156,Tryz.ntmps156;go_wp2_with fail;refine HT.out.mono ?_;rintro e w3 ⟨rfl,hr,ho⟩;go_wp2_with fail;go_ret;exact .inl ⟨_,p+1,HG.out,rfl,hr,by have:=HH.out;omega,ho⟩
   ·obtain rfl:c=1:=UInt8.toNat_inj.1 (by simpa using h01)
    have ht:((bs [1]).toList == [1])=true:=by decide +kernel
    go_enter Tryz.func156,Tryz.ntmps156;go_wp2_with fail;refine HT.out.mono ?_;rintro e w3 ⟨rfl,hr,ho⟩;go_wp2_with fail;go_ret;exact .inl ⟨_,p+1,HG.out,rfl,hr,by have:=HH.out;omega,ho⟩
  ·have hg:pO (s.data.toList.drop p)=.no 3:=by rw [hcr,jH,if_neg hc]
   rw [show decide ((bs [c])[0].toNat≤1)=false from by rw [hb0];exact decide_eq_false hc,← hext] at HB;have HT:=hide (Jr (k:=0) (n:=1) h hs (by omega) HB);have HG:=hide hg;clear hg hdl hcr hr1 hext HB hb0 hz1 h4;go_enter Tryz.func156,Tryz.ntmps156;go_wp2_with fail;refine HT.out.mono ?_;rintro e w3 ⟨rfl,hr,ho⟩;go_wp2_with fail;go_ret;exact .inr ⟨3,HG.out,by decide,rfl,hr,ho⟩
theorem JX (h:Rdr w g s p 0) (hs:s.size≤1000000) (hp:p≤s.size):Calls Tryz.prog 94 #[.pointer (some ⟨g,0,none⟩)] w (fun e w'=>e=.returned (.int .i64 (uZ (s.data.toList.drop p)))∧w.grownBy w' (some g)):=by
 have hdl:=jB s p
 by_cases h0:p=s.size
 ·have E:=hide (show uZ (s.data.toList.drop p)=0 from if_pos (List.eq_nil_of_length_eq_zero (by omega)))
  have i1:(((s.size:Int) - p) == 0)=true:=by rw [beq_iff_eq];omega
  clear hdl h0;go_enter Tryz.func94,Tryz.ntmps94;go_wp2_with fail;refine (bi h).mono ?_;rintro e w1 ⟨rfl,rfl⟩;go_wp2_with (first | (go_at_call 165;refine (bW h hp hs).mono ?_;rintro e w2 ⟨rfl,m2,rfl⟩) | fail);go_ret;exact ⟨by rw [E.out];rfl,aL (aj _ _) _⟩
 ·have E:=hide (show uZ (s.data.toList.drop p)=3 from if_neg (fun e=>by rw [e] at hdl;simp at hdl;omega))
  have i1:(((s.size:Int) - p) == 0)=false:=by rw [beq_eq_false_iff_ne];omega
  clear hdl h0;go_enter Tryz.func94,Tryz.ntmps94;go_wp2_with fail;refine (bi h).mono ?_;rintro e w1 ⟨rfl,rfl⟩;go_wp2_with (first | (go_at_call 165;refine (bW h hp hs).mono ?_;rintro e w2 ⟨rfl,m2,rfl⟩) | fail);go_ret;exact ⟨by rw [E.out];rfl,aL (aj _ _) _⟩
end
def Rd3 (w:World) (g:Nat) (r:List UInt8) (e:Int):Prop:=Blk w g 269 #[.string (bs r),.int .i64 e]
theorem Rd3.below {w w':World} {g:Nat} {r:List UInt8} {e:Int} (h:Rd3 w g r e) (hb:Below w.heap.size w w'):Rd3 w' g r e:=Blk.below h hb (Blk.lt h)
end Go.Proofs.YtnhekaepgpbijaaGreatDoor

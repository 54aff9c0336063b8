/-
  Several of my texts in one: RefA, WholeA.
-/
import Derived.Test.YtkfnepnghnicoaaGreatDoorKMkrG
import Derived.Test.YtkfnepnghnicoaaGreatDoorKPureA
import Derived.Lib.QuietBelow
import Derived.Deep.RegionWith
import Derived.Test.YtkfnepnghnicoaaGreatDoorKShelf
set_option linter.unusedVariables false
set_option linter.unusedSimpArgs false
set_option maxHeartbeats 40000000
set_option maxRecDepth 100000
namespace Go.Proofs.YtkfnepnghnicoaaGreatDoor
open Go.RowKit Go.ChangeShapes Go.WideShapes Go.Sort
def bs (l:List UInt8):ByteArray:=⟨l.toArray⟩
theorem bs_data (l:List UInt8):(bs l).data.toList=l:=rfl
theorem bs_of (s:ByteArray):bs s.data.toList=s:=rfl
theorem bs_eq {r:ByteArray} {l:List UInt8} (h:r.data.toList=l):r=bs l:=by rw [←h];rfl
@[go_sem] theorem bs_size (l:List UInt8):(bs l).size=l.length:=rfl
@[go_sem] theorem bs_app (l m:List UInt8):bs l++bs m=bs (l++m):=bs_eq (by rw [data_append,bs_data,bs_data])
theorem bs_inj {l m:List UInt8} (h:bs l=bs m):l=m:=by rw [←bs_data l,h,bs_data]
theorem bs_toList (l:List UInt8):(bs l).toList=l:=ByteArray.toList_eq _
theorem ret_bs {r:ByteArray} {l:List UInt8} (h:r.data.toList=l):Ending.returned (.string r)=.returned (.string (bs l)):=by rw [bs_eq h]
theorem ofNat_mod (n:Nat):UInt8.ofNat (n % 256)=UInt8.ofNat n:=by
 apply UInt8.toNat_inj.1
 simp
def tx (o:Option Tm):ByteArray:=bs (txt o)
theorem tx_none:tx none=⟨#[]⟩:=rfl
theorem tx_len {o:Option Tm} (h:fineO o):(txt o).length≤131072:=by
 cases o with
 | none=>exact Nat.zero_le _
 | some t=>exact (h t rfl).2
def Says (l:List UInt8) (w:World) (e:Ending) (w':World):Prop:=e=.returned (.string (bs l))∧Below w.heap.size w w'
theorem rU32_any (n:Nat) (w:World) (h1:n<4294967296):Calls Tryz.prog 63 #[.int .i64 n] w (Says (q4 n) w):=by
 have h0:(0:Int)≤n:=by omega
 go_enter Tryz.func63,Tryz.ntmps63
 go_wp2
 go_ret
 refine ⟨ret_bs ?_,by exact bel_by⟩
 rw [strOfNums_data,q4]
 have e1:((n:Int) / 16777216 % 256).toNat=n / 16777216 % 256:=by omega
 have e2:((n:Int) / 65536 % 256).toNat=n / 65536 % 256:=by omega
 have e3:((n:Int) / 256 % 256).toNat=n / 256 % 256:=by omega
 have e4:((n:Int) % 256).toNat=n % 256:=by omega
 simp only [List.map_cons,List.map_nil,e1,e2,e3,e4,ofNat_mod]
theorem rTag_any (k:Nat) (w:World) (h1:k≤15):Calls Tryz.prog 62 #[.int .i64 k] w (Says [UInt8.ofNat (240+k)] w):=by
 have h0:(0:Int)≤k:=by omega
 have h2:(k:Int)≤15:=by omega
 go_enter Tryz.func62,Tryz.ntmps62
 go_wp2
 go_ret
 refine ⟨ret_bs ?_,by exact bel_by⟩
 rw [strOfNums_data]
 have e1:(240+(k:Int)).toNat=240+k:=by omega
 simp only [List.map_cons,List.map_nil,e1]
def fitsL (l:List UInt8):List UInt8:=if l.length≤131072 then l else []
attribute [go_sem] q4_len
theorem rFits_any (l:List UInt8) (w:World) (h:l.length≤1000000000):Calls Tryz.prog 61 #[.string (bs l)] w (Says (fitsL l) w):=by
 unfold fitsL
 by_cases hl:l.length≤131072
 ·rw [if_pos hl]
  have hi:¬ (131072:Int)<l.length:=by omega
  go_enter Tryz.func61,Tryz.ntmps61
  go_wp2
  go_ret
  exact ⟨rfl,by exact bel_by⟩
 ·rw [if_neg hl]
  have hi:(131072:Int)<l.length:=by omega
  go_enter Tryz.func61,Tryz.ntmps61
  go_wp2
  go_ret
  exact ⟨rfl,by exact bel_by⟩
theorem rNumber_any (n:Int) (w:World):Calls Tryz.prog 93 #[.int .i64 n] w fun e w'=>e=.returned (.bool (okN n))∧w=w':=by
 go_enter Tryz.func93,Tryz.ntmps93
 go_wp2
 all_goals go_ret
 all_goals exact ⟨ret_bool (by unfold okN;(first | (simp_all;done) | (simp_all;omega) | (rw [Bool.eq_iff_iff];simp_all;done) | (rw [Bool.eq_iff_iff];simp_all;omega))),rfl⟩
theorem rText_any (s:ByteArray) (m:Int) (w:World) (hs:s.size≤9223372036854775807):Calls Tryz.prog 249 #[.string s,.int .i64 m] w fun e w'=>e=.returned (.bool (decide (1≤s.size∧(s.size:Int)≤m)))∧w=w':=by
 go_enter Tryz.func249,Tryz.ntmps249
 go_wp2
 all_goals go_ret
 all_goals exact ⟨ret_bool (by (first | (simp_all;done) | (simp_all;omega) | (rw [Bool.eq_iff_iff];simp_all;done) | (rw [Bool.eq_iff_iff];simp_all;omega))),rfl⟩
def kindO (o:Option Tm):Nat:=match o with
 | some t=>t.k
 | none=>0
theorem txt_head {o:Option Tm} (h:fineO o):o=none∨∃t r,o=some t∧txt o=UInt8.ofNat (240+t.k) :: r∧1≤t.k∧t.k≤10:=by
 cases o with
 | none=>exact .inl rfl
 | some t =>
  obtain ⟨r,hr⟩:=enc_head t (h t rfl).1
  exact .inr ⟨t,r,rfl,hr,good_k (h t rfl).1⟩
theorem rKind_any {o:Option Tm} (h:fineO o) (w:World):Calls Tryz.prog 91 #[.string (tx o)] w fun e w'=>e=.returned (.int .i64 (kindO o))∧w=w':=by
 rcases txt_head h with rfl | ⟨t,r,rfl,ht,h1,h2⟩
 ·rw [tx_none]
  go_enter Tryz.func91,Tryz.ntmps91
  go_wp2
  go_ret
  exact ⟨rfl,rfl⟩
 ·have hl:=tx_len h
  unfold tx
  rw [ht] at hl ⊢
  have hz:0<(bs (UInt8.ofNat (240+t.k) :: r)).size:=by rw [bs_size];simp
  have hz2:(bs (UInt8.ofNat (240+t.k) :: r)).size≤131072:=by rw [bs_size];exact hl
  have hb:(bs (UInt8.ofNat (240+t.k) :: r))[0].toNat=240+t.k:=by
   show (UInt8.ofNat (240+t.k)).toNat=_
   rw [UInt8.toNat_ofNat']
   omega
  generalize bs (UInt8.ofNat (240+t.k) :: r)=s at hz hz2 hb
  have hb1:(241:Int)≤(s[0].toNat:Int):=by omega
  have hb2:(s[0].toNat:Int)≤250:=by omega
  have Hb:=hide hb
  clear hl ht h hb
  have hzi:(0:Int)<(s.size:Int):=by omega
  have hzn:((s.size:Int) == 0)=false:=beq_eq_false_iff_ne.2 (by omega)
  go_enter Tryz.func91,Tryz.ntmps91
  go_wp2_with fail
  go_ret
  exact ⟨ret_int (by have:=Hb.out;show _=((t.k:Nat):Int);omega),rfl⟩
theorem enc_data (s:ByteArray):[UInt8.ofNat (240+1)]++q4 s.size++s.data.toList=enc (.mk 1 0 0 s []):=by
 simp [enc,head,mid,encs]
theorem fits_lim (t:Tm):fitsL (enc t)=txt (lim t):=by
 unfold lim fitsL
 split <;> rfl
theorem ret_bsb {l m:List UInt8} (h:l=m):Ending.returned (.string (bs l))=.returned (.string (bs m)):=by rw [h]
theorem enc_isE (t:Tm):(bs (enc t)).toList.isEmpty=false:=by
 rw [bs_toList]
 cases e:enc t with
 | nil=>exact absurd e (enc_ne t)
 | cons=>rfl
theorem rTag_at (k:Nat) (n:Int) (hn:n=k) (w:World) (h1:k≤15):Calls Tryz.prog 62 #[.int .i64 n] w (Says [UInt8.ofNat (240+k)] w):=by
 subst hn
 exact rTag_any k w h1
theorem lim_txt {t:Tm} {l:List UInt8} (h:l=enc t):fitsL l=txt (lim t):=by
 subst h
 exact fits_lim t
theorem rData_any (l:List UInt8) (w:World) (h:l.length≤1000000000):Calls Tryz.prog 28 #[.string (bs l)] w (Says (txt (tData (bs l))) w):=by
 by_cases hl:l.length≤131072
 ·have hi:¬ (131072:Int)<l.length:=by omega
  have HT:=hide (fun W=>rTag_at 1 1 rfl W (by omega))
  have HU:=hide (fun W=>rU32_any l.length W (by omega))
  have HF:=hide (fun W=>rFits_any ([UInt8.ofNat (240+1)]++q4 l.length++l) W (by simp [q4_len];omega))
  go_enter Tryz.func28,Tryz.ntmps28
  go_wp2_with (first
   | (go_at_call 62;refine (HT.out _).mono ?_;rintro e w1 ⟨rfl,hb1⟩)
   | (go_at_call 63;refine (HU.out _).mono ?_;rintro e w2 ⟨rfl,hb2⟩)
   | (go_at_call 61;refine (HF.out _).mono ?_;rintro e w3 ⟨rfl,hb3⟩))
  go_ret
  exact ⟨ret_bsb (lim_txt (enc_data (bs l))),by exact bel_by⟩
 ·have hi:(131072:Int)<l.length:=by omega
  have Ho:=hide (show txt (tData (bs l))=[] by
   unfold tData lim
   rw [if_neg]
   ·rfl
   ·rw [←enc_data,bs_size,bs_data]
    simp [q4_len]
    omega)
  rw [Ho.out]
  go_enter Tryz.func28,Tryz.ntmps28
  go_wp2
  go_ret
  exact ⟨rfl,by exact bel_by⟩
theorem okN_nat {n:Int} (h:okN n=true):∃a:Nat,n=a∧a<2147483648:=by
 have:=okN_iff.1 h
 exact ⟨n.toNat,by omega,by omega⟩
theorem rKey_any (who:Int) (w:World):Calls Tryz.prog 55 #[.int .i64 who] w (Says (txt (tKey who)) w):=by
 have Hn:=hide (fun W=>rNumber_any who W)
 cases h1:okN who with
 | false =>
  have Ho:=hide (show tKey who=none by unfold tKey;rw [h1];rfl)
  rw [Ho.out]
  rw [h1] at Hn
  go_enter Tryz.func55,Tryz.ntmps55
  go_wp2_with (go_at_call 93;(with_reducible refine (Hn.out _).mono ?_);rintro e w1 ⟨rfl,rfl⟩)
  go_ret
  exact ⟨rfl,by exact bel_by⟩
 | true =>
  have Ho:=hide (show tKey who=some (.mk 3 who.toNat 0 eB []) by unfold tKey;rw [h1];rfl)
  obtain ⟨a,rfl,ha⟩:=okN_nat h1
  rw [h1] at Hn
  have HT:=hide (fun W=>rTag_at 3 3 rfl W (by omega))
  have HU:=hide (fun W=>rU32_any a W (by omega))
  clear h1
  go_enter Tryz.func55,Tryz.ntmps55
  go_wp2_with (first
   | (go_at_call 93;(with_reducible refine (Hn.out _).mono ?_);rintro e w1 ⟨rfl,rfl⟩)
   | (go_at_call 62;refine (HT.out _).mono ?_;rintro e w1 ⟨rfl,hb1⟩)
   | (go_at_call 63;(with_reducible refine (HU.out _).mono ?_);rintro e w2 ⟨rfl,hb2⟩))
  go_ret
  rw [Ho.out]
  exact ⟨ret_bsb (by simp [txt,enc,head,mid,encs]),by exact bel_by⟩
theorem kindO_isKo {o:Option Tm} {k:Nat} (hk:k≠0):isKo o k=((kindO o:Int) == k):=by
 cases o with
 | none=>simp [isKo,kindO];omega
 | some t=>rfl
theorem rPub_any {o:Option Tm} (h:fineO o) (w:World):Calls Tryz.prog 54 #[.string (bs (txt o))] w (Says (txt (tPub o)) w):=by
 have HK:=hide (fun W=>rKind_any h W)
 have hko:=kindO_isKo (o:=o) (k:=3) (by omega)
 cases h1:isKo o 3 with
 | false =>
  have Ho:=hide (show txt (tPub o)=[] by rw [tPub_no h1];rfl)
  rw [Ho.out]
  have ht:((kindO o:Int) != 3)=true:=by
   rw [show isKo o ((3:Nat):Int)=isKo o 3 from rfl,h1] at hko
   simp only [bne,Bool.not_eq_true']
   exact hko.symm
  clear h1 hko h
  go_enter Tryz.func54,Tryz.ntmps54
  go_wp2_with (go_at_call 91;refine (HK.out _).mono ?_;rintro e w1 ⟨rfl,rfl⟩)
  go_ret
  exact ⟨rfl,by exact bel_by⟩
 | true =>
  obtain ⟨t,rfl,hk⟩:=isKo_some (k:=3) h1
  have Ho:=hide (show txt (tPub (some t))=[UInt8.ofNat (240+4)]++enc t by
   show txt (if t.k=3 then _ else none)=_
   rw [if_pos hk]
   simp [txt,enc,head,mid,encs])
  rw [Ho.out]
  have ht:((kindO (some t):Int) != 3)=false:=by
   show ((t.k:Int) != 3)=false
   rw [hk]
   rfl
  have HT:=hide (fun W=>rTag_at 4 4 rfl W (by omega))
  have hlen:=(h t rfl).2
  change Calls Tryz.prog 54 #[.string (bs (enc t))] w _
  clear h1 hko h hk
  go_enter Tryz.func54,Tryz.ntmps54
  go_wp2_with (first
   | (go_at_call 91;refine (HK.out _).mono ?_;rintro e w1 ⟨rfl,rfl⟩)
   | (go_at_call 62;refine (HT.out _).mono ?_;rintro e w1 ⟨rfl,hb1⟩))
  go_ret
  exact ⟨ret_bsb rfl,by exact bel_by⟩
def Txs (w:World) (v:Value) (ls:List (List UInt8)):Prop:=Strs 0 w v (ls.map bs)
theorem Txs.below {w w':World} {v:Value} {ls:List (List UInt8)} (h:Txs w v ls) (hb:Below w.heap.size w w'):Txs w' v ls:=Strs.below h hb
theorem txs_nil (w:World) (c:Nat):Txs w (.slice none 0 c) []:=⟨none,c,rfl,Sl.nil_⟩
theorem Txs.open_ {w:World} {v:Value} {ls:List (List UInt8)} (h:Txs w v ls):∃A c,v=.slice A ls.length c∧∀k,(hk:k<ls.length)→∃ad,A=some ad∧ad.block<w.heap.size∧w.cell? (ad.add k)=some (.string (bs ls[k])):=by
 obtain ⟨A,c,rfl,hs⟩:=h
 refine ⟨A,c,by simp,fun k hk=>?_⟩
 obtain ⟨ad,h1,h2,h3⟩:=hs.str (k:=k) (by simpa using hk)
 exact ⟨ad,h1,h2,by simpa using h3⟩
theorem rHash_any {o:Option Tm} (ho:fineO o) (w:World):Calls Tryz.prog 27 #[.string (bs (txt o))] w (Says (txt (tHash o)) w):=by
 cases o with
 | none =>
  change Calls Tryz.prog 27 #[.string ⟨#[]⟩] w (Says [] w)
  go_enter Tryz.func27,Tryz.ntmps27
  go_wp2
  go_ret
  exact ⟨rfl,by exact bel_by⟩
 | some t =>
  have hl1:=(ho t rfl).2
  have hE:=enc_isE t
  have HT:=hide (fun W=>rTag_at 7 7 rfl W (by omega))
  have HF:=hide (fun W=>rFits_any ([UInt8.ofNat (240+7)]++enc t) W (by simp;omega))
  have Hl:=hide (show fitsL ([UInt8.ofNat (240+7)]++enc t)=txt (lim (.mk 7 0 0 eB [t])) from lim_txt (by simp [enc,encs,head,mid]))
  change Calls Tryz.prog 27 #[.string (bs (enc t))] w (Says (txt (lim (.mk 7 0 0 eB [t]))) w)
  generalize enc t=et at hl1 HF Hl hE
  go_enter Tryz.func27,Tryz.ntmps27
  go_wp2_with (first
   | (go_at_call 62;refine (HT.out _).mono ?_;rintro e w1 ⟨rfl,hb1⟩)
   | (go_at_call 61;refine (HF.out _).mono ?_;rintro e w3 ⟨rfl,hb3⟩))
  go_ret
  exact ⟨ret_bsb Hl.out,by exact bel_by⟩
@[go_sem] theorem nums_bs (c:Nat):strOfNums [(c:Int)]=bs [UInt8.ofNat c]:=bs_eq (by rw [strOfNums_data];simp)
end Go.Proofs.YtkfnepnghnicoaaGreatDoor

namespace Go.Proofs.YtkfnepnghnicoaaGreatDoor
open Go.RowKit Go.ChangeShapes Go.WideShapes
section
variable {w : World}
theorem wNum_any (n:Nat) (w:World) (h1:n<4294967296):Calls Tryz.prog 189 #[.int .u32 n] w (Says (q4 n) w):=by
 have h0:(0:Int)≤n:=by omega
 go_enter Tryz.func189,Tryz.ntmps189
 go_wp2
 go_ret
 refine ⟨ret_bs ?_,by exact bel_by⟩
 rw [strOfNums_data,q4]
 have e1:((n:Int) / 16777216).toNat=n / 16777216:=by omega
 have e2:((n:Int) / 65536 % 256).toNat=n / 65536 % 256:=by omega
 have e3:((n:Int) / 256 % 256).toNat=n / 256 % 256:=by omega
 have e4:((n:Int) % 256).toNat=n % 256:=by omega
 simp only [List.map_cons,List.map_nil,e1,e2,e3,e4,ofNat_mod]
end
end Go.Proofs.YtkfnepnghnicoaaGreatDoor

namespace Go.Proofs.YtkfnepnghnicoaaGreatDoor
open Go.RowKit Go.ChangeShapes Go.WideShapes Go.Sort
end Go.Proofs.YtkfnepnghnicoaaGreatDoor

namespace Go.Proofs.YtkfnepnghnicoaaGreatDoor
open Go.RowKit Go.ChangeShapes Go.WideShapes
theorem drop4 {s:ByteArray} {p:Nat} (h:p+4≤s.size):s.data.toList.drop p=s[p] :: s[p+1] :: s[p+2] :: s[p+3] :: s.data.toList.drop (p+4):=by
 have hl:s.data.toList.length=s.size:=rfl
 rw [drop_cons (p:=p) (by omega),drop_cons (p:=p+1) (by omega),drop_cons (p:=p+1+1) (by omega),drop_cons (p:=p+1+1+1) (by omega)]
 rfl
theorem rNum_no (s:ByteArray) (p:Nat) (w:World) (hp:p≤1000000000) (hs:s.size≤1000000000) (h:s.size<p+4):Calls Tryz.prog 229 #[.string s,.int .i64 p] w fun e w'=>e=.returned (.tuple #[.int .i64 0,.bool false])∧Below w.heap.size w w':=by
 have hi:((s.size:Int) - (p:Int))<4:=by omega
 go_enter Tryz.func229,Tryz.ntmps229
 go_wp2
 go_ret2
 exact ⟨rfl,by exact bel_by⟩
theorem rNum_yes (s:ByteArray) (p:Nat) (w:World) (hp:p≤1000000000) (hs:s.size≤1000000000) (h:p+4≤s.size):Calls Tryz.prog 229 #[.string s,.int .i64 p] w fun e w'=>e=.returned (.tuple #[.int .i64 (n4 (s.data.toList.drop p)),.bool true])∧Below w.heap.size w w':=by
 have hi:¬ ((s.size:Int) - (p:Int))<4:=by omega
 have h0:(p:Int)<s.size:=by omega
 have h1:(p:Int)+1<s.size:=by omega
 have h2:(p:Int)+2<s.size:=by omega
 have h3:(p:Int)+3<s.size:=by omega
 have w1:IntKind.i64.wrap ((p:Int)+1)=(p:Int)+1:=by rw [IntKind.wrap_i64];omega
 have w2:IntKind.i64.wrap ((p:Int)+2)=(p:Int)+2:=by rw [IntKind.wrap_i64];omega
 have w3:IntKind.i64.wrap ((p:Int)+3)=(p:Int)+3:=by rw [IntKind.wrap_i64];omega
 go_enter Tryz.func229,Tryz.ntmps229
 go_wp2
 have p0:(0:Int)≤p:=by omega
 have p1:(0:Int)≤(p:Int)+1:=by omega
 have p2:(0:Int)≤(p:Int)+2:=by omega
 have p3:(0:Int)≤(p:Int)+3:=by omega
 have e1:((p:Int)+1).toNat=p+1:=by omega
 have e2:((p:Int)+2).toNat=p+2:=by omega
 have e3:((p:Int)+3).toNat=p+3:=by omega
 refine wp_region_quiet_lit (by kernel_rfl) (by kernel_rfl) ?_
 repeat quiet_step (fail)
 refine wpQuiet_nil ?_
 intro _ hw'
 obtain ⟨nq,hw''⟩:=hw'
 subst hw''
 go_wp2
 go_ret2
 refine ⟨?_,by exact bel_by⟩
 have b0:=s[p].toNat_lt
 have b1:=s[p+1].toNat_lt
 have b2:=s[p+2].toNat_lt
 have b3:=s[p+3].toNat_lt
 rw [drop4 h,n4]
 generalize s[p].toNat=x0 at b0 ⊢
 generalize s[p+1].toNat=x1 at b1 ⊢
 generalize s[p+2].toNat=x2 at b2 ⊢
 generalize s[p+3].toNat=x3 at b3 ⊢
 have a0:IntKind.i64.wrap (x0:Int)=x0:=by rw [IntKind.wrap_i64];omega
 have a1:IntKind.i64.wrap (x1:Int)=x1:=by rw [IntKind.wrap_i64];omega
 have a2:IntKind.i64.wrap (x2:Int)=x2:=by rw [IntKind.wrap_i64];omega
 have a3:IntKind.i64.wrap (x3:Int)=x3:=by rw [IntKind.wrap_i64];omega
 have c0:IntKind.i64.wrap ((x0:Int)*16777216)=(x0:Int)*16777216:=by rw [IntKind.wrap_i64];omega
 have c1:IntKind.i64.wrap ((x1:Int)*65536)=(x1:Int)*65536:=by rw [IntKind.wrap_i64];omega
 have c2:IntKind.i64.wrap ((x2:Int)*256)=(x2:Int)*256:=by rw [IntKind.wrap_i64];omega
 have d1:IntKind.i64.wrap ((x0:Int)*16777216+(x1:Int)*65536)=(x0:Int)*16777216+(x1:Int)*65536:=by rw [IntKind.wrap_i64];omega
 have d2:IntKind.i64.wrap ((x0:Int)*16777216+(x1:Int)*65536+(x2:Int)*256)=(x0:Int)*16777216+(x1:Int)*65536+(x2:Int)*256:=by rw [IntKind.wrap_i64];omega
 have d3:IntKind.i64.wrap ((x0:Int)*16777216+(x1:Int)*65536+(x2:Int)*256+(x3:Int))=(x0:Int)*16777216+(x1:Int)*65536+(x2:Int)*256+(x3:Int):=by rw [IntKind.wrap_i64];omega
 simp only [a0,a1,a2,a3,c0,c1,c2,d1,d2,d3]
 congr 5
theorem ext_bs (s:ByteArray) (a b:Nat):s.extract a b=bs ((s.data.toList.drop a).take (b - a)):=bs_eq (by rw [Lib.extract_data])
theorem rTxt_no (s:ByteArray) (p:Nat) (w:World) (hp:p≤1000000000) (hs:s.size≤1000000000) (h:s.size<p+4∨s.size<p+4+n4 (s.data.toList.drop p)):Calls Tryz.prog 228 #[.string s,.int .i64 p] w fun e w'=>e=.returned (.tuple #[.string ⟨#[]⟩,.int .i64 p,.bool false])∧Below w.heap.size w w':=by
 by_cases h4:s.size<p+4
 ·have HN:=hide (fun W=>rNum_no s p W hp hs h4)
  clear h
  go_enter Tryz.func228,Tryz.ntmps228
  go_wp2_with (go_at_call 229;refine (HN.out _).mono ?_;rintro e w1 ⟨rfl,hb1⟩)
  go_ret3
  exact ⟨rfl,by exact bel_by⟩
 ·have HN:=hide (fun W=>rNum_yes s p W hp hs (by omega))
  have h5:s.size<p+4+n4 (s.data.toList.drop p):=by omega
  have hn:=n4_lt (s.data.toList.drop p)
  generalize n4 (s.data.toList.drop p)=n at HN h5 hn
  have hi:(s.size:Int) - (p:Int) - 4<n:=by omega
  clear h
  go_enter Tryz.func228,Tryz.ntmps228
  go_wp2_with (go_at_call 229;refine (HN.out _).mono ?_;rintro e w1 ⟨rfl,hb1⟩)
  go_ret3
  exact ⟨rfl,by exact bel_by⟩
theorem rTxt_yes (s:ByteArray) (p:Nat) (w:World) (hp:p≤1000000000) (hs:s.size≤1000000000) (h4:p+4≤s.size) {n:Nat} (hn:n=n4 (s.data.toList.drop p)) (h:p+4+n≤s.size):Calls Tryz.prog 228 #[.string s,.int .i64 p] w fun e w'=>e=.returned (.tuple #[.string (bs ((s.data.toList.drop (p+4)).take n)),.int .i64 (p+4+n:Nat),.bool true])∧Below w.heap.size w w':=by
 have HN:=hide (fun W=>rNum_yes s p W hp hs h4)
 rw [←hn] at HN
 have hi:¬ (s.size:Int) - (p:Int) - 4<n:=by omega
 have hb1':(p:Int)+4+n≤s.size:=by omega
 have he:s.extract (p+4) (p+4+n)=bs ((s.data.toList.drop (p+4)).take n):=by
  rw [ext_bs]
  congr 2
  omega
 have He:=hide he
 have e1:((p:Int)+4).toNat=p+4:=by omega
 have e2:((p:Int)+4+n).toNat=p+4+n:=by omega
 clear hn he h
 go_enter Tryz.func228,Tryz.ntmps228
 go_wp2_with (go_at_call 229;refine (HN.out _).mono ?_;rintro e w1 ⟨rfl,hb1⟩)
 go_ret3
 exact ⟨by rw [←He.out];rfl,by exact bel_by⟩
theorem rNum_no' (s:ByteArray) (p:Nat) (P:Int) (hP:P=p) (w:World) (hp:p≤1000000000) (hs:s.size≤1000000000) (h:s.size<p+4):Calls Tryz.prog 229 #[.string s,.int .i64 P] w fun e w'=>e=.returned (.tuple #[.int .i64 0,.bool false])∧Below w.heap.size w w':=by
 subst hP
 exact rNum_no s p w hp hs h
theorem rNum_yes' (s:ByteArray) (p:Nat) (P:Int) (hP:P=p) (w:World) (hp:p≤1000000000) (hs:s.size≤1000000000) (h:p+4≤s.size) {n:Nat} (hn:n=n4 (s.data.toList.drop p)):Calls Tryz.prog 229 #[.string s,.int .i64 P] w fun e w'=>e=.returned (.tuple #[.int .i64 n,.bool true])∧Below w.heap.size w w':=by
 subst hP hn
 exact rNum_yes s p w hp hs h
theorem rTxt_no' (s:ByteArray) (p:Nat) (P:Int) (hP:P=p) (w:World) (hp:p≤1000000000) (hs:s.size≤1000000000) (h:s.size<p+4∨s.size<p+4+n4 (s.data.toList.drop p)):Calls Tryz.prog 228 #[.string s,.int .i64 P] w fun e w'=>e=.returned (.tuple #[.string ⟨#[]⟩,.int .i64 P,.bool false])∧Below w.heap.size w w':=by
 subst hP
 exact rTxt_no s p w hp hs h
theorem rTxt_yes' (s:ByteArray) (p:Nat) (P:Int) (hP:P=p) (w:World) (hp:p≤1000000000) (hs:s.size≤1000000000) (h4:p+4≤s.size) {n:Nat} (hn:n=n4 (s.data.toList.drop p)) (h:p+4+n≤s.size) (q:Int) (hq:q=(p+4+n:Nat)) {t:ByteArray} (ht:t=bs ((s.data.toList.drop (p+4)).take n)):Calls Tryz.prog 228 #[.string s,.int .i64 P] w fun e w'=>e=.returned (.tuple #[.string t,.int .i64 q,.bool true])∧Below w.heap.size w w':=by
 subst hP hq ht
 exact rTxt_yes s p w hp hs h4 hn h
end Go.Proofs.YtkfnepnghnicoaaGreatDoor

namespace Go.Proofs.YtkfnepnghnicoaaGreatDoor
open Go.RowKit Go.ChangeShapes Go.WideShapes Go.Sort
theorem add_nil_ (ad:Addr):ad.add 0=ad:=by simp [Addr.add]
theorem add_succ_ (ad:Addr) (m:Nat):ad.add (m+1)=⟨ad.block,ad.off+(m+1),none⟩:=by simp [Addr.add]
theorem len_two {l:List Tm} (h:l.length=2):∃t u,l=[t,u]:=by
 match l,h with
 | [t,u],_=>exact ⟨t,u,rfl⟩
def RightB (k a b:Nat) (s:ByteArray) (l:List Tm):Prop:=hd k a b s l.length∧kids k l
def Righted (k a b:Nat) (s:ByteArray) (l:List Tm) (w:World) (e:Ending) (w':World):Prop:=∃rb:Bool,e=.returned (.bool rb)∧(rb=true↔RightB k a b s l)∧Below w.heap.size w w'
theorem righted_mk {k a b:Nat} {s:ByteArray} {l:List Tm} {w w':World} (rb:Bool) (h:rb=true↔RightB k a b s l) (hb:Below w.heap.size w w'):Righted k a b s l w (.returned (.bool rb)) w':=⟨rb,rfl,h,hb⟩
theorem txs_at {w:World} {A:Option Addr} {n c:Nat} {l:List Tm} (hS:Txs w (.slice A n c) (l.map enc)) {i:Nat} (hi:i<l.length):∃ad,A=some ad∧n=l.length∧w.cell? (ad.add i)=some (.string (bs (enc l[i])))∧ad.block<w.heap.size:=by
 obtain ⟨A',c',e,hc⟩:=hS.open_
 obtain ⟨ad,h1,h2,h3⟩:=hc i (by simpa using hi)
 injection e with e1 e2 e3
 subst e1 e2
 exact ⟨ad,h1,by simp,by simpa using h3,h2⟩
theorem rRight_any {k a b n c:Nat} {s:ByteArray} {l:List Tm} {w:World} {A:Option Addr} (hh:hw k a b s l.length) (hS:Txs w (.slice A n c) (l.map enc)) (hg:∀t∈l,fine t) (hs:s.size≤1000000000) (h5:k=5→l.length≤8) (h10:k=10→l.length≤32) :
  Calls Tryz.prog 230 #[.agg #[.int .i64 k,.int .i64 a,.int .i64 b,.string s,.slice A n c]] w (Righted k a b s l w):=by
 have hk:1≤k∧k≤10:=by
  unfold hw at hh
  split at hh <;> first | omega | exact hh.elim
 obtain rfl | rfl | rfl | rfl | rfl | rfl | rfl | rfl | rfl | rfl:k=1∨k=2∨k=3∨k=4∨k=5∨k=6∨k=7∨k=8∨k=9∨k=10:=by omega
 all_goals simp only [hw] at hh
 ·have Hr:=hide (show RightB 1 a b s l from ⟨hh,trivial⟩)
  clear hh hS hg h5 h10
  go_enter Tryz.func230,Tryz.ntmps230
  go_wp2
  go_ret
  exact righted_mk true ⟨fun _=>Hr.out,fun _=>rfl⟩ (by exact bel_by)
 ·have Hr:=hide (show (okN a && okN b)=true↔RightB 2 a b s l by
   unfold RightB
   simp only [hd,Bool.and_eq_true,okN_iff,kids]
   constructor
   ·rintro ⟨h1,h2⟩
    exact ⟨⟨by omega,by omega,hh.2.2⟩,trivial⟩
   ·rintro ⟨⟨h1,h2,_⟩,_⟩
    exact ⟨by omega,by omega⟩)
  have H1:=hide (fun W=>rNumber_any a W)
  have H2:=hide (fun W=>rNumber_any b W)
  clear hh hS hg h5 h10
  cases e1:okN a with
  | false =>
   rw [e1] at H1 Hr
   clear e1
   go_enter Tryz.func230,Tryz.ntmps230
   go_wp2_with (go_at_call 93;refine (H1.out _).mono ?_;rintro e w1 ⟨rfl,rfl⟩)
   go_ret
   exact righted_mk _ Hr.out (by exact bel_by)
  | true =>
   rw [e1] at H1 Hr
   clear e1
   go_enter Tryz.func230,Tryz.ntmps230
   go_wp2_with (first
    | (go_at_call 93;(with_reducible refine (H1.out _).mono ?_);rintro e w1 ⟨rfl,rfl⟩)
    | (go_at_call 93;(with_reducible refine (H2.out _).mono ?_);rintro e w1 ⟨rfl,rfl⟩))
   go_ret
   exact righted_mk _ Hr.out (by exact bel_by)
 ·have Hr:=hide (show okN a=true↔RightB 3 a b s l by
   unfold RightB
   simp only [hd,okN_iff,kids]
   constructor
   ·rintro h1
    exact ⟨⟨by omega,hh.2⟩,trivial⟩
   ·rintro ⟨⟨h1,_⟩,_⟩
    omega)
  have hb0:b=0:=hh.2.1
  subst hb0
  have H1:=hide (fun W=>rNumber_any a W)
  have H2:=hide (fun W=>rNumber_any 0 W)
  rw [show okN 0=true from rfl] at H2
  clear hh hS hg h5 h10
  cases e1:okN a with
  | false =>
   rw [e1] at H1 Hr
   clear e1
   go_enter Tryz.func230,Tryz.ntmps230
   go_wp2_with (go_at_call 93;refine (H1.out _).mono ?_;rintro e w1 ⟨rfl,rfl⟩)
   go_ret
   exact righted_mk _ Hr.out (by exact bel_by)
  | true =>
   rw [e1] at H1 Hr
   clear e1
   go_enter Tryz.func230,Tryz.ntmps230
   go_wp2_with (first
    | (go_at_call 93;(with_reducible refine (H1.out _).mono ?_);rintro e w1 ⟨rfl,rfl⟩)
    | (go_at_call 93;refine (H2.out _).mono ?_;rintro e w1 ⟨rfl,rfl⟩))
   go_ret
   exact righted_mk _ (by simpa using Hr.out) (by exact bel_by)
 ·obtain ⟨t,rfl⟩:∃t,l=[t]:=List.length_eq_one_iff.1 hh.2.2.1
  obtain ⟨ad,rfl,hn,hc,hab⟩:=txs_at hS (i:=0) (by simp)
  have Hr:=hide (show ((t.k:Int) == 3)=true↔RightB 4 a b s [t] by
   unfold RightB
   simp only [hd,kids,beq_iff_eq]
   constructor
   ·intro h1
    exact ⟨hh,by simp;omega⟩
   ·rintro ⟨_,h2⟩
    have:=h2 t (by simp)
    omega)
  have HK:Hid (∀W,Calls Tryz.prog 91 #[.string (bs (enc t))] W fun e w'=>e=.returned (.int .i64 (t.k:Int))∧W=w'):=fun W=>rKind_any (o:=some t) (fineO_some (hg t (by simp))) W
  subst hn
  simp only [List.length_cons,List.length_nil,Nat.zero_add,List.getElem_cons_zero] at hc ⊢
  have hcw:(w.alloc (.cells #[.int .i64 4,.int .i64 a,.int .i64 b,.string s,.slice (some ad) 1 c] 178)).cell? (ad.add 0)=some (.string (bs (enc t))):=cellAdd ((Below.refl _ _).alloc (Nat.le_refl _) _) hab hc
  rw [add_nil_] at hcw
  generalize enc t=et at hc HK hcw
  generalize t.k=tk at HK Hr
  clear hh hS hg h5 h10 hc
  go_enter Tryz.func230,Tryz.ntmps230
  go_wp2_with (go_at_call 91;refine (HK.out _).mono ?_;rintro e w1 ⟨rfl,rfl⟩)
  go_ret
  exact righted_mk _ Hr.out (by exact bel_by)
 ·have HXX:=hide (fun W=>rText_any s 2100 W (by omega))
  have Hg:=hide hg
  have H8:=hide (h5 rfl)
  have hl8:=h5 rfl
  have Hhh:=hide hh
  have HS:=hide hS
  clear hh hS hg h5 h10
  obtain ⟨A',c',e,hc⟩:=HS.out.open_
  injection e with e1 e2 e3
  subst e1 e2
  have HC:=hide hc
  clear hc
  simp only [List.length_map]
  go_enter Tryz.func230,Tryz.ntmps230
  go_wp2
  go_loopw [3] (fun i wr=>∃(j:Nat),j≤l.length∧i=.int .i64 j∧Hid (∀m (h:m<l.length),m<j→l[m].k=2)∧Hid (∀m (h:m+1<l.length),m+1<j→tlt l[m+1] l[m]=false)∧Below w.heap.size w wr∧Blk wr w.heap.size 178 #[.int .i64 5,.int .i64 a,.int .i64 b,.string s,.slice A l.length c']) (fun i _=>l.length - (intOf i).toNat)
  case atStart=>exact ⟨0,Nat.zero_le _,rfl,hide (fun m h h0=>absurd h0 (by omega)),hide (fun m h h0=>absurd h0 (by omega)),by exact bel_by,Blk.new _ _ _⟩
  case round =>
   obtain ⟨j,hj,rfl,HK2,HO2,hbw,hblk⟩:=hrel
   have q3:wr.cell? ⟨w.heap.size,3,none⟩=some (.string s):=hblk.cell 3
   have q4:wr.cell? ⟨w.heap.size,4,none⟩=some (.slice A l.length c'):=hblk.cell 4
   by_cases hlt:j<l.length
   ·have hji:(j:Int)<l.length:=by omega
    obtain ⟨ad,rfl,hab,hc0⟩:=HC.out j (by simpa using hlt)
    have hc1:=cellAdd hbw hab hc0
    simp only [List.getElem_map] at hc1
    clear hc0
    have HKd:Hid (∀W,Calls Tryz.prog 91 #[.string (bs (enc l[j]))] W fun e w'=>e=.returned (.int .i64 (l[j].k:Int))∧W=w'):=fun W=>rKind_any (o:=some l[j]) (fineO_some (Hg.out _ (List.getElem_mem _))) W
    by_cases hk2:l[j].k=2
    ·rw [hk2] at HKd
     cases j with
     | zero =>
      have hd:decide ((0:Int) > 0)=false:=by decide
      rw [add_nil_] at hc1
      have HKn:=hide (show ∀m (h:m<l.length),m<0+1→l[m].k=2 from fun m h h0=>by
       obtain rfl:m=0:=by omega
       exact hk2)
      clear hk2
      generalize enc l[0]=et at hc1 HKd
      go_wp2_with fail
      go_quiet ((go_at_call 91;exact Calls.quiet_of_same ((HKd.out _).mono fun _ _ h=>⟨h.1,h.2.symm⟩)))
      go_wp2
      exact ⟨⟨1,by omega,rfl,HKn,hide (fun m h h0=>absurd h0 (by omega)),below_drewN hbw _,hblk.drewN _⟩,by simp [intOf];omega⟩
     | succ m =>
      have hd:decide ((m:Int)+1 > 0)=true:=decide_eq_true (by omega)
      rw [add_succ_] at hc1
      have hm:m<l.length:=by omega
      obtain ⟨ad',e',_,hc2⟩:=HC.out m (by simpa using hm)
      injection e' with e'
      subst e'
      have hc3:=cellAdd hbw hab hc2
      simp only [List.getElem_map] at hc3
      clear hc2
      have HKn:=hide (show ∀i (h:i<l.length),i<m+1+1→l[i].k=2 from fun i h h0=>by
       rcases Nat.lt_or_ge i (m+1) with h1 | h1
       ·exact HK2.out i h h1
       ·obtain rfl:i=m+1:=by omega
        exact hk2)
      have hless:=less_nonce (Hg.out _ (List.getElem_mem hlt)).1 (Hg.out _ (List.getElem_mem hm)).1 hk2 (HK2.out m hm (by omega))
      have w1':IntKind.i64.wrap ((m:Int)+1)=(m:Int)+1:=by rw [IntKind.wrap_i64];omega
      have w2':IntKind.i64.wrap (m:Int)=(m:Int):=by rw [IntKind.wrap_i64];omega
      have p0:(0:Int)≤(m:Int)+1:=by omega
      have p1:(0:Int)≤(m:Int):=by omega
      have e0:((m:Int)+1).toNat=m+1:=by omega
      have jz:(m:Int)+1<(l.length:Int):=by omega
      have jz1:(m:Int)<(l.length:Int):=by omega
      clear hk2
      cases hlv:tlt l[m+1] l[m] with
      | true =>
       have Hr:=hide (show false=true↔RightB 5 a b s l from ⟨(fun h=>by cases h),fun h=>by
        have h2:=adj_le h.2.2 hlt
        rw [hlv] at h2
        cases h2⟩)
       rw [hlv] at hless
       clear hlv
       generalize enc l[m+1]=et at hc1 HKd hless
       generalize enc l[m]=eu at hc3 hless
       rw [←bs_toList et,← bs_toList eu] at hless
       go_wp2_with fail
       go_quiet ((go_at_call 91;exact Calls.quiet_of_same ((HKd.out _).mono fun _ _ h=>⟨h.1,h.2.symm⟩)))
       go_wp2
       go_ret
       exact righted_mk _ Hr.out (by exact bel_by)
      | false =>
       have HOn:=hide (show ∀i (h:i+1<l.length),i+1<m+1+1→tlt l[i+1] l[i]=false from fun i h h0=>by
        rcases Nat.lt_or_ge i m with h1 | h1
        ·exact HO2.out i h (by omega)
        ·obtain rfl:i=m:=by omega
         exact hlv)
       rw [hlv] at hless
       clear hlv
       generalize enc l[m+1]=et at hc1 HKd hless
       generalize enc l[m]=eu at hc3 hless
       rw [←bs_toList et,← bs_toList eu] at hless
       go_wp2_with fail
       go_quiet ((go_at_call 91;exact Calls.quiet_of_same ((HKd.out _).mono fun _ _ h=>⟨h.1,h.2.symm⟩)))
       go_wp2
       exact ⟨⟨m+2,by omega,by go_num,HKn,HOn,below_drewN hbw _,hblk.drewN _⟩,by simp [intOf];omega⟩
    ·have ht:((l[j].k:Int) != 2)=true:=by rw [bne_iff_ne];omega
     have Hr:=hide (show false=true↔RightB 5 a b s l from ⟨(fun h=>by cases h),fun h=>absurd (h.2.1 _ (List.getElem_mem hlt)) hk2⟩)
     clear hk2
     generalize enc l[j]=et at hc1 HKd
     generalize l[j].k=kk at HKd ht
     go_wp2_with fail
     go_quiet ((go_at_call 91;exact Calls.quiet_of_same ((HKd.out _).mono fun _ _ h=>⟨h.1,h.2.symm⟩)))
     go_wp2
     go_ret
     exact righted_mk _ Hr.out (by exact bel_by)
   ·have hji:¬ (j:Int)<l.length:=by omega
    have hlj:l.length≤j:=by omega
    have Hr:=hide (show decide (1≤s.size∧(s.size:Int)≤2100)=true↔RightB 5 a b s l by
     unfold RightB
     have hh:=Hhh.out
     simp only [hd,kids,decide_eq_true_eq]
     constructor
     ·intro h0
      exact ⟨⟨hh.1,hh.2.1,H8.out,h0.1,by omega⟩,fun x hx=>by
       obtain ⟨i,hi,rfl⟩:=List.getElem_of_mem hx
       exact HK2.out i hi (by omega),sorted_adj fun i hi=>tle_not.2 (HO2.out i hi (by omega))⟩
     ·rintro ⟨⟨_,_,_,h3,h4⟩,_⟩
      exact ⟨h3,by omega⟩)
    go_wp2_with (go_at_call 249;refine (HXX.out _).mono ?_;rintro e w1 ⟨rfl,rfl⟩)
    go_ret
    exact righted_mk _ (by simpa [Bool.decide_and] using Hr.out) (by exact bel_by)
 ·obtain ⟨t,u,rfl⟩:∃t u,l=[t,u]:=len_two hh.2.2.1
  obtain ⟨ad,rfl,hn,hc,hab⟩:=txs_at hS (i:=0) (by simp)
  have Hr:=hide (show (decide (1≤s.size∧(s.size:Int)≤64) && ((t.k:Int) == 3))=true↔RightB 6 a b s [t,u] by
   unfold RightB
   simp only [hd,kids,beq_iff_eq,Bool.and_eq_true,decide_eq_true_eq]
   constructor
   ·rintro ⟨h0,h1⟩
    exact ⟨⟨hh.1,hh.2.1,hh.2.2.1,h0.1,by omega⟩,by simp;omega⟩
   ·rintro ⟨⟨_,_,_,h3,h4⟩,h2⟩
    have:=h2 t (by simp)
    exact ⟨⟨h3,by omega⟩,by omega⟩)
  have HK:Hid (∀W,Calls Tryz.prog 91 #[.string (bs (enc t))] W fun e w'=>e=.returned (.int .i64 (t.k:Int))∧W=w'):=fun W=>rKind_any (o:=some t) (fineO_some (hg t (by simp))) W
  have HX:=hide (fun W=>rText_any s 64 W (by omega))
  subst hn
  simp only [List.length_cons,List.length_nil,Nat.zero_add,List.getElem_cons_zero] at hc ⊢
  have hcw:(w.alloc (.cells #[.int .i64 6,.int .i64 a,.int .i64 b,.string s,.slice (some ad) 2 c] 178)).cell? (ad.add 0)=some (.string (bs (enc t))):=cellAdd ((Below.refl _ _).alloc (Nat.le_refl _) _) hab hc
  rw [add_nil_] at hcw
  generalize enc t=et at hc HK hcw
  generalize t.k=tk at HK Hr
  clear hh hS hg h5 h10 hc
  cases e1:decide (1≤s.size∧(s.size:Int)≤64) with
  | false =>
   rw [e1] at HX Hr
   clear e1
   go_enter Tryz.func230,Tryz.ntmps230
   go_wp2_with (go_at_call 249;refine (HX.out _).mono ?_;rintro e w1 ⟨rfl,rfl⟩)
   go_ret
   exact righted_mk _ (by simpa using Hr.out) (by exact bel_by)
  | true =>
   rw [e1] at HX Hr
   clear e1
   go_enter Tryz.func230,Tryz.ntmps230
   go_wp2_with (first
    | (go_at_call 249;refine (HX.out _).mono ?_;rintro e w1 ⟨rfl,rfl⟩)
    | (go_at_call 91;refine (HK.out _).mono ?_;rintro e w1 ⟨rfl,rfl⟩))
   go_ret
   exact righted_mk _ (by simpa using Hr.out) (by exact bel_by)
 ·have Hr:=hide (show RightB 7 a b s l from ⟨hh,trivial⟩)
  clear hh hS hg h5 h10
  go_enter Tryz.func230,Tryz.ntmps230
  go_wp2
  go_ret
  exact righted_mk true ⟨fun _=>Hr.out,fun _=>rfl⟩ (by exact bel_by)
 ·have Hr:=hide (show RightB 8 a b s l from ⟨hh,trivial⟩)
  clear hh hS hg h5 h10
  go_enter Tryz.func230,Tryz.ntmps230
  go_wp2
  go_ret
  exact righted_mk true ⟨fun _=>Hr.out,fun _=>rfl⟩ (by exact bel_by)
 ·have Hr:=hide (show RightB 9 a b s l from ⟨hh,trivial⟩)
  clear hh hS hg h5 h10
  go_enter Tryz.func230,Tryz.ntmps230
  go_wp2
  go_ret
  exact righted_mk true ⟨fun _=>Hr.out,fun _=>rfl⟩ (by exact bel_by)
 ·have Hr:=hide (show RightB 10 a b s l from ⟨⟨hh.1,hh.2.1,h10 rfl,hh.2.2.2⟩,trivial⟩)
  clear hh hS hg h5 h10
  go_enter Tryz.func230,Tryz.ntmps230
  go_wp2
  go_ret
  exact righted_mk true ⟨fun _=>Hr.out,fun _=>rfl⟩ (by exact bel_by)
end Go.Proofs.YtkfnepnghnicoaaGreatDoor
namespace Go.Proofs.YtkfnepnghnicoaaGreatDoor
open Go.RowKit Go.ChangeShapes Go.WideShapes
section
variable {w : World}
theorem wPlain_any (l:List UInt8) (w:World):Calls Tryz.prog 217 #[.string (bs l)] w (Says (plainL l) w):=by
 have HT:=hide (fun W=>Tryz.strings_TrimLeft_one (bs l) 0 (by decide) W)
 go_enter Tryz.func217,Tryz.ntmps217
 go_wp2_with (go_at_call 251;refine (HT.out _).mono ?_;rintro e w1 ⟨rfl,rfl⟩)
 go_ret
 exact ⟨rfl,by exact bel_by⟩
theorem wText_bs (l:List UInt8) (w:World) (h1:l.length<4294967296):Calls Tryz.prog 192 #[.string (bs l)] w (Says (q4 l.length++l) w):=by
 have h2:(l.length:Int)<4294967296:=by omega
 go_enter Tryz.func192,Tryz.ntmps192
 go_wp2_with (go_at_call 189;refine (wNum_any l.length _ h1).mono ?_;rintro e w1 ⟨rfl,hb1⟩)
 go_ret
 exact ⟨rfl,hb1⟩
theorem wText_any (s:ByteArray) (w:World) (h1:s.size<4294967296):Calls Tryz.prog 192 #[.string s] w (Says (q4 s.size++s.data.toList) w):=wText_bs s.data.toList w h1
theorem isE_cons (c:UInt8) (r:List UInt8):(bs (c :: r)).toList.isEmpty=false:=by
 rw [bs_toList]
 rfl
theorem wWhole_any (s0:ByteArray) (w:World) (h1:s0.size≤1000000):Calls Tryz.prog 190 #[.string s0] w (Says (wholeL s0.data.toList) w):=by
 have HP:=hide (fun W=>wPlain_any s0.data.toList W)
 rw [show bs s0.data.toList=s0 from rfl] at HP
 have hl:=plainL_len s0.data.toList
 have hsz:=size_len s0
 unfold wholeL
 generalize plainL s0.data.toList=m at HP hl ⊢
 cases m with
 | nil =>
  have HT:=hide (fun W=>wText_any ⟨#[]⟩ W (by decide))
  have HP:=hide (fun W=>(show Calls Tryz.prog 217 #[.string s0] W (fun e w'=>e=.returned (.string ⟨#[]⟩)∧Below W.heap.size W w') from HP.out W))
  go_enter Tryz.func190,Tryz.ntmps190
  go_wp2_with (first
   | (go_at_call 217;refine (HP.out _).mono ?_;rintro e w1 ⟨rfl,hb1⟩)
   | (go_at_call 192;refine (HT.out _).mono ?_;rintro e w2 ⟨rfl,hb2⟩))
  go_ret
  exact ⟨rfl,by exact bel_by⟩
 | cons c r =>
  have HE:=hide (isE_cons c r)
  have HP:=hide (fun W=>(show Calls Tryz.prog 217 #[.string s0] W (fun e w'=>e=.returned (.string (bs (c :: r)))∧Below W.heap.size W w') from HP.out W))
  have hz:0<(bs (c :: r)).size:=by rw [bs_size];simp
  have hz2:(bs (c :: r)).size≤1000000:=by rw [bs_size];omega
  have hb:(bs (c :: r))[0].toNat=c.toNat:=rfl
  have hd:(bs (c :: r)).data.toList=c :: r:=rfl
  have HT:=hide (fun W=>wText_any (bs (c :: r)) W (by rw [bs_size] at hz2 ⊢;omega))
  have HT0:=hide (fun W=>wText_any (⟨#[0]⟩++bs (c :: r)) W (by rw [ByteArray.size_append];rw [bs_size] at hz2 ⊢;have:(⟨#[0]⟩:ByteArray).size=1:=rfl;omega))
  have HS:=hide (show ((⟨#[0]⟩:ByteArray)++bs (c :: r)).data.toList=0 :: c :: r by rw [data_append];rfl)
  generalize bs (c :: r)=s at HP HE hz hz2 hb hd HT HT0 HS
  have hc:=c.toNat_lt
  have he:=HE.out
  by_cases h128:128≤c.toNat
  ·rw [show signL (c :: r)=0 :: c :: r from if_pos h128]
   have hb1:(128:Int)≤(s[0].toNat:Int):=by omega
   have hA:(Says (q4 ((⟨#[0]⟩:ByteArray)++s).size++((⟨#[0]⟩:ByteArray)++s).data.toList))=Says (q4 (0 :: c :: r).length++0 :: c :: r):=by
    rw [←HS.out]
    rfl
   rw [←hA]
   generalize (q4 ((⟨#[0]⟩:ByteArray)++s).size++((⟨#[0]⟩:ByteArray)++s).data.toList)=z at HT0 ⊢
   clear hb hd hA hl HS
   go_enter Tryz.func190,Tryz.ntmps190
   go_wp2_with (first
    | (go_at_call 217;refine (HP.out _).mono ?_;rintro e w1 ⟨rfl,hb1⟩)
    | (go_at_call 192;refine (HT0.out _).mono ?_;rintro e w2 ⟨rfl,hb2⟩))
   go_ret
   exact ⟨rfl,by exact bel_by⟩
  ·rw [show signL (c :: r)=c :: r from if_neg h128]
   have hb1:¬ (128:Int)≤(s[0].toNat:Int):=by omega
   have hA:(Says (q4 s.size++s.data.toList))=Says (q4 (c :: r).length++c :: r):=by
    rw [←hd]
    rfl
   rw [←hA]
   generalize (q4 s.size++s.data.toList)=z at HT ⊢
   clear hb hd hA hl HS
   go_enter Tryz.func190,Tryz.ntmps190
   go_wp2_with (first
    | (go_at_call 217;refine (HP.out _).mono ?_;rintro e w1 ⟨rfl,hb1⟩)
    | (go_at_call 192;refine (HT.out _).mono ?_;rintro e w2 ⟨rfl,hb2⟩))
   go_ret
   exact ⟨rfl,by exact bel_by⟩
end
end Go.Proofs.YtkfnepnghnicoaaGreatDoor

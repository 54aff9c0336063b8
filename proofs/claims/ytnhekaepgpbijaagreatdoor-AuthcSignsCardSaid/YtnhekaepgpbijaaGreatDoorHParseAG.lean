/- Several of my texts in one: RefA, ParseA, WholeA, AsN, Chn. -/
import Derived.Test.YtnhekaepgpbijaaGreatDoorHMkrG
import Derived.Test.YtnhekaepgpbijaaGreatDoorHSignPG
import Derived.Lib.QuietBelow
import Derived.Deep.RegionWith
import Derived.Test.YtnhekaepgpbijaaGreatDoorHPut
import Derived.Deep.DeepCutAuto
import Derived.Deep.CutBlock
import Derived.Deep.RegionLaw
import Derived.Test.YtnhekaepgpbijaaGreatDoorHShelf
import Derived.Deep.RegionHeld3
set_option linter.unusedVariables false
set_option linter.unusedSimpArgs false
set_option maxHeartbeats 40000000
set_option maxRecDepth 100000
namespace Go.Proofs.YtnhekaepgpbijaaGreatDoor
open Go.RowKit Go.ChangeShapes Go.WideShapes Go.Sort
def bs (l:List UInt8):ByteArray:=⟨l.toArray⟩
theorem bs_data (l:List UInt8):(bs l).data.toList=l:=rfl
theorem bs_of (s:ByteArray):bs s.data.toList=s:=rfl
theorem bs_eq {r:ByteArray} {l:List UInt8} (h:r.data.toList=l):r=bs l:=by rw [←h];rfl
@[go_sem] theorem bs_size (l:List UInt8):(bs l).size=l.length:=rfl
@[go_sem] theorem bs_app (l m:List UInt8):bs l++bs m=bs (l++m):=bs_eq (by rw [data_append,bs_data,bs_data])
theorem bs_inj {l m:List UInt8} (h:bs l=bs m):l=m:=by rw [←bs_data l,h,bs_data]
theorem bs_toList (l:List UInt8):(bs l).toList=l:=ByteArray.toList_eq _
theorem ret_bs {r:ByteArray} {l:List UInt8} (h:r.data.toList=l):Ending.returned (.string r)=.returned (.string (bs l)):=by rw [bs_eq h]
theorem ofNat_mod (n:Nat):UInt8.ofNat (n % 256)=UInt8.ofNat n:=by
 apply UInt8.toNat_inj.1
 simp
theorem tx_len {o:Option Tm} (h:fineO o):(txt o).length≤131072:=by
 cases o with
 | none=>exact Nat.zero_le _
 | some t=>exact (h t rfl).2
def Says (l:List UInt8) (w:World) (e:Ending) (w':World):Prop:=e=.returned (.string (bs l))∧Below w.heap.size w w'
theorem rU32_any (n:Nat) (w:World) (h1:n<4294967296):Calls Tryz.prog 87 #[.int .i64 n] w (Says (q4 n) w):=by
 have h0:(0:Int)≤n:=by omega
 go_enter Tryz.func87,Tryz.ntmps87
 go_wp2
 go_ret
 refine ⟨ret_bs ?_,by exact bel_by⟩
 rw [strOfNums_data,q4]
 have e1:((n:Int) / 16777216 % 256).toNat=n / 16777216 % 256:=by omega
 have e2:((n:Int) / 65536 % 256).toNat=n / 65536 % 256:=by omega
 have e3:((n:Int) / 256 % 256).toNat=n / 256 % 256:=by omega
 have e4:((n:Int) % 256).toNat=n % 256:=by omega
 simp only [List.map_cons,List.map_nil,e1,e2,e3,e4,ofNat_mod]
theorem rTag_any (k:Nat) (w:World) (h1:k≤15):Calls Tryz.prog 86 #[.int .i64 k] w (Says [UInt8.ofNat (240+k)] w):=by
 have h0:(0:Int)≤k:=by omega
 have h2:(k:Int)≤15:=by omega
 go_enter Tryz.func86,Tryz.ntmps86
 go_wp2
 go_ret
 refine ⟨ret_bs ?_,by exact bel_by⟩
 rw [strOfNums_data]
 have e1:(240+(k:Int)).toNat=240+k:=by omega
 simp only [List.map_cons,List.map_nil,e1]
def fitsL (l:List UInt8):List UInt8:=if l.length≤131072 then l else []
attribute [go_sem] q4_len
theorem rFits_any (l:List UInt8) (w:World) (h:l.length≤1000000000):Calls Tryz.prog 85 #[.string (bs l)] w (Says (fitsL l) w):=by
 unfold fitsL
 by_cases hl:l.length≤131072
 ·rw [if_pos hl]
  have hi:¬ (131072:Int)<l.length:=by omega
  go_enter Tryz.func85,Tryz.ntmps85
  go_wp2
  go_ret
  exact ⟨rfl,by exact bel_by⟩
 ·rw [if_neg hl]
  have hi:(131072:Int)<l.length:=by omega
  go_enter Tryz.func85,Tryz.ntmps85
  go_wp2
  go_ret
  exact ⟨rfl,by exact bel_by⟩
theorem enc_data (s:ByteArray):[UInt8.ofNat (240+1)]++q4 s.size++s.data.toList=enc (.mk 1 0 0 s []):=by
 simp [enc,head,mid,encs]
theorem fits_lim (t:Tm):fitsL (enc t)=txt (lim t):=by
 unfold lim fitsL
 split <;> rfl
theorem ret_bsb {l m:List UInt8} (h:l=m):Ending.returned (.string (bs l))=.returned (.string (bs m)):=by rw [h]
theorem enc_isE (t:Tm):(bs (enc t)).toList.isEmpty=false:=by
 rw [bs_toList]
 cases e:enc t with
 | nil=>exact absurd e (enc_ne t)
 | cons=>rfl
theorem rTag_at (k:Nat) (n:Int) (hn:n=k) (w:World) (h1:k≤15):Calls Tryz.prog 86 #[.int .i64 n] w (Says [UInt8.ofNat (240+k)] w):=by
 subst hn
 exact rTag_any k w h1
theorem lim_txt {t:Tm} {l:List UInt8} (h:l=enc t):fitsL l=txt (lim t):=by
 subst h
 exact fits_lim t
theorem rData_any (l:List UInt8) (w:World) (h:l.length≤1000000000):Calls Tryz.prog 41 #[.string (bs l)] w (Says (txt (tData (bs l))) w):=by
 by_cases hl:l.length≤131072
 ·have hi:¬ (131072:Int)<l.length:=by omega
  have HT:=hide (fun W=>rTag_at 1 1 rfl W (by omega))
  have HU:=hide (fun W=>rU32_any l.length W (by omega))
  have HF:=hide (fun W=>rFits_any ([UInt8.ofNat (240+1)]++q4 l.length++l) W (by simp [q4_len];omega))
  go_enter Tryz.func41,Tryz.ntmps41
  go_wp2_with (first
   | (go_at_call 86;refine (HT.out _).mono ?_;rintro e w1 ⟨rfl,hb1⟩)
   | (go_at_call 87;refine (HU.out _).mono ?_;rintro e w2 ⟨rfl,hb2⟩)
   | (go_at_call 85;refine (HF.out _).mono ?_;rintro e w3 ⟨rfl,hb3⟩))
  go_ret
  exact ⟨ret_bsb (lim_txt (enc_data (bs l))),by exact bel_by⟩
 ·have hi:(131072:Int)<l.length:=by omega
  have Ho:=hide (show txt (tData (bs l))=[] by
   unfold tData lim
   rw [if_neg]
   ·rfl
   ·rw [←enc_data,bs_size,bs_data]
    simp [q4_len]
    omega)
  rw [Ho.out]
  go_enter Tryz.func41,Tryz.ntmps41
  go_wp2
  go_ret
  exact ⟨rfl,by exact bel_by⟩
def Txs (w:World) (v:Value) (ls:List (List UInt8)):Prop:=Strs 0 w v (ls.map bs)
theorem Txs.below {w w':World} {v:Value} {ls:List (List UInt8)} (h:Txs w v ls) (hb:Below w.heap.size w w'):Txs w' v ls:=Strs.below h hb
theorem txs_nil (w:World) (c:Nat):Txs w (.slice none 0 c) []:=⟨none,c,rfl,Sl.nil_⟩
theorem Txs.open_ {w:World} {v:Value} {ls:List (List UInt8)} (h:Txs w v ls):∃A c,v=.slice A ls.length c∧∀k,(hk:k<ls.length)→∃ad,A=some ad∧ad.block<w.heap.size∧w.cell? (ad.add k)=some (.string (bs ls[k])):=by
 obtain ⟨A,c,rfl,hs⟩:=h
 refine ⟨A,c,by simp,fun k hk=>?_⟩
 obtain ⟨ad,h1,h2,h3⟩:=hs.str (k:=k) (by simpa using hk)
 exact ⟨ad,h1,h2,by simpa using h3⟩
theorem rHash_any {o:Option Tm} (ho:fineO o) (w:World):Calls Tryz.prog 40 #[.string (bs (txt o))] w (Says (txt (tHash o)) w):=by
 cases o with
 | none =>
  change Calls Tryz.prog 40 #[.string ⟨#[]⟩] w (Says [] w)
  go_enter Tryz.func40,Tryz.ntmps40
  go_wp2
  go_ret
  exact ⟨rfl,by exact bel_by⟩
 | some t =>
  have hl1:=(ho t rfl).2
  have hE:=enc_isE t
  have HT:=hide (fun W=>rTag_at 7 7 rfl W (by omega))
  have HF:=hide (fun W=>rFits_any ([UInt8.ofNat (240+7)]++enc t) W (by simp;omega))
  have Hl:=hide (show fitsL ([UInt8.ofNat (240+7)]++enc t)=txt (lim (.mk 7 0 0 eB [t])) from lim_txt (by simp [enc,encs,head,mid]))
  change Calls Tryz.prog 40 #[.string (bs (enc t))] w (Says (txt (lim (.mk 7 0 0 eB [t]))) w)
  generalize enc t=et at hl1 HF Hl hE
  go_enter Tryz.func40,Tryz.ntmps40
  go_wp2_with (first
   | (go_at_call 86;refine (HT.out _).mono ?_;rintro e w1 ⟨rfl,hb1⟩)
   | (go_at_call 85;refine (HF.out _).mono ?_;rintro e w3 ⟨rfl,hb3⟩))
  go_ret
  exact ⟨ret_bsb Hl.out,by exact bel_by⟩
@[go_sem] theorem nums_bs (c:Nat):strOfNums [(c:Int)]=bs [UInt8.ofNat c]:=bs_eq (by rw [strOfNums_data];simp)
end Go.Proofs.YtnhekaepgpbijaaGreatDoor

namespace Go.Proofs.YtnhekaepgpbijaaGreatDoor
open Go.RowKit Go.ChangeShapes Go.WideShapes
section
variable {w : World}
theorem wNum_any (n:Nat) (w:World) (h1:n<4294967296):Calls Tryz.prog 200 #[.int .u32 n] w (Says (q4 n) w):=by
 have h0:(0:Int)≤n:=by omega
 go_enter Tryz.func200,Tryz.ntmps200
 go_wp2
 go_ret
 refine ⟨ret_bs ?_,by exact bel_by⟩
 rw [strOfNums_data,q4]
 have e1:((n:Int) / 16777216).toNat=n / 16777216:=by omega
 have e2:((n:Int) / 65536 % 256).toNat=n / 65536 % 256:=by omega
 have e3:((n:Int) / 256 % 256).toNat=n / 256 % 256:=by omega
 have e4:((n:Int) % 256).toNat=n % 256:=by omega
 simp only [List.map_cons,List.map_nil,e1,e2,e3,e4,ofNat_mod]
theorem cNum_any (n:Nat) (w:World) (h1:n<4294967296):Calls Tryz.prog 342 #[.int .i64 n] w (Says (q4 n) w):=by
 have h0:(0:Int)≤n:=by omega
 have h2:(n:Int)<4294967296:=by omega
 go_enter Tryz.func342,Tryz.ntmps342
 go_wp2_with (go_at_call 200;refine (wNum_any n _ h1).mono ?_;rintro e w1 ⟨rfl,hb1⟩)
 go_ret
 exact ⟨rfl,hb1⟩
theorem cText_any (l:List UInt8) (w:World) (h1:l.length<4294967296):Calls Tryz.prog 341 #[.string (bs l)] w (Says (q4 l.length++l) w):=by
 go_enter Tryz.func341,Tryz.ntmps341
 go_wp2_with (go_at_call 342;refine (cNum_any l.length _ h1).mono ?_;rintro e w1 ⟨rfl,hb1⟩)
 go_ret
 exact ⟨rfl,hb1⟩
end
section
variable {w : World}
theorem cHead1 (a b:Nat) (l:List UInt8) (A:Option Addr) (n c:Nat) (w:World) (ha:a<4294967296) (hb:b<4294967296) (hn:n<4294967296) (hl:l.length<4294967296) :
  Calls Tryz.prog 321 #[.agg #[.int .i64 1,.int .i64 a,.int .i64 b,.string (bs l),.slice A n c]] w (Says (head 1 a b l n) w):=by
 go_enter Tryz.func321,Tryz.ntmps321
 go_wp2_with (first
  | (go_at_call 341;refine (cText_any l _ hl).mono ?_;rintro e w1 ⟨rfl,hb1⟩)
  | (go_at_call 342;refine (cNum_any _ _ (by omega)).mono ?_;rintro e w1 ⟨rfl,hb1⟩))
 go_ret
 refine ⟨ret_bs ?_,by exact bel_by⟩
 simp [head,mid,strOfNums_data,bs]
theorem cHead3 (a b:Nat) (l:List UInt8) (A:Option Addr) (n c:Nat) (w:World) (ha:a<4294967296) (hb:b<4294967296) (hn:n<4294967296) (hl:l.length<4294967296) :
  Calls Tryz.prog 321 #[.agg #[.int .i64 3,.int .i64 a,.int .i64 b,.string (bs l),.slice A n c]] w (Says (head 3 a b l n) w):=by
 go_enter Tryz.func321,Tryz.ntmps321
 go_wp2_with (first
  | (go_at_call 341;refine (cText_any l _ hl).mono ?_;rintro e w1 ⟨rfl,hb1⟩)
  | (go_at_call 342;refine (cNum_any _ _ (by omega)).mono ?_;rintro e w1 ⟨rfl,hb1⟩))
 go_ret
 refine ⟨ret_bs ?_,by exact bel_by⟩
 simp [head,mid,strOfNums_data,bs]
theorem cHead4 (a b:Nat) (l:List UInt8) (A:Option Addr) (n c:Nat) (w:World) (ha:a<4294967296) (hb:b<4294967296) (hn:n<4294967296) (hl:l.length<4294967296) :
  Calls Tryz.prog 321 #[.agg #[.int .i64 4,.int .i64 a,.int .i64 b,.string (bs l),.slice A n c]] w (Says (head 4 a b l n) w):=by
 go_enter Tryz.func321,Tryz.ntmps321
 go_wp2_with (first
  | (go_at_call 341;refine (cText_any l _ hl).mono ?_;rintro e w1 ⟨rfl,hb1⟩)
  | (go_at_call 342;refine (cNum_any _ _ (by omega)).mono ?_;rintro e w1 ⟨rfl,hb1⟩))
 go_ret
 refine ⟨ret_bs ?_,by exact bel_by⟩
 simp [head,mid,strOfNums_data,bs]
theorem cHead6 (a b:Nat) (l:List UInt8) (A:Option Addr) (n c:Nat) (w:World) (ha:a<4294967296) (hb:b<4294967296) (hn:n<4294967296) (hl:l.length<4294967296) :
  Calls Tryz.prog 321 #[.agg #[.int .i64 6,.int .i64 a,.int .i64 b,.string (bs l),.slice A n c]] w (Says (head 6 a b l n) w):=by
 go_enter Tryz.func321,Tryz.ntmps321
 go_wp2_with (first
  | (go_at_call 341;refine (cText_any l _ hl).mono ?_;rintro e w1 ⟨rfl,hb1⟩)
  | (go_at_call 342;refine (cNum_any _ _ (by omega)).mono ?_;rintro e w1 ⟨rfl,hb1⟩))
 go_ret
 refine ⟨ret_bs ?_,by exact bel_by⟩
 simp [head,mid,strOfNums_data,bs]
theorem cHead7 (a b:Nat) (l:List UInt8) (A:Option Addr) (n c:Nat) (w:World) (ha:a<4294967296) (hb:b<4294967296) (hn:n<4294967296) (hl:l.length<4294967296) :
  Calls Tryz.prog 321 #[.agg #[.int .i64 7,.int .i64 a,.int .i64 b,.string (bs l),.slice A n c]] w (Says (head 7 a b l n) w):=by
 go_enter Tryz.func321,Tryz.ntmps321
 go_wp2_with (first
  | (go_at_call 341;refine (cText_any l _ hl).mono ?_;rintro e w1 ⟨rfl,hb1⟩)
  | (go_at_call 342;refine (cNum_any _ _ (by omega)).mono ?_;rintro e w1 ⟨rfl,hb1⟩))
 go_ret
 refine ⟨ret_bs ?_,by exact bel_by⟩
 simp [head,mid,strOfNums_data,bs]
theorem cHead9 (a b:Nat) (l:List UInt8) (A:Option Addr) (n c:Nat) (w:World) (ha:a<4294967296) (hb:b<4294967296) (hn:n<4294967296) (hl:l.length<4294967296) :
  Calls Tryz.prog 321 #[.agg #[.int .i64 9,.int .i64 a,.int .i64 b,.string (bs l),.slice A n c]] w (Says (head 9 a b l n) w):=by
 go_enter Tryz.func321,Tryz.ntmps321
 go_wp2_with (first
  | (go_at_call 341;refine (cText_any l _ hl).mono ?_;rintro e w1 ⟨rfl,hb1⟩)
  | (go_at_call 342;refine (cNum_any _ _ (by omega)).mono ?_;rintro e w1 ⟨rfl,hb1⟩))
 go_ret
 refine ⟨ret_bs ?_,by exact bel_by⟩
 simp [head,mid,strOfNums_data,bs]
theorem cHead10 (a b:Nat) (l:List UInt8) (A:Option Addr) (n c:Nat) (w:World) (ha:a<4294967296) (hb:b<4294967296) (hn:n<4294967296) (hl:l.length<4294967296) :
  Calls Tryz.prog 321 #[.agg #[.int .i64 10,.int .i64 a,.int .i64 b,.string (bs l),.slice A n c]] w (Says (head 10 a b l n) w):=by
 go_enter Tryz.func321,Tryz.ntmps321
 go_wp2_with (first
  | (go_at_call 341;refine (cText_any l _ hl).mono ?_;rintro e w1 ⟨rfl,hb1⟩)
  | (go_at_call 342;refine (cNum_any _ _ (by omega)).mono ?_;rintro e w1 ⟨rfl,hb1⟩))
 go_ret
 refine ⟨ret_bs ?_,by exact bel_by⟩
 simp [head,mid,strOfNums_data,bs]
theorem cHead8 (a b:Nat) (l:List UInt8) (A:Option Addr) (n c:Nat) (w:World) (ha:a<4294967296) (hb:b<256) (hn:n<4294967296) (hl:l.length<4294967296) :
  Calls Tryz.prog 321 #[.agg #[.int .i64 8,.int .i64 a,.int .i64 b,.string (bs l),.slice A n c]] w (Says (head 8 a b l n) w):=by
 have h8:(b:Int) % 256=b:=by omega
 go_enter Tryz.func321,Tryz.ntmps321
 go_wp2_with (first
  | (go_at_call 341;refine (cText_any l _ hl).mono ?_;rintro e w1 ⟨rfl,hb1⟩)
  | (go_at_call 342;refine (cNum_any _ _ (by omega)).mono ?_;rintro e w1 ⟨rfl,hb1⟩))
 go_ret
 refine ⟨ret_bs ?_,by exact bel_by⟩
 simp [head,mid,strOfNums_data,bs]
end
end Go.Proofs.YtnhekaepgpbijaaGreatDoor

namespace Go.Proofs.YtnhekaepgpbijaaGreatDoor
open Go.RowKit Go.ChangeShapes Go.WideShapes Go.Sort
section
variable {w : World}
theorem cHead2 (a b:Nat) (l:List UInt8) (A:Option Addr) (n c:Nat) (w:World) (ha:a<4294967296) (hb:b<4294967296) (hn:n<4294967296) (hl:l.length<4294967296) :
  Calls Tryz.prog 321 #[.agg #[.int .i64 2,.int .i64 a,.int .i64 b,.string (bs l),.slice A n c]] w (Says (head 2 a b l n) w):=by
 go_enter Tryz.func321,Tryz.ntmps321
 go_wp2_with fail
 obtain ⟨W,hW⟩:∃W,W=(w.alloc (.cells #[.int .i64 2,.int .i64 a,.int .i64 b,.string (bs l),.slice A n c] 126)).alloc (.cells #[.int .u8 242] 5):=⟨_,rfl⟩
 rw [←hW]
 have hbW:Below w.heap.size w W:=by rw [hW];exact ((Below.refl _ _).alloc (Nat.le_refl _) _).alloc (by simp) _
 have hk:Blk W w.heap.size 126 #[.int .i64 2,.int .i64 a,.int .i64 b,.string (bs l),.slice A n c]:=by rw [hW];exact (Blk.new w _ _).alloc _
 have C1:=fun dd oo=>cell_regrown (v:=.int .i64 a) (hk.cell 1) dd oo
 have C2:=fun dd oo=>cell_regrown (v:=.int .i64 b) (hk.cell 2) dd oo
 have G1:=hide (fun dd oo=>Calls.regrown_of (v:=.string (bs (q4 a))) (cNum_any a (grow (redrawn W dd) oo) ha))
 have G2:=hide (fun dd oo=>Calls.regrown_of (v:=.string (bs (q4 b))) (cNum_any b (grow (redrawn W dd) oo) hb))
 clear hW hk
 refine wp_region_quiet_below (by kernel_rfl) (by kernel_rfl) ?_
 repeat (quiet_step ((first | (go_at_call 342;with_reducible exact G1.out _ _) | (go_at_call 342;with_reducible exact G2.out _ _))))
 refine wpQuiet_nil ?_
 intro wq hwq
 have hbq:Below W.heap.size W wq:=by
  obtain ⟨p,rfl⟩:=hwq
  exact below_regrown W p.d p.os
 clear hwq
 go_wp2_with fail
 go_ret
 refine ⟨ret_bs ?_,by exact bel_by⟩
 simp [head,mid,strOfNums_data,bs]
theorem cHead5 (a b:Nat) (l:List UInt8) (A:Option Addr) (n c:Nat) (w:World) (ha:a<4294967296) (hb:b<4294967296) (hn:n<4294967296) (hl:l.length<4294967296) :
  Calls Tryz.prog 321 #[.agg #[.int .i64 5,.int .i64 a,.int .i64 b,.string (bs l),.slice A n c]] w (Says (head 5 a b l n) w):=by
 have z1:¬ (9223372036854775807<1+(4+l.length)):=by omega
 have z2:¬ (9223372036854775807<1+(4+l.length)+4):=by omega
 go_enter Tryz.func321,Tryz.ntmps321
 go_wp2_with fail
 obtain ⟨W,hW⟩:∃W,W=(w.alloc (.cells #[.int .i64 5,.int .i64 a,.int .i64 b,.string (bs l),.slice A n c] 126)).alloc (.cells #[.int .u8 245] 5):=⟨_,rfl⟩
 rw [←hW]
 have hbW:Below w.heap.size w W:=by rw [hW];exact ((Below.refl _ _).alloc (Nat.le_refl _) _).alloc (by simp) _
 have hk:Blk W w.heap.size 126 #[.int .i64 5,.int .i64 a,.int .i64 b,.string (bs l),.slice A n c]:=by rw [hW];exact (Blk.new w _ _).alloc _
 have C1:=fun dd oo=>cell_regrown (v:=.string (bs l)) (hk.cell 3) dd oo
 have C2:=fun dd oo=>cell_regrown (v:=.slice A n c) (hk.cell 4) dd oo
 have G1:=hide (fun dd oo=>Calls.regrown_of (v:=.string (bs (q4 l.length++l))) (cText_any l (grow (redrawn W dd) oo) hl))
 have G2:=hide (fun dd oo=>Calls.regrown_of (v:=.string (bs (q4 n))) (cNum_any n (grow (redrawn W dd) oo) hn))
 clear hW hk
 refine wp_region_quiet_below (by kernel_rfl) (by kernel_rfl) ?_
 repeat (quiet_step ((first | (go_at_call 341;with_reducible exact G1.out _ _) | (go_at_call 342;with_reducible exact G2.out _ _))))
 refine wpQuiet_nil ?_
 intro wq hwq
 have hbq:Below W.heap.size W wq:=by
  obtain ⟨p,rfl⟩:=hwq
  exact below_regrown W p.d p.os
 clear hwq
 go_wp2_with fail
 go_ret
 refine ⟨ret_bs ?_,by exact bel_by⟩
 simp [head,mid,strOfNums_data,bs]
theorem cHead_any {t:Tm} (ht:good t) (A:Option Addr) (c:Nat) (w:World) :
  Calls Tryz.prog 321 #[.agg #[.int .i64 t.k,.int .i64 t.a,.int .i64 t.b,.string t.s,.slice A t.l.length c]] w (Says (head t.k t.a t.b t.s.data.toList t.l.length) w):=by
 obtain ⟨k,a,b,s,l⟩:=t
 simp only [good] at ht
 have h1:=ht.1
 have hk:=hd_k h1
 simp only [Tm.k,Tm.a,Tm.b,Tm.s,Tm.l]
 have hz:=size_len s
 have hs:s=bs s.data.toList:=rfl
 generalize s.data.toList=m at hz hs ⊢
 subst hs
 generalize l.length=n at h1 ⊢
 clear ht
 obtain rfl | rfl | rfl | rfl | rfl | rfl | rfl | rfl | rfl | rfl:k=1∨k=2∨k=3∨k=4∨k=5∨k=6∨k=7∨k=8∨k=9∨k=10:=by omega
 all_goals simp only [hd] at h1
 ·exact cHead1 a b m A n c w (by omega) (by omega) (by omega) (by omega)
 ·exact cHead2 a b m A n c w (by omega) (by omega) (by omega) (by rw [hz,h1.2.2.2];exact (by decide:(0:Nat)<4294967296))
 ·exact cHead3 a b m A n c w (by omega) (by omega) (by omega) (by rw [hz,h1.2.2.2];exact (by decide:(0:Nat)<4294967296))
 ·exact cHead4 a b m A n c w (by omega) (by omega) (by omega) (by rw [hz,h1.2.2.2];exact (by decide:(0:Nat)<4294967296))
 ·exact cHead5 a b m A n c w (by omega) (by omega) (by omega) (by omega)
 ·exact cHead6 a b m A n c w (by omega) (by omega) (by omega) (by omega)
 ·exact cHead7 a b m A n c w (by omega) (by omega) (by omega) (by rw [hz,h1.2.2.2];exact (by decide:(0:Nat)<4294967296))
 ·exact cHead8 a b m A n c w (by omega) (by omega) (by omega) (by rw [hz,h1.2.2.2];exact (by decide:(0:Nat)<4294967296))
 ·exact cHead9 a b m A n c w (by omega) (by omega) (by omega) (by rw [hz,h1.2.2.2];exact (by decide:(0:Nat)<4294967296))
 ·exact cHead10 a b m A n c w (by omega) (by omega) (by omega) (by rw [hz,h1.2.2.2];exact (by decide:(0:Nat)<4294967296))
end
end Go.Proofs.YtnhekaepgpbijaaGreatDoor

namespace Go.Proofs.YtnhekaepgpbijaaGreatDoor
open Go.RowKit Go.ChangeShapes Go.WideShapes
theorem ext_bs (s:ByteArray) (a b:Nat):s.extract a b=bs ((s.data.toList.drop a).take (b - a)):=bs_eq (by rw [Lib.extract_data])
end Go.Proofs.YtnhekaepgpbijaaGreatDoor

namespace Go.Proofs.YtnhekaepgpbijaaGreatDoor
open Go.RowKit Go.ChangeShapes Go.WideShapes Go.Sort
theorem add_nil_ (ad:Addr):ad.add 0=ad:=by simp [Addr.add]
theorem add_succ_ (ad:Addr) (m:Nat):ad.add (m+1)=⟨ad.block,ad.off+(m+1),none⟩:=by simp [Addr.add]
def TxL (lo:Nat) (w:World) (v:Value) (ls:List (List UInt8)):Prop:=Strs lo w v (ls.map bs)
theorem TxL.txs {lo:Nat} {w:World} {v:Value} {ls:List (List UInt8)} (h:TxL lo w v ls):Txs w v ls:=Strs.mono h (Nat.zero_le _)
def Parsed (s:ByteArray) (p:Nat) (w:World) (e:Ending) (w':World):Prop:=Below w.heap.size w w' ∧
  ((NoT (s.data.toList.drop p)∧e=.returned (.tuple #[.agg #[.int .i64 0,.int .i64 0,.int .i64 0,.string ⟨#[]⟩,.slice none 0 0],.int .i64 p,.bool false])) ∨
   ∃(t:Tm) (q:Nat) (A:Option Addr) (n c:Nat),good t∧p<q∧q≤s.size∧s.data.toList.drop p=enc t++s.data.toList.drop q∧TxL w.heap.size w' (.slice A n c) (t.l.map enc) ∧
     e=.returned (.tuple #[.agg #[.int .i64 t.k,.int .i64 t.a,.int .i64 t.b,.string t.s,.slice A n c],.int .i64 q,.bool true]))
theorem Parsed.no {s:ByteArray} {p:Nat} {w w':World} (h:NoT (s.data.toList.drop p)) (hb:Below w.heap.size w w'):Parsed s p w (.returned (.tuple #[.agg #[.int .i64 0,.int .i64 0,.int .i64 0,.string ⟨#[]⟩,.slice none 0 0],.int .i64 p,.bool false])) w' :=
 ⟨hb,.inl ⟨h,rfl⟩⟩
def Pre (s:ByteArray) (p:Nat) (w:World) (ve vi vm:Value) (wx:World):Prop :=
  Below w.heap.size w wx∧Blk wx w.heap.size 274 #[.int .i64 0,.int .i64 0,.int .i64 0,.string ⟨#[]⟩,.slice none 0 0] ∧
  ((∃(en m:Int),ve=.int .i64 en∧vi=.bool false∧vm=.int .i64 m∧NoT (s.data.toList.drop p)) ∨
   ∃(k a b:Nat) (s':ByteArray) (n q:Nat) (c:UInt8),ve=.int .i64 q∧vi=.bool true∧vm=.int .i64 n∧s.data.toList.drop p=c :: s.data.toList.drop (p+1)∧c.toNat=240+k∧k≤10∧Hed k a b s' n (s.data.toList.drop (p+1)) (s.data.toList.drop q)∧p<q∧q≤s.size∧s'.size≤131072∧(k=5→n≤8)∧(k=10→n≤32) ∧
     Blk wx (w.heap.size+1) 274 #[.int .i64 k,.int .i64 a,.int .i64 b,.string s',.slice none 0 0])
section
variable {s : ByteArray} {p : Nat} {w wx : World}
theorem Pre.no {en m:Int} (hb:Below w.heap.size w wx) (hz:Blk wx w.heap.size 274 #[.int .i64 0,.int .i64 0,.int .i64 0,.string ⟨#[]⟩,.slice none 0 0]) (h:NoT (s.data.toList.drop p)):Pre s p w (.int .i64 en) (.bool false) (.int .i64 m) wx :=
 ⟨hb,hz,.inl ⟨en,m,rfl,rfl,rfl,h⟩⟩
theorem Pre.yes {k a b n q:Nat} {s':ByteArray} {c:UInt8} (hb:Below w.heap.size w wx) (hz:Blk wx w.heap.size 274 #[.int .i64 0,.int .i64 0,.int .i64 0,.string ⟨#[]⟩,.slice none 0 0])
  (h1:s.data.toList.drop p=c :: s.data.toList.drop (p+1)) (h2:c.toNat=240+k) (h3:k≤10) (h4:Hed k a b s' n (s.data.toList.drop (p+1)) (s.data.toList.drop q)) (h5:p<q) (h6:q≤s.size) (h7:s'.size≤131072) (h8:k=5→n≤8) (h9:k=10→n≤32)
  (hx:Blk wx (w.heap.size+1) 274 #[.int .i64 k,.int .i64 a,.int .i64 b,.string s',.slice none 0 0]) {ve vm:Value} (e1:ve=.int .i64 q) (e2:vm=.int .i64 n):Pre s p w ve (.bool true) vm wx :=
 ⟨hb,hz,.inr ⟨k,a,b,s',n,q,c,e1,rfl,e2,h1,h2,h3,h4,h5,h6,h7,h8,h9,hx⟩⟩
end
theorem own_txs {w:World} {B i:Nat} {e:TypeId} {v:Value} {ls:List (List UInt8)} (h:w.ownsRow B e 1 v i ((ls.map bs).map Value.string)) (hi:i=ls.length):Txs w v ls:=by
 subst hi
 rcases h.2 with ⟨rfl,h0⟩ | ⟨g,cap,cur,rfl,hb,hh,hnc,hx⟩
 ·have:ls=[]:=List.eq_nil_of_length_eq_zero h0
  subst this
  exact txs_nil _ _
 ·have hr:=Reads.of_own h
  exact ⟨some ⟨g,0,none⟩,cap,by simp,by simpa using Sl.of_reads hr⟩
end Go.Proofs.YtnhekaepgpbijaaGreatDoor
namespace Go.Proofs.YtnhekaepgpbijaaGreatDoor
open Go.RowKit Go.ChangeShapes Go.WideShapes
section
variable {w : World}
theorem wPlain_any (l:List UInt8) (w:World):Calls Tryz.prog 236 #[.string (bs l)] w (Says (plainL l) w):=by
 have HT:=hide (fun W=>Tryz.strings_TrimLeft_one (bs l) 0 (by decide) W)
 go_enter Tryz.func236,Tryz.ntmps236
 go_wp2_with (go_at_call 277;refine (HT.out _).mono ?_;rintro e w1 ⟨rfl,rfl⟩)
 go_ret
 exact ⟨rfl,by exact bel_by⟩
theorem wText_bs (l:List UInt8) (w:World) (h1:l.length<4294967296):Calls Tryz.prog 203 #[.string (bs l)] w (Says (q4 l.length++l) w):=by
 have h2:(l.length:Int)<4294967296:=by omega
 go_enter Tryz.func203,Tryz.ntmps203
 go_wp2_with (go_at_call 200;refine (wNum_any l.length _ h1).mono ?_;rintro e w1 ⟨rfl,hb1⟩)
 go_ret
 exact ⟨rfl,hb1⟩
theorem wText_any (s:ByteArray) (w:World) (h1:s.size<4294967296):Calls Tryz.prog 203 #[.string s] w (Says (q4 s.size++s.data.toList) w):=wText_bs s.data.toList w h1
theorem isE_cons (c:UInt8) (r:List UInt8):(bs (c :: r)).toList.isEmpty=false:=by
 rw [bs_toList]
 rfl
theorem wWhole_any (s0:ByteArray) (w:World) (h1:s0.size≤1000000):Calls Tryz.prog 201 #[.string s0] w (Says (wholeL s0.data.toList) w):=by
 have HP:=hide (fun W=>wPlain_any s0.data.toList W)
 rw [show bs s0.data.toList=s0 from rfl] at HP
 have hl:=plainL_len s0.data.toList
 have hsz:=size_len s0
 unfold wholeL
 generalize plainL s0.data.toList=m at HP hl ⊢
 cases m with
 | nil =>
  have HT:=hide (fun W=>wText_any ⟨#[]⟩ W (by decide))
  have HP:=hide (fun W=>(show Calls Tryz.prog 236 #[.string s0] W (fun e w'=>e=.returned (.string ⟨#[]⟩)∧Below W.heap.size W w') from HP.out W))
  go_enter Tryz.func201,Tryz.ntmps201
  go_wp2_with (first
   | (go_at_call 236;refine (HP.out _).mono ?_;rintro e w1 ⟨rfl,hb1⟩)
   | (go_at_call 203;refine (HT.out _).mono ?_;rintro e w2 ⟨rfl,hb2⟩))
  go_ret
  exact ⟨rfl,by exact bel_by⟩
 | cons c r =>
  have HE:=hide (isE_cons c r)
  have HP:=hide (fun W=>(show Calls Tryz.prog 236 #[.string s0] W (fun e w'=>e=.returned (.string (bs (c :: r)))∧Below W.heap.size W w') from HP.out W))
  have hz:0<(bs (c :: r)).size:=by rw [bs_size];simp
  have hz2:(bs (c :: r)).size≤1000000:=by rw [bs_size];omega
  have hb:(bs (c :: r))[0].toNat=c.toNat:=rfl
  have hd:(bs (c :: r)).data.toList=c :: r:=rfl
  have HT:=hide (fun W=>wText_any (bs (c :: r)) W (by rw [bs_size] at hz2 ⊢;omega))
  have HT0:=hide (fun W=>wText_any (⟨#[0]⟩++bs (c :: r)) W (by rw [ByteArray.size_append];rw [bs_size] at hz2 ⊢;have:(⟨#[0]⟩:ByteArray).size=1:=rfl;omega))
  have HS:=hide (show ((⟨#[0]⟩:ByteArray)++bs (c :: r)).data.toList=0 :: c :: r by rw [data_append];rfl)
  generalize bs (c :: r)=s at HP HE hz hz2 hb hd HT HT0 HS
  have hc:=c.toNat_lt
  have he:=HE.out
  by_cases h128:128≤c.toNat
  ·rw [show signL (c :: r)=0 :: c :: r from if_pos h128]
   have hb1:(128:Int)≤(s[0].toNat:Int):=by omega
   have hA:(Says (q4 ((⟨#[0]⟩:ByteArray)++s).size++((⟨#[0]⟩:ByteArray)++s).data.toList))=Says (q4 (0 :: c :: r).length++0 :: c :: r):=by
    rw [←HS.out]
    rfl
   rw [←hA]
   generalize (q4 ((⟨#[0]⟩:ByteArray)++s).size++((⟨#[0]⟩:ByteArray)++s).data.toList)=z at HT0 ⊢
   clear hb hd hA hl HS
   go_enter Tryz.func201,Tryz.ntmps201
   go_wp2_with (first
    | (go_at_call 236;refine (HP.out _).mono ?_;rintro e w1 ⟨rfl,hb1⟩)
    | (go_at_call 203;refine (HT0.out _).mono ?_;rintro e w2 ⟨rfl,hb2⟩))
   go_ret
   exact ⟨rfl,by exact bel_by⟩
  ·rw [show signL (c :: r)=c :: r from if_neg h128]
   have hb1:¬ (128:Int)≤(s[0].toNat:Int):=by omega
   have hA:(Says (q4 s.size++s.data.toList))=Says (q4 (c :: r).length++c :: r):=by
    rw [←hd]
    rfl
   rw [←hA]
   generalize (q4 s.size++s.data.toList)=z at HT ⊢
   clear hb hd hA hl HS
   go_enter Tryz.func201,Tryz.ntmps201
   go_wp2_with (first
    | (go_at_call 236;refine (HP.out _).mono ?_;rintro e w1 ⟨rfl,hb1⟩)
    | (go_at_call 203;refine (HT.out _).mono ?_;rintro e w2 ⟨rfl,hb2⟩))
   go_ret
   exact ⟨rfl,by exact bel_by⟩
end
end Go.Proofs.YtnhekaepgpbijaaGreatDoor
namespace Go.Proofs.YtnhekaepgpbijaaGreatDoor
open Go.RowKit Go.Extern.Stop Go.Stop Go.Extern
def errV (b:Nat):Value:=.iface 168 (.pointer (some ⟨b,0,none⟩))
def IsErr (w:World):Value→List (List UInt8)→Int→Prop
 | v,[],k=>v=.iface 43 (.int .i64 k)
 | v,s :: r,k=>∃b v',v=errV b∧Blk w b 170 #[.string (bs s),v']∧IsErr w v' r k
theorem IsErr.below {w w':World} (hb:Below w.heap.size w w'):∀{ps:List (List UInt8)} {v:Value} {k:Int},IsErr w v ps k→IsErr w' v ps k
 | [],_,_,h=>h
 | _ :: _,_,_,h=>by
  obtain ⟨b,v',e,hB,h2⟩:=h
  exact ⟨b,v',e,hB.below hb hB.lt,IsErr.below hb h2⟩
theorem IsErr.own {w w':World} {g:Nat} {t:TypeId} {cs:Array Value} (hg:Blk w g t cs) (hne:t≠170) (hb:w.grownBy w' (some g)):∀{ps:List (List UInt8)} {v:Value} {k:Int},IsErr w v ps k→IsErr w' v ps k
 | [],_,_,h=>h
 | _ :: _,_,_,h=>by
  obtain ⟨b,v',e,hB,h2⟩:=h
  exact ⟨b,v',e,hB.grown hb (fun e2=>Blk.ne_ hg hB hne (Option.some.inj e2).symm),IsErr.own hg hne hb h2⟩
end Go.Proofs.YtnhekaepgpbijaaGreatDoor
namespace Go.Proofs.YtnhekaepgpbijaaGreatDoor
open Go.RowKit
section
variable {w : World}
theorem fof_any (s:ByteArray) (k:Int) (hk:(k == 0)=false) (w:World):Calls Tryz.prog 43 #[.string s,.int .i64 k] w (fun e w'=>∃b,e=.returned (errV b)∧IsErr w' (errV b) [s.data.toList] k∧Below w.heap.size w w'):=by
 go_enter Tryz.func43,Tryz.ntmps43
 go_wp2
 go_ret
 exact ⟨w.heap.size,rfl,⟨_,_,rfl,Blk.new _ _ _,rfl⟩,by exact bel_by⟩
theorem fof_nil (s:ByteArray) (w:World):Calls Tryz.prog 43 #[.string s,.int .i64 0] w (fun e w'=>e=.returned .nilIface∧w'=w):=by
 go_enter Tryz.func43,Tryz.ntmps43
 go_wp2
 go_ret
 exact ⟨rfl,rfl⟩
theorem fat_any (s:ByteArray) (b:Nat) {ps:List (List UInt8)} {k:Int} (h:IsErr w (errV b) ps k):Calls Tryz.prog 47 #[.string s,errV b] w (fun e w'=>∃b',e=.returned (errV b')∧IsErr w' (errV b') (s.data.toList :: ps) k∧Below w.heap.size w w'):=by
 have H:=hide (fun w' (hb:Below w.heap.size w w')=>h.below hb)
 unfold errV
 clear h
 go_enter Tryz.func47,Tryz.ntmps47
 go_wp2
 go_ret
 exact ⟨w.heap.size,rfl,⟨_,_,rfl,Blk.new _ _ _,H.out _ (by exact bel_by)⟩,by exact bel_by⟩
theorem own_belowN {B0 size n:Nat} {t:TypeId} {v:Value} {xs:List Value} {w w':World} (h:w.ownsRow B0 t size v n xs) (hb:Below w.heap.size w w'):w'.ownsRow B0 t size v n xs:=by
 refine h.kept (only_of_below hb none) ?_
 cases eo:v.ownBlock with
 | none=>exact .inl rfl
 | some i=>exact .inr (fun e=>by cases e)
theorem own_slN {w:World} {base:Nat} {e:TypeId} {size n:Nat} {v:Value} {xs:List Value} (h:w.ownsRow base e size v n xs):∃A c,v=.slice A n c:=by
 rcases h.2 with ⟨rfl,rfl⟩ | ⟨g',cap,cur,rfl,_⟩
 ·exact ⟨none,0,rfl⟩
 ·exact ⟨_,_,rfl⟩
theorem reads_blkN {W:World} {b:Nat} {t:TypeId} {us:List Value} {size m:Nat} (h:Blk W b t us.toArray) (hl:us.length=m*size):Reads W W.heap.size size (some ⟨b,0,none⟩) m us :=
 ⟨hl,fun _=>⟨_,rfl,h.lt,fun j u hu=>by rw [add_zero_,h.cell j];simpa using hu⟩⟩
theorem info_partsN {o:Option TypeInfo} {z:Option Value} {n b:Nat} (h:o.map (fun i=>(i.zero,i.size,i.bytes))=some (z,n,b)):∃i,o=some i∧i.zero=z∧i.size=n∧i.bytes=b:=by
 cases o with
 | none=>cases h
 | some i =>
  simp only [Option.map_some,Option.some.injEq,Prod.mk.injEq] at h
  exact ⟨i,rfl,h.1,h.2.1,h.2.2⟩
theorem infoStN:(Tryz.prog.info? 9).map (fun i=>(i.zero,i.size,i.bytes))=some (some (.string ⟨#[]⟩),1,16):=by kernel_rfl
def lenV:Value→Nat
 | .slice _ n _=>n
 | _=>0
structure PathI (w:World) (ps:List (List UInt8)) (k:Int) (tb:Nat) (i:Nat) (A:Option Addr) (c:Nat) (vi:Value) (wr:World):Prop where
 err:IsErr w vi (ps.drop i) k
 own:wr.ownsRow w.heap.size 9 1 (.slice A i c) i (((ps.take i).map bs).map Value.string)
 blk:∃p,Blk wr tb 168 #[.pointer p]
 bel:Below w.heap.size w wr
end
end Go.Proofs.YtnhekaepgpbijaaGreatDoor

/- Several of my texts in one: RdrC, RdrD. -/
import Derived.Test.YtnhekaepgpbijaaGreatDoorHRdrBG
set_option linter.unusedVariables false
set_option linter.unusedSimpArgs false
set_option maxHeartbeats 40000000
set_option maxRecDepth 100000
namespace Go.Proofs.YtnhekaepgpbijaaGreatDoor
open Go.RowKit Go.ChangeShapes Go.WideShapes Go.Sort
section
variable {B b g p N : Nat} {s : ByteArray} {T : List Tm} {S : Nat → Prop} {w w1 : World}
theorem IdO.base {B0 B1:Nat} {ms:List (Option Tm)} {v:Value} (h:IdO B0 w T ms v S) (hb:B1≤B0):IdO B1 w T ms v S:=by
 obtain ⟨⟨ns,h1,h2⟩,h3⟩:=h
 exact ⟨⟨ns,own_base h1 hb,h2⟩,h3⟩
theorem SomeP.from_ {n:Nat} {e:Ending} {w':World} (h:SomeP B b g s p n T S w1 e w') (hG:Grown (SR b S) w (SR b S) w1):SomeP B b g s p n T S w e w':=by
 rcases h with ⟨T',S',p',h1,h2,h3,h4,h5⟩ | ⟨T',S',p',l,A,c,h1,h2,h3,h4,h5,h6,h7,h8⟩
 ·exact .inl ⟨T',S',p',h1,h2,h3,hG.trans h4,h5⟩
 ·exact .inr ⟨T',S',p',l,A,c,h1,h2,h3,h4,h5.base hG.size,h6,hG.trans h7,h8⟩
def CountN (B b g:Nat) (s:ByteArray) (p:Nat) (T:List Tm) (S:Nat→Prop) (w:World) (e:Ending) (w':World):Prop :=
 ∃p',e=.returned (.tuple #[.slice none 0 0,.bool false])∧Rd B b g s p' T S w'∧Grown (SR b S) w (SR b S) w'∧p≤p'
theorem counted_no1 (h:Rd B b g s p T S w) (most:Int) (h4:s.size<p+4):Calls Tryz.prog 178 #[.pointer (some ⟨b,0,none⟩),.int .i64 most] w (CountN B b g s p T S w):=by
 have HN:=hide (cNum_no h.bk (by have:=h.hs;omega) h.hp h4)
 have H:=hide h
 clear h
 go_enter Tryz.func178,Tryz.ntmps178
 go_wp2_with (go_at_call 175;refine HN.out.mono ?_;rintro e w1 ⟨rfl,hB1,hG1⟩)
 go_ret2
 exact ⟨p,rfl,H.out.by_ hB1 hG1 H.out.hp (Nat.le_refl _),grown_by hG1,Nat.le_refl _⟩
theorem counted_no2 (h:Rd B b g s p T S w) (most:Int) (h4:p+4≤s.size) {n:Nat} (hn:n=n4 (s.data.toList.drop p)) (hm:most<(n:Int)):Calls Tryz.prog 178 #[.pointer (some ⟨b,0,none⟩),.int .i64 most] w (CountN B b g s p T S w):=by
 have HN:=hide (cNum_yes h.bk (by have:=h.hs;omega) h4)
 rw [←hn] at HN
 have H:=hide h
 clear h hn
 go_enter Tryz.func178,Tryz.ntmps178
 go_wp2_with (go_at_call 175;refine HN.out.mono ?_;rintro e w1 ⟨rfl,hB1,hG1⟩)
 go_ret2
 exact ⟨p+4,rfl,H.out.by_ hB1 hG1 h4 (by omega),grown_by hG1,by omega⟩
theorem counted_yes (IH:TermIH B b g s N) (h:Rd B b g s p T S w) (hN:s.size - p≤N) (most:Int) (h4:p+4≤s.size) {n:Nat} (hn:n=n4 (s.data.toList.drop p)) (hm:(n:Int)≤most) (hn2:n≤1000):Calls Tryz.prog 178 #[.pointer (some ⟨b,0,none⟩),.int .i64 most] w (SomeP B b g s (p+4) n T S w):=by
 have HNu:=hide (cNum_yes h.bk (by have:=h.hs;omega) h4)
 rw [←hn] at HNu
 have H:=hide h
 have HIH:=hide IH
 have hm':¬ (most<(n:Int)):=by omega
 clear h hn IH
 go_enter Tryz.func178,Tryz.ntmps178
 go_wp2_with (first
  | (go_at_call 175;refine HNu.out.mono ?_;rintro e w1 ⟨rfl,hB1,hG1⟩;have hR1:=H.out.by_ hB1 hG1 h4 (by omega);have HS:=hide (some_any HIH.out hR1 (by omega) n hn2))
  | fail)
 refine HS.out.mono ?_
 rintro e w2 hS
 have hS:=hS.from_ (grown_by hG1)
 rcases hS with ⟨T',S',p',rfl,h2⟩ | ⟨T',S',p',l,A,c,rfl,h2⟩
 ·go_wp2_with fail
  go_ret2
  exact .inl ⟨T',S',p',rfl,h2⟩
 ·go_wp2_with fail
  go_ret2
  exact .inr ⟨T',S',p',l,A,c,rfl,h2⟩
theorem ido_cells {B0 n:Nat} {A:Option Addr} {c:Nat} {l:List Tm} (h:IdO B0 w T (l.map some) (.slice A n c) S) (hn:l.length=n) (h0:0<n):∃gb,A=some ⟨gb,0,none⟩∧gb<w.heap.size∧∀(k:Nat) (t:Tm),l[k]?=some t→∃m:Int,w.cell? ⟨gb,k,none⟩=some (.int .i64 m)∧Idn T (some t) m:=by
 obtain ⟨⟨ns,h1,h2⟩,h3⟩:=h
 have hl:(l.map some).length=n:=by simpa using hn
 rw [hl] at h1
 obtain ⟨gb,cap,hv,_,hlt⟩:=h1.form h0
 have hA:A=some ⟨gb,0,none⟩:=by injection hv
 refine ⟨gb,hA,hlt,fun k t hk=>?_⟩
 have hkl:=(List.getElem?_eq_some_iff.1 hk).1
 have hns:k<ns.length:=by rw [h2.1];simpa using hkl
 have hc:=h1.cells (g:=gb) (by rw [hv];rfl) k (.int .i64 ns[k]) (by rw [List.getElem?_map,List.getElem?_eq_getElem hns];rfl)
 rw [add_zero_] at hc
 exact ⟨ns[k],hc,h2.2 k (some t) _ (by rw [List.getElem?_map,hk];rfl) (List.getElem?_eq_getElem hns)⟩
theorem arg_of {n:Int} {t:Tm} (h:Idn T (some t) n):arg T n=some t:=h.1

theorem cl1_any (h:Use B w g T S) (hbk:Bk w b g s p) {bx gb c:Nat} (hx:Blk w bx 176 #[.pointer (some ⟨b,0,none⟩)]) {n0:Int} (c0:w.cell? ⟨gb,0,none⟩=some (.int .i64 n0)) (nx:¬ S bx) (nb:¬ S b) (ng:¬ S gb) :
  Calls Tryz.prog 168 #[.slice (some ⟨gb,0,none⟩) 1 c,.pointer (some ⟨bx,0,none⟩)] w (Done B w g T S (tPub (arg T n0))):=by
 have HP:=hide (fun (W:World) (hb:Below w.heap.size w W)=>aPub_any (h.below hb) n0)
 have x0:w.cell? ⟨bx,0,none⟩=some (.pointer (some ⟨b,0,none⟩)):=hx.cell 0
 have b0:w.cell? ⟨b,0,none⟩=some (.pointer (some ⟨g,0,none⟩)):=Blk.cell hbk 0
 clear h hbk hx
 go_enter Tryz.func168,Tryz.ntmps168
 go_upto_region 1 with fail
 go_region_held3 (fun W=>W.cell? ⟨bx,0,none⟩=some (.pointer (some ⟨b,0,none⟩))∧W.cell? ⟨b,0,none⟩=some (.pointer (some ⟨g,0,none⟩))∧W.cell? ⟨gb,0,none⟩=some (.int .i64 n0))
  (exact ⟨x0,b0,c0⟩)
  (first
   | (go_at_call 14;refine (HP.out _ (by exact bel_by)).mono ?_;rintro e w' ⟨T',n,S',rfl,hp,hA,hG⟩;replace x0:=hG.outs.cell x0 nx;replace b0:=hG.outs.cell b0 nb;replace c0:=hG.outs.cell c0 ng)
   | fail)
 all_goals go_wp2_with fail
 all_goals go_ret
 all_goals exact ⟨T',n,S',rfl,hp,hA,(Grown.of_below (by exact bel_by)).trans hG⟩
theorem cl2_any (h:Use B w g T S) (hbk:Bk w b g s p) {bx gb c:Nat} (hx:Blk w bx 176 #[.pointer (some ⟨b,0,none⟩)]) {n0:Int} (c0:w.cell? ⟨gb,0,none⟩=some (.int .i64 n0)) (nx:¬ S bx) (nb:¬ S b) (ng:¬ S gb) :
  Calls Tryz.prog 169 #[.slice (some ⟨gb,0,none⟩) 1 c,.pointer (some ⟨bx,0,none⟩)] w (Done B w g T S (tHash (arg T n0))):=by
 have HP:=hide (fun (W:World) (hb:Below w.heap.size w W)=>aHash_any (h.below hb) n0)
 have x0:w.cell? ⟨bx,0,none⟩=some (.pointer (some ⟨b,0,none⟩)):=hx.cell 0
 have b0:w.cell? ⟨b,0,none⟩=some (.pointer (some ⟨g,0,none⟩)):=Blk.cell hbk 0
 clear h hbk hx
 go_enter Tryz.func169,Tryz.ntmps169
 go_upto_region 1 with fail
 go_region_held3 (fun W=>W.cell? ⟨bx,0,none⟩=some (.pointer (some ⟨b,0,none⟩))∧W.cell? ⟨b,0,none⟩=some (.pointer (some ⟨g,0,none⟩))∧W.cell? ⟨gb,0,none⟩=some (.int .i64 n0))
  (exact ⟨x0,b0,c0⟩)
  (first
   | (go_at_call 39;refine (HP.out _ (by exact bel_by)).mono ?_;rintro e w' ⟨T',n,S',rfl,hp,hA,hG⟩;replace x0:=hG.outs.cell x0 nx;replace b0:=hG.outs.cell b0 nb;replace c0:=hG.outs.cell c0 ng)
   | fail)
 all_goals go_wp2_with fail
 all_goals go_ret
 all_goals exact ⟨T',n,S',rfl,hp,hA,(Grown.of_below (by exact bel_by)).trans hG⟩
theorem cl3_any (h:Use B w g T S) (hbk:Bk w b g s p) {bx gb c by_:Nat} (hx:Blk w bx 176 #[.pointer (some ⟨b,0,none⟩)]) {alg:ByteArray} (hsz:alg.size≤1000000) (hy:Blk w by_ 9 #[.string alg]) {n0 n1:Int} (c0:w.cell? ⟨gb,0,none⟩=some (.int .i64 n0)) (c1:w.cell? ⟨gb,1,none⟩=some (.int .i64 n1)) (nx:¬ S bx) (nb:¬ S b) (ng:¬ S gb) (ny:¬ S by_) :
  Calls Tryz.prog 172 #[.slice (some ⟨gb,0,none⟩) 2 c,.pointer (some ⟨bx,0,none⟩),.pointer (some ⟨by_,0,none⟩)] w (Done B w g T S (tSign alg (arg T n0) (arg T n1))):=by
 have HP:=hide (fun (W:World) (hb:Below w.heap.size w W)=>aSign_any (h.below hb) (s:=alg) (by omega) n0 n1)
 have x0:w.cell? ⟨bx,0,none⟩=some (.pointer (some ⟨b,0,none⟩)):=hx.cell 0
 have b0:w.cell? ⟨b,0,none⟩=some (.pointer (some ⟨g,0,none⟩)):=Blk.cell hbk 0
 have y0:w.cell? ⟨by_,0,none⟩=some (.string alg):=hy.cell 0
 clear h hbk hx hy
 go_enter Tryz.func172,Tryz.ntmps172
 go_upto_region 1 with fail
 go_region_held3 (fun W=>W.cell? ⟨bx,0,none⟩=some (.pointer (some ⟨b,0,none⟩))∧W.cell? ⟨b,0,none⟩=some (.pointer (some ⟨g,0,none⟩))∧W.cell? ⟨gb,0,none⟩=some (.int .i64 n0)∧W.cell? ⟨gb,1,none⟩=some (.int .i64 n1)∧W.cell? ⟨by_,0,none⟩=some (.string alg))
  (exact ⟨x0,b0,c0,c1,y0⟩)
  (first
   | (go_at_call 102;refine (HP.out _ (by exact bel_by)).mono ?_;rintro e w' ⟨T',n,S',rfl,hp,hA,hG⟩;replace x0:=hG.outs.cell x0 nx;replace b0:=hG.outs.cell b0 nb;replace c0:=hG.outs.cell c0 ng;replace c1:=hG.outs.cell c1 ng;replace y0:=hG.outs.cell y0 ny)
   | fail)
 all_goals go_wp2_with fail
 all_goals go_ret
 all_goals exact ⟨T',n,S',rfl,hp,hA,(Grown.of_below (by exact bel_by)).trans hG⟩
theorem cl4_any (h:Use B w g T S) (hbk:Bk w b g s p) {bx gb c by_:Nat} (hx:Blk w bx 176 #[.pointer (some ⟨b,0,none⟩)]) {q:Nat} (hq:q<256) (hy:Blk w by_ 5 #[.int .u8 (q:Nat)]) {n0 n1 n2:Int} (c0:w.cell? ⟨gb,0,none⟩=some (.int .i64 n0)) (c1:w.cell? ⟨gb,1,none⟩=some (.int .i64 n1)) (c2:w.cell? ⟨gb,2,none⟩=some (.int .i64 n2)) (nx:¬ S bx) (nb:¬ S b) (ng:¬ S gb) (ny:¬ S by_) :
  Calls Tryz.prog 173 #[.slice (some ⟨gb,0,none⟩) 3 c,.pointer (some ⟨bx,0,none⟩),.pointer (some ⟨by_,0,none⟩)] w (Done B w g T S (tDerive q (arg T n0) (arg T n1) (arg T n2))):=by
 have HP:=hide (fun (W:World) (hb:Below w.heap.size w W)=>aDerive_any (h.below hb) q hq n0 n1 n2)
 have x0:w.cell? ⟨bx,0,none⟩=some (.pointer (some ⟨b,0,none⟩)):=hx.cell 0
 have b0:w.cell? ⟨b,0,none⟩=some (.pointer (some ⟨g,0,none⟩)):=Blk.cell hbk 0
 have y0:w.cell? ⟨by_,0,none⟩=some (.int .u8 (q:Nat)):=hy.cell 0
 clear h hbk hx hy
 go_enter Tryz.func173,Tryz.ntmps173
 go_upto_region 1 with fail
 go_region_held3 (fun W=>W.cell? ⟨bx,0,none⟩=some (.pointer (some ⟨b,0,none⟩))∧W.cell? ⟨b,0,none⟩=some (.pointer (some ⟨g,0,none⟩))∧W.cell? ⟨gb,0,none⟩=some (.int .i64 n0)∧W.cell? ⟨gb,1,none⟩=some (.int .i64 n1)∧W.cell? ⟨gb,2,none⟩=some (.int .i64 n2)∧W.cell? ⟨by_,0,none⟩=some (.int .u8 (q:Nat)))
  (exact ⟨x0,b0,c0,c1,c2,y0⟩)
  (first
   | (go_at_call 174;refine (HP.out _ (by exact bel_by)).mono ?_;rintro e w' ⟨T',n,S',rfl,hp,hA,hG⟩;replace x0:=hG.outs.cell x0 nx;replace b0:=hG.outs.cell b0 nb;replace c0:=hG.outs.cell c0 ng;replace c1:=hG.outs.cell c1 ng;replace c2:=hG.outs.cell c2 ng;replace y0:=hG.outs.cell y0 ny)
   | fail)
 all_goals go_wp2_with fail
 all_goals go_ret
 all_goals exact ⟨T',n,S',rfl,hp,hA,(Grown.of_below (by exact bel_by)).trans hG⟩
theorem cl5_any (h:Use B w g T S) (hbk:Bk w b g s p) {bx gb c by_:Nat} (hx:Blk w bx 176 #[.pointer (some ⟨b,0,none⟩)]) {q:Nat} (hq:q<4294967296) (hy:Blk w by_ 3 #[.int .i64 (q:Nat)]) {n0 n1:Int} (c0:w.cell? ⟨gb,0,none⟩=some (.int .i64 n0)) (c1:w.cell? ⟨gb,1,none⟩=some (.int .i64 n1)) (nx:¬ S bx) (nb:¬ S b) (ng:¬ S gb) (ny:¬ S by_) :
  Calls Tryz.prog 176 #[.slice (some ⟨gb,0,none⟩) 2 c,.pointer (some ⟨bx,0,none⟩),.pointer (some ⟨by_,0,none⟩)] w (Done B w g T S (tSeal q (arg T n0) (arg T n1))):=by
 have HP:=hide (fun (W:World) (hb:Below w.heap.size w W)=>aSeal_any (h.below hb) q hq n0 n1)
 have x0:w.cell? ⟨bx,0,none⟩=some (.pointer (some ⟨b,0,none⟩)):=hx.cell 0
 have b0:w.cell? ⟨b,0,none⟩=some (.pointer (some ⟨g,0,none⟩)):=Blk.cell hbk 0
 have y0:w.cell? ⟨by_,0,none⟩=some (.int .i64 (q:Nat)):=hy.cell 0
 have wq:IntKind.u32.wrap (q:Int)=(q:Int):=by rw [IntKind.wrap_u32];omega
 clear h hbk hx hy
 go_enter Tryz.func176,Tryz.ntmps176
 go_upto_region 1 with fail
 go_region_held3 (fun W=>W.cell? ⟨bx,0,none⟩=some (.pointer (some ⟨b,0,none⟩))∧W.cell? ⟨b,0,none⟩=some (.pointer (some ⟨g,0,none⟩))∧W.cell? ⟨gb,0,none⟩=some (.int .i64 n0)∧W.cell? ⟨gb,1,none⟩=some (.int .i64 n1)∧W.cell? ⟨by_,0,none⟩=some (.int .i64 (q:Nat)))
  (exact ⟨x0,b0,c0,c1,y0⟩)
  (first
   | (go_at_call 177;refine (HP.out _ (by exact bel_by)).mono ?_;rintro e w' ⟨T',n,S',rfl,hp,hA,hG⟩;replace x0:=hG.outs.cell x0 nx;replace b0:=hG.outs.cell b0 nb;replace c0:=hG.outs.cell c0 ng;replace c1:=hG.outs.cell c1 ng;replace y0:=hG.outs.cell y0 ny)
   | fail)
 all_goals go_wp2_with fail
 all_goals go_ret
 all_goals exact ⟨T',n,S',rfl,hp,hA,(Grown.of_below (by exact bel_by)).trans hG⟩
theorem with1_any (IH:TermIH B b g s N) (h:Rd B b g s p T S w) (hN:s.size - p<N) {bx p0:Nat} (hx:Blk w bx 176 #[.pointer (some ⟨b,0,none⟩)]) (hxn:¬ SR b S bx) {c:UInt8} {s1:List UInt8}
  (h1:s.data.toList.drop p0=c :: s1) (hc:c.toNat=240+4) (hH:Hed 4 0 0 eB 1 s1 (s.data.toList.drop p)) (hpp:p0<p) (hK:T.length+2*(s.size - p0)≤900000000) :
  Calls Tryz.prog 167 #[.pointer (some ⟨b,0,none⟩),.int .i64 1,.func (.func 168) #[] #[.pointer (some ⟨bx,0,none⟩)]] w (Got B b g s p0 p T S w):=by
 have HS:=hide (some_any IH h hN 1 (by omega))
 have H:=hide h
 have Hx:=hide hx
 have Hc:=hide hc
 have HH:=hide hH
 have H1:=hide h1
 clear h IH hx hc hH h1
 go_enter Tryz.func167,Tryz.ntmps167
 go_wp2_with fail
 refine HS.out.mono ?_
 rintro e w1 (⟨T1,S1,p1,rfl,hNo,hR,hG,hpre,hl,hle⟩ | ⟨T1,S1,p1,l,A,cz,rfl,hg,hn,he,hI,hR,hG,hpre,hl,hle⟩)
 ·go_wp2_with fail
  go_ret
  exact got_few H1.out Hc.out HH.out hNo hR hG hpre hl hle
 ·obtain ⟨gb,rfl,hgl,hcell⟩:=ido_cells hI hn (by omega)
  match l,hn with
  | [t0],_ =>
   obtain ⟨n0,c0,i0⟩:=hcell 0 t0 rfl
   have a0:=arg_of i0
   have NX:=hG.notin2 hxn Hx.out.lt
   have NG:=hI.out gb rfl
   have HD:=hide (cl1_any hR.use hR.bk (hG.outs.blk Hx.out hxn) (c:=cz) c0 (fun h9=>NX (.inl h9)) hR.nb (fun h9=>NG (.inl h9)))
   rw [a0] at HD
   go_wp2_with fail
   refine HD.out.mono ?_
   rintro e w2 hD
   have hF:=hide (got_fin (w:=w) H1.out Hc.out (by omega) HH.out hg rfl he hR hG hpre hl hle (madeOf_pub t0) hD hpp hK)
   obtain ⟨T2,m,S2,rfl,hD2⟩:=hD
   go_wp2_with fail
   go_ret
   exact hF.out
theorem with2_any (IH:TermIH B b g s N) (h:Rd B b g s p T S w) (hN:s.size - p<N) {bx p0:Nat} (hx:Blk w bx 176 #[.pointer (some ⟨b,0,none⟩)]) (hxn:¬ SR b S bx) {c:UInt8} {s1:List UInt8}
  (h1:s.data.toList.drop p0=c :: s1) (hc:c.toNat=240+7) (hH:Hed 7 0 0 eB 1 s1 (s.data.toList.drop p)) (hpp:p0<p) (hK:T.length+2*(s.size - p0)≤900000000) :
  Calls Tryz.prog 167 #[.pointer (some ⟨b,0,none⟩),.int .i64 1,.func (.func 169) #[] #[.pointer (some ⟨bx,0,none⟩)]] w (Got B b g s p0 p T S w):=by
 have HS:=hide (some_any IH h hN 1 (by omega))
 have H:=hide h
 have Hx:=hide hx
 have Hc:=hide hc
 have HH:=hide hH
 have H1:=hide h1
 clear h IH hx hc hH h1
 go_enter Tryz.func167,Tryz.ntmps167
 go_wp2_with fail
 refine HS.out.mono ?_
 rintro e w1 (⟨T1,S1,p1,rfl,hNo,hR,hG,hpre,hl,hle⟩ | ⟨T1,S1,p1,l,A,cz,rfl,hg,hn,he,hI,hR,hG,hpre,hl,hle⟩)
 ·go_wp2_with fail
  go_ret
  exact got_few H1.out Hc.out HH.out hNo hR hG hpre hl hle
 ·obtain ⟨gb,rfl,hgl,hcell⟩:=ido_cells hI hn (by omega)
  match l,hn with
  | [t0],_ =>
   obtain ⟨n0,c0,i0⟩:=hcell 0 t0 rfl
   have a0:=arg_of i0
   have NX:=hG.notin2 hxn Hx.out.lt
   have NG:=hI.out gb rfl
   have HD:=hide (cl2_any hR.use hR.bk (hG.outs.blk Hx.out hxn) (c:=cz) c0 (fun h9=>NX (.inl h9)) hR.nb (fun h9=>NG (.inl h9)))
   rw [a0] at HD
   go_wp2_with fail
   refine HD.out.mono ?_
   rintro e w2 hD
   have hF:=hide (got_fin (w:=w) H1.out Hc.out (by omega) HH.out hg rfl he hR hG hpre hl hle (madeOf_hash t0) hD hpp hK)
   obtain ⟨T2,m,S2,rfl,hD2⟩:=hD
   go_wp2_with fail
   go_ret
   exact hF.out
theorem with3_any (IH:TermIH B b g s N) (h:Rd B b g s p T S w) (hN:s.size - p<N) {bx by_ p0:Nat} (hx:Blk w bx 176 #[.pointer (some ⟨b,0,none⟩)]) (hxn:¬ SR b S bx) {alg:ByteArray} (hsz:alg.size≤1000000) (hy:Blk w by_ 9 #[.string alg]) (hyn:¬ SR b S by_) {c:UInt8} {s1:List UInt8}
  (h1:s.data.toList.drop p0=c :: s1) (hc:c.toNat=240+6) (hH:Hed 6 0 0 alg 2 s1 (s.data.toList.drop p)) (hpp:p0<p) (hK:T.length+2*(s.size - p0)≤900000000) :
  Calls Tryz.prog 167 #[.pointer (some ⟨b,0,none⟩),.int .i64 2,.func (.func 172) #[] #[.pointer (some ⟨bx,0,none⟩),.pointer (some ⟨by_,0,none⟩)]] w (Got B b g s p0 p T S w):=by
 have HS:=hide (some_any IH h hN 2 (by omega))
 have H:=hide h
 have Hx:=hide hx
 have Hc:=hide hc
 have HH:=hide hH
 have H1:=hide h1
 have Hy:=hide hy
 clear h IH hx hc hH h1 hy
 go_enter Tryz.func167,Tryz.ntmps167
 go_wp2_with fail
 refine HS.out.mono ?_
 rintro e w1 (⟨T1,S1,p1,rfl,hNo,hR,hG,hpre,hl,hle⟩ | ⟨T1,S1,p1,l,A,cz,rfl,hg,hn,he,hI,hR,hG,hpre,hl,hle⟩)
 ·go_wp2_with fail
  go_ret
  exact got_few H1.out Hc.out HH.out hNo hR hG hpre hl hle
 ·obtain ⟨gb,rfl,hgl,hcell⟩:=ido_cells hI hn (by omega)
  match l,hn with
  | [t0,t1],_ =>
   obtain ⟨n0,c0,i0⟩:=hcell 0 t0 rfl
   have a0:=arg_of i0
   obtain ⟨n1,c1,i1⟩:=hcell 1 t1 rfl
   have a1:=arg_of i1
   have NX:=hG.notin2 hxn Hx.out.lt
   have NG:=hI.out gb rfl
   have NY:=hG.notin2 hyn Hy.out.lt
   have HD:=hide (cl3_any hR.use hR.bk (hG.outs.blk Hx.out hxn) hsz (hG.outs.blk Hy.out hyn) (c:=cz) c0 c1 (fun h9=>NX (.inl h9)) hR.nb (fun h9=>NG (.inl h9)) (fun h9=>NY (.inl h9)))
   rw [a0,a1] at HD
   go_wp2_with fail
   refine HD.out.mono ?_
   rintro e w2 hD
   have hF:=hide (got_fin (w:=w) H1.out Hc.out (by omega) HH.out hg rfl he hR hG hpre hl hle (madeOf_sign alg t0 t1) hD hpp hK)
   obtain ⟨T2,m,S2,rfl,hD2⟩:=hD
   go_wp2_with fail
   go_ret
   exact hF.out
theorem with4_any (IH:TermIH B b g s N) (h:Rd B b g s p T S w) (hN:s.size - p<N) {bx by_ p0:Nat} (hx:Blk w bx 176 #[.pointer (some ⟨b,0,none⟩)]) (hxn:¬ SR b S bx) {q:Nat} (hq:q<256) (hy:Blk w by_ 5 #[.int .u8 (q:Nat)]) (hyn:¬ SR b S by_) {c:UInt8} {s1:List UInt8}
  (h1:s.data.toList.drop p0=c :: s1) (hc:c.toNat=240+8) (hH:Hed 8 0 q eB 3 s1 (s.data.toList.drop p)) (hpp:p0<p) (hK:T.length+2*(s.size - p0)≤900000000) :
  Calls Tryz.prog 167 #[.pointer (some ⟨b,0,none⟩),.int .i64 3,.func (.func 173) #[] #[.pointer (some ⟨bx,0,none⟩),.pointer (some ⟨by_,0,none⟩)]] w (Got B b g s p0 p T S w):=by
 have HS:=hide (some_any IH h hN 3 (by omega))
 have H:=hide h
 have Hx:=hide hx
 have Hc:=hide hc
 have HH:=hide hH
 have H1:=hide h1
 have Hy:=hide hy
 clear h IH hx hc hH h1 hy
 go_enter Tryz.func167,Tryz.ntmps167
 go_wp2_with fail
 refine HS.out.mono ?_
 rintro e w1 (⟨T1,S1,p1,rfl,hNo,hR,hG,hpre,hl,hle⟩ | ⟨T1,S1,p1,l,A,cz,rfl,hg,hn,he,hI,hR,hG,hpre,hl,hle⟩)
 ·go_wp2_with fail
  go_ret
  exact got_few H1.out Hc.out HH.out hNo hR hG hpre hl hle
 ·obtain ⟨gb,rfl,hgl,hcell⟩:=ido_cells hI hn (by omega)
  match l,hn with
  | [t0,t1,t2],_ =>
   obtain ⟨n0,c0,i0⟩:=hcell 0 t0 rfl
   have a0:=arg_of i0
   obtain ⟨n1,c1,i1⟩:=hcell 1 t1 rfl
   have a1:=arg_of i1
   obtain ⟨n2,c2,i2⟩:=hcell 2 t2 rfl
   have a2:=arg_of i2
   have NX:=hG.notin2 hxn Hx.out.lt
   have NG:=hI.out gb rfl
   have NY:=hG.notin2 hyn Hy.out.lt
   have HD:=hide (cl4_any hR.use hR.bk (hG.outs.blk Hx.out hxn) hq (hG.outs.blk Hy.out hyn) (c:=cz) c0 c1 c2 (fun h9=>NX (.inl h9)) hR.nb (fun h9=>NG (.inl h9)) (fun h9=>NY (.inl h9)))
   rw [a0,a1,a2] at HD
   go_wp2_with fail
   refine HD.out.mono ?_
   rintro e w2 hD
   have hF:=hide (got_fin (w:=w) H1.out Hc.out (by omega) HH.out hg rfl he hR hG hpre hl hle (madeOf_derive q hq t0 t1 t2) hD hpp hK)
   obtain ⟨T2,m,S2,rfl,hD2⟩:=hD
   go_wp2_with fail
   go_ret
   exact hF.out
theorem with5_any (IH:TermIH B b g s N) (h:Rd B b g s p T S w) (hN:s.size - p<N) {bx by_ p0:Nat} (hx:Blk w bx 176 #[.pointer (some ⟨b,0,none⟩)]) (hxn:¬ SR b S bx) {q:Nat} (hq:q<4294967296) (hy:Blk w by_ 3 #[.int .i64 (q:Nat)]) (hyn:¬ SR b S by_) {c:UInt8} {s1:List UInt8}
  (h1:s.data.toList.drop p0=c :: s1) (hc:c.toNat=240+9) (hH:Hed 9 0 q eB 2 s1 (s.data.toList.drop p)) (hpp:p0<p) (hK:T.length+2*(s.size - p0)≤900000000) :
  Calls Tryz.prog 167 #[.pointer (some ⟨b,0,none⟩),.int .i64 2,.func (.func 176) #[] #[.pointer (some ⟨bx,0,none⟩),.pointer (some ⟨by_,0,none⟩)]] w (Got B b g s p0 p T S w):=by
 have HS:=hide (some_any IH h hN 2 (by omega))
 have H:=hide h
 have Hx:=hide hx
 have Hc:=hide hc
 have HH:=hide hH
 have H1:=hide h1
 have Hy:=hide hy
 clear h IH hx hc hH h1 hy
 go_enter Tryz.func167,Tryz.ntmps167
 go_wp2_with fail
 refine HS.out.mono ?_
 rintro e w1 (⟨T1,S1,p1,rfl,hNo,hR,hG,hpre,hl,hle⟩ | ⟨T1,S1,p1,l,A,cz,rfl,hg,hn,he,hI,hR,hG,hpre,hl,hle⟩)
 ·go_wp2_with fail
  go_ret
  exact got_few H1.out Hc.out HH.out hNo hR hG hpre hl hle
 ·obtain ⟨gb,rfl,hgl,hcell⟩:=ido_cells hI hn (by omega)
  match l,hn with
  | [t0,t1],_ =>
   obtain ⟨n0,c0,i0⟩:=hcell 0 t0 rfl
   have a0:=arg_of i0
   obtain ⟨n1,c1,i1⟩:=hcell 1 t1 rfl
   have a1:=arg_of i1
   have NX:=hG.notin2 hxn Hx.out.lt
   have NG:=hI.out gb rfl
   have NY:=hG.notin2 hyn Hy.out.lt
   have HD:=hide (cl5_any hR.use hR.bk (hG.outs.blk Hx.out hxn) hq (hG.outs.blk Hy.out hyn) (c:=cz) c0 c1 (fun h9=>NX (.inl h9)) hR.nb (fun h9=>NG (.inl h9)) (fun h9=>NY (.inl h9)))
   rw [a0,a1] at HD
   go_wp2_with fail
   refine HD.out.mono ?_
   rintro e w2 hD
   have hF:=hide (got_fin (w:=w) H1.out Hc.out (by omega) HH.out hg rfl he hR hG hpre hl hle (madeOf_seal q hq t0 t1) hD hpp hK)
   obtain ⟨T2,m,S2,rfl,hD2⟩:=hD
   go_wp2_with fail
   go_ret
   exact hF.out
end
section
variable {B b g p p0 N : Nat} {s : ByteArray} {T : List Tm} {S : Nat → Prop} {w w1 w2 : World} {c : UInt8} {s1 : List UInt8}
theorem got_none {p1:Nat} (hN:NoT (s.data.toList.drop p0)) (hR:Rd B b g s p1 T S w1) (hG:Grown (SR b S) w (SR b S) w1) (hle:p≤p1):Got B b g s p0 p T S w (.returned (.int .i64 (-1))) w1 :=
 ⟨T,-1,S,p1,none,rfl,idn_none _,readT_none hN,hR,hG,List.prefix_refl _,by omega,hle⟩
theorem got_leaf {k a b':Nat} {s':ByteArray} {p1:Nat} (h1:s.data.toList.drop p0=c :: s1) (hc:c.toNat=240+k) (hk:k≤10) (hH:Hed k a b' s' 0 s1 (s.data.toList.drop p1))
  (hR:Rd B b g s p1 T S w1) (hG:Grown (SR b S) w (SR b S) w1) (hle:p≤p1) {o:Option Tm} (ho:MadeOf k a b' s' [] o) {e:Ending} (hD:Done B w1 g T S o e w2) (hpp:p0<p) (hK:T.length+2*(s.size - p0)≤900000000):Got B b g s p0 p T S w e w2:=by
 obtain ⟨T2,m,S2,rfl,hP,hA,hG2⟩:=hD
 have h3:=hP.len
 have h5:=hR.hp
 exact ⟨T2,m,S2,p1,o,rfl,hP.idn,readT_fin hR.hs h1 hc hk hH (l:=[]) trivial rfl (by simp [encs]) ho,hR.grown hG2 hA (by omega),hG.trans (hG2.sr b),hP.pre,by omega,hle⟩
theorem rd_cells (h:Rd B b g s p T S w):w.cell? ⟨b,0,none⟩=some (.pointer (some ⟨g,0,none⟩)):=Blk.cell h.bk 0
def TextP (B b g:Nat) (s:ByteArray) (p:Nat) (T:List Tm) (S:Nat→Prop) (w:World) (e:Ending) (w':World):Prop :=
 (∃p',e=.returned (.tuple #[.string ⟨#[]⟩,.bool false])∧(s.size<p+4∨(p+4≤s.size∧s.size<p+4+n4 (s.data.toList.drop p)))∧Rd B b g s p' T S w'∧Grown (SR b S) w (SR b S) w'∧p≤p') ∨
 (∃n,n=n4 (s.data.toList.drop p)∧p+4+n≤s.size∧e=.returned (.tuple #[.string (bs ((s.data.toList.drop (p+4)).take n)),.bool true])∧Rd B b g s (p+4+n) T S w'∧Grown (SR b S) w (SR b S) w')
theorem text_all (h:Rd B b g s p T S w):Calls Tryz.prog 171 #[.pointer (some ⟨b,0,none⟩)] w (TextP B b g s p T S w):=by
 have hs:s.size≤1000000:=by have:=h.hs;omega
 by_cases h4:s.size<p+4
 ·refine (cText1_no1 h.bk hs h.hp h4).mono ?_
  rintro e w' ⟨rfl,hB,hG⟩
  exact .inl ⟨p,rfl,.inl h4,h.by_ hB hG h.hp (Nat.le_refl _),grown_by hG,Nat.le_refl _⟩
 ·by_cases h5:s.size<p+4+n4 (s.data.toList.drop p)
  ·refine (cText1_no2 h.bk hs rfl (by omega) h5).mono ?_
   rintro e w' ⟨rfl,hB,hG⟩
   exact .inl ⟨p+4,rfl,.inr ⟨by omega,h5⟩,h.by_ hB hG (by omega) (by omega),grown_by hG,by omega⟩
  ·refine (cText1_yes h.bk hs rfl (by omega)).mono ?_
   rintro e w' ⟨rfl,hB,hG⟩
   exact .inr ⟨_,rfl,by omega,rfl,h.by_ hB hG (by omega) (by omega),grown_by hG⟩
def NumP (B b g:Nat) (s:ByteArray) (p:Nat) (T:List Tm) (S:Nat→Prop) (w:World) (e:Ending) (w':World):Prop :=
 (e=.returned (.tuple #[.int .i64 0,.bool false])∧s.size<p+4∧Rd B b g s p T S w'∧Grown (SR b S) w (SR b S) w') ∨
 (p+4≤s.size∧e=.returned (.tuple #[.int .i64 (n4 (s.data.toList.drop p)),.bool true])∧Rd B b g s (p+4) T S w'∧Grown (SR b S) w (SR b S) w')
theorem num_all (h:Rd B b g s p T S w):Calls Tryz.prog 175 #[.pointer (some ⟨b,0,none⟩)] w (NumP B b g s p T S w):=by
 have hs:s.size≤1000000:=by have:=h.hs;omega
 by_cases h4:s.size<p+4
 ·refine (cNum_no h.bk hs h.hp h4).mono ?_
  rintro e w' ⟨rfl,hB,hG⟩
  exact .inl ⟨rfl,h4,h.by_ hB hG h.hp (Nat.le_refl _),grown_by hG⟩
 ·refine (cNum_yes h.bk hs (by omega)).mono ?_
  rintro e w' ⟨rfl,hB,hG⟩
  exact .inr ⟨by omega,rfl,h.by_ hB hG (by omega) (by omega),grown_by hG⟩
def ByteP (B b g:Nat) (s:ByteArray) (p:Nat) (T:List Tm) (S:Nat→Prop) (w:World) (e:Ending) (w':World):Prop :=
 (e=.returned (.tuple #[.int .u8 0,.bool false])∧p=s.size∧Rd B b g s p T S w'∧Grown (SR b S) w (SR b S) w') ∨
 (∃c:UInt8,s.data.toList.drop p=c :: s.data.toList.drop (p+1)∧p+1≤s.size∧e=.returned (.tuple #[.int .u8 c.toNat,.bool true])∧Rd B b g s (p+1) T S w'∧Grown (SR b S) w (SR b S) w')
theorem byte_all (h:Rd B b g s p T S w):Calls Tryz.prog 166 #[.pointer (some ⟨b,0,none⟩)] w (ByteP B b g s p T S w):=by
 have hs:s.size≤1000000:=by have:=h.hs;omega
 refine (byte1_any h.bk hs h.hp).mono ?_
 rintro e w' ⟨p',he,hB,hG⟩
 by_cases hlt:p<s.size
 ·rw [dif_pos hlt] at he
  obtain ⟨rfl,rfl⟩:=he
  exact .inr ⟨s[p],drop_cons (s:=s.data.toList) hlt,hlt,rfl,h.by_ hB hG hlt (by omega),grown_by hG⟩
 ·rw [dif_neg hlt] at he
  obtain ⟨rfl,rfl⟩:=he
  have:=h.hp
  exact .inl ⟨rfl,by omega,h.by_ hB hG h.hp (Nat.le_refl _),grown_by hG⟩
theorem leaf_data (h:Rd B b g s (p0+1) T S w) (h1:s.data.toList.drop p0=c :: s.data.toList.drop (p0+1)) (hc:c.toNat=241) (hK:T.length+2*(s.size - p0)≤900000000) :
  Calls Tryz.prog 180 #[.pointer (some ⟨b,0,none⟩),.int .i64 1] w (Got B b g s p0 (p0+1) T S w):=by
 have HX:=hide (text_all h)
 have H:=hide h
 have H1:=hide h1
 have hlen:=h.len
 have hsz:=h.hs
 clear h h1
 go_enter Tryz.func180,Tryz.ntmps180
 go_wp2_with fail
 refine HX.out.mono ?_
 rintro e w1 (⟨p1,rfl,hno,hR,hG,hle⟩ | ⟨n,hn,h5,rfl,hR,hG⟩)
 ·go_wp2_with fail
  go_ret
  refine got_none ?_ hR hG hle
  rw [H1.out]
  exact no1 hc (by omega)
 ·have hb0:=rd_cells hR
  have hnl:(bs ((s.data.toList.drop (p0+1+4)).take n)).size≤1000000:=by
   show ((s.data.toList.drop (p0+1+4)).take n).length≤1000000
   rw [List.length_take]
   omega
  have HD:=hide (aData_any hR.use hnl)
  have hH:Hed 1 0 0 (bs ((s.data.toList.drop (p0+1+4)).take n)) 0 (s.data.toList.drop (p0+1)) (s.data.toList.drop (p0+1+4+n)):=by
   have:=hed1 (s1:=s.data.toList.drop (p0+1)) (by omega) (by omega)
   rw [List.drop_drop,List.drop_drop,← hn] at this
   rw [show p0+1+4+n=p0+1+(4+n) by omega]
   exact this
  have HF:=hide (fun e w2 (hD:Done B w1 g T S (tData (bs ((s.data.toList.drop (p0+1+4)).take n))) e w2)=>got_leaf (w:=w) (p:=p0+1) H1.out hc (by omega) hH hR hG (by omega) (madeOf_data _ (by omega)) hD (by omega) hK)
  clear hH hR hG hn hnl
  generalize bs ((s.data.toList.drop (p0+1+4)).take n)=x at HD HF ⊢
  go_wp2_with fail
  refine HD.out.mono ?_
  intro e w2 hD
  have hF:=hide (HF.out e w2 hD)
  obtain ⟨T2,m,S2,rfl,_⟩:=hD
  go_wp2_with fail
  go_ret
  exact hF.out
theorem leaf_key (h:Rd B b g s (p0+1) T S w) (h1:s.data.toList.drop p0=c :: s.data.toList.drop (p0+1)) (hc:c.toNat=243) (hK:T.length+2*(s.size - p0)≤900000000) :
  Calls Tryz.prog 180 #[.pointer (some ⟨b,0,none⟩),.int .i64 3] w (Got B b g s p0 (p0+1) T S w):=by
 have HX:=hide (num_all h)
 have H1:=hide h1
 have hlen:=h.len
 clear h h1
 go_enter Tryz.func180,Tryz.ntmps180
 go_wp2_with fail
 refine HX.out.mono ?_
 rintro e w1 (⟨rfl,hno,hR,hG⟩ | ⟨h4,rfl,hR,hG⟩)
 ·go_wp2_with fail
  go_ret
  refine got_none ?_ hR hG (Nat.le_refl _)
  rw [H1.out]
  exact no3 hc (by omega)
 ·have hb0:=rd_cells hR
  have HD:=hide (aKey_any hR.use (n4 (s.data.toList.drop (p0+1)):Nat))
  have hH:Hed 3 (n4 (s.data.toList.drop (p0+1))) 0 eB 0 (s.data.toList.drop (p0+1)) (s.data.toList.drop (p0+1+4)):=by
   have:=hed3 (s1:=s.data.toList.drop (p0+1)) (by omega)
   rw [List.drop_drop] at this
   exact this
  have HF:=hide (fun e w2 hD=>got_leaf (e:=e) (w2:=w2) (w:=w) (p:=p0+1) H1.out hc (by omega) hH hR hG (by omega) (madeOf_key _) hD (by omega) hK)
  clear hH hR hG
  generalize n4 (s.data.toList.drop (p0+1))=x at HD HF ⊢
  go_wp2_with fail
  refine HD.out.mono ?_
  intro e w2 hD
  have hF:=hide (HF.out e w2 hD)
  obtain ⟨T2,m,S2,rfl,_⟩:=hD
  go_wp2_with fail
  go_ret
  exact hF.out
theorem leaf_nonce (h:Rd B b g s (p0+1) T S w) (h1:s.data.toList.drop p0=c :: s.data.toList.drop (p0+1)) (hc:c.toNat=242) (hK:T.length+2*(s.size - p0)≤900000000) :
  Calls Tryz.prog 180 #[.pointer (some ⟨b,0,none⟩),.int .i64 2] w (Got B b g s p0 (p0+1) T S w):=by
 have HX:=hide (num_all h)
 have H1:=hide h1
 have hlen:=h.len
 clear h h1
 go_enter Tryz.func180,Tryz.ntmps180
 go_wp2_with fail
 refine HX.out.mono ?_
 rintro e w1 (⟨rfl,hno,hR,hG⟩ | ⟨h4,rfl,hR,hG⟩)
 ·have HY:=hide (num_all hR)
  go_wp2_with fail
  refine HY.out.mono ?_
  rintro e w2 (⟨rfl,hno2,hR2,hG2⟩ | ⟨h42,rfl,hR2,hG2⟩)
  ·go_wp2_with fail
   go_ret
   refine got_none ?_ hR2 (hG.trans hG2) (Nat.le_refl _)
   rw [H1.out]
   exact no2 hc (by omega)
  ·omega
 ·have HY:=hide (num_all hR)
  go_wp2_with fail
  refine HY.out.mono ?_
  rintro e w2 (⟨rfl,hno2,hR2,hG2⟩ | ⟨h42,rfl,hR2,hG2⟩)
  ·go_wp2_with fail
   go_ret
   refine got_none ?_ hR2 (hG.trans hG2) (by omega)
   rw [H1.out]
   exact no2 hc (by omega)
  ·have hb0:=rd_cells hR2
   have HD:=hide (aNonce_any hR2.use (n4 (s.data.toList.drop (p0+1)):Nat) (n4 (s.data.toList.drop (p0+1+4)):Nat))
   have hH:Hed 2 (n4 (s.data.toList.drop (p0+1))) (n4 (s.data.toList.drop (p0+1+4))) eB 0 (s.data.toList.drop (p0+1)) (s.data.toList.drop (p0+1+4+4)):=by
    have:=hed2 (s1:=s.data.toList.drop (p0+1)) (by omega)
    rw [List.drop_drop,List.drop_drop] at this
    exact this
   have HF:=hide (fun e w3 hD=>got_leaf (e:=e) (w2:=w3) (w:=w) (p:=p0+1) H1.out hc (by omega) hH hR2 (hG.trans hG2) (by omega) (madeOf_nonce _ _) hD (by omega) hK)
   clear hH hR hG hR2 hG2 HY
   generalize n4 (s.data.toList.drop (p0+1))=x at HD HF ⊢
   generalize n4 (s.data.toList.drop (p0+1+4))=y at HD HF ⊢
   go_wp2_with fail
   refine HD.out.mono ?_
   intro e w3 hD
   have hF:=hide (HF.out e w3 hD)
   obtain ⟨T2,m,S2,rfl,_⟩:=hD
   go_wp2_with fail
   go_ret
   exact hF.out
theorem leaf_other (h:Rd B b g s (p0+1) T S w) (k:Int) (h1:¬ k=1) (h2:¬ k=2) (h3:¬ k=3) (hN:NoT (s.data.toList.drop p0)) :
  Calls Tryz.prog 180 #[.pointer (some ⟨b,0,none⟩),.int .i64 k] w (Got B b g s p0 (p0+1) T S w):=by
 have H:=hide h
 have HN:=hide hN
 clear h hN
 go_enter Tryz.func180,Tryz.ntmps180
 go_wp2_with fail
 go_ret
 exact got_none HN.out H.out (Grown.refl _ _) (Nat.le_refl _)
end
end Go.Proofs.YtnhekaepgpbijaaGreatDoor

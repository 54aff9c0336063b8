/-
  prefs.Of and conf.Copy once more: their lists are rows of their own. Conditions: lists of at most 1,000,000 texts.
-/
import Derived.Test.YtnhekaepgpbijaaGreatDoorHCfLcG
import Derived.Test.YtnhekaepgpbijaaGreatDoorHKx6G
set_option linter.unusedVariables false
set_option linter.unusedSimpArgs false
set_option maxHeartbeats 40000000
set_option maxRecDepth 100000
namespace Go.Proofs.YtnhekaepgpbijaaGreatDoor
open Go.RowKit Go.ChangeShapes Go.WideShapes Go.Sort
def NewW (lo:Nat) (w:World) (v:Value) (l:List (List UInt8)):Prop:=w.ownsRow lo 9 1 v l.length ((l.map bs).map Value.string)
theorem own_newW {w:World} {B:Nat} {v:Value} {l:List (List UInt8)} (h:w.ownsRow B 9 1 v (bss l).length ((bss l).map Value.string)):NewW B w v l:=by
 have hl:(bss l).length=l.length:=by rw [bss,List.length_map]
 rw [hl] at h
 exact h
theorem NewW.newC {lo:Nat} {w:World} {v:Value} {l:List (List UInt8)} (h:NewW lo w v l):NewC lo w v l:=by
 refine own_newC ?_
 have hl:(bss l).length=l.length:=by rw [bss,List.length_map]
 rw [hl]
 exact h
theorem NewW.mono {lo lo2:Nat} {w':World} {v:Value} {ls:List (List UInt8)} (h:NewW lo w' v ls) (hl:lo2≤lo):NewW lo2 w' v ls:=own_baseC h hl
theorem NewW.set_ {lo:Nat} {w':World} {v:Value} {ls:List (List UInt8)} (h:NewW lo w' v ls) {p:Addr} (hp:p.block<lo) (u:Value):NewW lo (w'.setCell p u) v ls:=own_setC h hp u
theorem NewW.belowW {lo:Nat} {w w':World} {v:Value} {ls:List (List UInt8)} (h:NewW lo w v ls) (hb:Below w.heap.size w w'):NewW lo w' v ls:=own_belowN h hb
theorem NewW.setCells {lo b:Nat} {v:Value} {l:List (List UInt8)} (hb:b<lo) (vs:List Value) (o:Nat) {w:World} (h:NewW lo w v l):NewW lo (w.setCells b o vs) v l:=own_setCells hb vs o h
theorem newW_sl {lo:Nat} {w:World} {v:Value} {l:List (List UInt8)} (h:NewW lo w v l):∃B m d,m=l.length∧v=.slice B m d:=newC_sl h.newC
theorem ofc_anyW {w:World} {g bl c:Nat} {ls:List (List (List UInt8))} (h:Eight w g ls) (hB:Blk w bl 219 #[.slice (some ⟨g,0,none⟩) 8 c]) (i:Nat) (hi:i<ls.length) :
  Calls Tryz.prog 226 #[.int .i64 i,.pointer (some ⟨bl,0,none⟩)] w (fun e w'=>∃v,e=.returned v∧NewW w.heap.size w' v ls[i]∧Below w.heap.size w w'):=by
 obtain ⟨A,k,h1,h2⟩:=h.2.2 i ls[i] (List.getElem?_eq_getElem hi)
 have hl:=h.2.1 _ (List.getElem_mem hi)
 have b0:=hB.cell 0
 simp at b0
 have h8:(i:Int)<8:=by have:=h.1;omega
 have h1':w.cell? ((⟨g,0,none⟩:Addr).add i)=some (.slice A ls[i].length k):=by rw [add_zero_];exact h1
 have HC:=hide (clone_own h2 (by rw [List.length_map];omega))
 generalize ls[i]=s at h1 h1' HC
 clear h hB h2 hl
 go_enter Tryz.func226,Tryz.ntmps226
 go_wp2_with fail
 refine HC.out.mono ?_
 rintro e w1 ⟨v,rfl,ho,hb⟩
 have hn:=own_newW (l:=s) ho
 obtain ⟨A2,m2,c2,hm2,rfl⟩:=newW_sl hn
 have HN:=hide hn
 clear hm2 hn
 clear ho HC
 go_wp2_with fail
 go_ret
 exact ⟨_,rfl,HN.out,hb⟩
theorem newW8 {lo:Nat} {w:World} {r:Nat} {v:Value} {l:List (List UInt8)} (h:NewW lo w v l) (hr:r<lo) (v0 v1 v2 v3 v4 v5 v6 v7:Value):NewW lo (((((((((w.setCell ⟨r,0,none⟩ v0).setCell ⟨r,1,none⟩ v1).setCell ⟨r,2,none⟩ v2).setCell ⟨r,3,none⟩ v3).setCell ⟨r,4,none⟩ v4).setCell ⟨r,5,none⟩ v5).setCell ⟨r,6,none⟩ v6).setCell ⟨r,7,none⟩ v7)) v l :=
 ((((((((h.set_ (p:=⟨r,0,none⟩) hr v0).set_ (p:=⟨r,1,none⟩) hr v1).set_ (p:=⟨r,2,none⟩) hr v2).set_ (p:=⟨r,3,none⟩) hr v3).set_ (p:=⟨r,4,none⟩) hr v4).set_ (p:=⟨r,5,none⟩) hr v5).set_ (p:=⟨r,6,none⟩) hr v6).set_ (p:=⟨r,7,none⟩) hr v7)
def OfPW (w:World) (ls:List (List (List UInt8))) (e:Ending) (w':World):Prop :=
 ∃B0 m0 d0 B1 m1 d1 B2 m2 d2 B3 m3 d3 B4 m4 d4 B5 m5 d5 B6 m6 d6 B7 m7 d7,e=.returned (.tuple #[.agg #[.slice B0 m0 d0,.slice B1 m1 d1,.slice B2 m2 d2,.slice B3 m3 d3,.slice B4 m4 d4,.slice B5 m5 d5,.slice B6 m6 d6,.slice B7 m7 d7],.bool true])∧(∀(i:Nat) v l,([.slice B0 m0 d0,.slice B1 m1 d1,.slice B2 m2 d2,.slice B3 m3 d3,.slice B4 m4 d4,.slice B5 m5 d5,.slice B6 m6 d6,.slice B7 m7 d7]:List Value)[i]?=some v→ls[i]?=some l→NewW w.heap.size w' v l)∧Below w.heap.size w w'
theorem pof_anyW {w:World} {g c:Nat} {ls:List (List (List UInt8))} (h:Eight w g ls):Calls Tryz.prog 141 #[.slice (some ⟨g,0,none⟩) 8 c] w (OfPW w ls):=by
 obtain ⟨W0,hW0⟩:∃W0,W0=(w.alloc (.cells #[.slice (some ⟨g,0,none⟩) 8 c] 219)).alloc (.cells #[.slice none 0 0,.slice none 0 0,.slice none 0 0,.slice none 0 0,.slice none 0 0,.slice none 0 0,.slice none 0 0,.slice none 0 0] 24):=⟨_,rfl⟩
 have hb0:Below w.heap.size w W0:=by rw [hW0];exact bel_by
 have hB0:Blk W0 w.heap.size 219 #[.slice (some ⟨g,0,none⟩) 8 c]:=by rw [hW0];exact (Blk.new w _ _).alloc _
 have hR0:Blk W0 (w.heap.size+1) 24 #[.slice none 0 0,.slice none 0 0,.slice none 0 0,.slice none 0 0,.slice none 0 0,.slice none 0 0,.slice none 0 0,.slice none 0 0]:=by rw [hW0];exact blk_new2 w _ _ _
 have h8:=h.1
 have HC:=hide (fun (W:World) (hb:Below W0.heap.size W0 W) (i:Nat) (hi:i<ls.length)=>ofc_anyW ((h.below hb0).below hb) (hB0.below hb hB0.lt) i hi)
 have HX:=hide (And.intro hb0 hR0)
 have C0:=hide (fun (W:World) (hb:Below W0.heap.size W0 W)=>show Calls Tryz.prog 226 #[.int .i64 0,.pointer (some ⟨w.heap.size,0,none⟩)] W (fun e w'=>∃v,e=.returned v∧NewW W.heap.size w' v (ls[0]'(by omega))∧Below W.heap.size W w') from HC.out W hb 0 (by omega))
 have C1:=hide (fun (W:World) (hb:Below W0.heap.size W0 W)=>show Calls Tryz.prog 226 #[.int .i64 1,.pointer (some ⟨w.heap.size,0,none⟩)] W (fun e w'=>∃v,e=.returned v∧NewW W.heap.size w' v (ls[1]'(by omega))∧Below W.heap.size W w') from HC.out W hb 1 (by omega))
 have C2:=hide (fun (W:World) (hb:Below W0.heap.size W0 W)=>show Calls Tryz.prog 226 #[.int .i64 2,.pointer (some ⟨w.heap.size,0,none⟩)] W (fun e w'=>∃v,e=.returned v∧NewW W.heap.size w' v (ls[2]'(by omega))∧Below W.heap.size W w') from HC.out W hb 2 (by omega))
 have C3:=hide (fun (W:World) (hb:Below W0.heap.size W0 W)=>show Calls Tryz.prog 226 #[.int .i64 3,.pointer (some ⟨w.heap.size,0,none⟩)] W (fun e w'=>∃v,e=.returned v∧NewW W.heap.size w' v (ls[3]'(by omega))∧Below W.heap.size W w') from HC.out W hb 3 (by omega))
 have C4:=hide (fun (W:World) (hb:Below W0.heap.size W0 W)=>show Calls Tryz.prog 226 #[.int .i64 4,.pointer (some ⟨w.heap.size,0,none⟩)] W (fun e w'=>∃v,e=.returned v∧NewW W.heap.size w' v (ls[4]'(by omega))∧Below W.heap.size W w') from HC.out W hb 4 (by omega))
 have C5:=hide (fun (W:World) (hb:Below W0.heap.size W0 W)=>show Calls Tryz.prog 226 #[.int .i64 5,.pointer (some ⟨w.heap.size,0,none⟩)] W (fun e w'=>∃v,e=.returned v∧NewW W.heap.size w' v (ls[5]'(by omega))∧Below W.heap.size W w') from HC.out W hb 5 (by omega))
 have C6:=hide (fun (W:World) (hb:Below W0.heap.size W0 W)=>show Calls Tryz.prog 226 #[.int .i64 6,.pointer (some ⟨w.heap.size,0,none⟩)] W (fun e w'=>∃v,e=.returned v∧NewW W.heap.size w' v (ls[6]'(by omega))∧Below W.heap.size W w') from HC.out W hb 6 (by omega))
 have C7:=hide (fun (W:World) (hb:Below W0.heap.size W0 W)=>show Calls Tryz.prog 226 #[.int .i64 7,.pointer (some ⟨w.heap.size,0,none⟩)] W (fun e w'=>∃v,e=.returned v∧NewW W.heap.size w' v (ls[7]'(by omega))∧Below W.heap.size W w') from HC.out W hb 7 (by omega))
 have b0:=hB0.cell 0
 simp at b0
 have H8:=hide h8
 clear hb0 hB0 hR0 HC h
 go_enter Tryz.func141,Tryz.ntmps141
 go_upto_region 1 with fail
 rw [←hW0]
 clear hW0
 go_wp2_with (first
  | (go_at_call 226;(with_reducible refine (C0.out _ (Below.refl _ _)).mono ?_);rintro e w1 ⟨u0,rfl,hs0,hb1⟩;have hs0:=hide hs0;obtain ⟨B0,m0,d0,hu0,rfl⟩:=newW_sl hs0.out;clear hu0;have hc0:=hb1)
  | (go_at_call 226;(with_reducible refine (C1.out _ hc0).mono ?_);rintro e w2 ⟨u1,rfl,hs1,hb2⟩;have hs1:=hide hs1;obtain ⟨B1,m1,d1,hu1,rfl⟩:=newW_sl hs1.out;clear hu1;have hc1:=hc0.trans (hb2.mono hc0.size))
  | (go_at_call 226;(with_reducible refine (C2.out _ hc1).mono ?_);rintro e w3 ⟨u2,rfl,hs2,hb3⟩;have hs2:=hide hs2;obtain ⟨B2,m2,d2,hu2,rfl⟩:=newW_sl hs2.out;clear hu2;have hc2:=hc1.trans (hb3.mono hc1.size))
  | (go_at_call 226;(with_reducible refine (C3.out _ hc2).mono ?_);rintro e w4 ⟨u3,rfl,hs3,hb4⟩;have hs3:=hide hs3;obtain ⟨B3,m3,d3,hu3,rfl⟩:=newW_sl hs3.out;clear hu3;have hc3:=hc2.trans (hb4.mono hc2.size))
  | (go_at_call 226;(with_reducible refine (C4.out _ hc3).mono ?_);rintro e w5 ⟨u4,rfl,hs4,hb5⟩;have hs4:=hide hs4;obtain ⟨B4,m4,d4,hu4,rfl⟩:=newW_sl hs4.out;clear hu4;have hc4:=hc3.trans (hb5.mono hc3.size))
  | (go_at_call 226;(with_reducible refine (C5.out _ hc4).mono ?_);rintro e w6 ⟨u5,rfl,hs5,hb6⟩;have hs5:=hide hs5;obtain ⟨B5,m5,d5,hu5,rfl⟩:=newW_sl hs5.out;clear hu5;have hc5:=hc4.trans (hb6.mono hc4.size))
  | (go_at_call 226;(with_reducible refine (C6.out _ hc5).mono ?_);rintro e w7 ⟨u6,rfl,hs6,hb7⟩;have hs6:=hide hs6;obtain ⟨B6,m6,d6,hu6,rfl⟩:=newW_sl hs6.out;clear hu6;have hc6:=hc5.trans (hb7.mono hc5.size))
  | (go_at_call 226;(with_reducible refine (C7.out _ hc6).mono ?_);rintro e w8 ⟨u7,rfl,hs7,hb8⟩;have hs7:=hide hs7;obtain ⟨B7,m7,d7,hu7,rfl⟩:=newW_sl hs7.out;clear hu7;have hc7:=hc6.trans (hb8.mono hc6.size);have hR8:=HX.out.2.below hc7 HX.out.2.lt;have r0:=hR8.cell 0;have t0:=hR8.frozen 0;have r1:=hR8.cell 1;have t1:=hR8.frozen 1;have r2:=hR8.cell 2;have t2:=hR8.frozen 2;have r3:=hR8.cell 3;have t3:=hR8.frozen 3;have r4:=hR8.cell 4;have t4:=hR8.frozen 4;have r5:=hR8.cell 5;have t5:=hR8.frozen 5;have r6:=hR8.cell 6;have t6:=hR8.frozen 6;have r7:=hR8.cell 7;have t7:=hR8.frozen 7;simp at r0 r1 r2 r3 r4 r5 r6 r7)
  | fail)
 have hF:=fin8 hR8 (.slice B0 m0 d0) (.slice B1 m1 d1) (.slice B2 m2 d2) (.slice B3 m3 d3) (.slice B4 m4 d4) (.slice B5 m5 d5) (.slice B6 m6 d6) (.slice B7 m7 d7)
 have d7':Below w8.heap.size w8 w8:=Below.refl _ _
 have d6':=hb8.trans (d7'.mono hb8.size)
 have d5':=hb7.trans (d6'.mono hb7.size)
 have d4':=hb6.trans (d5'.mono hb6.size)
 have d3':=hb5.trans (d4'.mono hb5.size)
 have d2':=hb4.trans (d3'.mono hb4.size)
 have d1':=hb3.trans (d2'.mono hb3.size)
 have d0':=hb2.trans (d1'.mono hb2.size)
 have hz0:w.heap.size+1<W0.heap.size:=HX.out.2.lt
 have S0:=(newW8 (r:=w.heap.size+1) (hs0.out.belowW d0') (hz0) (.slice B0 m0 d0) (.slice B1 m1 d1) (.slice B2 m2 d2) (.slice B3 m3 d3) (.slice B4 m4 d4) (.slice B5 m5 d5) (.slice B6 m6 d6) (.slice B7 m7 d7)).mono (lo2:=w.heap.size) (by omega)
 have S1:=(newW8 (r:=w.heap.size+1) (hs1.out.belowW d1') (Nat.lt_of_lt_of_le hz0 hc0.size) (.slice B0 m0 d0) (.slice B1 m1 d1) (.slice B2 m2 d2) (.slice B3 m3 d3) (.slice B4 m4 d4) (.slice B5 m5 d5) (.slice B6 m6 d6) (.slice B7 m7 d7)).mono (lo2:=w.heap.size) (by have:=hc0.size;omega)
 have S2:=(newW8 (r:=w.heap.size+1) (hs2.out.belowW d2') (Nat.lt_of_lt_of_le hz0 hc1.size) (.slice B0 m0 d0) (.slice B1 m1 d1) (.slice B2 m2 d2) (.slice B3 m3 d3) (.slice B4 m4 d4) (.slice B5 m5 d5) (.slice B6 m6 d6) (.slice B7 m7 d7)).mono (lo2:=w.heap.size) (by have:=hc1.size;omega)
 have S3:=(newW8 (r:=w.heap.size+1) (hs3.out.belowW d3') (Nat.lt_of_lt_of_le hz0 hc2.size) (.slice B0 m0 d0) (.slice B1 m1 d1) (.slice B2 m2 d2) (.slice B3 m3 d3) (.slice B4 m4 d4) (.slice B5 m5 d5) (.slice B6 m6 d6) (.slice B7 m7 d7)).mono (lo2:=w.heap.size) (by have:=hc2.size;omega)
 have S4:=(newW8 (r:=w.heap.size+1) (hs4.out.belowW d4') (Nat.lt_of_lt_of_le hz0 hc3.size) (.slice B0 m0 d0) (.slice B1 m1 d1) (.slice B2 m2 d2) (.slice B3 m3 d3) (.slice B4 m4 d4) (.slice B5 m5 d5) (.slice B6 m6 d6) (.slice B7 m7 d7)).mono (lo2:=w.heap.size) (by have:=hc3.size;omega)
 have S5:=(newW8 (r:=w.heap.size+1) (hs5.out.belowW d5') (Nat.lt_of_lt_of_le hz0 hc4.size) (.slice B0 m0 d0) (.slice B1 m1 d1) (.slice B2 m2 d2) (.slice B3 m3 d3) (.slice B4 m4 d4) (.slice B5 m5 d5) (.slice B6 m6 d6) (.slice B7 m7 d7)).mono (lo2:=w.heap.size) (by have:=hc4.size;omega)
 have S6:=(newW8 (r:=w.heap.size+1) (hs6.out.belowW d6') (Nat.lt_of_lt_of_le hz0 hc5.size) (.slice B0 m0 d0) (.slice B1 m1 d1) (.slice B2 m2 d2) (.slice B3 m3 d3) (.slice B4 m4 d4) (.slice B5 m5 d5) (.slice B6 m6 d6) (.slice B7 m7 d7)).mono (lo2:=w.heap.size) (by have:=hc5.size;omega)
 have S7:=(newW8 (r:=w.heap.size+1) (hs7.out.belowW d7') (Nat.lt_of_lt_of_le hz0 hc6.size) (.slice B0 m0 d0) (.slice B1 m1 d1) (.slice B2 m2 d2) (.slice B3 m3 d3) (.slice B4 m4 d4) (.slice B5 m5 d5) (.slice B6 m6 d6) (.slice B7 m7 d7)).mono (lo2:=w.heap.size) (by have:=hc6.size;omega)
 have hbF:=bel8 (r:=w.heap.size+1) (HX.out.1.trans (hc7.mono HX.out.1.size)) (Nat.le_succ _) (.slice B0 m0 d0) (.slice B1 m1 d1) (.slice B2 m2 d2) (.slice B3 m3 d3) (.slice B4 m4 d4) (.slice B5 m5 d5) (.slice B6 m6 d6) (.slice B7 m7 d7)
 generalize ((((((((w8.setCell ⟨w.heap.size+1,0,none⟩ (.slice B0 m0 d0)).setCell ⟨w.heap.size+1,1,none⟩ (.slice B1 m1 d1)).setCell ⟨w.heap.size+1,2,none⟩ (.slice B2 m2 d2)).setCell ⟨w.heap.size+1,3,none⟩ (.slice B3 m3 d3)).setCell ⟨w.heap.size+1,4,none⟩ (.slice B4 m4 d4)).setCell ⟨w.heap.size+1,5,none⟩ (.slice B5 m5 d5)).setCell ⟨w.heap.size+1,6,none⟩ (.slice B6 m6 d6)).setCell ⟨w.heap.size+1,7,none⟩ (.slice B7 m7 d7))=wF at hF S0 S1 S2 S3 S4 S5 S6 S7 hbF ⊢
 have q0:=hF.cell 0
 have q1:=hF.cell 1
 have q2:=hF.cell 2
 have q3:=hF.cell 3
 have q4:=hF.cell 4
 have q5:=hF.cell 5
 have q6:=hF.cell 6
 have q7:=hF.cell 7
 simp at q0 q1 q2 q3 q4 q5 q6 q7
 have HF:=hide (show OfPW w ls (.returned (.tuple #[.agg #[.slice B0 m0 d0,.slice B1 m1 d1,.slice B2 m2 d2,.slice B3 m3 d3,.slice B4 m4 d4,.slice B5 m5 d5,.slice B6 m6 d6,.slice B7 m7 d7],.bool true])) wF from ⟨B0,m0,d0,B1,m1,d1,B2,m2,d2,B3,m3,d3,B4,m4,d4,B5,m5,d5,B6,m6,d6,B7,m7,d7,rfl,all8 H8.out S0 S1 S2 S3 S4 S5 S6 S7,hbF⟩)
 clear hF S0 S1 S2 S3 S4 S5 S6 S7 hbF HX C0 C1 C2 C3 C4 C5 C6 C7 H8 b0
 clear hs0 hs1 hs2 hs3 hs4 hs5 hs6 hs7 hb1 hb2 hb3 hb4 hb5 hb6 hb7 hb8 hc0 hc1 hc2 hc3 hc4 hc5 hc6 hc7 hR8 r0 r1 r2 r3 r4 r5 r6 r7 t0 t1 t2 t3 t4 t5 t6 t7 d7' d6' d5' d4' d3' d2' d1' d0' hz0
 exact bodyPost_ret (v:=.tuple #[.agg #[.slice B0 m0 d0,.slice B1 m1 d1,.slice B2 m2 d2,.slice B3 m3 d3,.slice B4 m4 d4,.slice B5 m5 d5,.slice B6 m6 d6,.slice B7 m7 d7],.bool true]) (by simp [results,Tryz.results141,go_sem,q0,q1,q2,q3,q4,q5,q6,q7]) rfl HF.out
section
variable {w : World}
theorem copy_anyW {sv ex ge:Bool} {sw cm us:List UInt8} {A0 A1 A2 A3 A4 A5 A6 A7 A8 A9 A10:Option Addr} {n0 n1 n2 n3 n4 n5 n6 n7 c0 c1 c2 c3 c4 c5 c6 c7 c8 c9 c10:Nat} {al:List (List UInt8)} {own lim peer q0 q1 q2:Int} {gr:List (List UInt8 × Int)} {ky:List Int} {ls:List (List (List UInt8))} (hC:CfM w sw cm us [.slice A0 n0 c0,.slice A1 n1 c1,.slice A2 n2 c2,.slice A3 n3 c3,.slice A4 n4 c4,.slice A5 n5 c5,.slice A6 n6 c6,.slice A7 n7 c7] ls A8 c8 al A9 gr A10 ky):Calls Tryz.prog 83 #[.agg #[.bool sv,.string (bs sw),.string (bs cm),.slice A0 n0 c0,.slice A1 n1 c1,.slice A2 n2 c2,.slice A3 n3 c3,.slice A4 n4 c4,.slice A5 n5 c5,.slice A6 n6 c6,.slice A7 n7 c7,.slice A8 al.length c8,.int .i64 own,.slice A9 gr.length c9,.int .i64 lim,.int .i64 peer,.string (bs us),.slice A10 ky.length c10,.bool ex,.bool ge,.int .u32 q0,.int .u32 q1,.int .u32 q2]] w (fun e w'=>∃B0 m0 d0 B1 m1 d1 B2 m2 d2 B3 m3 d3 B4 m4 d4 B5 m5 d5 B6 m6 d6 B7 m7 d7 B8 d8 B9 d9 B10 d10,e=.returned (.agg #[.bool sv,.string (bs sw),.string (bs cm),.slice B0 m0 d0,.slice B1 m1 d1,.slice B2 m2 d2,.slice B3 m3 d3,.slice B4 m4 d4,.slice B5 m5 d5,.slice B6 m6 d6,.slice B7 m7 d7,.slice B8 al.length d8,.int .i64 own,.slice B9 gr.length d9,.int .i64 lim,.int .i64 peer,.string (bs us),.slice B10 ky.length d10,.bool ex,.bool ge,.int .u32 q0,.int .u32 q1,.int .u32 q2])∧(∀(i:Nat) v l,([.slice B0 m0 d0,.slice B1 m1 d1,.slice B2 m2 d2,.slice B3 m3 d3,.slice B4 m4 d4,.slice B5 m5 d5,.slice B6 m6 d6,.slice B7 m7 d7]:List Value)[i]?=some v→ls[i]?=some l→NewW w.heap.size w' v l)∧NewW w.heap.size w' (.slice B8 al.length d8) al∧w'.ownsRow w.heap.size 158 2 (.slice B9 gr.length d9) gr.length (flatG gr)∧w'.ownsRow w.heap.size 3 1 (.slice B10 ky.length d10) ky.length (ky.map (Value.int .i64))∧Below w.heap.size w w'):=by
 obtain ⟨W0,hW0⟩:∃W0,W0=(w.alloc (.cells #[.bool sv,.string (bs sw),.string (bs cm),.slice A0 n0 c0,.slice A1 n1 c1,.slice A2 n2 c2,.slice A3 n3 c3,.slice A4 n4 c4,.slice A5 n5 c5,.slice A6 n6 c6,.slice A7 n7 c7,.slice A8 al.length c8,.int .i64 own,.slice A9 gr.length c9,.int .i64 lim,.int .i64 peer,.string (bs us),.slice A10 ky.length c10,.bool ex,.bool ge,.int .u32 q0,.int .u32 q1,.int .u32 q2] 30)).alloc (.cells zeroC 30):=⟨_,rfl⟩
 have hb0:Below w.heap.size w W0:=by rw [hW0];exact bel_by
 have hX0:Blk W0 w.heap.size 30 #[.bool sv,.string (bs sw),.string (bs cm),.slice A0 n0 c0,.slice A1 n1 c1,.slice A2 n2 c2,.slice A3 n3 c3,.slice A4 n4 c4,.slice A5 n5 c5,.slice A6 n6 c6,.slice A7 n7 c7,.slice A8 al.length c8,.int .i64 own,.slice A9 gr.length c9,.int .i64 lim,.int .i64 peer,.string (bs us),.slice A10 ky.length c10,.bool ex,.bool ge,.int .u32 q0,.int .u32 q1,.int .u32 q2]:=by rw [hW0];exact (Blk.new w _ _).alloc _
 have hR0:Blk W0 (w.heap.size+1) 30 zeroC:=by rw [hW0];exact blk_new2 w _ _ _
 have hC0:=hC.below hb0
 have HL:=hide (plc_any hC0.hl8)
 have HS:=hide (fun l hl=>(hC0.hl8.small l hl).1)
 have HX:=hide (And.intro hb0 (And.intro hX0 (And.intro hR0 hC0)))
 have hltR:=hR0.lt
 have hltX:=hX0.lt
 have HC:=hide hC
 have y3:=hX0.cell 3
 have z3:=hX0.frozen 3
 have y4:=hX0.cell 4
 have z4:=hX0.frozen 4
 have y5:=hX0.cell 5
 have z5:=hX0.frozen 5
 have y6:=hX0.cell 6
 have z6:=hX0.frozen 6
 have y7:=hX0.cell 7
 have z7:=hX0.frozen 7
 have y8:=hX0.cell 8
 have z8:=hX0.frozen 8
 have y9:=hX0.cell 9
 have z9:=hX0.frozen 9
 have y10:=hX0.cell 10
 have z10:=hX0.frozen 10
 simp only [List.getElem?_toArray,List.getElem?_cons_zero,List.getElem?_cons_succ] at y3 y4 y5 y6 y7 y8 y9 y10
 clear hb0 hX0 hR0 hC hC0
 go_enter Tryz.func83,Tryz.ntmps83
 go_upto_region 1 with fail
 unfold zeroC at hW0
 rw [←hW0]
 clear hW0
 refine wp_region_lit ?_
 refine wpList_val (v:=.pointer (some ⟨w.heap.size,3,none⟩)) (w':=W0) rfl (by go_simp) ?_
 try simp only [Act.put,List.setIfInBounds_toArray,List.set_cons_zero,List.set_cons_succ]
 refine wpList_val (v:=.agg #[.slice A0 n0 c0,.slice A1 n1 c1,.slice A2 n2 c2,.slice A3 n3 c3,.slice A4 n4 c4,.slice A5 n5 c5,.slice A6 n6 c6,.slice A7 n7 c7]) (w':=W0) rfl (by go_simp) ?_
 try simp only [Act.put,List.setIfInBounds_toArray,List.set_cons_zero,List.set_cons_succ]
 refine wpList_call_ (f:=142) rfl (by go_simp) HL.out ?_
 rintro e w1 ⟨g,rfl,hR1,hb1⟩
 refine ⟨_,rfl,?_⟩
 try simp only [Act.put,List.setIfInBounds_toArray,List.set_cons_zero,List.set_cons_succ]
 have HO:=hide (pof_anyW (c:=8) (hR1.eight HS.out))
 refine wpList_call_ (f:=141) rfl (by go_simp) HO.out ?_
 rintro e w2 ⟨B0,m0,d0,B1,m1,d1,B2,m2,d2,B3,m3,d3,B4,m4,d4,B5,m5,d5,B6,m6,d6,B7,m7,d7,rfl,hall,hb2⟩
 refine ⟨_,rfl,?_⟩
 try simp only [Act.put,List.setIfInBounds_toArray,List.set_cons_zero,List.set_cons_succ]
 have hb02:=hb1.trans (hb2.mono hb1.size)
 have hX2:=HX.out.2.1.below hb02 hltX
 have hR2:=HX.out.2.2.1.below hb02 hltR
 have hsz0:w.heap.size+2≤w1.heap.size:=by have:=hb1.size;have:=hltR;omega
 have hb2w:Below w.heap.size w w2:=HX.out.1.trans (hb02.mono HX.out.1.size)
 have hn2:∀(i:Nat) v l,([.slice B0 m0 d0,.slice B1 m1 d1,.slice B2 m2 d2,.slice B3 m3 d3,.slice B4 m4 d4,.slice B5 m5 d5,.slice B6 m6 d6,.slice B7 m7 d7]:List Value)[i]?=some v→ls[i]?=some l→NewW (w.heap.size+2) w2 v l:=fun i v l h1 h2=>(hall i v l h1 h2).mono hsz0
 clear hR1 hb1 hb2 hall HL HO y3 z3 y4 z4 y5 z5 y6 z6 y7 z7 y8 z8 y9 z9 y10 z10 hltX hltR hb02 HX HS hsz0
 refine wpList_val (v:=.tuple #[.agg #[.slice B0 m0 d0,.slice B1 m1 d1,.slice B2 m2 d2,.slice B3 m3 d3,.slice B4 m4 d4,.slice B5 m5 d5,.slice B6 m6 d6,.slice B7 m7 d7],.bool true]) (w':=w2) rfl (by go_simp) ?_
 try simp only [Act.put,List.setIfInBounds_toArray,List.set_cons_zero,List.set_cons_succ]
 refine wpList_val (v:=.agg #[.slice B0 m0 d0,.slice B1 m1 d1,.slice B2 m2 d2,.slice B3 m3 d3,.slice B4 m4 d4,.slice B5 m5 d5,.slice B6 m6 d6,.slice B7 m7 d7]) (w':=w2) rfl (by go_simp) ?_
 try simp only [Act.put,List.setIfInBounds_toArray,List.set_cons_zero,List.set_cons_succ]
 refine wpList_val (v:=.bool true) (w':=w2) rfl (by go_simp) ?_
 try simp only [Act.put,List.setIfInBounds_toArray,List.set_cons_zero,List.set_cons_succ]
 refine wpList_val (v:=.pointer (some ⟨w.heap.size,3,none⟩)) (w':=w2) rfl (by go_simp) ?_
 try simp only [Act.put,List.setIfInBounds_toArray,List.set_cons_zero,List.set_cons_succ]
 refine wpList_store_mid rfl 24 (.tmp 10) (.tmp 8) rfl w.heap.size 3 #[.slice B0 m0 d0,.slice B1 m1 d1,.slice B2 m2 d2,.slice B3 m3 d3,.slice B4 m4 d4,.slice B5 m5 d5,.slice B6 m6 d6,.slice B7 m7 d7] (by rfl) (by rfl) (blk_there_at hX2 (by simp)) infoPrefs (by simp [Value.oneCell']) ?_
 have hX:Blk (w2.setCells w.heap.size 3 [.slice B0 m0 d0,.slice B1 m1 d1,.slice B2 m2 d2,.slice B3 m3 d3,.slice B4 m4 d4,.slice B5 m5 d5,.slice B6 m6 d6,.slice B7 m7 d7]) w.heap.size 30 #[.bool sv,.string (bs sw),.string (bs cm),.slice B0 m0 d0,.slice B1 m1 d1,.slice B2 m2 d2,.slice B3 m3 d3,.slice B4 m4 d4,.slice B5 m5 d5,.slice B6 m6 d6,.slice B7 m7 d7,.slice A8 al.length c8,.int .i64 own,.slice A9 gr.length c9,.int .i64 lim,.int .i64 peer,.string (bs us),.slice A10 ky.length c10,.bool ex,.bool ge,.int .u32 q0,.int .u32 q1,.int .u32 q2]:=by
  have h9:=Blk.setCells [.slice B0 m0 d0,.slice B1 m1 d1,.slice B2 m2 d2,.slice B3 m3 d3,.slice B4 m4 d4,.slice B5 m5 d5,.slice B6 m6 d6,.slice B7 m7 d7] 3 hX2
  rw [show wrA #[.bool sv,.string (bs sw),.string (bs cm),.slice A0 n0 c0,.slice A1 n1 c1,.slice A2 n2 c2,.slice A3 n3 c3,.slice A4 n4 c4,.slice A5 n5 c5,.slice A6 n6 c6,.slice A7 n7 c7,.slice A8 al.length c8,.int .i64 own,.slice A9 gr.length c9,.int .i64 lim,.int .i64 peer,.string (bs us),.slice A10 ky.length c10,.bool ex,.bool ge,.int .u32 q0,.int .u32 q1,.int .u32 q2] 3 [.slice B0 m0 d0,.slice B1 m1 d1,.slice B2 m2 d2,.slice B3 m3 d3,.slice B4 m4 d4,.slice B5 m5 d5,.slice B6 m6 d6,.slice B7 m7 d7]=#[.bool sv,.string (bs sw),.string (bs cm),.slice B0 m0 d0,.slice B1 m1 d1,.slice B2 m2 d2,.slice B3 m3 d3,.slice B4 m4 d4,.slice B5 m5 d5,.slice B6 m6 d6,.slice B7 m7 d7,.slice A8 al.length c8,.int .i64 own,.slice A9 gr.length c9,.int .i64 lim,.int .i64 peer,.string (bs us),.slice A10 ky.length c10,.bool ex,.bool ge,.int .u32 q0,.int .u32 q1,.int .u32 q2] from wrA_mid [.bool sv,.string (bs sw),.string (bs cm)] [.slice A0 n0 c0,.slice A1 n1 c1,.slice A2 n2 c2,.slice A3 n3 c3,.slice A4 n4 c4,.slice A5 n5 c5,.slice A6 n6 c6,.slice A7 n7 c7] [.slice A8 al.length c8,.int .i64 own,.slice A9 gr.length c9,.int .i64 lim,.int .i64 peer,.string (bs us),.slice A10 ky.length c10,.bool ex,.bool ge,.int .u32 q0,.int .u32 q1,.int .u32 q2] [.slice B0 m0 d0,.slice B1 m1 d1,.slice B2 m2 d2,.slice B3 m3 d3,.slice B4 m4 d4,.slice B5 m5 d5,.slice B6 m6 d6,.slice B7 m7 d7] rfl] at h9
  exact h9
 have hB:=below_setCells (b:=w.heap.size) (Nat.le_refl _) [.slice B0 m0 d0,.slice B1 m1 d1,.slice B2 m2 d2,.slice B3 m3 d3,.slice B4 m4 d4,.slice B5 m5 d5,.slice B6 m6 d6,.slice B7 m7 d7] 3 hb2w
 have hR:=Blk.setCells_far (b:=w.heap.size) (by simp) [.slice B0 m0 d0,.slice B1 m1 d1,.slice B2 m2 d2,.slice B3 m3 d3,.slice B4 m4 d4,.slice B5 m5 d5,.slice B6 m6 d6,.slice B7 m7 d7] 3 hR2
 have hN:∀(i:Nat) v l,([.slice B0 m0 d0,.slice B1 m1 d1,.slice B2 m2 d2,.slice B3 m3 d3,.slice B4 m4 d4,.slice B5 m5 d5,.slice B6 m6 d6,.slice B7 m7 d7]:List Value)[i]?=some v→ls[i]?=some l→NewW (w.heap.size+2) (w2.setCells w.heap.size 3 [.slice B0 m0 d0,.slice B1 m1 d1,.slice B2 m2 d2,.slice B3 m3 d3,.slice B4 m4 d4,.slice B5 m5 d5,.slice B6 m6 d6,.slice B7 m7 d7]) v l:=fun i v l h1 h2=>NewW.setCells (by omega) [.slice B0 m0 d0,.slice B1 m1 d1,.slice B2 m2 d2,.slice B3 m3 d3,.slice B4 m4 d4,.slice B5 m5 d5,.slice B6 m6 d6,.slice B7 m7 d7] 3 (hn2 i v l h1 h2)
 show wpList _ _ _ _ _ (w2.setCells w.heap.size 3 [.slice B0 m0 d0,.slice B1 m1 d1,.slice B2 m2 d2,.slice B3 m3 d3,.slice B4 m4 d4,.slice B5 m5 d5,.slice B6 m6 d6,.slice B7 m7 d7])
 generalize w2.setCells w.heap.size 3 [.slice B0 m0 d0,.slice B1 m1 d1,.slice B2 m2 d2,.slice B3 m3 d3,.slice B4 m4 d4,.slice B5 m5 d5,.slice B6 m6 d6,.slice B7 m7 d7]=W2 at hX hB hR hN ⊢
 clear hX2 hR2 hn2 hb2w
 have HB:=hide hB
 have HR:=hide hR
 have HN:=hide hN
 have HX:=hide hX
 clear hB hR hN hX
 try simp only [Act.put,List.setIfInBounds_toArray,List.set_cons_zero,List.set_cons_succ]
 go_upto_region 2 with fail
 have hX2:=HX.out
 have hs2:=HB.out.size
 have y:=hX2.cell 11
 have z:=hX2.frozen 11
 simp only [List.getElem?_toArray,List.getElem?_cons_zero,List.getElem?_cons_succ] at y
 refine wp_region_lit ?_
 refine wpList_val (v:=.pointer (some ⟨w.heap.size,11,none⟩)) (w':=W2) rfl (by go_simp) ?_
 try simp only [Act.put,List.setIfInBounds_toArray,List.set_cons_zero,List.set_cons_succ]
 refine wpList_val (v:=.slice A8 al.length c8) (w':=W2) rfl (by go_simp) ?_
 try simp only [Act.put,List.setIfInBounds_toArray,List.set_cons_zero,List.set_cons_succ]
 clear y z
 have hC2:=HC.out.below HB.out
 refine wpList_call_ (f:=143) rfl (by go_simp) (clone_own (ss:=al.map bs) hC2.hal (by rw [List.length_map];exact Nat.le_trans HC.out.all (by decide))) ?_
 rintro e w3 ⟨v',rfl,hown,hbb⟩
 rw [List.length_map] at hown
 obtain ⟨B8,d8,rfl⟩:=own_slN hown
 refine ⟨_,rfl,?_⟩
 try simp only [Act.put,List.setIfInBounds_toArray,List.set_cons_zero,List.set_cons_succ]
 clear hC2
 have hlx:w.heap.size<W2.heap.size:=hX2.lt
 have hlr:w.heap.size+1<W2.heap.size:=HR.out.lt
 have hX:=hX2.below hbb hlx
 have y:=hX.cell 11
 have z:=hX.frozen 11
 simp only [List.getElem?_toArray,List.getElem?_cons_zero,List.getElem?_cons_succ] at y
 refine wpList_val (v:=.pointer (some ⟨w.heap.size,11,none⟩)) (w':=w3) rfl (by go_simp) ?_
 try simp only [Act.put,List.setIfInBounds_toArray,List.set_cons_zero,List.set_cons_succ]
 refine wpList_skip (w':=w3.setCell ⟨w.heap.size,11,none⟩ (.slice B8 al.length d8)) rfl (by go_simp) ?_
 try simp only [Act.put,List.setIfInBounds_toArray,List.set_cons_zero,List.set_cons_succ]
 clear y z
 have HX2:=hide (show Blk (w3.setCell ⟨w.heap.size,11,none⟩ (.slice B8 al.length d8)) w.heap.size 30 #[.bool sv,.string (bs sw),.string (bs cm),.slice B0 m0 d0,.slice B1 m1 d1,.slice B2 m2 d2,.slice B3 m3 d3,.slice B4 m4 d4,.slice B5 m5 d5,.slice B6 m6 d6,.slice B7 m7 d7,.slice B8 al.length d8,.int .i64 own,.slice A9 gr.length c9,.int .i64 lim,.int .i64 peer,.string (bs us),.slice A10 ky.length c10,.bool ex,.bool ge,.int .u32 q0,.int .u32 q1,.int .u32 q2] from by
  have h9:=hX.set_ 11 (.slice B8 al.length d8)
  simpa using h9)
 have HB2:=hide ((HB.out.trans (hbb.mono hs2)).setCell (p:=⟨w.heap.size,11,none⟩) (Nat.le_refl _) (.slice B8 al.length d8))
 have HR2:=hide ((HR.out.below hbb hlr).far (p:=⟨w.heap.size,11,none⟩) (by simp) (.slice B8 al.length d8))
 have HN2:=hide (show ∀(i:Nat) v l,([.slice B0 m0 d0,.slice B1 m1 d1,.slice B2 m2 d2,.slice B3 m3 d3,.slice B4 m4 d4,.slice B5 m5 d5,.slice B6 m6 d6,.slice B7 m7 d7]:List Value)[i]?=some v→ls[i]?=some l→NewW (w.heap.size+2) (w3.setCell ⟨w.heap.size,11,none⟩ (.slice B8 al.length d8)) v l from fun i v l h1 h2=>((HN.out i v l h1 h2).belowW hbb).set_ (p:=⟨w.heap.size,11,none⟩) (by show w.heap.size<_;omega) _)
 have H82:=hide (((show NewW _ _ _ _ from hown).mono (lo2:=w.heap.size+2) (by omega)).set_ (p:=⟨w.heap.size,11,none⟩) (by show w.heap.size<_;omega) (.slice B8 al.length d8))
 generalize w3.setCell ⟨w.heap.size,11,none⟩ (.slice B8 al.length d8)=W3 at HX2 HB2 HR2 HN2 H82 ⊢
 clear hX2 HX HB HR HN hown hbb hX hs2 hlx hlr
 have HX:=HX2
 have HB:=HB2
 have HR:=HR2
 have HN:=HN2
 have H8:=H82
 clear HX2 HB2 HR2 HN2 H82
 go_upto_region 3 with fail
 have hX3:=HX.out
 have hs3:=HB.out.size
 have y:=hX3.cell 13
 have z:=hX3.frozen 13
 simp only [List.getElem?_toArray,List.getElem?_cons_zero,List.getElem?_cons_succ] at y
 refine wp_region_lit ?_
 refine wpList_val (v:=.pointer (some ⟨w.heap.size,13,none⟩)) (w':=W3) rfl (by go_simp) ?_
 try simp only [Act.put,List.setIfInBounds_toArray,List.set_cons_zero,List.set_cons_succ]
 refine wpList_val (v:=.slice A9 gr.length c9) (w':=W3) rfl (by go_simp) ?_
 try simp only [Act.put,List.setIfInBounds_toArray,List.set_cons_zero,List.set_cons_succ]
 clear y z
 have hC3:=HC.out.below HB.out
 refine wpList_call_ (f:=144) rfl (by go_simp) (clone_gr (c:=c9) hC3.hgr.reads (flatG_one gr) HC.out.grl) ?_
 rintro e w4 ⟨v',rfl,hown,hbb⟩
 obtain ⟨B9,d9,rfl⟩:=own_slN hown
 refine ⟨_,rfl,?_⟩
 try simp only [Act.put,List.setIfInBounds_toArray,List.set_cons_zero,List.set_cons_succ]
 clear hC3
 have hlx:w.heap.size<W3.heap.size:=hX3.lt
 have hlr:w.heap.size+1<W3.heap.size:=HR.out.lt
 have hX:=hX3.below hbb hlx
 have y:=hX.cell 13
 have z:=hX.frozen 13
 simp only [List.getElem?_toArray,List.getElem?_cons_zero,List.getElem?_cons_succ] at y
 refine wpList_val (v:=.pointer (some ⟨w.heap.size,13,none⟩)) (w':=w4) rfl (by go_simp) ?_
 try simp only [Act.put,List.setIfInBounds_toArray,List.set_cons_zero,List.set_cons_succ]
 refine wpList_skip (w':=w4.setCell ⟨w.heap.size,13,none⟩ (.slice B9 gr.length d9)) rfl (by go_simp) ?_
 try simp only [Act.put,List.setIfInBounds_toArray,List.set_cons_zero,List.set_cons_succ]
 clear y z
 have HX2:=hide (show Blk (w4.setCell ⟨w.heap.size,13,none⟩ (.slice B9 gr.length d9)) w.heap.size 30 #[.bool sv,.string (bs sw),.string (bs cm),.slice B0 m0 d0,.slice B1 m1 d1,.slice B2 m2 d2,.slice B3 m3 d3,.slice B4 m4 d4,.slice B5 m5 d5,.slice B6 m6 d6,.slice B7 m7 d7,.slice B8 al.length d8,.int .i64 own,.slice B9 gr.length d9,.int .i64 lim,.int .i64 peer,.string (bs us),.slice A10 ky.length c10,.bool ex,.bool ge,.int .u32 q0,.int .u32 q1,.int .u32 q2] from by
  have h9:=hX.set_ 13 (.slice B9 gr.length d9)
  simpa using h9)
 have HB2:=hide ((HB.out.trans (hbb.mono hs3)).setCell (p:=⟨w.heap.size,13,none⟩) (Nat.le_refl _) (.slice B9 gr.length d9))
 have HR2:=hide ((HR.out.below hbb hlr).far (p:=⟨w.heap.size,13,none⟩) (by simp) (.slice B9 gr.length d9))
 have HN2:=hide (show ∀(i:Nat) v l,([.slice B0 m0 d0,.slice B1 m1 d1,.slice B2 m2 d2,.slice B3 m3 d3,.slice B4 m4 d4,.slice B5 m5 d5,.slice B6 m6 d6,.slice B7 m7 d7]:List Value)[i]?=some v→ls[i]?=some l→NewW (w.heap.size+2) (w4.setCell ⟨w.heap.size,13,none⟩ (.slice B9 gr.length d9)) v l from fun i v l h1 h2=>((HN.out i v l h1 h2).belowW hbb).set_ (p:=⟨w.heap.size,13,none⟩) (by show w.heap.size<_;omega) _)
 have H82:=hide ((H8.out.belowW hbb).set_ (p:=⟨w.heap.size,13,none⟩) (by show w.heap.size<_;omega) (.slice B9 gr.length d9))
 have H92:=hide (own_setC (own_baseC hown (b':=w.heap.size+2) (by omega)) (p:=⟨w.heap.size,13,none⟩) (by show w.heap.size<_;omega) (.slice B9 gr.length d9))
 generalize w4.setCell ⟨w.heap.size,13,none⟩ (.slice B9 gr.length d9)=W4 at HX2 HB2 HR2 HN2 H82 H92 ⊢
 clear hX3 HX HB HR HN H8 hown hbb hX hs3 hlx hlr
 have HX:=HX2
 have HB:=HB2
 have HR:=HR2
 have HN:=HN2
 have H8:=H82
 have H9:=H92
 clear HX2 HB2 HR2 HN2 H82 H92
 go_upto_region 4 with fail
 have hX4:=HX.out
 have hs4:=HB.out.size
 have y:=hX4.cell 17
 have z:=hX4.frozen 17
 simp only [List.getElem?_toArray,List.getElem?_cons_zero,List.getElem?_cons_succ] at y
 refine wp_region_lit ?_
 refine wpList_val (v:=.pointer (some ⟨w.heap.size,17,none⟩)) (w':=W4) rfl (by go_simp) ?_
 try simp only [Act.put,List.setIfInBounds_toArray,List.set_cons_zero,List.set_cons_succ]
 refine wpList_val (v:=.slice A10 ky.length c10) (w':=W4) rfl (by go_simp) ?_
 try simp only [Act.put,List.setIfInBounds_toArray,List.set_cons_zero,List.set_cons_succ]
 clear y z
 have hC4:=HC.out.below HB.out
 refine wpList_call_ (f:=145) rfl (by go_simp) (clone_in (c:=c10) hC4.hky.reads (fun u hu=>by obtain ⟨x,_,rfl⟩:=List.mem_map.1 hu;rfl) HC.out.kyl) ?_
 rintro e w5 ⟨v',rfl,hown,hbb⟩
 obtain ⟨B10,d10,rfl⟩:=own_slN hown
 refine ⟨_,rfl,?_⟩
 try simp only [Act.put,List.setIfInBounds_toArray,List.set_cons_zero,List.set_cons_succ]
 clear hC4
 have hlx:w.heap.size<W4.heap.size:=hX4.lt
 have hlr:w.heap.size+1<W4.heap.size:=HR.out.lt
 have hX:=hX4.below hbb hlx
 have y:=hX.cell 17
 have z:=hX.frozen 17
 simp only [List.getElem?_toArray,List.getElem?_cons_zero,List.getElem?_cons_succ] at y
 refine wpList_val (v:=.pointer (some ⟨w.heap.size,17,none⟩)) (w':=w5) rfl (by go_simp) ?_
 try simp only [Act.put,List.setIfInBounds_toArray,List.set_cons_zero,List.set_cons_succ]
 refine wpList_skip (w':=w5.setCell ⟨w.heap.size,17,none⟩ (.slice B10 ky.length d10)) rfl (by go_simp) ?_
 try simp only [Act.put,List.setIfInBounds_toArray,List.set_cons_zero,List.set_cons_succ]
 clear y z
 have HX2:=hide (show Blk (w5.setCell ⟨w.heap.size,17,none⟩ (.slice B10 ky.length d10)) w.heap.size 30 #[.bool sv,.string (bs sw),.string (bs cm),.slice B0 m0 d0,.slice B1 m1 d1,.slice B2 m2 d2,.slice B3 m3 d3,.slice B4 m4 d4,.slice B5 m5 d5,.slice B6 m6 d6,.slice B7 m7 d7,.slice B8 al.length d8,.int .i64 own,.slice B9 gr.length d9,.int .i64 lim,.int .i64 peer,.string (bs us),.slice B10 ky.length d10,.bool ex,.bool ge,.int .u32 q0,.int .u32 q1,.int .u32 q2] from by
  have h9:=hX.set_ 17 (.slice B10 ky.length d10)
  simpa using h9)
 have HB2:=hide ((HB.out.trans (hbb.mono hs4)).setCell (p:=⟨w.heap.size,17,none⟩) (Nat.le_refl _) (.slice B10 ky.length d10))
 have HR2:=hide ((HR.out.below hbb hlr).far (p:=⟨w.heap.size,17,none⟩) (by simp) (.slice B10 ky.length d10))
 have HN2:=hide (show ∀(i:Nat) v l,([.slice B0 m0 d0,.slice B1 m1 d1,.slice B2 m2 d2,.slice B3 m3 d3,.slice B4 m4 d4,.slice B5 m5 d5,.slice B6 m6 d6,.slice B7 m7 d7]:List Value)[i]?=some v→ls[i]?=some l→NewW (w.heap.size+2) (w5.setCell ⟨w.heap.size,17,none⟩ (.slice B10 ky.length d10)) v l from fun i v l h1 h2=>((HN.out i v l h1 h2).belowW hbb).set_ (p:=⟨w.heap.size,17,none⟩) (by show w.heap.size<_;omega) _)
 have H82:=hide ((H8.out.belowW hbb).set_ (p:=⟨w.heap.size,17,none⟩) (by show w.heap.size<_;omega) (.slice B10 ky.length d10))
 have H92:=hide (own_setC (own_belowN H9.out hbb) (p:=⟨w.heap.size,17,none⟩) (by show w.heap.size<_;omega) (.slice B10 ky.length d10))
 have H102:=hide (own_setC (own_baseC hown (b':=w.heap.size+2) (by omega)) (p:=⟨w.heap.size,17,none⟩) (by show w.heap.size<_;omega) (.slice B10 ky.length d10))
 generalize w5.setCell ⟨w.heap.size,17,none⟩ (.slice B10 ky.length d10)=W5 at HX2 HB2 HR2 HN2 H82 H92 H102 ⊢
 clear hX4 HX HB HR HN H8 H9 hown hbb hX hs4 hlx hlr
 have HX:=HX2
 have HB:=HB2
 have HR:=HR2
 have HN:=HN2
 have H8:=H82
 have H9:=H92
 have H10:=H102
 clear HX2 HB2 HR2 HN2 H82 H92 H102
 go_upto_region 5 with fail
 refine wp_region_lit ?_
 obtain ⟨cF,hcF⟩:∃c:Array Value,c=#[.bool sv,.string (bs sw),.string (bs cm),.slice B0 m0 d0,.slice B1 m1 d1,.slice B2 m2 d2,.slice B3 m3 d3,.slice B4 m4 d4,.slice B5 m5 d5,.slice B6 m6 d6,.slice B7 m7 d7,.slice B8 al.length d8,.int .i64 own,.slice B9 gr.length d9,.int .i64 lim,.int .i64 peer,.string (bs us),.slice B10 ky.length d10,.bool ex,.bool ge,.int .u32 q0,.int .u32 q1,.int .u32 q2]:=⟨_,rfl⟩
 have hlF:cF.toList.length=23:=by rw [hcF];rfl
 have hone:cF.all (·.oneCell')=true:=by rw [hcF];simp [Value.oneCell']
 have hX:=HX.out
 rw [←hcF] at hX
 refine wpList_load_confA rfl (.tmp 1) rfl (by rfl) hX hlF ?_
 try simp only [Act.put,List.setIfInBounds_toArray,List.set_cons_zero,List.set_cons_succ]
 refine wpList_store_conf rfl (.tmp 2) (.tmp 23) rfl (by rfl) (by rfl) HR.out rfl hlF hone ?_
 have hR7:Blk (W5.setCells (w.heap.size+1) 0 cF.toList) (w.heap.size+1) 30 cF:=by
  have h9:=Blk.setCells cF.toList 0 HR.out
  rw [wrA_all (by rw [hlF];rfl),Array.toArray_toList] at h9
  exact h9
 have hb7:=hide (below_setCells (b:=w.heap.size+1) (by omega) cF.toList 0 HB.out)
 have hn7:=hide (show ∀(i:Nat) v l,([.slice B0 m0 d0,.slice B1 m1 d1,.slice B2 m2 d2,.slice B3 m3 d3,.slice B4 m4 d4,.slice B5 m5 d5,.slice B6 m6 d6,.slice B7 m7 d7]:List Value)[i]?=some v→ls[i]?=some l→NewW w.heap.size (W5.setCells (w.heap.size+1) 0 cF.toList) v l from fun i v l h1 h2=>(NewW.setCells (by omega) cF.toList 0 (HN.out i v l h1 h2)).mono (by omega))
 have h87:=hide ((NewW.setCells (b:=w.heap.size+1) (by omega) cF.toList 0 H8.out).mono (lo2:=w.heap.size) (by omega))
 have h97:=hide (own_baseC (own_setCells (g:=w.heap.size+1) (by omega) cF.toList 0 H9.out) (b':=w.heap.size) (by omega))
 have h107:=hide (own_baseC (own_setCells (g:=w.heap.size+1) (by omega) cF.toList 0 H10.out) (b':=w.heap.size) (by omega))
 generalize W5.setCells (w.heap.size+1) 0 cF.toList=W7 at hR7 hb7 hn7 h87 h97 h107 ⊢
 have HR7:=hide hR7
 clear hX HX HR HB HN H8 H9 H10 HC hR7 hone
 try simp only [Act.put,List.setIfInBounds_toArray,List.set_cons_zero,List.set_cons_succ]
 go_wp2_with fail
 refine bodyPost_ret (results_conf rfl (by rfl) HR7.out hlF) rfl ?_
 subst hcF
 exact ⟨B0,m0,d0,B1,m1,d1,B2,m2,d2,B3,m3,d3,B4,m4,d4,B5,m5,d5,B6,m6,d6,B7,m7,d7,B8,d8,B9,d9,B10,d10,rfl,hn7.out,h87.out,h97.out,h107.out,hb7.out⟩
end
end Go.Proofs.YtnhekaepgpbijaaGreatDoor

/-
  Several of my texts in one: Before, Sort.
-/
import Derived.Test.YtkfnepnghnicoaaGreatDoorKArenaA
import Derived.Test.YtkfnepnghnicoaaGreatDoorKPureA
import Derived.Test.YtkfnepnghnicoaaGreatDoorKShelf
import Derived.Lib.QuietBelow
import Derived.BigRegion
import Derived.Laws.BitsLemmas
set_option linter.unusedVariables false
set_option linter.unusedSimpArgs false
set_option maxHeartbeats 40000000
set_option maxRecDepth 100000
namespace Go.Proofs.YtkfnepnghnicoaaGreatDoor
open Go.RowKit Go.ChangeShapes Go.WideShapes
section
variable {B g : Nat} {w : World} {T : List Tm} {S : Nat → Prop}
def cmpT (x y:Tm):Int:=if x.a=y.a then (x.b:Int) - y.b else (x.a:Int) - y.a
theorem cmpT_lt (x y:Tm):cmpT x y<0↔tlt x y=true:=by
 unfold cmpT tlt
 rw [decide_eq_true_eq]
 split <;> omega
theorem before_any (h:Ar B w g T S) {i j:Nat} {x y:Tm} (hi:T[i]?=some x) (hj:T[j]?=some y) (kx:x.k=2) (ky:y.k=2) :
  Calls Tryz.prog 260 #[.pointer (some ⟨g,0,none⟩),.int .i64 i,.int .i64 j] w fun e w'=>e=.returned (.int .i64 (cmpT x y))∧Below w.heap.size w w':=by
 obtain ⟨nv,sv,mb,rows,D,h⟩:=h
 obtain ⟨nb,cap,av,js,rfl,hlt,c0,c1,c2,c3,c4,_,hI⟩:=h.cells hi
 obtain ⟨nb',cap',av',ks,e',_,d0,d1,d2,d3,d4,_,hJ⟩:=h.cells hj
 simp only [Value.slice.injEq,Option.some.injEq,Addr.mk.injEq,and_true,true_and] at e'
 obtain ⟨rfl,rfl⟩:=e'
 obtain ⟨A,c,rfl,_⟩:=hI
 obtain ⟨A',c',rfl,_⟩:=hJ
 have h0:w.cell? ⟨g,0,none⟩=some (.slice (some ⟨nb,0,none⟩) T.length cap):=h.blk.cell 0
 have hil:=(List.getElem?_eq_some_iff.1 hi).1
 have hii:(i:Int)<T.length:=by omega
 have hjl:=(List.getElem?_eq_some_iff.1 hj).1
 have hjj:(j:Int)<T.length:=by omega
 have gx:=h.ok.fine x (List.mem_of_getElem? hi)
 have gy:=h.ok.fine y (List.mem_of_getElem? hj)
 have xa:=(enc_nonce gx.1 kx).2.1
 have xb:=(enc_nonce gx.1 kx).2.2.1
 have ya:=(enc_nonce gy.1 ky).2.1
 have yb:=(enc_nonce gy.1 ky).2.2.1
 have hg:=h.blk.lt
 have hn0:nb≠w.heap.size:=by omega
 have hn1:nb≠w.heap.size+1:=by omega
 have hg0:g≠w.heap.size:=by omega
 have hg1:g≠w.heap.size+1:=by omega
 clear h hi hj gx gy kx ky
 by_cases hab:x.a=y.a
 ·have Hc:=hide (show (x.b:Int) - y.b=cmpT x y by unfold cmpT;rw [if_pos hab])
  have ht:((x.a:Int) != y.a)=false:=by rw [hab];simp
  clear hab
  go_enter Tryz.func260,Tryz.ntmps260
  go_wp2
  go_region
  all_goals go_wp2
  all_goals go_ret
  all_goals exact ⟨ret_int (by first | exact Hc.out | (rw [←Hc.out];omega)),by exact bel_by⟩
 ·have Hc:=hide (show (x.a:Int) - y.a=cmpT x y by unfold cmpT;rw [if_neg hab])
  have ht:((x.a:Int) != y.a)=true:=by simp;omega
  clear hab
  go_enter Tryz.func260,Tryz.ntmps260
  go_wp2
  go_region
  all_goals go_wp2
  all_goals go_ret
  all_goals exact ⟨ret_int (by first | exact Hc.out | (rw [←Hc.out];omega)),by exact bel_by⟩
end
theorem cellB_ {w0 w1:World} {p:Addr} {v:Value} (hb:Below w0.heap.size w0 w1) (h:w0.cell? p=some v):w1.cell? p=some v:=(hb.cell (World.block_lt_of_cell? w0 _ h)).trans h
def RowW (w0 wr:World) (gb:Nat) (vs:List Nat):Prop:=w0.grownBy wr (some gb)∧∃cur,Blk wr gb 38 cur∧∀(k v:Nat),vs[k]?=some v→cur[k]?=some (.int .i64 v)
section
variable {w0 wr w2 : World} {gb : Nat} {vs : List Nat}
theorem RowW.cell (h:RowW w0 wr gb vs) {k v:Nat} (hk:vs[k]?=some v):wr.cell? ⟨gb,k,none⟩=some (.int .i64 v):=by
 obtain ⟨_,cur,hb,hc⟩:=h
 rw [hb.cell k,hc k v hk]
theorem RowW.frozen (h:RowW w0 wr gb vs) (k:Nat):wr.frozen? ⟨gb,k,none⟩=false:=by
 obtain ⟨_,cur,hb,_⟩:=h
 exact hb.frozen k
theorem RowW.lt (h:RowW w0 wr gb vs):gb<wr.heap.size:=by
 obtain ⟨_,cur,hb,_⟩:=h
 exact hb.lt
theorem RowW.below (h:RowW w0 wr gb vs) (hb:Below wr.heap.size wr w2):RowW w0 w2 gb vs:=by
 obtain ⟨hg,cur,hB,hc⟩:=h
 exact ⟨only_trans hg (only_of_below hb _),cur,hB.below hb hB.lt,hc⟩
theorem RowW.set_ (h:RowW w0 wr gb vs) {k:Nat} (hk:k<vs.length) (v:Nat):RowW w0 (wr.setCell ⟨gb,k,none⟩ (.int .i64 v)) gb (vs.set k v):=by
 obtain ⟨hg,cur,hB,hc⟩:=h
 refine ⟨only_setCell hg (.inl rfl) _,_,hB.set_ k _,fun m u hm=>?_⟩
 by_cases e:m=k
 ·subst e
  rw [List.getElem?_set_self hk] at hm
  cases hm
  have h1:=hc m vs[m] (List.getElem?_eq_getElem hk)
  have h2:=(Array.getElem?_eq_some_iff.1 h1).1
  rw [Array.getElem?_setIfInBounds_self_of_lt h2]
 ·rw [List.getElem?_set_ne (fun h=>e h.symm)] at hm
  rw [Array.getElem?_setIfInBounds_ne (fun h=>e h.symm)]
  exact hc m u hm
end
section
variable {B g : Nat} {w0 : World} {T : List Tm} {S : Nat → Prop}
structure Srt (T:List Tm) (l:List Tm) (js:List Nat) (x:Tm) (jx:Nat):Prop where
 args:Args T l js
 at_:T[jx]?=some x
 kl:∀t∈l,t.k=2
 kx:x.k=2
 ord:l.Pairwise tle
theorem Srt.len {l:List Tm} {js:List Nat} {x:Tm} {jx:Nat} (h:Srt T l js x jx):js.length=l.length:=h.args.len
theorem Srt.get {l:List Tm} {js:List Nat} {x:Tm} {jx:Nat} (h:Srt T l js x jx) {p:Nat} (hp:p<js.length):T[js[p]]?=some (l[p]'(by rw [←h.len];exact hp)):=by
 obtain ⟨c,h1,h2⟩:=h.args.at_ hp
 rw [List.getElem?_eq_getElem (by rw [←h.len];exact hp)] at h1
 rw [h2,← h1]
def Fin (T:List Tm) (l:List Tm) (x:Tm) (vs:List Nat):Prop:=Args T (ins x l) vs
theorem insertion_any (h:Ar B w0 g T S) {l:List Tm} {js:List Nat} {x:Tm} {jx:Nat} (hs:Srt T l js x jx) {n:Nat} (hn:n=js.length+1) (hl:n≤100) {gb cap:Nat} (hgb:¬ S gb) (hR:RowW w0 w0 gb (js++[jx])) :
  Calls Tryz.prog 291 #[.slice (some ⟨gb,0,none⟩) n cap,.int .i64 0,.int .i64 n,.func (.func 260) #[.pointer (some ⟨g,0,none⟩)] #[]] w0 fun e w'=>e=.returned (.tuple #[])∧∃vs,Fin T l x vs∧RowW w0 w' gb vs:=by
 have HB:=hide (fun (wr:World) (hg:w0.grownBy wr (some gb)) (i j:Nat) (y z:Tm) (hy:T[i]?=some y) (hz:T[j]?=some z) (ky:y.k=2) (kz:z.k=2)=>before_any (h.kept hg (fun b e=>by cases e;exact hgb)) hy hz ky kz)
 have HS:=hide hs
 have hsl1:js.length≤l.length:=Nat.le_of_eq hs.len
 have hsl2:l.length≤js.length:=Nat.le_of_eq hs.len.symm
 have hn1:n≤js.length+1:=Nat.le_of_eq hn
 have hn2:js.length+1≤n:=Nat.le_of_eq hn.symm
 have HR:=hide hR
 clear h hs hgb hR hn
 go_enter Tryz.func291,Tryz.ntmps291
 go_wp2
 go_loopw [8] (fun i wr=>∃(k:Nat) (vs:List Nat),i=.int .i64 k∧k≤n∧1≤k∧Hid (k≤js.length→vs=js++[jx])∧Hid (js.length<k→Fin T l x vs)∧Hid (RowW w0 wr gb vs)) (fun i _=>n - (intOf i).toNat)
 case atStart =>
  refine ⟨1,js++[jx],rfl,by omega,Nat.le_refl _,hide fun _=>rfl,hide fun h0=>?_,HR⟩
  have e0:js=[]:=List.eq_nil_of_length_eq_zero (by omega)
  have e1:l=[]:=List.eq_nil_of_length_eq_zero (by omega)
  subst e0 e1
  show Args T [x] [jx]
  unfold Args
  simp [HS.out.at_]
 case round =>
  obtain ⟨k,vs,rfl,hk,hk1,Hv,Hf,HW⟩:=hrel
  obtain ⟨wo,rfl⟩:∃wo:World,wo=wr:=⟨_,rfl⟩
  by_cases hlt:k<n
  ·have hki:(k:Int)<(n:Int):=by omega
   by_cases hkl:k<js.length
   ·obtain ⟨q,rfl⟩:∃q,k=q+1:=⟨k - 1,by omega⟩
    have hvs:=Hv.out (by omega)
    subst hvs
    have e1:(js++[jx])[q+1]?=some js[q+1]:=by rw [List.getElem?_append_left hkl,List.getElem?_eq_getElem hkl]
    have e2:(js++[jx])[q]?=some js[q]:=by rw [List.getElem?_append_left (by omega),List.getElem?_eq_getElem (by omega)]
    have c1:=HW.out.cell e1
    have c2:=HW.out.cell e2
    have hB:=fun d os=>Calls.regrown_of (HB.out (Sort.grow (redrawn wo d) os) (only_trans HW.out.1 (only_of_below (below_regrown wo d os) _)) _ _ _ _ (HS.out.get hkl) (HS.out.get (p:=q) (by omega)) (HS.out.kl _ (List.getElem_mem _)) (HS.out.kl _ (List.getElem_mem _)))
    have hcm:¬ cmpT (l[q+1]'(by omega)) (l[q]'(by omega))<0:=by
     rw [cmpT_lt,adj_le HS.out.ord (by omega)]
     simp
    generalize cmpT (l[q+1]'(by omega)) (l[q]'(by omega))=cc at hB hcm
    generalize js[q+1]=v1 at c1 hB
    generalize js[q]=v2 at c2 hB
    have k1:=fun dd oo=>cell_regrown (v:=.int .i64 v1) c1 dd oo
    have k2:=fun dd oo=>cell_regrown (v:=.int .i64 v2) c2 dd oo
    have G:=hide hB
    clear e1 e2 c1 c2 hB
    go_wp2_with fail
    refine wp_loop_rounds 1 ?_
    rw [rounds_succ]
    go_wp2_with fail
    have jz:(q:Int)+1<(n:Int):=by omega
    have jz1:(q:Int)<(n:Int):=by omega
    have p0:(0:Int)≤(q:Int)+1:=by omega
    have p1:(0:Int)≤(q:Int):=by omega
    have e0:((q:Int)+1).toNat=q+1:=by omega
    have w0':IntKind.i64.wrap ((q:Int)+1)=(q:Int)+1:=by rw [IntKind.wrap_i64];omega
    have w1':IntKind.i64.wrap (q:Int)=(q:Int):=by rw [IntKind.wrap_i64];omega
    have hd:decide ((q:Int)+1 > 0)=true:=decide_eq_true (by omega)
    have hd2:decide (cc<0)=false:=decide_eq_false (by omega)
    refine wp_region_quiet_below (by kernel_rfl) (by kernel_rfl) ?_
    repeat (quiet_step ((go_at_call 260;with_reducible exact G.out _ _)))
    refine wpQuiet_nil ?_
    intro _ hwq
    obtain ⟨⟨dq,osq⟩,hwqq⟩:=hwq
    subst hwqq
    have hbq:=below_regrown wo dq osq
    clear k1 k2
    generalize Go.Sort.grow (redrawn wo dq) osq=wq at hbq ⊢
    have HQ:=hide (HW.out.below hbq)
    go_wp2
    exact ⟨⟨q+2,js++[jx],by go_num,by omega,by omega,hide fun _=>rfl,hide fun h=>absurd h (by omega),HQ⟩,by simp [intOf];omega⟩
   ·have hkj:k≤js.length:=by omega
    have hjk:js.length≤k:=by omega
    have hvs:vs=insAt js k jx:=by
     rw [Hv.out hkj,show k=js.length by omega,insAt_end]
    subst hvs
    go_wp2_with fail
    go_loopw [9] (fun jv wr2=>∃(p:Nat),jv=.int .i64 p∧p≤k∧Hid (RowW w0 wr2 gb (insAt js p jx))∧Hid (∀m (h:m<l.length),p≤m→tlt x l[m]=true)) (fun jv _=>(intOf jv).toNat)
    case atStart=>exact ⟨k,rfl,Nat.le_refl _,HW,hide fun m hm hp=>absurd hm (by omega)⟩
    case round =>
     obtain ⟨p,rfl,hp,HP,HT⟩:=hrel
     obtain ⟨wi,rfl⟩:∃wi:World,wi=wr:=⟨_,rfl⟩
     have fin:(∀m (h:m<l.length),m<p→tlt x l[m]=false)→Fin T l x (insAt js p jx):=fun h=>by
      unfold Fin
      rw [ins_at HS.out.ord (by omega) (fun m hm h2=>HT.out m hm h2) h]
      exact insAt_args HS.out.args HS.out.at_ p
     have FIN:=hide fin
     clear fin
     by_cases hp0:p=0
     ·subst hp0
      have HF:=hide (FIN.out fun m _ h=>absurd h (by omega))
      have k1:True:=trivial
      have k2:True:=trivial
      go_wp2_with fail
      refine wp_region_quiet_below (by kernel_rfl) (by kernel_rfl) ?_
      repeat (first | go_big_quiet_skip | quiet_step (fail))
      refine wpQuiet_nil ?_
      intro _ hwq
      obtain ⟨⟨dq,osq⟩,hwqq⟩:=hwq
      subst hwqq
      have hbq:=below_regrown wi dq osq
      generalize Go.Sort.grow (redrawn wi dq) osq=wq at hbq ⊢
      have HQ:=hide (HP.out.below hbq)
      go_wp2
      exact ⟨⟨k+1,insAt js 0 jx,by go_num,by omega,by omega,hide fun h=>absurd h (by omega),hide fun _=>HF.out,HQ⟩,by simp [intOf];omega⟩
     ·obtain ⟨q,rfl⟩:∃q,p=q+1:=⟨p - 1,by omega⟩
      have hqj:q<js.length:=by omega
      have hql:q<l.length:=by omega
      have e1:(insAt js (q+1) jx)[q+1]?=some jx:=insAt_at (by omega)
      have e2:(insAt js (q+1) jx)[q]?=some js[q]:=by rw [insAt_lt (by omega) (by omega),List.getElem?_eq_getElem hqj]
      have c1:=HP.out.cell e1
      have c2:=HP.out.cell e2
      have hB:=fun d os=>Calls.regrown_of (HB.out (Go.Sort.grow (redrawn wi d) os) (only_trans HP.out.1 (only_of_below (below_regrown wi d os) _)) _ _ _ _ HS.out.at_ (HS.out.get hqj) HS.out.kx (HS.out.kl _ (List.getElem_mem _)))
      have hsw:=insAt_swap (x:=jx) hqj
      have hcmp:=cmpT_lt x l[q]
      have Hsw:=hide hsw
      have Hcm:=hide hcmp
      clear hsw hcmp
      generalize cmpT x l[q]=cc at hB Hcm
      generalize js[q]=v2 at c2 hB Hsw
      have k1:=fun dd oo=>cell_regrown (v:=.int .i64 jx) c1 dd oo
      have k2:=fun dd oo=>cell_regrown (v:=.int .i64 v2) c2 dd oo
      have G:=hide hB
      have hle:=insAt_len js (q+1) jx (by omega)
      have Hle:=hide hle
      clear e1 e2 hB hle
      have jz:(q:Int)+1<(n:Int):=by omega
      have jz1:(q:Int)<(n:Int):=by omega
      have p0:(0:Int)≤(q:Int)+1:=by omega
      have p1:(0:Int)≤(q:Int):=by omega
      have e0:((q:Int)+1).toNat=q+1:=by omega
      have w0':IntKind.i64.wrap ((q:Int)+1)=(q:Int)+1:=by rw [IntKind.wrap_i64];omega
      have w1':IntKind.i64.wrap (q:Int)=(q:Int):=by rw [IntKind.wrap_i64];omega
      have hd:decide ((q:Int)+1 > 0)=true:=decide_eq_true (by omega)
      cases hlv:tlt x l[q] with
      | true =>
       have hcc:cc<0:=Hcm.out.2 hlv
       have hd2:decide (cc<0)=true:=decide_eq_true hcc
       have HT2:=hide (show ∀m (h:m<l.length),q≤m→tlt x l[m]=true from fun m hm hqm=>by
        rcases Nat.lt_or_ge q m with h1 | h1
        ·exact HT.out m hm h1
        ·obtain rfl:m=q:=by omega
         exact hlv)
       clear hlv
       go_wp2_with fail
       refine wp_region_quiet_below (by kernel_rfl) (by kernel_rfl) ?_
       repeat (first | go_big_quiet_skip | quiet_step ((go_at_call 260;with_reducible exact G.out _ _)))
       refine wpQuiet_nil ?_
       intro _ hwq
       obtain ⟨⟨dq,osq⟩,hwqq⟩:=hwq
       subst hwqq
       have hbq:=below_regrown wi dq osq
       clear k1 k2
       generalize Go.Sort.grow (redrawn wi dq) osq=wq at hbq ⊢
       have HQ:=hide (HP.out.below hbq)
       have c1q:=HQ.out.cell (k:=q+1) (v:=jx) (insAt_at (by omega))
       have c2q:wq.cell? ⟨gb,q,none⟩=some (.int .i64 v2):=cellB_ hbq c2
       have f1q:=HQ.out.frozen (q+1)
       have f2q:=HQ.out.frozen q
       clear c1 c2 hbq hd hd2 G
       go_wp2_with fail
       go_region
       have h1:=HQ.out.set_ (k:=q+1) (by rw [Hle.out];omega) v2
       have h2:=h1.set_ (k:=q) (by rw [List.length_set,Hle.out];omega) jx
       rw [Hsw.out] at h2
       have H2:=hide (h2.below ((Below.refl _ _).drew))
       clear h1 h2 c1q c2q f1q f2q HQ
       generalize (((wq.setCell ⟨gb,q+1,none⟩ (.int .i64 v2)).setCell ⟨gb,q,none⟩ (.int .i64 jx)).drew)=wz at H2 ⊢
       go_wp2
       exact ⟨⟨q,rfl,by omega,H2,HT2⟩,by simp [intOf]⟩
      | false =>
       have hcc:¬ cc<0:=fun h=>by rw [Hcm.out.1 h] at hlv;cases hlv
       have hd2:decide (cc<0)=false:=decide_eq_false hcc
       have HF:=hide (FIN.out (ins_stop HS.out.ord hql hlv))
       clear hlv
       go_wp2_with fail
       refine wp_region_quiet_below (by kernel_rfl) (by kernel_rfl) ?_
       repeat (first | go_big_quiet_skip | quiet_step ((go_at_call 260;with_reducible exact G.out _ _)))
       refine wpQuiet_nil ?_
       intro _ hwq
       obtain ⟨⟨dq,osq⟩,hwqq⟩:=hwq
       subst hwqq
       have hbq:=below_regrown wi dq osq
       clear k1 k2
       generalize Go.Sort.grow (redrawn wi dq) osq=wq at hbq ⊢
       have HQ:=hide (HP.out.below hbq)
       go_wp2
       exact ⟨⟨k+1,insAt js (q+1) jx,by go_num,by omega,by omega,hide fun h=>absurd h (by omega),hide fun _=>HF.out,HQ⟩,by simp [intOf];omega⟩
  ·have hki:¬ (k:Int)<(n:Int):=by omega
   have hnk:n≤k:=by omega
   go_wp2
   go_end0
   exact ⟨rfl,vs,Hf.out (by omega),HW.out⟩
theorem pdq_any (h:Ar B w0 g T S) {l:List Tm} {js:List Nat} {x:Tm} {jx:Nat} (hs:Srt T l js x jx) {n:Nat} (hn:n=js.length+1) (hl:n≤12) {gb cap:Nat} (hgb:¬ S gb) (hR:RowW w0 w0 gb (js++[jx])) (lim:Int) :
  Calls Tryz.prog 279 #[.slice (some ⟨gb,0,none⟩) n cap,.int .i64 0,.int .i64 n,.int .i64 lim,.func (.func 260) #[.pointer (some ⟨g,0,none⟩)] #[]] w0 fun e w'=>e=.returned (.tuple #[])∧∃vs,Fin T l x vs∧RowW w0 w' gb vs:=by
 have HI:=hide (insertion_any h hs hn (by omega) (cap:=cap) hgb hR)
 have hni:(n:Int)≤12:=by omega
 clear h hs hn hgb hR
 go_enter Tryz.func279,Tryz.ntmps279
 go_wp2
 refine wp_loop_rounds 1 ?_
 rw [rounds_succ]
 go_wp2_with (go_at_call 291;refine HI.out.mono ?_;rintro e w' ⟨rfl,vs,hf,hw⟩)
 (try simp only [Exit.inBlock,Exit.then])
 refine bodyPost_ret (results_none rfl _ _ _) rfl ?_
 exact ⟨rfl,vs,hf,hw⟩
theorem sortf_any (h:Ar B w0 g T S) {l:List Tm} {js:List Nat} {x:Tm} {jx:Nat} (hs:Srt T l js x jx) {n:Nat} (hn:n=js.length+1) (hl:n≤12) {gb cap:Nat} (hgb:¬ S gb) (hR:RowW w0 w0 gb (js++[jx])) :
  Calls Tryz.prog 259 #[.slice (some ⟨gb,0,none⟩) n cap,.func (.func 260) #[.pointer (some ⟨g,0,none⟩)] #[]] w0 fun e w'=>e=.returned (.tuple #[])∧∃vs,Fin T l x vs∧RowW w0 w' gb vs:=by
 have HP:=hide (fun lim=>pdq_any h hs hn hl (cap:=cap) hgb hR lim)
 have hni:(n:Int)≤12:=by omega
 have HL:=hide (fun W=>Tryz.bits_Len n W (by omega) (by omega))
 clear h hs hn hgb hR
 go_enter Tryz.func259,Tryz.ntmps259
 go_wp2_with (first
  | (go_at_call 280;refine (HL.out _).mono ?_;rintro e w' ⟨rfl,rfl⟩)
  | (go_at_call 279;refine (HP.out _).mono ?_;rintro e w' ⟨rfl,vs,hf,hw⟩))
 go_end0
 exact ⟨rfl,vs,hf,hw⟩
end
end Go.Proofs.YtkfnepnghnicoaaGreatDoor

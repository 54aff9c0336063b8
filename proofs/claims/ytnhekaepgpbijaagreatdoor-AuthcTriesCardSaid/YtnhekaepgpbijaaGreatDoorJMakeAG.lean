/- Several of my texts in one: SortA, MakeA. -/
import Derived.Test.YtnhekaepgpbijaaGreatDoorJBuildAG
import Derived.Test.YtnhekaepgpbijaaGreatDoorJSignPG
import Derived.Test.YtnhekaepgpbijaaGreatDoorJShelf
import Derived.Lib.QuietBelow
import Derived.BigRegion
import Derived.Laws.BitsLemmas
import Derived.Test.YtnhekaepgpbijaaGreatDoorJPut
set_option linter.unusedVariables false
set_option linter.unusedSimpArgs false
set_option maxHeartbeats 40000000
set_option maxRecDepth 100000
namespace Go.Proofs.YtnhekaepgpbijaaGreatDoor
open Go.RowKit Go.ChangeShapes Go.WideShapes
section
variable {B g : Nat} {w : World} {T : List Tm} {S : Nat → Prop}
def vN (x y:Tm):Int:=if x.a=y.a then (x.b:Int) - y.b else (x.a:Int) - y.a
theorem FN (x y:Tm):vN x y<0↔tlt x y=true:=by
 unfold vN tlt;rw [decide_eq_true_eq]
 split <;> omega
theorem EH (h:Ar B w g T S) {i j:Nat} {x y:Tm} (hi:T[i]?=some x) (hj:T[j]?=some y) (kx:x.k=2) (ky:y.k=2) :
  Calls Tryz.prog 285 #[.pointer (some ⟨g,0,none⟩),.int .i64 i,.int .i64 j] w fun e w'=>e=.returned (.int .i64 (vN x y))∧Below w.heap.size w w':=by
 obtain ⟨nv,sv,mb,rows,D,h⟩:=h;obtain ⟨nb,cap,av,js,rfl,hlt,c0,c1,c2,c3,c4,_,hI⟩:=h.cells hi;obtain ⟨nb',cap',av',ks,e',_,d0,d1,d2,d3,d4,_,hJ⟩:=h.cells hj;simp only [Value.slice.injEq,Option.some.injEq,Addr.mk.injEq,and_true,true_and] at e';obtain ⟨rfl,rfl⟩:=e';obtain ⟨A,c,rfl,_⟩:=hI;obtain ⟨A',c',rfl,_⟩:=hJ;have h0:w.cell? ⟨g,0,none⟩=some (.slice (some ⟨nb,0,none⟩) T.length cap):=h.blk.cell 0;have hil:=(List.getElem?_eq_some_iff.1 hi).1;have hii:(i:Int)<T.length:=by omega
 have hjl:=(List.getElem?_eq_some_iff.1 hj).1;have hjj:(j:Int)<T.length:=by omega
 have gx:=h.ok.fine x (List.mem_of_getElem? hi);have gy:=h.ok.fine y (List.mem_of_getElem? hj);have xa:=(lY gx.1 kx).2.1;have xb:=(lY gx.1 kx).2.2.1;have ya:=(lY gy.1 ky).2.1;have yb:=(lY gy.1 ky).2.2.1;have hg:=h.blk.lt;have hn0:nb≠w.heap.size:=by omega
 have hn1:nb≠w.heap.size+1:=by omega
 have hg0:g≠w.heap.size:=by omega
 have hg1:g≠w.heap.size+1:=by omega
 clear h hi hj gx gy kx ky
 by_cases hab:x.a=y.a
 ·have Hc:=hide (show (x.b:Int) - y.b=vN x y by unfold vN;rw [if_pos hab])
  have ht:((x.a:Int) != y.a)=false:=by rw [hab];simp
  clear hab;go_enter Tryz.func285,Tryz.ntmps285;go_wp2;go_region
  all_goals go_wp2
  all_goals go_ret
  all_goals exact ⟨oP (by first | exact Hc.out | (rw [←Hc.out];omega)),by exact aa⟩
 ·have Hc:=hide (show (x.a:Int) - y.a=vN x y by unfold vN;rw [if_neg hab])
  have ht:((x.a:Int) != y.a)=true:=by simp;omega
  clear hab;go_enter Tryz.func285,Tryz.ntmps285;go_wp2;go_region
  all_goals go_wp2
  all_goals go_ret
  all_goals exact ⟨oP (by first | exact Hc.out | (rw [←Hc.out];omega)),by exact aa⟩
end
theorem Dk {w0 w1:World} {p:Addr} {v:Value} (hb:Below w0.heap.size w0 w1) (h:w0.cell? p=some v):w1.cell? p=some v:=(hb.cell (World.block_lt_of_cell? w0 _ h)).trans h
def jl (w0 wr:World) (gb:Nat) (vs:List Nat):Prop:=w0.grownBy wr (some gb)∧∃cur,Blk wr gb 39 cur∧∀(k v:Nat),vs[k]?=some v→cur[k]?=some (.int .i64 v)
section
variable {w0 wr w2 : World} {gb : Nat} {vs : List Nat}
theorem jl.cell (h:jl w0 wr gb vs) {k v:Nat} (hk:vs[k]?=some v):wr.cell? ⟨gb,k,none⟩=some (.int .i64 v):=by
 obtain ⟨_,cur,hb,hc⟩:=h;rw [hb.cell k,hc k v hk]
theorem jl.frozen (h:jl w0 wr gb vs) (k:Nat):wr.frozen? ⟨gb,k,none⟩=false:=by
 obtain ⟨_,cur,hb,_⟩:=h;exact hb.frozen k
theorem jl.lt (h:jl w0 wr gb vs):gb<wr.heap.size:=by
 obtain ⟨_,cur,hb,_⟩:=h;exact hb.lt
theorem jl.below (h:jl w0 wr gb vs) (hb:Below wr.heap.size wr w2):jl w0 w2 gb vs:=by
 obtain ⟨hg,cur,hB,hc⟩:=h;exact ⟨au hg (ai hb _),cur,hB.below hb hB.lt,hc⟩
theorem jl.set_ (h:jl w0 wr gb vs) {k:Nat} (hk:k<vs.length) (v:Nat):jl w0 (wr.setCell ⟨gb,k,none⟩ (.int .i64 v)) gb (vs.set k v):=by
 obtain ⟨hg,cur,hB,hc⟩:=h;refine ⟨ag hg (.inl rfl) _,_,hB.set_ k _,fun m u hm=>?_⟩
 by_cases e:m=k
 ·subst e
  rw [List.getElem?_set_self hk] at hm;cases hm
  have h1:=hc m vs[m] (List.getElem?_eq_getElem hk);have h2:=(Array.getElem?_eq_some_iff.1 h1).1;rw [Array.getElem?_setIfInBounds_self_of_lt h2]
 ·rw [List.getElem?_set_ne (fun h=>e h.symm)] at hm
  rw [Array.getElem?_setIfInBounds_ne (fun h=>e h.symm)];exact hc m u hm
end
section
variable {B g : Nat} {w0 : World} {T : List Tm} {S : Nat → Prop}
structure Srt (T:List Tm) (l:List Tm) (js:List Nat) (x:Tm) (jx:Nat):Prop where
 args:dJ T l js
 at_:T[jx]?=some x
 kl:∀t∈l,t.k=2
 kx:x.k=2
 ord:l.Pairwise tle
theorem Srt.len {l:List Tm} {js:List Nat} {x:Tm} {jx:Nat} (h:Srt T l js x jx):js.length=l.length:=h.args.len
theorem Srt.get {l:List Tm} {js:List Nat} {x:Tm} {jx:Nat} (h:Srt T l js x jx) {p:Nat} (hp:p<js.length):T[js[p]]?=some (l[p]'(by rw [←h.len];exact hp)):=by
 obtain ⟨c,h1,h2⟩:=h.args.at_ hp;rw [List.getElem?_eq_getElem (by rw [←h.len];exact hp)] at h1;rw [h2,← h1]
def Fin (T:List Tm) (l:List Tm) (x:Tm) (vs:List Nat):Prop:=dJ T (ins x l) vs
theorem vC (h:Ar B w0 g T S) {l:List Tm} {js:List Nat} {x:Tm} {jx:Nat} (hs:Srt T l js x jx) {n:Nat} (hn:n=js.length+1) (hl:n≤100) {gb cap:Nat} (hgb:¬ S gb) (hR:jl w0 w0 gb (js++[jx])) :
  Calls Tryz.prog 331 #[.slice (some ⟨gb,0,none⟩) n cap,.int .i64 0,.int .i64 n,.func (.func 285) #[.pointer (some ⟨g,0,none⟩)] #[]] w0 fun e w'=>e=.returned (.tuple #[])∧∃vs,Fin T l x vs∧jl w0 w' gb vs:=by
 have HB:=hide (fun (wr:World) (hg:w0.grownBy wr (some gb)) (i j:Nat) (y z:Tm) (hy:T[i]?=some y) (hz:T[j]?=some z) (ky:y.k=2) (kz:z.k=2)=>EH (h.kept hg (fun b e=>by cases e;exact hgb)) hy hz ky kz);have HS:=hide hs;have hsl1:js.length≤l.length:=Nat.le_of_eq hs.len;have hsl2:l.length≤js.length:=Nat.le_of_eq hs.len.symm;have hn1:n≤js.length+1:=Nat.le_of_eq hn;have hn2:js.length+1≤n:=Nat.le_of_eq hn.symm;have HR:=hide hR;clear h hs hgb hR hn;go_enter Tryz.func331,Tryz.ntmps331;go_wp2
 go_loopw [8] (fun i wr=>∃(k:Nat) (vs:List Nat),i=.int .i64 k∧k≤n∧1≤k∧Hid (k≤js.length→vs=js++[jx])∧Hid (js.length<k→Fin T l x vs)∧Hid (jl w0 wr gb vs)) (fun i _=>n - (intOf i).toNat)
 case atStart =>
  refine ⟨1,js++[jx],rfl,by omega,Nat.le_refl _,hide fun _=>rfl,hide fun h0=>?_,HR⟩;have e0:js=[]:=List.eq_nil_of_length_eq_zero (by omega);have e1:l=[]:=List.eq_nil_of_length_eq_zero (by omega);subst e0 e1;show dJ T [x] [jx];unfold dJ;simp [HS.out.at_]
 case round =>
  obtain ⟨k,vs,rfl,hk,hk1,Hv,Hf,HW⟩:=hrel
  obtain ⟨wo,rfl⟩:∃wo:World,wo=wr:=⟨_,rfl⟩
  by_cases hlt:k<n
  ·have hki:(k:Int)<(n:Int):=by omega
   by_cases hkl:k<js.length
   ·obtain ⟨q,rfl⟩:∃q,k=q+1:=⟨k - 1,by omega⟩
    have hvs:=Hv.out (by omega);subst hvs;have e1:(js++[jx])[q+1]?=some js[q+1]:=by rw [List.getElem?_append_left hkl,List.getElem?_eq_getElem hkl]
    have e2:(js++[jx])[q]?=some js[q]:=by rw [List.getElem?_append_left (by omega),List.getElem?_eq_getElem (by omega)]
    have c1:=HW.out.cell e1;have c2:=HW.out.cell e2;have hB:=fun d os=>Calls.regrown_of (HB.out (Sort.grow (redrawn wo d) os) (au HW.out.1 (ai (below_regrown wo d os) _)) _ _ _ _ (HS.out.get hkl) (HS.out.get (p:=q) (by omega)) (HS.out.kl _ (List.getElem_mem _)) (HS.out.kl _ (List.getElem_mem _)))
    have hcm:¬ vN (l[q+1]'(by omega)) (l[q]'(by omega))<0:=by
     rw [FN,RZ HS.out.ord (by omega)];simp
    generalize vN (l[q+1]'(by omega)) (l[q]'(by omega))=cc at hB hcm;generalize js[q+1]=v1 at c1 hB;generalize js[q]=v2 at c2 hB;have k1:=fun dd oo=>cell_regrown (v:=.int .i64 v1) c1 dd oo
    have k2:=fun dd oo=>cell_regrown (v:=.int .i64 v2) c2 dd oo
    have G:=hide hB;clear e1 e2 c1 c2 hB;go_wp2_with fail;refine wp_loop_rounds 1 ?_;rw [rounds_succ];go_wp2_with fail;have jz:(q:Int)+1<(n:Int):=by omega
    have jz1:(q:Int)<(n:Int):=by omega
    have p0:(0:Int)≤(q:Int)+1:=by omega
    have p1:(0:Int)≤(q:Int):=by omega
    have e0:((q:Int)+1).toNat=q+1:=by omega
    have w0':IntKind.i64.wrap ((q:Int)+1)=(q:Int)+1:=by rw [IntKind.wrap_i64];omega
    have w1':IntKind.i64.wrap (q:Int)=(q:Int):=by rw [IntKind.wrap_i64];omega
    have hd:decide ((q:Int)+1 > 0)=true:=decide_eq_true (by omega);have hd2:decide (cc<0)=false:=decide_eq_false (by omega);refine wp_region_quiet_below (by kernel_rfl) (by kernel_rfl) ?_
    repeat (quiet_step ((go_at_call 285;with_reducible exact G.out _ _)))
    refine wpQuiet_nil ?_;intro _ hwq;obtain ⟨⟨dq,osq⟩,hwqq⟩:=hwq;subst hwqq;have hbq:=below_regrown wo dq osq;clear k1 k2;generalize Go.Sort.grow (redrawn wo dq) osq=wq at hbq ⊢;have HQ:=hide (HW.out.below hbq);go_wp2;exact ⟨⟨q+2,js++[jx],by go_num,by omega,by omega,hide fun _=>rfl,hide fun h=>absurd h (by omega),HQ⟩,by simp [intOf];omega⟩
   ·have hkj:k≤js.length:=by omega
    have hjk:js.length≤k:=by omega
    have hvs:vs=fZ js k jx:=by
     rw [Hv.out hkj,show k=js.length by omega,I8]
    subst hvs;go_wp2_with fail
    go_loopw [9] (fun jv wr2=>∃(p:Nat),jv=.int .i64 p∧p≤k∧Hid (jl w0 wr2 gb (fZ js p jx))∧Hid (∀m (h:m<l.length),p≤m→tlt x l[m]=true)) (fun jv _=>(intOf jv).toNat)
    case atStart=>exact ⟨k,rfl,Nat.le_refl _,HW,hide fun m hm hp=>absurd hm (by omega)⟩
    case round =>
     obtain ⟨p,rfl,hp,HP,HT⟩:=hrel
     obtain ⟨wi,rfl⟩:∃wi:World,wi=wr:=⟨_,rfl⟩
     have fin:(∀m (h:m<l.length),m<p→tlt x l[m]=false)→Fin T l x (fZ js p jx):=fun h=>by
      unfold Fin;rw [LX HS.out.ord (by omega) (fun m hm h2=>HT.out m hm h2) h];exact ET HS.out.args HS.out.at_ p
     have FIN:=hide fin;clear fin
     by_cases hp0:p=0
     ·subst hp0
      have HF:=hide (FIN.out fun m _ h=>absurd h (by omega));have k1:True:=trivial;have k2:True:=trivial;go_wp2_with fail;refine wp_region_quiet_below (by kernel_rfl) (by kernel_rfl) ?_
      repeat (first | go_big_quiet_skip | quiet_step (fail))
      refine wpQuiet_nil ?_;intro _ hwq;obtain ⟨⟨dq,osq⟩,hwqq⟩:=hwq;subst hwqq;have hbq:=below_regrown wi dq osq;generalize Go.Sort.grow (redrawn wi dq) osq=wq at hbq ⊢;have HQ:=hide (HP.out.below hbq);go_wp2;exact ⟨⟨k+1,fZ js 0 jx,by go_num,by omega,by omega,hide fun h=>absurd h (by omega),hide fun _=>HF.out,HQ⟩,by simp [intOf];omega⟩
     ·obtain ⟨q,rfl⟩:∃q,p=q+1:=⟨p - 1,by omega⟩
      have hqj:q<js.length:=by omega
      have hql:q<l.length:=by omega
      have e1:(fZ js (q+1) jx)[q+1]?=some jx:=uW (by omega);have e2:(fZ js (q+1) jx)[q]?=some js[q]:=by rw [uJ (by omega) (by omega),List.getElem?_eq_getElem hqj]
      have c1:=HP.out.cell e1;have c2:=HP.out.cell e2;have hB:=fun d os=>Calls.regrown_of (HB.out (Go.Sort.grow (redrawn wi d) os) (au HP.out.1 (ai (below_regrown wi d os) _)) _ _ _ _ HS.out.at_ (HS.out.get hqj) HS.out.kx (HS.out.kl _ (List.getElem_mem _)))
      have hsw:=Dz (x:=jx) hqj;have hcmp:=FN x l[q];have Hsw:=hide hsw;have Hcm:=hide hcmp;clear hsw hcmp;generalize vN x l[q]=cc at hB Hcm;generalize js[q]=v2 at c2 hB Hsw;have k1:=fun dd oo=>cell_regrown (v:=.int .i64 jx) c1 dd oo
      have k2:=fun dd oo=>cell_regrown (v:=.int .i64 v2) c2 dd oo
      have G:=hide hB;have hle:=qb js (q+1) jx (by omega);have Hle:=hide hle;clear e1 e2 hB hle;have jz:(q:Int)+1<(n:Int):=by omega
      have jz1:(q:Int)<(n:Int):=by omega
      have p0:(0:Int)≤(q:Int)+1:=by omega
      have p1:(0:Int)≤(q:Int):=by omega
      have e0:((q:Int)+1).toNat=q+1:=by omega
      have w0':IntKind.i64.wrap ((q:Int)+1)=(q:Int)+1:=by rw [IntKind.wrap_i64];omega
      have w1':IntKind.i64.wrap (q:Int)=(q:Int):=by rw [IntKind.wrap_i64];omega
      have hd:decide ((q:Int)+1 > 0)=true:=decide_eq_true (by omega)
      cases hlv:tlt x l[q] with
      | true =>
       have hcc:cc<0:=Hcm.out.2 hlv;have hd2:decide (cc<0)=true:=decide_eq_true hcc
       have HT2:=hide (show ∀m (h:m<l.length),q≤m→tlt x l[m]=true from fun m hm hqm=>by
        rcases Nat.lt_or_ge q m with h1 | h1
        ·exact HT.out m hm h1
        ·obtain rfl:m=q:=by omega
         exact hlv)
       clear hlv;go_wp2_with fail;refine wp_region_quiet_below (by kernel_rfl) (by kernel_rfl) ?_
       repeat (first | go_big_quiet_skip | quiet_step ((go_at_call 285;with_reducible exact G.out _ _)))
       refine wpQuiet_nil ?_;intro _ hwq;obtain ⟨⟨dq,osq⟩,hwqq⟩:=hwq;subst hwqq;have hbq:=below_regrown wi dq osq;clear k1 k2;generalize Go.Sort.grow (redrawn wi dq) osq=wq at hbq ⊢;have HQ:=hide (HP.out.below hbq);have c1q:=HQ.out.cell (k:=q+1) (v:=jx) (uW (by omega));have c2q:wq.cell? ⟨gb,q,none⟩=some (.int .i64 v2):=Dk hbq c2;have f1q:=HQ.out.frozen (q+1);have f2q:=HQ.out.frozen q;clear c1 c2 hbq hd hd2 G;go_wp2_with fail;go_region;have h1:=HQ.out.set_ (k:=q+1) (by rw [Hle.out];omega) v2;have h2:=h1.set_ (k:=q) (by rw [List.length_set,Hle.out];omega) jx;rw [Hsw.out] at h2;have H2:=hide (h2.below ((Below.refl _ _).drew));clear h1 h2 c1q c2q f1q f2q HQ;generalize (((wq.setCell ⟨gb,q+1,none⟩ (.int .i64 v2)).setCell ⟨gb,q,none⟩ (.int .i64 jx)).drew)=wz at H2 ⊢;go_wp2;exact ⟨⟨q,rfl,by omega,H2,HT2⟩,by simp [intOf]⟩
      | false =>
       have hcc:¬ cc<0:=fun h=>by rw [Hcm.out.1 h] at hlv;cases hlv
       have hd2:decide (cc<0)=false:=decide_eq_false hcc;have HF:=hide (FIN.out (LP HS.out.ord hql hlv));clear hlv;go_wp2_with fail;refine wp_region_quiet_below (by kernel_rfl) (by kernel_rfl) ?_
       repeat (first | go_big_quiet_skip | quiet_step ((go_at_call 285;with_reducible exact G.out _ _)))
       refine wpQuiet_nil ?_;intro _ hwq;obtain ⟨⟨dq,osq⟩,hwqq⟩:=hwq;subst hwqq;have hbq:=below_regrown wi dq osq;clear k1 k2;generalize Go.Sort.grow (redrawn wi dq) osq=wq at hbq ⊢;have HQ:=hide (HP.out.below hbq);go_wp2;exact ⟨⟨k+1,fZ js (q+1) jx,by go_num,by omega,by omega,hide fun h=>absurd h (by omega),hide fun _=>HF.out,HQ⟩,by simp [intOf];omega⟩
  ·have hki:¬ (k:Int)<(n:Int):=by omega
   have hnk:n≤k:=by omega
   go_wp2;go_end0;exact ⟨rfl,vs,Hf.out (by omega),HW.out⟩
theorem Qx (h:Ar B w0 g T S) {l:List Tm} {js:List Nat} {x:Tm} {jx:Nat} (hs:Srt T l js x jx) {n:Nat} (hn:n=js.length+1) (hl:n≤12) {gb cap:Nat} (hgb:¬ S gb) (hR:jl w0 w0 gb (js++[jx])) (lim:Int) :
  Calls Tryz.prog 318 #[.slice (some ⟨gb,0,none⟩) n cap,.int .i64 0,.int .i64 n,.int .i64 lim,.func (.func 285) #[.pointer (some ⟨g,0,none⟩)] #[]] w0 fun e w'=>e=.returned (.tuple #[])∧∃vs,Fin T l x vs∧jl w0 w' gb vs:=by
 have HI:=hide (vC h hs hn (by omega) (cap:=cap) hgb hR);have hni:(n:Int)≤12:=by omega
 clear h hs hn hgb hR;go_enter Tryz.func318,Tryz.ntmps318;go_wp2;refine wp_loop_rounds 1 ?_;rw [rounds_succ];go_wp2_with (go_at_call 331;refine HI.out.mono ?_;rintro e w' ⟨rfl,vs,hf,hw⟩)
 (try simp only [Exit.inBlock,Exit.then])
 refine bodyPost_ret (results_none rfl _ _ _) rfl ?_;exact ⟨rfl,vs,hf,hw⟩
theorem Jg (h:Ar B w0 g T S) {l:List Tm} {js:List Nat} {x:Tm} {jx:Nat} (hs:Srt T l js x jx) {n:Nat} (hn:n=js.length+1) (hl:n≤12) {gb cap:Nat} (hgb:¬ S gb) (hR:jl w0 w0 gb (js++[jx])) :
  Calls Tryz.prog 284 #[.slice (some ⟨gb,0,none⟩) n cap,.func (.func 285) #[.pointer (some ⟨g,0,none⟩)] #[]] w0 fun e w'=>e=.returned (.tuple #[])∧∃vs,Fin T l x vs∧jl w0 w' gb vs:=by
 have HP:=hide (fun lim=>Qx h hs hn hl (cap:=cap) hgb hR lim);have hni:(n:Int)≤12:=by omega
 have HL:=hide (fun W=>Tryz.bits_Len n W (by omega) (by omega));clear h hs hn hgb hR;go_enter Tryz.func284,Tryz.ntmps284
 go_wp2_with (first
  | (go_at_call 319;refine (HL.out _).mono ?_;rintro e w' ⟨rfl,rfl⟩)
  | (go_at_call 318;refine (HP.out _).mono ?_;rintro e w' ⟨rfl,vs,hf,hw⟩))
 go_end0;exact ⟨rfl,vs,hf,hw⟩
end
end Go.Proofs.YtnhekaepgpbijaaGreatDoor
namespace Go.Proofs.YtnhekaepgpbijaaGreatDoor
open Go.RowKit Go.ChangeShapes Go.WideShapes Go.Sort
section
variable {B g : Nat} {w w2 : World} {T : List Tm} {S : Nat → Prop}
theorem Done.from_ {o:Option Tm} {e:Ending} {w':World} (h:Done B w2 g T S o e w') (hb:Below w.heap.size w w2):Done B w g T S o e w':=by
 obtain ⟨T',n,S',h1,h2,h3,h4⟩:=h;exact ⟨T',n,S',h1,h2,h3,(Grown.of_below hb).trans h4⟩
structure Use (B:Nat) (w:World) (g:Nat) (T:List Tm) (S:Nat→Prop):Prop where
 ar:Ar B w g T S
 old:∃w0:World,Tab w0∧w0.heap.size≤B∧Below w0.heap.size w0 w
 base:B≤w.heap.size
 few:T.length≤1000000000
theorem Use.tab (h:Use B w g T S):Tab w:=by
 obtain ⟨w0,h1,_,h2⟩:=h.old;exact h1.below h2
theorem Use.below (h:Use B w g T S) (hb:Below w.heap.size w w2):Use B w2 g T S:=by
 obtain ⟨w0,h1,h2,h3⟩:=h.old;exact ⟨h.ar.below hb,⟨w0,h1,h2,h3.trans (hb.mono h3.size)⟩,Nat.le_trans h.base hb.size,h.few⟩
theorem Use.grown (h:Use B w g T S) {T':List Tm} {S':Nat→Prop} (hg:Grown S w S' w2) (ha:Ar B w2 g T' S') (hf:T'.length≤1000000000):Use B w2 g T' S':=by
 obtain ⟨w0,h1,h2,h3⟩:=h.old;exact ⟨ha,⟨w0,h1,h2,h3.trans ((hg.below h.base h.ar.sB).mono h2)⟩,Nat.le_trans h.base hg.size,hf⟩
theorem Use.kept {row:Option Nat} (h:Use B w g T S) (k:w.grownBy w2 row) (hr:∀b,row=some b→¬ S b∧B≤b):Use B w2 g T S:=by
 obtain ⟨w0,h1,h2,h3⟩:=h.old;refine ⟨h.ar.kept k fun b e=>(hr b e).1,⟨w0,h1,h2,?_⟩,Nat.le_trans h.base k.size,h.few⟩;exact ⟨k.os.trans h3.os,k.tape.trans h3.tape,k.output.trans h3.output,Nat.le_trans h3.size k.size,fun i hi=>(k.block i (Nat.lt_of_lt_of_le hi h3.size) (fun e=>by have:=(hr i e.symm).2;omega)).trans (h3.block i hi)⟩
theorem jG (h:Use B w g T S) (hbw:Below w.heap.size w w2) {k a b:Nat} {s:ByteArray} {av:Value} {ns:List Int} (hI:Ids w2 av ns) (ha:a<4294967296) (hb:b<4294967296) (hs:s.size≤1000000) (hn:ns.length≤40)
  (hh:∀l,iQ T ns=some l→hd k a b s l.length∧kids k l) (x y z:Int) (hx:x=k) (hy:y=a) (hz:z=b) :
  Calls Tryz.prog 52 #[.pointer (some ⟨g,0,none⟩),.agg #[.int .i64 x,.int .i64 y,.int .i64 z,.string s,av]] w2 (Done B w g T S (eP T k a b s ns)):=by
 subst hx hy hz;have h2:=h.below hbw;exact (Qg h2.ar h2.tab h2.base h2.few hI ha hb hs hn hh).mono fun e w' hd=>hd.from_ hbw
theorem kN:eB.size≤1000000:=Nat.zero_le _
theorem nZ {T l:List Tm} (h:iQ T []=some l):l=[]:=by
 unfold iQ at h;simp only [List.map_nil,rA,Option.some.injEq] at h;exact h.symm
theorem yB {w:World} {b:Nat} {t:TypeId} {ns:List Int} (h:Blk w b t (ns.map (Value.int .i64)).toArray) (v:Value) (c:Nat) (hv:v=.slice (some ⟨b,0,none⟩) ns.length c):Ids w v ns:=by
 subst hv;exact ⟨_,_,rfl,by simp,fun _=>⟨_,rfl,Nat.zero_le _,h.lt,fun j u hu=>by rw [bJ,h.cell j];simpa using hu⟩⟩
theorem Bd (w:World) (t:TypeId) (n:Int):Ids (w.alloc (.cells #[.int .i64 n] t)) (.slice (some ⟨w.heap.size,0,none⟩) 1 1) [n]:=yB (Blk.new w t _) _ 1 rfl
theorem Cy (w:World) (t:TypeId) (n m:Int):Ids (w.alloc (.cells #[.int .i64 n,.int .i64 m] t)) (.slice (some ⟨w.heap.size,0,none⟩) 2 2) [n,m]:=yB (Blk.new w t _) _ 2 rfl
theorem Od (w:World) (t:TypeId) (n m p:Int):Ids (w.alloc (.cells #[.int .i64 n,.int .i64 m,.int .i64 p] t)) (.slice (some ⟨w.heap.size,0,none⟩) 3 3) [n,m,p]:=yB (Blk.new w t _) _ 3 rfl
theorem aZ {w:World} (o:Obj):Below w.heap.size w (w.alloc o):=(Below.refl _ _).alloc (Nat.le_refl _) o
theorem jE (n:Int) (w:World):Calls Tryz.prog 53 #[.int .i64 n] w fun e w'=>e=.returned (.bool (okN n))∧w=w':=by
 go_enter Tryz.func53,Tryz.ntmps53;go_wp2
 all_goals go_ret
 all_goals exact ⟨fQ (by unfold okN;(first | (simp_all;done) | (simp_all;omega) | (rw [Bool.eq_iff_iff];simp_all;done) | (rw [Bool.eq_iff_iff];simp_all;omega))),rfl⟩
def okT (s:ByteArray) (m:Int):Bool:=decide (1≤s.size∧(s.size:Int)≤m)
theorem lG (s:ByteArray) (m:Int) (w:World) (hs:s.size≤9223372036854775807):Calls Tryz.prog 184 #[.string s,.int .i64 m] w fun e w'=>e=.returned (.bool (okT s m))∧w=w':=by
 go_enter Tryz.func184,Tryz.ntmps184;go_wp2
 all_goals go_ret
 all_goals exact ⟨fQ (by unfold okT;(first | (simp_all;done) | (simp_all;omega) | (rw [Bool.eq_iff_iff];simp_all;done) | (rw [Bool.eq_iff_iff];simp_all;omega))),rfl⟩
theorem rX {s:ByteArray} {m:Int}:okT s m=true↔1≤s.size∧(s.size:Int)≤m:=by simp [okT]
theorem qG (h:Use B w g T S) {s:ByteArray} (hs:s.size≤1000000) :
  Calls Tryz.prog 38 #[.pointer (some ⟨g,0,none⟩),.string s] w (Done B w g T S (aO s)):=by
 have HP:=hide (fun w2 (hb:Below w.heap.size w w2)=>jG h hb (k:=1) (a:=0) (b:=0) (s:=s) (av:=.slice none 0 0) (oJ w2 0) (by omega) (by omega) hs (by simp) (fun l hl=>by rw [nZ hl];exact ⟨⟨rfl,rfl,rfl,by omega⟩,trivial⟩) 1 0 0 rfl rfl rfl);clear h;go_enter Tryz.func38,Tryz.ntmps38;go_wp2_with (go_at_call 52;refine (HP.out _ (by exact aa)).mono ?_;rintro e w' ⟨T',n,S',rfl,hp,hA,hG⟩);go_ret;exact ⟨T',n,S',rfl,hp,hA,hG⟩
theorem EZ (h:Use B w g T S) (who n:Int) :
  Calls Tryz.prog 245 #[.pointer (some ⟨g,0,none⟩),.int .i64 who,.int .i64 n] w (Done B w g T S (ji who n)):=by
 by_cases h1:okN who=true
 ·by_cases h2:okN n=true
  ·have HP:=hide (fun w2 (hb:Below w.heap.size w w2)=>jG h hb (k:=2) (a:=who.toNat) (b:=n.toNat) (s:=eB) (av:=.slice none 0 0) (oJ w2 0) (by have:=gM.1 h1;omega) (by have:=gM.1 h2;omega) kN (by simp) (fun l hl=>by rw [nZ hl];have:=gM.1 h1;have:=gM.1 h2;exact ⟨⟨by omega,by omega,rfl,rfl⟩,trivial⟩) 2 who n rfl (by have:=gM.1 h1;omega) (by have:=gM.1 h2;omega))
   rw [Co h1 h2] at HP;clear h;go_enter Tryz.func245,Tryz.ntmps245
   go_wp2_with (first
    | (go_at_call 53;refine (jE _ _).mono ?_;rintro e w1 ⟨rfl,rfl⟩)
    | (go_at_call 52;refine (HP.out _ (by exact aa)).mono ?_;rintro e w' ⟨T',n,S',rfl,hp,hA,hG⟩))
   go_ret;exact ⟨T',_,S',rfl,hp,hA,hG⟩
  ·have h2:okN n=false:=by simpa using h2
   have Hn:=hide (Done.none_ h.ar (Below.refl _ _));have Ho:=hide (show ji who n=none by unfold ji;rw [h1,h2];rfl);clear h;go_enter Tryz.func245,Tryz.ntmps245;go_wp2_with (go_at_call 53;refine (jE _ _).mono ?_;rintro e w1 ⟨rfl,rfl⟩);go_ret;rw [Ho.out];exact Hn.out
 ·have h1:okN who=false:=by simpa using h1
  have Hn:=hide (Done.none_ h.ar (Below.refl _ _));have Ho:=hide (show ji who n=none by unfold ji;rw [h1];rfl);clear h;go_enter Tryz.func245,Tryz.ntmps245;go_wp2_with (go_at_call 53;refine (jE _ _).mono ?_;rintro e w1 ⟨rfl,rfl⟩);go_ret;rw [Ho.out];exact Hn.out
theorem uI (h:Use B w g T S) (who:Int) :
  Calls Tryz.prog 15 #[.pointer (some ⟨g,0,none⟩),.int .i64 who] w (Done B w g T S (dW who)):=by
 by_cases h1:okN who=true
 ·have HP:=hide (fun w2 (hb:Below w.heap.size w w2)=>jG h hb (k:=3) (a:=who.toNat) (b:=0) (s:=eB) (av:=.slice none 0 0) (oJ w2 0) (by have:=gM.1 h1;omega) (by omega) kN (by simp) (fun l hl=>by rw [nZ hl];have:=gM.1 h1;exact ⟨⟨by omega,rfl,rfl,rfl⟩,trivial⟩) 3 who 0 rfl (by have:=gM.1 h1;omega) rfl)
  rw [GV h1] at HP;clear h;go_enter Tryz.func15,Tryz.ntmps15
  go_wp2_with (first
   | (go_at_call 53;refine (jE _ _).mono ?_;rintro e w1 ⟨rfl,rfl⟩)
   | (go_at_call 52;refine (HP.out _ (by exact aa)).mono ?_;rintro e w' ⟨T',n,S',rfl,hp,hA,hG⟩))
  go_ret;exact ⟨T',_,S',rfl,hp,hA,hG⟩
 ·have h1:okN who=false:=by simpa using h1
  have Hn:=hide (Done.none_ h.ar (Below.refl _ _));have Ho:=hide (show dW who=none by unfold dW;rw [h1];rfl);clear h;go_enter Tryz.func15,Tryz.ntmps15;go_wp2_with (go_at_call 53;refine (jE _ _).mono ?_;rintro e w1 ⟨rfl,rfl⟩);go_ret;rw [Ho.out];exact Hn.out
theorem jJ (T:List Tm) (n k:Int):isK T n k=mH (arg T n) k:=rfl
theorem BD {T l:List Tm} {n:Int} (h:iQ T [n]=some l):∃t,arg T n=some t∧l=[t]:=by
 unfold iQ at h;simp only [List.map_cons,List.map_nil] at h
 cases e:arg T n with
 | none=>rw [e] at h;cases h
 | some t=>rw [e] at h;simp only [rA,Option.some.injEq] at h;exact ⟨t,rfl,h.symm⟩
theorem KX {T l:List Tm} {n m:Int} (h:iQ T [n,m]=some l):∃t u,arg T n=some t∧l=[t,u]:=by
 unfold iQ at h;simp only [List.map_cons,List.map_nil] at h
 cases e:arg T n with
 | none=>rw [e] at h;cases h
 | some t=>cases e2:arg T m with
  | none=>rw [e,e2] at h;cases h
  | some u=>rw [e,e2] at h;simp only [rA,Option.some.injEq] at h;exact ⟨t,u,rfl,h.symm⟩
theorem uh (h:Use B w g T S) (n:Int) :
  Calls Tryz.prog 14 #[.pointer (some ⟨g,0,none⟩),.int .i64 n] w (Done B w g T S (gG (arg T n))):=by
 have HI:=hide (rO h.ar n 3)
 cases h1:isK T n 3 with
 | true =>
  rw [h1] at HI;rw [jJ] at h1;have hok:=h.ar.ok
  have HP:=hide (fun w2 (hb:Below w.heap.size w w2) (av:Value) (hI:Ids w2 av [n])=>jG h hb (k:=4) (a:=0) (b:=0) (s:=eB) hI (by omega) (by omega) kN (by simp) (fun l hl=>by
   obtain ⟨t,ht,rfl⟩:=BD hl;obtain ⟨t',ht',hk⟩:=gZ (k:=3) h1;rw [ht] at ht';cases ht'
   exact ⟨⟨rfl,rfl,rfl,rfl⟩,by simpa [kids] using hk⟩) 4 0 0 rfl rfl rfl)
  rw [Jk hok h1] at HP;clear h h1 hok;go_enter Tryz.func14,Tryz.ntmps14
  go_wp2_with (first
   | (go_at_call 51;refine HI.out.mono ?_;rintro e w1 ⟨rfl,rfl⟩)
   | (go_at_call 52;refine (HP.out _ (by exact aa) _ (Bd _ _ _)).mono ?_;rintro e w' ⟨T',n,S',rfl,hp,hA,hG⟩))
  go_ret;exact ⟨T',_,S',rfl,hp,hA,hG⟩
 | false =>
  rw [h1] at HI;rw [jJ] at h1;have Hn:=hide (Done.none_ h.ar (Below.refl _ _));have Ho:=hide (Gl h1);clear h h1;go_enter Tryz.func14,Tryz.ntmps14;go_wp2_with (go_at_call 51;refine HI.out.mono ?_;rintro e w1 ⟨rfl,rfl⟩);go_ret;rw [Ho.out];exact Hn.out
theorem LA {s:ByteArray} (h:okT s 2100=false):mR s=none:=by
 unfold mR;rw [if_neg];rintro ⟨h1,h2⟩;have:okT s 2100=true:=rX.2 ⟨h1,by omega⟩;rw [this] at h;cases h
theorem G8 (h:Use B w g T S) {s:ByteArray} (hs:s.size≤9223372036854775807) :
  Calls Tryz.prog 243 #[.pointer (some ⟨g,0,none⟩),.string s] w (Done B w g T S (mR s)):=by
 cases h1:okT s 2100 with
 | true =>
  have h2:=rX.1 h1;have HP:=hide (fun w2 (hb:Below w.heap.size w w2)=>jG h hb (k:=5) (a:=0) (b:=0) (s:=s) (av:=.slice none 0 0) (oJ w2 0) (by omega) (by omega) (by omega) (by simp) (fun l hl=>by rw [nZ hl];exact ⟨⟨rfl,rfl,by simp,by omega,by omega⟩,by simp,List.Pairwise.nil⟩) 5 0 0 rfl rfl rfl);rw [Fs ⟨h2.1,by omega⟩] at HP;clear h h2;go_enter Tryz.func243,Tryz.ntmps243
  go_wp2_with (first
   | (go_at_call 184;refine (lG _ _ _ hs).mono ?_;rintro e w1 ⟨rfl,rfl⟩)
   | (go_at_call 52;refine (HP.out _ (by exact aa)).mono ?_;rintro e w' ⟨T',n,S',rfl,hp,hA,hG⟩))
  go_ret;exact ⟨T',_,S',rfl,hp,hA,hG⟩
 | false =>
  have Hn:=hide (Done.none_ h.ar (Below.refl _ _));have Ho:=hide (LA h1);clear h;go_enter Tryz.func243,Tryz.ntmps243;go_wp2_with (go_at_call 184;refine (lG _ _ _ hs).mono ?_;rintro e w1 ⟨rfl,rfl⟩);go_ret;rw [Ho.out];exact Hn.out
theorem wh (h:Use B w g T S) {s:ByteArray} (hs:s.size≤9223372036854775807) (n m:Int) :
  Calls Tryz.prog 102 #[.pointer (some ⟨g,0,none⟩),.string s,.int .i64 n,.int .i64 m] w (Done B w g T S (mX s (arg T n) (arg T m))):=by
 have HI:=hide (rO h.ar n 3)
 cases h0:okT s 64 with
 | false =>
  have Hn:=hide (Done.none_ h.ar (Below.refl _ _))
  have Ho:=hide (Ag (alg:=s) (o:=arg T n) (p:=arg T m) (.inl (fun hc=>by
   have:okT s 64=true:=rX.2 ⟨hc.1,by omega⟩;rw [this] at h0
   cases h0)))
  clear h;go_enter Tryz.func102,Tryz.ntmps102;go_wp2_with (go_at_call 184;refine (lG _ _ _ hs).mono ?_;rintro e w1 ⟨rfl,rfl⟩);go_ret;rw [Ho.out];exact Hn.out
 | true =>
 have h2:=rX.1 h0
 cases h1:isK T n 3 with
 | true =>
  rw [h1] at HI;rw [jJ] at h1
  have HP:=hide (fun w2 (hb:Below w.heap.size w w2) (av:Value) (hI:Ids w2 av [n,m])=>jG h hb (k:=6) (a:=0) (b:=0) (s:=s) hI (by omega) (by omega) (by omega) (by simp) (fun l hl=>by
   obtain ⟨t,u,ht,rfl⟩:=KX hl;obtain ⟨t',ht',hk⟩:=gZ (k:=3) h1;rw [ht] at ht';cases ht'
   exact ⟨⟨rfl,rfl,rfl,by omega,by omega⟩,by simpa [kids] using hk⟩) 6 0 0 rfl rfl rfl)
  rw [Ej (alg:=s) ⟨h2.1,by omega⟩ h1] at HP;clear h h1 h2;go_enter Tryz.func102,Tryz.ntmps102
  go_wp2_with (first
   | (go_at_call 184;refine (lG _ _ _ hs).mono ?_;rintro e w1 ⟨rfl,rfl⟩)
   | (go_at_call 51;refine HI.out.mono ?_;rintro e w1 ⟨rfl,rfl⟩)
   | (go_at_call 52;refine (HP.out _ (by exact aa) _ (Cy _ _ _ _)).mono ?_;rintro e w' ⟨T',n,S',rfl,hp,hA,hG⟩))
  go_ret;exact ⟨T',_,S',rfl,hp,hA,hG⟩
 | false =>
  rw [h1] at HI;rw [jJ] at h1;have Hn:=hide (Done.none_ h.ar (Below.refl _ _));have Ho:=hide (Ag (alg:=s) (o:=arg T n) (p:=arg T m) (.inr h1));clear h h1 h2;go_enter Tryz.func102,Tryz.ntmps102
  go_wp2_with (first
   | (go_at_call 184;refine (lG _ _ _ hs).mono ?_;rintro e w1 ⟨rfl,rfl⟩)
   | (go_at_call 51;refine HI.out.mono ?_;rintro e w1 ⟨rfl,rfl⟩))
  go_ret;rw [Ho.out];exact Hn.out
theorem wI (h:Use B w g T S) (n:Int) :
  Calls Tryz.prog 39 #[.pointer (some ⟨g,0,none⟩),.int .i64 n] w (Done B w g T S (kZ (arg T n))):=by
 have HP:=hide (fun w2 (hb:Below w.heap.size w w2) (av:Value) (hI:Ids w2 av [n])=>jG h hb (k:=7) (a:=0) (b:=0) (s:=eB) hI (by omega) (by omega) kN (by simp) (fun l hl=>by
  obtain ⟨t,ht,rfl⟩:=BD hl
  exact ⟨⟨rfl,rfl,rfl,rfl⟩,trivial⟩) 7 0 0 rfl rfl rfl)
 rw [CU] at HP;clear h;go_enter Tryz.func39,Tryz.ntmps39;go_wp2_with (go_at_call 52;refine (HP.out _ (by exact aa) _ (Bd _ _ _)).mono ?_;rintro e w' ⟨T',n,S',rfl,hp,hA,hG⟩);go_ret;exact ⟨T',_,S',rfl,hp,hA,hG⟩
theorem Ck (h:Use B w g T S) (c:Nat) (hc:c<256) (n m p:Int) :
  Calls Tryz.prog 174 #[.pointer (some ⟨g,0,none⟩),.int .u8 c,.int .i64 n,.int .i64 m,.int .i64 p] w (Done B w g T S (ou c (arg T n) (arg T m) (arg T p))):=by
 have HP:=hide (fun w2 (hb:Below w.heap.size w w2) (av:Value) (hI:Ids w2 av [n,m,p])=>jG h hb (k:=8) (a:=0) (b:=c) (s:=eB) hI (by omega) (by omega) kN (by simp) (fun l hl=>by
  have:=sQ hl
  exact ⟨⟨rfl,by omega,this,rfl⟩,trivial⟩) 8 0 c rfl rfl rfl)
 rw [yV] at HP;clear h;have hc1:(c:Int)<256:=by omega
 have hc0:(0:Int)≤c:=by omega
 go_enter Tryz.func174,Tryz.ntmps174;go_wp2_with (go_at_call 52;refine (HP.out _ (by exact aa) _ (Od _ _ _ _ _)).mono ?_;rintro e w' ⟨T',n,S',rfl,hp,hA,hG⟩);go_ret;exact ⟨T',_,S',rfl,hp,hA,hG⟩
theorem H6 (h:Use B w g T S) (c:Nat) (hc:c<4294967296) (n m:Int) :
  Calls Tryz.prog 177 #[.pointer (some ⟨g,0,none⟩),.int .i64 n,.int .u32 c,.int .i64 m] w (Done B w g T S (Ca c (arg T n) (arg T m))):=by
 have HP:=hide (fun w2 (hb:Below w.heap.size w w2) (av:Value) (hI:Ids w2 av [n,m])=>jG h hb (k:=9) (a:=0) (b:=c) (s:=eB) hI (by omega) (by omega) kN (by simp) (fun l hl=>by
  have:=sQ hl
  exact ⟨⟨rfl,by omega,this,rfl⟩,trivial⟩) 9 0 c rfl rfl rfl)
 rw [Da] at HP;clear h;have hc1:(c:Int)<4294967296:=by omega
 have hc0:(0:Int)≤c:=by omega
 go_enter Tryz.func177,Tryz.ntmps177;go_wp2_with (go_at_call 52;refine (HP.out _ (by exact aa) _ (Cy _ _ _ _)).mono ?_;rintro e w' ⟨T',n,S',rfl,hp,hA,hG⟩);go_ret;exact ⟨T',_,S',rfl,hp,hA,hG⟩
theorem xN (h:Use B w g T S) {av:Value} {ns:List Int} (hI:Ids w av ns) (hn:ns.length≤1000000000) :
  Calls Tryz.prog 179 #[.pointer (some ⟨g,0,none⟩),av] w (Done B w g T S (kX (ns.map (arg T)))):=by
 obtain ⟨A,c,rfl,hr⟩:=hI
 by_cases h1:ns.length≤32
 ·have HP:=hide (fun w2 (hb:Below w.heap.size w w2)=>jG h hb (k:=10) (a:=0) (b:=0) (s:=eB) (Ids.below ⟨A,c,rfl,hr⟩ hb) (by omega) (by omega) kN (by omega) (fun l hl=>by
   have:=sQ hl
   exact ⟨⟨rfl,rfl,by omega,rfl⟩,trivial⟩) 10 0 0 rfl rfl rfl)
  rw [DI h1] at HP;clear h hr;have hi:¬ (32:Int)<ns.length:=by omega
  go_enter Tryz.func179,Tryz.ntmps179;go_wp2_with (go_at_call 52;refine (HP.out _ (by exact aa)).mono ?_;rintro e w' ⟨T',n,S',rfl,hp,hA,hG⟩);go_ret;exact ⟨T',_,S',rfl,hp,hA,hG⟩
 ·have Hn:=hide (Done.none_ h.ar (Below.refl _ _))
  have Ho:=hide (EG (l:=ns.map (arg T)) (by simpa using h1));clear h hr;have hi:(32:Int)<ns.length:=by omega
  go_enter Tryz.func179,Tryz.ntmps179;go_wp2;go_ret;rw [Ho.out];exact Hn.out
end
end Go.Proofs.YtnhekaepgpbijaaGreatDoor

namespace Go.Proofs.YtnhekaepgpbijaaGreatDoor
open Go.RowKit Go.ChangeShapes Go.WideShapes
theorem Qo {w:World} {b n:Nat} {v:Value} {js:List Nat} (h:w.ownsRow b 39 1 v n ((js.map Int.ofNat).map (Value.int .i64))) (hn:n=js.length) (h0:0<n):∃gb cap,v=.slice (some ⟨gb,0,none⟩) n cap∧b≤gb∧jl w w gb js:=by
 rcases h.2 with ⟨_,h1⟩ | ⟨gb,cap,cur,rfl,hb,hh,hnc,_,_,hx⟩
 ·omega
 ·refine ⟨gb,cap,rfl,hb,aj _ _,cur,hh,fun k v hk=>?_⟩
  have h1:(cur.toList.take (n*1))[k]?=some (.int .i64 v):=by
   rw [hx];simp [hk]
  have hk2:=(List.getElem?_eq_some_iff.1 hk).1;rw [List.getElem?_take_of_lt (by omega)] at h1;simpa using h1
theorem jl.ids {w0 w:World} {gb:Nat} {vs:List Nat} (h:jl w0 w gb vs) {n cap:Nat} (hn:n=vs.length):Ids w (.slice (some ⟨gb,0,none⟩) n cap) (vs.map Int.ofNat):=by
 subst hn;refine ⟨some ⟨gb,0,none⟩,cap,by simp,by simp,fun _=>⟨_,rfl,Nat.zero_le _,h.lt,fun j u hu=>?_⟩⟩;rw [bJ];simp only [List.getElem?_map,Option.map_eq_some_iff] at hu;obtain ⟨y,⟨z,hz,rfl⟩,rfl⟩:=hu;exact h.cell hz
theorem GY {T l:List Tm} {js:List Nat} (h:dJ T l js):iQ T (js.map Int.ofNat)=some l:=by
 unfold iQ;rw [List.map_map]
 have:js.map (arg T ∘ Int.ofNat)=l.map some:=by
  rw [←h];exact List.map_congr_left fun j _=>zC
 rw [this,qh]
theorem kM {t:Tm} (h:good t) (hk:t.k=5):hd 5 0 0 t.s t.l.length∧(∀x∈t.l,x.k=2)∧t.l.Pairwise tle∧dX t.l:=by
 obtain ⟨k,a,b,s,l⟩:=t;simp only [Tm.k] at hk;subst hk;simp only [good,hd,kids,true_and] at h;obtain ⟨⟨_,_,h3⟩,h4,h5⟩:=h;exact ⟨⟨rfl,rfl,h3⟩,h4.1,h4.2,h5⟩
theorem zU {l:List Tm} (hg:dX l) (hk:∀x∈l,x.k=2):(encs l).length=9*l.length:=by
 induction l with
 | nil=>rfl
 | cons t l ih =>
  simp only [dX] at hg;simp only [encs,List.length_append,List.length_cons];rw [Ja hg.1 (hk t (by simp)),ih hg.2 fun x hx=>hk x (by simp [hx])];omega
theorem Gu {o p:Option Tm} (h:mH o 5=false∨mH p 2=false):zI o p=none:=by
 cases o with
 | none=>rfl
 | some s=>cases p with
  | none=>rfl
  | some x =>
   show (if _ then _ else none)=none;rw [if_neg];rintro ⟨h1,h2,_⟩;rcases h with h | h
   ·exact nX (k:=5) h rfl h1
   ·exact nX (k:=2) h rfl h2
theorem Pz:(Tryz.prog.info? 39).map (fun i=>(i.zero,i.size,i.bytes))=some (some (.int .i64 0),1,8):=by kernel_rfl
section
variable {B g : Nat} {w : World} {T : List Tm} {S : Nat → Prop}
theorem IP (hT:AOK T) {s x:Tm} (hs:s∈T) (hx:x∈T) (ks:s.k=5) (kx:x.k=2) (h8:s.l.length<8) {vs:List Nat} (hv:dJ T (ins x s.l) vs) :
  eP T 5 0 0 s.s (vs.map Int.ofNat)=zI (some s) (some x)∧∀l,iQ T (vs.map Int.ofNat)=some l→hd 5 0 0 s.s l.length∧kids 5 l:=by
 have gs:=kM (hT.fine s hs).1 ks;have gx:=(hT.fine x hx).1;have e:=GY hv
 have hkk:∀z∈ins x s.l,z.k=2:=fun z hz=>by
  rcases zk.1 hz with rfl | hz
  ·exact kx
  ·exact gs.2.1 z hz
 have hgg:dX (ins x s.l):=(jf _).2 fun z hz=>by
  rcases zk.1 hz with rfl | hz
  ·exact gx
  ·exact (jf _).1 gs.2.2.2 z hz
 have h1:=gs.1;simp only [hd] at h1;constructor
 ·unfold eP
  rw [e];show lim _=if _ then _ else none;rw [if_pos ⟨ks,kx,h8⟩,gz];simp only [enc,List.length_append,zU hgg hkk,rU,head,mid,List.length_cons,bU,aD];omega
 ·intro l hl
  rw [e] at hl;cases hl
  rw [rU];exact ⟨⟨rfl,rfl,by omega,h1.2.2.2⟩,hkk,ug gs.2.2.1⟩
theorem MJ (h:Use B w g T S) (n m:Int) :
  Calls Tryz.prog 244 #[.pointer (some ⟨g,0,none⟩),.int .i64 n,.int .i64 m] w (Done B w g T S (zI (arg T n) (arg T m))):=by
 have HI:=hide (rO h.ar n 5);have HJ:=hide (rO h.ar m 2)
 cases h1:isK T n 5 with
 | false =>
  rw [h1] at HI;have Hn:=hide (Done.none_ h.ar (Below.refl _ _));have Ho:=hide (Gu (o:=arg T n) (p:=arg T m) (.inl (by rw [←jJ];exact h1)));clear h h1;go_enter Tryz.func244,Tryz.ntmps244;go_wp2_with (go_at_call 51;refine HI.out.mono ?_;rintro e w1 ⟨rfl,rfl⟩);go_ret;rw [Ho.out];exact Hn.out
 | true =>
 rw [h1] at HI
 cases h2:isK T m 2 with
 | false =>
  rw [h2] at HJ;have Hn:=hide (Done.none_ h.ar (Below.refl _ _));have Ho:=hide (Gu (o:=arg T n) (p:=arg T m) (.inr (by rw [←jJ];exact h2)));clear h h1 h2;go_enter Tryz.func244,Tryz.ntmps244
  go_wp2_with (first
   | (go_at_call 51;with_reducible refine HI.out.mono ?_;rintro e w1 ⟨rfl,rfl⟩)
   | (go_at_call 51;with_reducible refine HJ.out.mono ?_;rintro e w1 ⟨rfl,rfl⟩))
  go_ret;rw [Ho.out];exact Hn.out
 | true =>
 rw [h2] at HJ;rw [jJ] at h1 h2;obtain ⟨s,hs,ks⟩:=gZ (k:=5) h1;obtain ⟨x,hx,kx⟩:=gZ (k:=2) h2;rw [hs,hx];obtain ⟨i,rfl,hi⟩:=jA hs;obtain ⟨j,rfl,hj⟩:=jA hx;have hA:=h.ar;obtain ⟨nv,sv,mb,rows,D,hX⟩:=hA;obtain ⟨nb,cap,av,js,rfl,hlt,c0,c1,c2,c3,c4,ha,hI⟩:=hX.cells hi;have h0:w.cell? ⟨g,0,none⟩=some (.slice (some ⟨nb,0,none⟩) T.length cap):=hX.blk.cell 0;have hil:=(List.getElem?_eq_some_iff.1 hi).1;have hii:(i:Int)<T.length:=by omega
 have hi0:(0:Int)≤i:=by omega
 have hjl:=ha.len;have h8:=JL hX.ok (List.mem_of_getElem? hi) ks;obtain ⟨A,c,rfl,hAI⟩:=hI
 have HI2:Hid (Ids w (.slice A js.length c) (js.map Int.ofNat)):=⟨A,c,by simp,hAI⟩
 simp only [List.length_map] at c4
 by_cases hl8:s.l.length<8
 ·have hSrt:Srt T s.l js x j:=⟨ha,hj,(kM (hX.ok.fine s (List.mem_of_getElem? hi)).1 ks).2.1,kx,(kM (hX.ok.fine s (List.mem_of_getElem? hi)).1 ks).2.2.1⟩
  have HS:=hide hSrt;have HX:=hide hX;have HU:=hide h;have Hi:=hide hi;have Hj:=hide hj;have Hjl:=hide hjl;have Ks:=hide ks;have Kx:=hide kx;clear ks kx;have hjs8:(js.length:Int)<8:=by omega
  have hjs7:js.length≤8:=by omega
  have hgl:=hX.blk.lt;have HC:=hide (fun w2 (hb:Below w.heap.size w w2)=>qg (w:=w2) (HI2.out.below hb) (by simp;omega));simp only [List.length_map] at HC;obtain ⟨iI,hiI,hI0,hI1,hI2⟩:=info_parts Pz;clear h h1 h2 hs hx hi hj hX ha hAI hjl hSrt h8;go_enter Tryz.func244,Tryz.ntmps244
  go_wp2_with (first
   | (go_at_call 51;with_reducible refine HI.out.mono ?_;rintro e w1 ⟨rfl,rfl⟩)
   | (go_at_call 51;with_reducible refine HJ.out.mono ?_;rintro e w1 ⟨rfl,rfl⟩)
   | (go_at_call 100;refine (HC.out _ (by exact aa)).mono ?_;rintro e w1 ⟨v',rfl,hown,hb1⟩;obtain ⟨A1,d1,rfl⟩:=gH hown;have hz1:=hb1.size)
   | (at_builtin;refine aA _ rfl (.tmp 38) (.tmp 40) _ rfl w.heap.size 39 iI (.int .i64 0) 1 8 Tryz.underlying124 hiI hI0 hI1 hI2 rfl (by decide) (.slice A1 js.length d1) js.length ((js.map Int.ofNat).map (Value.int .i64)) rfl (hown.alloc _) _ (some ⟨w1.heap.size,0,none⟩) 1 1 [.int .i64 j] rfl (eQ (Blk.new w1 _ _) rfl) (by simp [Value.oneCell']) (by unfold maxLen;omega) (by omega) (by simp;omega) ?_;intro v2 w2 hown2 hgr2 hat2;have hlo:=fun i hi=>(hown.lt i hi).1;clear hown))
  have hb2:Below w.heap.size w w2:=(hb1.alloc hb1.size _).grown hgr2 (by simp;omega) hlo;have hown3:w2.ownsRow w.heap.size 39 1 v2 (js.length+1) (((js++[j]).map Int.ofNat).map (Value.int .i64)):=by simpa using hown2
  obtain ⟨gb,cap2,rfl,hgb,hRow⟩:=Qo hown3 (by simp) (by omega)
  have hSgb:¬ S gb:=fun hc=>by
   have:=HU.out.ar.sL gb hc;omega
  refine (Jg (HU.out.ar.below hb2) HS.out rfl (by omega) hSgb hRow).mono ?_;rintro e w3 ⟨rfl,vs,hf,hw3⟩;have hb3:Below w.heap.size w w3:=El hb2 hw3.1 hgb hb2.size
  have hvl:vs.length=js.length+1:=by
   have h1:vs.length=(ins x s.l).length:=hf.len;rw [h1,rU,Hjl.out]
  have hI3:Ids w3 (.slice (some ⟨gb,0,none⟩) (js.length+1) cap2) (vs.map Int.ofNat):=hw3.ids hvl.symm
  have hsz:s.s.size≤1000000:=by
   have h1:=(kM (HU.out.ar.ok.fine s (List.mem_of_getElem? Hi.out)).1 Ks.out).1;simp only [hd] at h1;omega
  have hno:=IP HU.out.ar.ok (List.mem_of_getElem? Hi.out) (List.mem_of_getElem? Hj.out) Ks.out Kx.out hl8 hf;have hvl2:(vs.map Int.ofNat).length≤40:=by rw [List.length_map,hvl];omega
  have HP:=hide (jG HU.out hb3 hI3 (k:=5) (a:=0) (b:=0) (s:=s.s) (by omega) (by omega) hsz hvl2 hno.2 5 0 0 rfl rfl rfl);have HNo:=hide hno.1;have d0:=Dk hb3 h0;have d3:=Dk hb3 c3;clear hno hI3 hw3 hf hvl hvl2 hb2 hown2 hown3 hgr2 hat2 hRow h0 c0 c1 c2 c3 c4 hlo hb1;go_wp2_with (go_at_call 52;refine HP.out.mono ?_;rintro e w4 ⟨T',n',S',rfl,hp,hA,hG⟩);go_ret;rw [←HNo.out];exact ⟨T',_,S',rfl,hp,hA,hG⟩
 ·have Hn:=hide (Done.none_ h.ar (Below.refl _ _))
  have Ho:=hide (show zI (some s) (some x)=none by
   show (if _ then _ else none)=none
   rw [if_neg (fun hc=>hl8 hc.2.2)])
  have hjs8:¬ (js.length:Int)<8:=by omega
  clear h h1 h2 hs hx hi hj hX ha hAI hjl h8;go_enter Tryz.func244,Tryz.ntmps244
  go_wp2_with (first
   | (go_at_call 51;with_reducible refine HI.out.mono ?_;rintro e w1 ⟨rfl,rfl⟩)
   | (go_at_call 51;with_reducible refine HJ.out.mono ?_;rintro e w1 ⟨rfl,rfl⟩))
  go_ret;rw [Ho.out];exact Hn.out
end
def QX (w:World) (e:Ending) (w':World):Prop:=∃g S,e=.returned (.pointer (some ⟨g,0,none⟩))∧Ar w.heap.size w' g [] S∧Below w.heap.size w w'
theorem TE (w:World):QX w (.returned (.pointer (some ⟨w.heap.size+1,0,none⟩))) ((w.alloc (.map #[] 0)).alloc (.cells #[.slice none 0 0,.slice none 0 0,.map (some w.heap.size)] 106)):=by
 refine ⟨_,fun i=>i=w.heap.size∨i=w.heap.size+1,rfl,⟨.slice none 0 0,.slice none 0 0,w.heap.size,[],.map [],?_⟩,(aZ _).alloc (by simp) _⟩;have hb:=Blk.new (w.alloc (.map #[] 0)) 106 #[.slice none 0 0,.slice none 0 0,.map (some w.heap.size)];simp only [World.size_alloc] at hb;have hm:=(World.ownsMap_made (H:=Unit) w Tryz.prog 184 (plainElem Tryz.prog 39)).alloc (.cells #[.slice none 0 0,.slice none 0 0,.map (some w.heap.size)] 106);refine ⟨Qk,hb,World.ownsRow_nil _ _ _ _,rfl,fun i t us hi=>by simp at hi,World.ownsRow_nil _ _ _ _,hm,P6,.inr rfl,.inl rfl,fun i hi=>by simp [Value.ownBlock] at hi,fun i hi=>by simp [Value.ownBlock] at hi,?_,?_⟩
 ·rintro i (rfl | rfl) <;> omega
 ·rintro i (rfl | rfl) <;> first | (simp;done) | (simp;omega)
theorem yo (w:World):Calls Tryz.prog 8 #[] w (QX w):=by
 have hmm:=@run_makeMap Tryz.prog;go_enter Tryz.func8,Tryz.ntmps8;go_wp2;go_ret;exact TE w
end Go.Proofs.YtnhekaepgpbijaaGreatDoor

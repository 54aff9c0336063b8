/- Several of my texts in one: ArenaA, BuildA. -/
import Derived.Test.YtnhekaepgpbijaaGreatDoorJAsG
import Derived.Test.YtnhekaepgpbijaaGreatDoorJSignPG
import Derived.Maps.Own
import Derived.Maps.Views
import Derived.DeepKeys4
import Derived.Test.YtnhekaepgpbijaaGreatDoorJShelf
import Derived.Lib.SmallJoins
import Derived.Lib.ItoaLen
set_option linter.unusedVariables false
set_option linter.unusedSimpArgs false
set_option maxHeartbeats 40000000
set_option maxRecDepth 100000
namespace Go.Proofs.YtnhekaepgpbijaaGreatDoor
open Go.RowKit Go.ChangeShapes Go.WideShapes
theorem Ty:laidOutB Tryz.prog=true:=by kernel_rfl
theorem uC:Maps.Keyed Tryz.prog 184:=Maps.Keyed.of_law (deep_law_laid Ty (m:=3) (by omega) (of_decide_eq_true (by kernel_rfl)) (by kernel_rfl) (by kernel_rfl))
def Kv (k a b:Int) (s r:ByteArray):Value:=.agg #[.int .i64 k,.int .i64 a,.int .i64 b,.string s,.string r]
theorem N9 {k a b:Int} {s r:ByteArray} (h1:(Lit.int .i64 k).wf=true) (h2:(Lit.int .i64 a).wf=true) (h3:(Lit.int .i64 b).wf=true) (h4:s.size≤maxLen) (h5:r.size≤maxLen):∃kl,keyOf Tryz.prog 184 (Kv k a b s r)=some kl:=by
 have u1:=Tryz.underlying184;have hk:Tryz.prog.keyType 184=true:=by kernel_rfl
 have hc:Tryz.prog.cellsOf 184=5:=by kernel_rfl
 have c3:Tryz.prog.cellsOf 3=1:=by kernel_rfl
 have c9:Tryz.prog.cellsOf 9=1:=by kernel_rfl
 obtain ⟨m,hm⟩:∃m,Tryz.prog.types.size=m+1:=⟨Tryz.prog.types.size - 1,by
  have:0<Tryz.prog.types.size:=of_decide_eq_true (by kernel_rfl)
  omega⟩
 unfold keyOf Kv;simp only [u1,hk,Value.formed,hc];have u3:=Tryz.underlying3;have u9:=Tryz.underlying9;rw [hm];simp [Program.keyLits,u1,u3,u9,hc,c3,c9,h1,h2,h3,h4,h5,Value.cells]
theorem QN (w:World):(zeroValue 39).run Tryz.prog w=.ok (.int .i64 0) w:=by kernel_rfl
def kU (js:List Nat):ByteArray:=⟨(fM js).toArray⟩
def D7 (t:Tm) (js:List Nat):Value:=Kv t.k t.a t.b t.s (kU js)
def lH (t:Tm) (js:List Nat) (kl:Lit):Prop:=keyOf Tryz.prog 184 (D7 t js)=some kl
theorem NJ {t u:Tm} {js ks:List Nat} (h:D7 t js=D7 u ks):t.k=u.k∧t.a=u.a∧t.b=u.b∧t.s=u.s∧js=ks:=by
 unfold D7 Kv at h;simp only [Value.agg.injEq,Array.mk.injEq,List.cons.injEq,Value.int.injEq,Value.string.injEq,true_and,and_true] at h;obtain ⟨h1,h2,h3,h4,h5⟩:=h;refine ⟨by omega,by omega,by omega,h4,wS ?_⟩;unfold kU at h5;injection h5 with h5;injection h5
theorem wX {t u:Tm} {js ks:List Nat} {kl:Lit} (h:lH t js kl) (h':lH u ks kl):t.k=u.k∧t.a=u.a∧t.b=u.b∧t.s=u.s∧js=ks:=NJ (uC.inj h h')
structure Idx (T:List Tm) (D:DataW Unit):Prop where
 isMap:Maps.IsMap D
 yes:∀(i:Nat) (t:Tm) (js:List Nat) (kl:Lit) (zd:DataW Unit),T[i]?=some t→dJ T t.l js→lH t js kl→D.atKey kl zd=.lit (.int .i64 i)
 no:∀kl,(∀(i:Nat) (t:Tm) (js:List Nat),T[i]?=some t→dJ T t.l js→¬ lH t js kl)→∀zd,D.atKey kl zd=zd
theorem P6:Idx [] (.map []):=⟨⟨[],rfl⟩,fun i t js kl zd h=>by simp at h,fun kl _ zd=>rfl⟩
theorem KN (t:Tm):t=.mk t.k t.a t.b t.s t.l:=by cases t;rfl
theorem NN {t u:Tm} (h1:t.k=u.k) (h2:t.a=u.a) (h3:t.b=u.b) (h4:t.s=u.s) (h5:t.l=u.l):t=u:=by
 rw [KN t,KN u,h1,h2,h3,h4,h5]
theorem Idx.put {T:List Tm} {D:DataW Unit} (hT:AOK T) (h:Idx T D) {t:Tm} {js:List Nat} {kl:Lit} (ht:t ∉ T) (hj:dJ T t.l js) (hk:lH t js kl):Idx (T++[t]) (D.put kl (.lit (.int .i64 T.length))):=by
 have key:∀(i:Nat) (u:Tm) (ks:List Nat),(T++[t])[i]?=some u→dJ (T++[t]) u.l ks→(i<T.length∧T[i]?=some u∧dJ T u.l ks)∨(i=T.length∧u=t∧ks=js):=by
  intro i u ks hi ha;rcases Nat.lt_or_ge i T.length with hlt | hge
  ·rw [List.getElem?_append_left hlt] at hi
   left;refine ⟨hlt,hi,?_⟩;unfold dJ at ha ⊢;rw [←ha];refine List.map_congr_left fun j hjm=>?_
   have h1:(T++[t])[j]?∈u.l.map some:=by
    rw [←ha];exact List.mem_map.2 ⟨j,hjm,rfl⟩
   obtain ⟨c,hc,hcj⟩:=List.mem_map.1 h1;obtain ⟨m,hm,hmc⟩:=hT.sub i u hi c hc;rcases Nat.lt_or_ge j T.length with h2 | h2
   ·rw [List.getElem?_append_left h2]
   ·rw [List.getElem?_append_right h2] at hcj
    have h3:j - T.length=0:=by
     rcases Nat.eq_zero_or_pos (j - T.length) with h0 | h0
     ·exact h0
     ·rw [List.getElem?_eq_none (by simp;omega)] at hcj;cases hcj
    rw [h3] at hcj;simp only [List.getElem?_cons_zero,Option.some.injEq] at hcj;subst hcj;exact absurd (List.mem_of_getElem? hmc) ht
  ·rw [List.getElem?_append_right hge] at hi
   have h3:i - T.length=0:=by
    rcases Nat.eq_zero_or_pos (i - T.length) with h0 | h0
    ·exact h0
    ·rw [List.getElem?_eq_none (by simp;omega)] at hi;cases hi
   rw [h3] at hi;simp only [List.getElem?_cons_zero,Option.some.injEq] at hi;subst hi;right;refine ⟨by omega,rfl,?_⟩;have h4:js.map (fun j=>(T++[t])[j]?)=ks.map (fun j=>(T++[t])[j]?):=(hj.pre (List.prefix_append _ _)).trans ha.symm
   have h5:∀j∈js,j<T.length:=by
    intro j hjm
    have h1:T[j]?∈t.l.map some:=by
     rw [←hj];exact List.mem_map.2 ⟨j,hjm,rfl⟩
    obtain ⟨c,_,hc⟩:=List.mem_map.1 h1;exact (List.getElem?_eq_some_iff.1 hc.symm).1
   clear ha hj hk
   induction js generalizing ks with
   | nil=>cases ks with
    | nil=>rfl
    | cons k ks=>simp at h4
   | cons j js ih=>cases ks with
    | nil=>simp at h4
    | cons k ks =>
     simp only [List.map_cons,List.cons.injEq] at h4;have hjl:=h5 j (by simp);have e1:=h4.1;rw [List.getElem?_append_left hjl,List.getElem?_eq_getElem hjl] at e1
     have hkl:k<T.length:=by
      rcases Nat.lt_or_ge k T.length with h6 | h6
      ·exact h6
      ·rw [List.getElem?_append_right h6] at e1
       have h7:k - T.length=0:=by
        rcases Nat.eq_zero_or_pos (k - T.length) with h0 | h0
        ·exact h0
        ·rw [List.getElem?_eq_none (by simp;omega)] at e1;cases e1
       rw [h7] at e1;simp only [List.getElem?_cons_zero,Option.some.injEq] at e1;exact absurd (e1 ▸ List.getElem_mem hjl) ht
     rw [List.getElem?_append_left hkl] at e1;rw [rM hT (List.getElem?_eq_getElem hjl) e1.symm,ih ks h4.2 fun j hj=>h5 j (by simp [hj])]
 refine ⟨h.isMap.put _ _,?_,?_⟩
 ·intro i u ks kl' zd hi ha hk'
  rcases key i u ks hi ha with ⟨hlt,hi2,ha2⟩ | ⟨rfl,rfl,rfl⟩
  ·have hne:kl'≠kl:=by
    rintro rfl;obtain ⟨e1,e2,e3,e4,rfl⟩:=wX hk' hk;have:u=t:=NN e1 e2 e3 e4 (ha2.back hj);subst this;exact ht (List.mem_of_getElem? hi2)
   rw [Maps.atKey_put_other hne];exact h.yes i u ks kl' zd hi2 ha2 hk'
  ·obtain rfl:kl'=kl:=by
    unfold lH at hk hk';rw [hk] at hk';cases hk'
    rfl
   rw [Maps.atKey_put_same h.isMap (uC.key hk)]
 ·intro kl' hno zd
  have hne:kl'≠kl:=by
   rintro rfl;exact hno T.length t js (by simp) (hj.pre (List.prefix_append _ _)) hk
  rw [Maps.atKey_put_other hne];exact h.no kl' (fun i u ks hi ha=>hno i u ks (oI (List.prefix_append _ _) hi) (ha.pre (List.prefix_append _ _))) zd
section
variable {w : World} {mb n : Nat} {T : List Tm} {D : DataW Unit}
theorem Og (h:w.ownsMap Tryz.prog 184 (plainElem Tryz.prog 39) mb n D) (hI:Idx T D) {i:Nat} {t:Tm} {js:List Nat} {kl:Lit} (hi:T[i]?=some t) (hj:dJ T t.l js) (hk:lH t js kl) :
  (Instr.lookup 103 (.map (some mb)) (D7 t js) true).run Tryz.prog w=.ok (.tuple #[.int .i64 i,.bool true]) w:=by
 obtain ⟨es,clock,hb,F,_,rfl⟩:=h;rcases Maps.fit_look true uC Tryz.underlying103 (QN w) hb F hk with ⟨_,_,hat⟩ | ⟨e0,y,_,_,hrun,hRv,hat,_⟩
 ·have h1:=hI.yes i t js kl .nil hi hj hk
  rw [hat] at h1;cases h1
 ·have h1:=hI.yes i t js kl .nil hi hj hk
  rw [hat] at h1;obtain ⟨a,e1,e2,_⟩:=plainElem_int_inv Tryz.underlying39 hRv;rw [e2] at h1;simp only [DataW.lit.injEq,Lit.int.injEq,true_and] at h1;subst h1;rw [e1] at hrun;exact hrun
theorem OC (h:w.ownsMap Tryz.prog 184 (plainElem Tryz.prog 39) mb n D) (hI:Idx T D) {t:Tm} {js:List Nat} {kl:Lit} (hk:lH t js kl) (hj:dJ T t.l js) (hn:t ∉ T) :
  (Instr.lookup 103 (.map (some mb)) (D7 t js) true).run Tryz.prog w=.ok (.tuple #[.int .i64 0,.bool false]) w:=by
 have hno:∀zd,D.atKey kl zd=zd:=hI.no kl fun i u ks hi ha hk'=>by
  obtain ⟨e1,e2,e3,e4,rfl⟩:=wX hk' hk;have:u=t:=NN e1 e2 e3 e4 (ha.back hj);subst this;exact hn (List.mem_of_getElem? hi)
 obtain ⟨es,clock,hb,F,_,rfl⟩:=h;rcases Maps.fit_look true uC Tryz.underlying103 (QN w) hb F hk with ⟨hrun,_,_⟩ | ⟨e0,y,_,_,hrun,hRv,hat,_⟩
 ·exact hrun
 ·have h1:=hno .nil
  rw [hat] at h1;obtain ⟨a,e1,e2,_⟩:=plainElem_int_inv Tryz.underlying39 hRv;rw [e2] at h1;cases h1
end
def Ids (w:World) (v:Value) (ns:List Int):Prop:=∃A c,v=.slice A ns.length c∧Sl 0 w 1 A ns.length (ns.map (Value.int .i64))
theorem Ids.below {w w':World} {v:Value} {ns:List Int} (h:Ids w v ns) (hb:Below w.heap.size w w'):Ids w' v ns:=by
 obtain ⟨A,c,e,hr⟩:=h;exact ⟨A,c,e,hr.below hb⟩
theorem Ids.alloc {w:World} {v:Value} {ns:List Int} (h:Ids w v ns) (o:Obj):Ids (w.alloc o) v ns:=h.below ((Below.refl _ _).alloc (Nat.le_refl _) o)
theorem oJ (w:World) (c:Nat):Ids w (.slice none 0 c) []:=⟨none,c,rfl,Sl.nil_⟩
theorem zt {base:Nat} {w:World} {e:TypeId} {v:Value} {n:Nat} {ns:List Int} (hn:n=ns.length) (h:w.ownsRow base e 1 v n (ns.map (Value.int .i64))):Ids w v ns:=by
 subst hn;rcases h.2 with ⟨rfl,h0⟩ | ⟨g,cap,cur,rfl,hb,hh,hnc,hx⟩
 ·have:ns=[]:=by simpa using h0
  subst this;exact oJ _ _
 ·have hr:=Reads.of_own h
  exact ⟨some ⟨g,0,none⟩,cap,rfl,Sl.of_reads hr⟩
def RL (B:Nat) (S:Nat→Prop) (w:World) (T:List Tm) (t:Tm) (us:List Value):Prop :=
 ∃av js,us=[.int .i64 t.k,.int .i64 t.a,.int .i64 t.b,.string t.s,av]∧dJ T t.l js∧w.ownsRow B 39 1 av js.length ((js.map Int.ofNat).map (Value.int .i64))∧∀i,av.ownBlock=some i→S i
structure ArX (B:Nat) (w:World) (g:Nat) (T:List Tm) (S:Nat→Prop) (nv sv:Value) (mb:Nat) (rows:List (List Value)) (D:DataW Unit):Prop where
 ok:AOK T
 blk:Blk w g 106 #[nv,sv,.map (some mb)]
 nodes:w.ownsRow B 126 5 nv T.length rows.flatten
 nrows:rows.length=T.length
 node:∀(i:Nat) (t:Tm) (us:List Value),T[i]?=some t→rows[i]?=some us→RL B S w T t us
 sizes:w.ownsRow B 3 1 sv T.length (T.map fun t=>.int .i64 ((enc t).length:Nat))
 map:w.ownsMap Tryz.prog 184 (plainElem Tryz.prog 39) mb T.length D
 idx:Idx T D
 sg:S g
 sm:S mb
 sn:∀i,nv.ownBlock=some i→S i
 ss:∀i,sv.ownBlock=some i→S i
 sB:∀i,S i→B≤i
 sL:∀i,S i→i<w.heap.size
def Ar (B:Nat) (w:World) (g:Nat) (T:List Tm) (S:Nat→Prop):Prop:=∃nv sv mb rows D,ArX B w g T S nv sv mb rows D
theorem Pf {rows:List (List Value)} {k:Nat} (h:∀us∈rows,us.length=k) {i f:Nat} (hf:f<k):rows.flatten[i*k+f]?=(rows[i]?).bind (·[f]?):=by
 induction rows generalizing i with
 | nil=>simp
 | cons us rows ih =>
  have hl:=h us (by simp);rw [List.flatten_cons]
  cases i with
  | zero =>
   rw [Nat.zero_mul,Nat.zero_add,List.getElem?_append_left (by omega)];simp
  | succ i =>
   rw [List.getElem?_append_right (by rw [Nat.succ_mul];omega),show (i+1)*k+f - us.length=i*k+f by rw [Nat.succ_mul];omega,ih fun us hu=>h us (by simp [hu])];simp
section
variable {B g mb : Nat} {w : World} {T : List Tm} {S : Nat → Prop} {nv sv : Value} {rows : List (List Value)} {D : DataW Unit}
theorem ArX.len5 (h:ArX B w g T S nv sv mb rows D):∀us∈rows,us.length=5:=by
 intro us hu;obtain ⟨i,hi,rfl⟩:=List.getElem_of_mem hu;obtain ⟨av,js,e,_⟩:=h.node i _ _ (List.getElem?_eq_getElem (by rw [←h.nrows];exact hi)) (List.getElem?_eq_getElem hi);rw [e];rfl
theorem ArX.nslice (h:ArX B w g T S nv sv mb rows D):∃A c,nv=.slice A T.length c:=by
 rcases h.nodes.2 with ⟨rfl,h0⟩ | ⟨g',cap,cur,rfl,_⟩
 ·exact ⟨none,0,by rw [h0]⟩
 ·exact ⟨_,_,rfl⟩
theorem ArX.sslice (h:ArX B w g T S nv sv mb rows D):∃A c,sv=.slice A T.length c:=by
 rcases h.sizes.2 with ⟨rfl,h0⟩ | ⟨g',cap,cur,rfl,_⟩
 ·exact ⟨none,0,by rw [h0]⟩
 ·exact ⟨_,_,rfl⟩
theorem ArX.cells (h:ArX B w g T S nv sv mb rows D) {i:Nat} {t:Tm} (hi:T[i]?=some t):∃nb cap av js,nv=.slice (some ⟨nb,0,none⟩) T.length cap∧nb<w.heap.size ∧
  w.cell? ⟨nb,i*5,none⟩=some (.int .i64 t.k)∧w.cell? ⟨nb,i*5+1,none⟩=some (.int .i64 t.a)∧w.cell? ⟨nb,i*5+2,none⟩=some (.int .i64 t.b)∧w.cell? ⟨nb,i*5+3,none⟩=some (.string t.s)∧w.cell? ⟨nb,i*5+4,none⟩=some av ∧
  dJ T t.l js∧Ids w av (js.map Int.ofNat):=by
 have hl:=(List.getElem?_eq_some_iff.1 hi).1;obtain ⟨nb,cap,hv,_,hlt⟩:=h.nodes.form (by omega);have hr:i<rows.length:=by rw [h.nrows];exact hl
 obtain ⟨av,js,e,ha,hI,_⟩:=h.node i t _ hi (List.getElem?_eq_getElem hr);have hc:=h.nodes.cells (g:=nb) (by rw [hv];rfl)
 have key:∀f,f<5→∀v,rows[i][f]?=some v→w.cell? ⟨nb,i*5+f,none⟩=some v:=by
  intro f hf v hfv;have h1:=hc (i*5+f) v (by rw [Pf h.len5 hf,List.getElem?_eq_getElem hr];exact hfv);rwa [bJ] at h1
 rw [e] at key;exact ⟨nb,cap,av,js,hv,hlt,key 0 (by omega) _ rfl,key 1 (by omega) _ rfl,key 2 (by omega) _ rfl,key 3 (by omega) _ rfl,key 4 (by omega) _ rfl,ha,zt (by simp) hI⟩
theorem ArX.size_at (h:ArX B w g T S nv sv mb rows D) {i:Nat} {t:Tm} (hi:T[i]?=some t):∃sb cap,sv=.slice (some ⟨sb,0,none⟩) T.length cap∧sb<w.heap.size∧w.cell? ⟨sb,i,none⟩=some (.int .i64 ((enc t).length:Nat)):=by
 have hl:=(List.getElem?_eq_some_iff.1 hi).1;obtain ⟨sb,cap,hv,_,hlt⟩:=h.sizes.form (by omega);have hc:=h.sizes.cells (g:=sb) (by rw [hv];rfl) i (.int .i64 ((enc t).length:Nat)) (by rw [List.getElem?_map,hi];rfl);rw [bJ] at hc;exact ⟨sb,cap,hv,hlt,hc⟩
theorem ArX.kept {w':World} {row:Option Nat} (h:ArX B w g T S nv sv mb rows D) (hg:w.grownBy w' row) (hr:∀b,row=some b→¬ S b):ArX B w' g T S nv sv mb rows D:=by
 have ne:∀v:Value,(∀i,v.ownBlock=some i→S i)→v.ownBlock=none∨v.ownBlock≠row:=by
  intro v hv
  cases e:v.ownBlock with
  | none=>exact .inl rfl
  | some i =>
   right;intro e2;exact hr i e2.symm (hv i e)
 have nb:∀b,S b→some b≠row:=fun b hb e=>hr b e.symm hb
 refine ⟨h.ok,h.blk.grown hg (nb g h.sg),h.nodes.kept hg (ne nv h.sn),h.nrows,fun i t us hi hu=>?_,h.sizes.kept hg (ne sv h.ss),h.map.kept hg (nb mb h.sm),h.idx,h.sg,h.sm,h.sn,h.ss,h.sB,fun i hi=>Nat.lt_of_lt_of_le (h.sL i hi) hg.size⟩;obtain ⟨av,js,e,ha,ho,hs⟩:=h.node i t us hi hu;exact ⟨av,js,e,ha,ho.kept hg (ne av hs),hs⟩
end
section
variable {B g : Nat} {w w' : World} {T : List Tm} {S : Nat → Prop}
theorem Ar.kept {row:Option Nat} (h:Ar B w g T S) (hg:w.grownBy w' row) (hr:∀b,row=some b→¬ S b):Ar B w' g T S:=by
 obtain ⟨nv,sv,mb,rows,D,h⟩:=h;exact ⟨nv,sv,mb,rows,D,h.kept hg hr⟩
theorem Ar.below (h:Ar B w g T S) (hb:Below w.heap.size w w'):Ar B w' g T S:=h.kept (ai hb none) (fun _ e=>by cases e)
theorem Ar.ok (h:Ar B w g T S):AOK T:=let ⟨_,_,_,_,_,h⟩:=h;h.ok
theorem Ar.sL (h:Ar B w g T S):∀i,S i→i<w.heap.size:=let ⟨_,_,_,_,_,h⟩:=h;h.sL
theorem Ar.sB (h:Ar B w g T S):∀i,S i→B≤i:=let ⟨_,_,_,_,_,h⟩:=h;h.sB
theorem Ar.sg (h:Ar B w g T S):S g:=let ⟨_,_,_,_,_,h⟩:=h;h.sg
theorem Ar.lt (h:Ar B w g T S):g<w.heap.size:=let ⟨_,_,_,_,_,h⟩:=h;h.blk.lt
theorem Oe (h:Ar B w g T S):Calls Tryz.prog 181 #[.pointer (some ⟨g,0,none⟩)] w fun e w'=>e=.returned (.int .i64 T.length)∧w=w':=by
 obtain ⟨nv,sv,mb,rows,D,h⟩:=h;obtain ⟨A,c,rfl⟩:=h.nslice;have h0:w.cell? ⟨g,0,none⟩=some (.slice A T.length c):=h.blk.cell 0;clear h;go_enter Tryz.func181,Tryz.ntmps181;go_wp2;go_ret;exact ⟨rfl,rfl⟩
theorem lu (h:Ar B w g T S) (n:Int):Calls Tryz.prog 97 #[.pointer (some ⟨g,0,none⟩),.int .i64 n] w fun e w'=>e=.returned (.bool (arg T n).isSome)∧w=w':=by
 have e:(arg T n).isSome=(decide (0≤n) && decide (n<T.length)):=by
  unfold arg
  by_cases h0:0≤n
  ·rw [if_pos h0]
   by_cases h1:n<T.length
   ·rw [List.getElem?_eq_getElem (by omega)]
    simp [h0,h1]
   ·rw [List.getElem?_eq_none (by omega)]
    simp [h0,h1]
  ·rw [if_neg h0]
   simp [h0]
 rw [e];have H:=hide h;clear h e
 by_cases h0:0≤n
 ·go_enter Tryz.func97,Tryz.ntmps97
  go_wp2_with (go_at_call 181;refine (Oe H.out).mono ?_;rintro e w1 ⟨rfl,rfl⟩);go_ret;exact ⟨fQ (by simp [h0]),rfl⟩
 ·go_enter Tryz.func97,Tryz.ntmps97
  go_wp2;go_ret;exact ⟨fQ (by simp;omega),rfl⟩
end
theorem gH {w:World} {base:Nat} {e:TypeId} {size n:Nat} {v:Value} {xs:List Value} (h:w.ownsRow base e size v n xs):∃A c,v=.slice A n c:=by
 rcases h.2 with ⟨rfl,rfl⟩ | ⟨g',cap,cur,rfl,_⟩
 ·exact ⟨none,0,rfl⟩
 ·exact ⟨_,_,rfl⟩
theorem R7:(Tryz.prog.info? 39).map (fun i=>(i.zero,i.size,i.bytes))=some (some (.int .i64 0),1,8):=by kernel_rfl
theorem qg {v:Value} {ss:List Int} {w:World} (h:Ids w v ss) (hb:ss.length≤8796093022207) :
  Calls Tryz.prog 100 #[v] w fun e w'=>∃v',e=.returned v'∧w'.ownsRow w.heap.size 39 1 v' ss.length (ss.map (Value.int .i64))∧Below w.heap.size w w':=by
 obtain ⟨A,c,rfl,hr⟩:=h;obtain ⟨i0,hi,hz0,hz1,hz2⟩:=info_parts R7;have q:∀(w:World) (a:Option Addr) (n c n' c':Nat),(binOp .eql 124 (.slice a n c) (.slice none n' c')).run Tryz.prog w=.ok (.bool a.isNone) w:=fun w a n c n' c'=>Lib.run_eql_slice_nil w _ _ a n c n' c' Tryz.underlying124
 cases A with
 | none =>
  have h0:ss=[]:=by
   rcases Nat.eq_zero_or_pos ss.length with h0 | h0
   ·exact List.eq_nil_of_length_eq_zero h0
   ·obtain ⟨ad,h,_⟩:=hr.2 h0
    cases h
  subst h0;go_enter Tryz.func100,Tryz.ntmps100;go_wp2;go_ret;exact ⟨_,rfl,World.ownsRow_nil _ _ _ _,Below.refl _ _⟩
 | some ad =>
  have hr':=(hr.alloc (.cells #[] 39)).reads
  have hone:∀u∈ss.map (Value.int .i64),u.oneCell'=true:=by
   intro u hu;obtain ⟨s,_,rfl⟩:=List.mem_map.1 hu;rfl
  have Hone:=hide hone;have Hr:=hide hr';clear hone hr' hr;go_enter Tryz.func100,Tryz.ntmps100;go_wp2_with (at_builtin;refine aA _ rfl (.tmp 5) (.tmp 6) _ rfl w.heap.size 39 i0 (.int .i64 0) 1 8 Tryz.underlying124 hi hz0 hz1 hz2 rfl (by decide) _ 0 [] rfl (World.ownsRow_made w #[] 0 (Nat.le_refl _) (Nat.zero_le _) (by simp)) (w.heap.size+1) (some ad) ss.length c (ss.map (Value.int .i64)) rfl (by simpa using Hr.out) Hone.out (by unfold maxLen;omega) (by omega) (by simp) ?_;intro v' w1 hown hgrow _);rw [Nat.zero_add,List.nil_append] at hown;go_wp2;go_ret;refine ⟨v',rfl,hown,?_⟩;exact ((Below.refl _ w).alloc (Nat.le_refl _) _).grown hgrow (by simp) (by rintro k ⟨⟩;exact Nat.le_refl _)
theorem lF {w:World} {b b':Nat} {e:TypeId} {size n:Nat} {v:Value} {xs:List Value} (h:w.ownsRow b e size v n xs) (hb:b'≤b):w.ownsRow b' e size v n xs:=by
 refine ⟨h.1,?_⟩;rcases h.2 with h0 | ⟨g,cap,cur,h1,h2,h3⟩
 ·exact .inl h0
 ·exact .inr ⟨g,cap,cur,h1,Nat.le_trans hb h2,h3⟩
theorem kK {w:World} {b:Nat} {e:TypeId} {size n:Nat} {v:Value} {xs:List Value} (h:w.ownsRow b e size v n xs) {p:Addr} (hp:p.block<b) (u:Value):(w.setCell p u).ownsRow b e size v n xs:=by
 have hg:w.grownBy (w.setCell p u) (some p.block):=ag (aj w _) (.inl rfl) u;refine h.kept hg ?_
 cases ev:v.ownBlock with
 | none=>exact .inl rfl
 | some i =>
  right;intro e2;have:=(h.lt i ev).1;cases e2
  omega
section
variable {B g : Nat} {w : World} {T : List Tm} {S : Nat → Prop}
theorem jA {n:Int} {t:Tm} (h:arg T n=some t):∃i:Nat,n=i∧T[i]?=some t:=by
 unfold arg at h
 split at h
 ·exact ⟨n.toNat,by omega,h⟩
 ·cases h
def isK (T:List Tm) (n k:Int):Bool:=match arg T n with
 | some t=>(t.k:Int) == k
 | none=>false
theorem rO (h:Ar B w g T S) (n k:Int):Calls Tryz.prog 51 #[.pointer (some ⟨g,0,none⟩),.int .i64 n,.int .i64 k] w fun e w'=>e=.returned (.bool (isK T n k))∧w=w':=by
 have H:=hide (lu h n);unfold isK
 cases e:arg T n with
 | none =>
  rw [e] at H;clear h e;go_enter Tryz.func51,Tryz.ntmps51;go_wp2_with (go_at_call 97;refine H.out.mono ?_;rintro e w1 ⟨rfl,rfl⟩);go_ret;exact ⟨rfl,rfl⟩
 | some t =>
  obtain ⟨i,rfl,hi⟩:=jA e;rw [e] at H;obtain ⟨nv,sv,mb,rows,D,h⟩:=h;obtain ⟨nb,cap,av,js,rfl,hlt,c0,_⟩:=h.cells hi;have h0:w.cell? ⟨g,0,none⟩=some (.slice (some ⟨nb,0,none⟩) T.length cap):=h.blk.cell 0;have hil:=(List.getElem?_eq_some_iff.1 hi).1;have hii:(i:Int)<T.length:=by omega
  clear h e hi;go_enter Tryz.func51,Tryz.ntmps51;go_wp2_with (go_at_call 97;refine H.out.mono ?_;rintro e w1 ⟨rfl,rfl⟩);go_ret;exact ⟨rfl,rfl⟩
theorem xn (h:Ar B w g T S) (n:Int):Calls Tryz.prog 82 #[.pointer (some ⟨g,0,none⟩),.int .i64 n] w fun e w'=>e=.returned (.int .i64 (match arg T n with | some t=>(t.k:Int) | none=>0))∧w=w':=by
 have H:=hide (lu h n)
 cases e:arg T n with
 | none =>
  rw [e] at H;clear h e;go_enter Tryz.func82,Tryz.ntmps82;go_wp2_with (go_at_call 97;refine H.out.mono ?_;rintro e w1 ⟨rfl,rfl⟩);go_ret;exact ⟨rfl,rfl⟩
 | some t =>
  obtain ⟨i,rfl,hi⟩:=jA e;rw [e] at H;obtain ⟨nv,sv,mb,rows,D,h⟩:=h;obtain ⟨nb,cap,av,js,rfl,hlt,c0,_⟩:=h.cells hi;have h0:w.cell? ⟨g,0,none⟩=some (.slice (some ⟨nb,0,none⟩) T.length cap):=h.blk.cell 0;have hil:=(List.getElem?_eq_some_iff.1 hi).1;have hii:(i:Int)<T.length:=by omega
  clear h e hi;go_enter Tryz.func82,Tryz.ntmps82;go_wp2_with (go_at_call 97;refine H.out.mono ?_;rintro e w1 ⟨rfl,rfl⟩);go_ret;exact ⟨rfl,rfl⟩
end
def Cs (k:Nat) (s:ByteArray):Nat :=
 if k=2 then 9 else if k=1∨k=3∨k=6∨k=9∨k=10 then 5+s.size else if k=5 then 9+s.size else if k=8 then 2 else 1
theorem MV {k a b n:Nat} {s:ByteArray} (h:hd k a b s n):(head k a b s.data.toList n).length=Cs k s:=by
 have hk:=zg h;obtain rfl | rfl | rfl | rfl | rfl | rfl | rfl | rfl | rfl | rfl:k=1∨k=2∨k=3∨k=4∨k=5∨k=6∨k=7∨k=8∨k=9∨k=10:=by omega
 all_goals simp only [hd] at h
 all_goals (simp only [head,mid,Cs,List.length_cons,List.length_append,bU,aD,List.length_nil])
 all_goals first | (simp;done) | (simp;omega) | (rw [h.2.2.2];rfl)
theorem Pm {k:Nat} {a b:Int} {s:ByteArray} {A:Option Addr} {n c:Nat} (w:World) (hs:s.size≤1000000000):Calls Tryz.prog 98 #[.agg #[.int .i64 k,.int .i64 a,.int .i64 b,.string s,.slice A n c]] w fun e w'=>e=.returned (.int .i64 (Cs k s))∧Below w.heap.size w w':=by
 have hs':(s.size:Int)≤1000000000:=by omega
 go_enter Tryz.func98,Tryz.ntmps98;go_wp2
 all_goals go_ret
 all_goals refine ⟨oP ?_,by exact aa⟩
 all_goals (unfold Cs)
 all_goals simp only [beq_iff_eq,beq_eq_false_iff_ne,ne_eq] at *
 all_goals (repeat' (first | omega | split))
section
variable {B g : Nat} {w : World} {T : List Tm} {S : Nat → Prop}
def yF (T:List Tm) (n:Int) (w:World) (e:Ending) (w':World):Prop :=
 ((arg T n=none∧e=.returned (.tuple #[.agg #[.int .i64 0,.int .i64 0,.int .i64 0,.string ⟨#[]⟩,.slice none 0 0],.bool false]))∨∃t js av,arg T n=some t∧dJ T t.l js∧e=.returned (.tuple #[.agg #[.int .i64 t.k,.int .i64 t.a,.int .i64 t.b,.string t.s,av],.bool true])∧w'.ownsRow w.heap.size 39 1 av js.length ((js.map Int.ofNat).map (Value.int .i64)))∧Below w.heap.size w w'
theorem mf (h:Ar B w g T S) (n:Int):Calls Tryz.prog 101 #[.pointer (some ⟨g,0,none⟩),.int .i64 n] w (yF T n w):=by
 have H:=hide (fun w2 (hb:Below w.heap.size w w2)=>lu (h.below hb) n)
 cases e:arg T n with
 | none =>
  rw [e] at H;have E:=hide e;clear h e;go_enter Tryz.func101,Tryz.ntmps101;go_wp2_with (go_at_call 97;refine (H.out _ (by exact aa)).mono ?_;rintro e w1 ⟨rfl,rfl⟩);exact bodyPost_ret (v:=.tuple #[.agg #[.int .i64 0,.int .i64 0,.int .i64 0,.string ⟨#[]⟩,.slice none 0 0],.bool false]) (by simp [results,Tryz.results101,go_sem]) rfl ⟨.inl ⟨E.out,rfl⟩,by exact aa⟩
 | some t =>
  obtain ⟨i,rfl,hi⟩:=jA e;rw [e] at H;have E:=hide e;obtain ⟨nv,sv,mb,rows,D,h⟩:=h;obtain ⟨nb,cap,av,js,rfl,hlt,c0,c1,c2,c3,c4,ha,hI⟩:=h.cells hi;have h0:w.cell? ⟨g,0,none⟩=some (.slice (some ⟨nb,0,none⟩) T.length cap):=h.blk.cell 0;have hil:=(List.getElem?_eq_some_iff.1 hi).1;have hii:(i:Int)<T.length:=by omega
  have hg:=h.blk.lt;have hn0:nb≠w.heap.size:=by omega
  have hn1:nb≠w.heap.size+1:=by omega
  have Ha:=hide ha;have hjl:=ha.len
  have hjl2:js.length≤1000:=by
   have h1:=(h.ok.fine t (List.mem_of_getElem? hi)).1;obtain ⟨k,a,b,s,l⟩:=t;simp only [good] at h1;have h2:=h1.1;have h3:=zg h2;rw [hjl];show l.length≤1000;obtain rfl | rfl | rfl | rfl | rfl | rfl | rfl | rfl | rfl | rfl:k=1∨k=2∨k=3∨k=4∨k=5∨k=6∨k=7∨k=8∨k=9∨k=10:=by omega
   all_goals (simp only [hd] at h2;omega)
  obtain ⟨A,c,rfl,hA⟩:=hI;have hcl:=fun w2 (hb:Below w.heap.size w w2)=>qg (w:=w2) (Ids.below ⟨A,c,rfl,hA⟩ hb) (by simp;omega)
  simp only [List.length_map] at hcl c4;have HI:=hide hcl;clear hcl;clear h e hi ha hjl hA;go_enter Tryz.func101,Tryz.ntmps101
  go_wp2_with (first
   | (go_at_call 97;refine (H.out _ (by exact aa)).mono ?_;rintro e w1 ⟨rfl,rfl⟩)
   | (go_at_call 100;refine (HI.out _ (by exact aa)).mono ?_;rintro e w2 ⟨v',rfl,hown,hb2⟩;obtain ⟨A2,d2,rfl⟩:=gH hown;obtain ⟨hc2,hf2⟩:=xK hb2;have hz2:w.heap.size<w2.heap.size:=(by have:=hb2.size;simp at this;omega);have hz3:w.heap.size+1<w2.heap.size:=(by have:=hb2.size;simp at this;omega)))
  have hBk:=((Blk.new w 126 #[.int .i64 0,.int .i64 0,.int .i64 0,.string ⟨#[]⟩,.slice none 0 0]).alloc (.cells #[.int .i64 t.k,.int .i64 t.a,.int .i64 t.b,.string t.s,.slice A js.length c] 126)).below hb2 (by simp;omega)
  obtain ⟨W,hW⟩:∃W,W=(((((w2.setCell ⟨w.heap.size+1,4,none⟩ (.slice A2 js.length d2)).setCell ⟨w.heap.size,0,none⟩ (.int .i64 t.k)).setCell ⟨w.heap.size,1,none⟩ (.int .i64 t.a)).setCell ⟨w.heap.size,2,none⟩ (.int .i64 t.b)).setCell ⟨w.heap.size,3,none⟩ (.string t.s)).setCell ⟨w.heap.size,4,none⟩ (.slice A2 js.length d2):=⟨_,rfl⟩
  rw [←hW]
  have hBW:Blk W w.heap.size 126 #[.int .i64 t.k,.int .i64 t.a,.int .i64 t.b,.string t.s,.slice A2 js.length d2]:=by
   rw [hW];have:=(((((hBk.far (p:=⟨w.heap.size+1,4,none⟩) (by simp) (.slice A2 js.length d2)).set_ 0 (.int .i64 t.k)).set_ 1 (.int .i64 t.a)).set_ 2 (.int .i64 t.b)).set_ 3 (.string t.s)).set_ 4 (.slice A2 js.length d2);simpa using this
  have hOW:W.ownsRow w.heap.size 39 1 (.slice A2 js.length d2) js.length ((js.map Int.ofNat).map (Value.int .i64)):=by
   rw [hW];refine lF (b:=w.heap.size+2) ?_ (by omega);simp only [World.size_alloc] at hown;exact kK (kK (kK (kK (kK (kK hown (by first | (simp;done) | (simp;omega)) _) (by first | (simp;done) | (simp;omega)) _) (by first | (simp;done) | (simp;omega)) _) (by first | (simp;done) | (simp;omega)) _) (by first | (simp;done) | (simp;omega)) _) (by first | (simp;done) | (simp;omega)) _
  have hbW:Below w.heap.size w W:=by
   rw [hW]
   have hA2:Below w.heap.size w w2:=((((Below.refl _ _).alloc (Nat.le_refl _) _).alloc (by first | (simp;done) | (simp;omega)) _).trans (hb2.mono (by first | (simp;done) | (simp;omega))))
   exact (((((hA2.setCell (by first | (simp;done) | (simp;omega)) _).setCell (by first | (simp;done) | (simp;omega)) _).setCell (by first | (simp;done) | (simp;omega)) _).setCell (by first | (simp;done) | (simp;omega)) _).setCell (by first | (simp;done) | (simp;omega)) _).setCell (by first | (simp;done) | (simp;omega)) _
  have q0:=hBW.cell 0;have q1:=hBW.cell 1;have q2:=hBW.cell 2;have q3:=hBW.cell 3;have q4:=hBW.cell 4;simp only [List.getElem?_toArray,List.getElem?_cons_zero,List.getElem?_cons_succ] at q0 q1 q2 q3 q4;clear hW hc2 hf2 hown hBk hBW hb2;exact bodyPost_ret (v:=.tuple #[.agg #[.int .i64 t.k,.int .i64 t.a,.int .i64 t.b,.string t.s,.slice A2 js.length d2],.bool true]) (by simp [results,Tryz.results101,go_sem,q0,q1,q2,q3,q4]) rfl ⟨.inr ⟨t,js,_,E.out,Ha.out,rfl,hOW⟩,hbW⟩
end
structure cK (R:Nat→Prop) (w w':World):Prop where
 os:w'.os=w.os
 tape:w'.tape=w.tape
 output:w'.output=w.output
 size:w.heap.size≤w'.heap.size
 block:∀i,i<w.heap.size→¬ R i→w'.heap[i]?=w.heap[i]?
section
variable {R : Nat → Prop} {w w' w'' : World}
theorem cK.refl (R:Nat→Prop) (w:World):cK R w w:=⟨rfl,rfl,rfl,Nat.le_refl _,fun _ _ _=>rfl⟩
theorem cK.of_below (h:Below w.heap.size w w'):cK R w w':=⟨h.os,h.tape,h.output,h.size,fun i hi _=>h.block i hi⟩
theorem cK.trans (h:cK R w w') (k:cK R w' w''):cK R w w'' :=
 ⟨k.os.trans h.os,k.tape.trans h.tape,k.output.trans h.output,Nat.le_trans h.size k.size,fun i hi hn=>(k.block i (Nat.lt_of_lt_of_le hi h.size) hn).trans (h.block i hi hn)⟩
theorem cK.grown {row:Option Nat} (h:cK R w w') (k:w'.grownBy w'' row) (hr:∀b,row=some b→R b∨w.heap.size≤b):cK R w w'' :=
 ⟨k.os.trans h.os,k.tape.trans h.tape,k.output.trans h.output,Nat.le_trans h.size k.size,fun i hi hn=>(k.block i (Nat.lt_of_lt_of_le hi h.size) (fun e=>by
  rcases hr i e.symm with h1 | h1
  ·exact hn h1
  ·omega)).trans (h.block i hi hn)⟩
theorem cK.set_ (h:cK R w w') {p:Addr} (hp:R p.block∨w.heap.size≤p.block) (u:Value):cK R w (w'.setCell p u) :=
 h.grown (ag (aj w' (some p.block)) (.inl rfl) u) (fun b e=>by cases e;exact hp)
theorem cK.below (h:cK R w w') (k:Below w'.heap.size w' w''):cK R w w'':=h.grown (ai k none) (fun _ e=>by cases e)
theorem cK.drew (h:cK R w w'):cK R w w'.drew:=⟨h.os,h.tape,h.output,h.size,h.block⟩
theorem cK.drewN (h:cK R w w') (n:Nat):cK R w (w'.drewN n):=⟨h.os,h.tape,h.output,h.size,h.block⟩
theorem cK.alloc (h:cK R w w') (o:Obj):cK R w (w'.alloc o):=h.below ((Below.refl _ _).alloc (Nat.le_refl _) o)
theorem cK.cell (h:cK R w w') {p:Addr} {v:Value} (hc:w.cell? p=some v) (hp:¬ R p.block):w'.cell? p=some v :=
 (World.cell?_of_block (h.block p.block (World.block_lt_of_cell? w p hc) hp)).trans hc
theorem cK.blk {g:Nat} {t:TypeId} {cs:Array Value} (h:cK R w w') (hb:Blk w g t cs) (hp:¬ R g):Blk w' g t cs:=(h.block g hb.lt hp).trans hb
theorem cK.mono {R':Nat→Prop} (h:cK R w w') (hs:∀i,R i→R' i):cK R' w w':=⟨h.os,h.tape,h.output,h.size,fun i hi hn=>h.block i hi (fun h2=>hn (hs i h2))⟩
theorem cK.own {b:Nat} {e:TypeId} {size n:Nat} {v:Value} {xs:List Value} (h:cK R w w') (ho:w.ownsRow b e size v n xs) (hv:∀i,v.ownBlock=some i→¬ R i):w'.ownsRow b e size v n xs:=by
 refine ⟨ho.1,?_⟩;rcases ho.2 with h0 | ⟨g,cap,cur,rfl,h2,h3,h4⟩
 ·exact .inl h0
 ·refine .inr ⟨g,cap,cur,rfl,h2,?_,h4⟩
  have hlt:=(ho.lt g rfl).2;exact (h.block g hlt (hv g rfl)).trans h3
end
theorem own_ne {w:World} {b b':Nat} {e e':TypeId} {size size' n n':Nat} {v v':Value} {xs xs':List Value} (h:w.ownsRow b e size v n xs) (h':w.ownsRow b' e' size' v' n' xs') (hne:e≠e') :
  ∀i,v.ownBlock=some i→v'.ownBlock≠some i:=by
 intro i hi hi';rcases h.2 with ⟨rfl,_⟩ | ⟨g,cap,cur,rfl,_,h3,_⟩
 ·cases hi
 ·rcases h'.2 with ⟨rfl,_⟩ | ⟨g',cap',cur',rfl,_,h3',_⟩
  ·cases hi'
  ·simp only [Value.ownBlock,Option.some.injEq] at hi hi'
   subst hi hi';exact Blk.ne_ (t:=e) h3 h3' hne rfl
theorem iy {w:World} {b mb m:Nat} {e k:TypeId} {size n:Nat} {v:Value} {xs:List Value} {R:Value→Option (DataW Unit × List MemPlace)} {D:DataW Unit} (h:w.ownsRow b e size v n xs) (h':w.ownsMap Tryz.prog k R mb m D):v.ownBlock≠some mb:=by
 intro hi;obtain ⟨es,clock,hb,_⟩:=h';rcases h.2 with ⟨rfl,_⟩ | ⟨g,cap,cur,rfl,_,h3,_⟩
 ·cases hi
 ·simp only [Value.ownBlock,Option.some.injEq] at hi
  subst hi;rw [h3] at hb;cases hb
theorem uq {w:World} {g mb m:Nat} {t k:TypeId} {cs:Array Value} {R:Value→Option (DataW Unit × List MemPlace)} {D:DataW Unit} (h:Blk w g t cs) (h':w.ownsMap Tryz.prog k R mb m D):g≠mb:=by
 rintro rfl;obtain ⟨es,clock,hb,_⟩:=h';unfold Blk at h;rw [h] at hb;cases hb
def Rw (g mb:Nat) (nv sv:Value) (i:Nat):Prop:=i=g∨i=mb∨nv.ownBlock=some i∨sv.ownBlock=some i
section
variable {B g mb : Nat} {w W : World} {T : List Tm} {S : Nat → Prop} {nv sv : Value} {rows : List (List Value)} {D : DataW Unit}
theorem ArX.arg_out (h:ArX B w g T S nv sv mb rows D) {b n:Nat} {av:Value} {xs:List Value} (ha:w.ownsRow b 39 1 av n xs):∀i,av.ownBlock=some i→¬ Rw g mb nv sv i:=by
 rintro i hi (rfl | rfl | h1 | h1)
 ·exact aS ha h.blk (by decide) hi
 ·exact iy ha h.map hi
 ·exact own_ne ha h.nodes (by decide) i hi h1
 ·exact own_ne ha h.sizes (by decide) i hi h1
theorem ArX.push2 (h:ArX B w g T S nv sv mb rows D) {t:Tm} (hok:AOK (T++[t])) (hO:cK (Rw g mb nv sv) w W) {nv' sv' av:Value} {D':DataW Unit} {js:List Nat}
  (hblk:Blk W g 106 #[nv',sv',.map (some mb)])
  (hn:W.ownsRow B 126 5 nv' (T.length+1) (rows.flatten++[.int .i64 t.k,.int .i64 t.a,.int .i64 t.b,.string t.s,av]))
  (hs:W.ownsRow B 3 1 sv' (T.length+1) ((T.map fun t=>.int .i64 ((enc t).length:Nat))++[.int .i64 ((enc t).length:Nat)]))
  (hm:W.ownsMap Tryz.prog 184 (plainElem Tryz.prog 39) mb (T.length+1) D') (hD:Idx (T++[t]) D')
  (hj:dJ T t.l js) (ha:W.ownsRow B 39 1 av js.length ((js.map Int.ofNat).map (Value.int .i64)))
  (zn:∀i,nv'.ownBlock=some i→S i∨w.heap.size≤i) (zs:∀i,sv'.ownBlock=some i→S i∨w.heap.size≤i) {m:Nat} (hm':m≤w.heap.size) (za:∀i,av.ownBlock=some i→m≤i) :
  ∃S',Ar B W g (T++[t]) S'∧(∀i,S i→S' i)∧∀i,S' i→S i∨m≤i:=by
 refine ⟨fun i=>S i∨nv'.ownBlock=some i∨sv'.ownBlock=some i∨av.ownBlock=some i,⟨nv',sv',mb,rows++[[.int .i64 t.k,.int .i64 t.a,.int .i64 t.b,.string t.s,av]],D',?_⟩,fun i hi=>.inl hi,?_⟩
 ·refine ⟨hok,hblk,by simpa using hn,by simp [h.nrows],?_,by simpa using hs,by simpa using hm,hD,.inl h.sg,.inl h.sm,fun i hi=>.inr (.inl hi),fun i hi=>.inr (.inr (.inl hi)),?_,?_⟩
  ·intro i u us hi hu
   rcases Nat.lt_or_ge i T.length with hlt | hge
   ·rw [List.getElem?_append_left hlt] at hi
    rw [List.getElem?_append_left (by rw [h.nrows];exact hlt)] at hu;obtain ⟨av0,ks,e,h1,h2,h3⟩:=h.node i u us hi hu;exact ⟨av0,ks,e,h1.pre (List.prefix_append _ _),hO.own h2 (h.arg_out h2),fun i hi=>.inl (h3 i hi)⟩
   ·have h1:=(List.getElem?_eq_some_iff.1 hi).1
    simp only [List.length_append,List.length_cons,List.length_nil] at h1;obtain rfl:i=T.length:=by omega
    rw [List.getElem?_append_right (Nat.le_refl _),Nat.sub_self] at hi;rw [←h.nrows,List.getElem?_append_right (Nat.le_refl _),Nat.sub_self] at hu;simp only [List.getElem?_cons_zero,Option.some.injEq] at hi hu;subst hi hu;exact ⟨av,js,rfl,hj.pre (List.prefix_append _ _),ha,fun i hi=>.inr (.inr (.inr hi))⟩
  ·rintro i (hi | hi | hi | hi)
   ·exact h.sB i hi
   ·exact (hn.lt i hi).1
   ·exact (hs.lt i hi).1
   ·exact (ha.lt i hi).1
  ·rintro i (hi | hi | hi | hi)
   ·exact Nat.lt_of_lt_of_le (h.sL i hi) hO.size
   ·exact (hn.lt i hi).2
   ·exact (hs.lt i hi).2
   ·exact (ha.lt i hi).2
 ·rintro i (hi | hi | hi | hi)
  ·exact .inl hi
  ·exact (zn i hi).imp id (Nat.le_trans hm')
  ·exact (zs i hi).imp id (Nat.le_trans hm')
  ·exact .inr (za i hi)
end
end Go.Proofs.YtnhekaepgpbijaaGreatDoor
namespace Go.Proofs.YtnhekaepgpbijaaGreatDoor
open Go.RowKit
def Bld (B b:Nat) (l:List UInt8) (w:World):Prop:=Lib.IsBuilder 257 5 B b (Lib.byteCells l) w
section
variable {B b : Nat} {w : World}
theorem QW:(Tryz.prog.info? 257).map (·.size)=some 2:=by kernel_rfl
theorem uV (b:Nat) (w:World) (h0:w.cell? ⟨b,0,none⟩=some (.pointer (some ⟨b,0,none⟩))) :
  Calls Tryz.prog 246 #[.pointer (some ⟨b,0,none⟩)] w fun e w'=>e=.returned (.tuple #[])∧w'=w:=by
 obtain ⟨j,hj,_⟩:=Option.map_eq_some_iff.1 QW;go_enter Tryz.func246,Tryz.ntmps246;go_wp2;rw [Lib.run_neq_ptr_same w _ Tryz.underlying255 hj];go_wp2;go_end0;exact ⟨rfl,rfl⟩
theorem ru (b:Nat) (w:World) (h0:w.cell? ⟨b,0,none⟩=some (.pointer none)) (hsh:w.shape? b=some (257,2)) (hfz:w.frozen? ⟨b,0,none⟩=false) :
  Calls Tryz.prog 246 #[.pointer (some ⟨b,0,none⟩)] w fun e w'=>e=.returned (.tuple #[])∧w'=w.setCell ⟨b,0,none⟩ (.pointer (some ⟨b,0,none⟩)):=by
 obtain ⟨j,hj,hjs⟩:=Option.map_eq_some_iff.1 QW;go_enter Tryz.func246,Tryz.ntmps246;go_wp2;rw [Lib.run_to_unsafe w ⟨b,0,none⟩ Tryz.underlying255 Tryz.underlying297 hj (by rw [hjs];decide) hsh (Nat.zero_lt_succ 1)];simp only [Result.andThen];rw [Oper.upon_value];go_wp2;rw [run_callFunc_extern Tryz.func286 (by kernel_rfl) (by kernel_rfl) (by kernel_rfl) (e:=Extern.AbiNoEscape.same) (by kernel_rfl)];rw [Lib.run_noEscape];simp only [Result.andThen];rw [Oper.upon_value];go_wp2;rw [Lib.run_from_unsafe w ⟨b,0,none⟩ Tryz.underlying297 Tryz.underlying255 hj hsh (by kernel_rfl)];simp only [Result.andThen];rw [Oper.upon_value];go_wp2;go_end0;exact ⟨rfl,rfl⟩
theorem SE {bs:List Value} (h:Lib.IsBuilder 257 5 B b bs w) :
  Calls Tryz.prog 246 #[.pointer (some ⟨b,0,none⟩)] w fun e w'=>e=.returned (.tuple #[])∧(Lib.BuilderAt 257 5 B b (.pointer (some ⟨b,0,none⟩)) bs w'∧Below B w w'):=by
 rcases h with h | h
 ·refine (ru b w h.cell0 h.shape h.frozen0).mono ?_
  rintro e w' ⟨rfl,rfl⟩;exact ⟨rfl,h.used _,(Below.refl B w).setCell (p:=⟨b,0,none⟩) h.1 _⟩
 ·refine (uV b w h.cell0).mono ?_
  rintro e w' ⟨rfl,rfl⟩;exact ⟨rfl,h,Below.refl B _⟩
theorem infoByte:(Tryz.prog.info? 5).map (fun i=>(i.zero,i.size,i.bytes))=some (some (.int .u8 0),1,1):=by kernel_rfl
theorem Rh {bs:List Value} (s:ByteArray) (h:Lib.IsBuilder 257 5 B b bs w) (hlen:bs.length+s.size≤140737488355328) (hBw:B≤w.heap.size) :
  Calls Tryz.prog 182 #[.pointer (some ⟨b,0,none⟩),.string s] w fun e w'=>e=.returned (.tuple #[.int .i64 s.size,.nilIface])∧(Lib.BuilderAt 257 5 B b (.pointer (some ⟨b,0,none⟩)) (bs++Lib.strCells s) w'∧Below B w w'):=by
 obtain ⟨i0,hi,hz0,hz1,hz2⟩:=info_parts infoByte;go_enter Tryz.func182,Tryz.ntmps182;go_wp2_with (go_at_call 246;refine (SE h).mono ?_);rintro e w1 ⟨rfl,h1,hb1⟩;obtain ⟨hB,v,hbk,hown,hne⟩:=h1;have c0:w1.cell? ⟨b,0,none⟩=some (.pointer (some ⟨b,0,none⟩)):=by rw [Lib.cell_of_heap hbk];rfl
 have c1:w1.cell? ⟨b,1,none⟩=some v:=by rw [Lib.cell_of_heap hbk];rfl
 go_wp2_with (at_builtin;refine Lib.wpList_append_own_string _ rfl _ _ 211 9 rfl B 5 i0 Tryz.underlying211 Tryz.underlying9 hi hz0 hz1 hz2 _ _ _ rfl hown s rfl ?c3 ?c4 ?c5 ?_)
 case c3=>unfold maxLen;omega
 case c4=>omega
 case c5=>have:=hb1.size;omega
 intro v' w2 hown' hgrow _
 have hlt:b<w1.heap.size:=by
  rcases Nat.lt_or_ge b w1.heap.size with h' | h'
  ·exact h'
  ·simp [Array.getElem?_eq_none h'] at hbk
 have hb2:w2.heap[b]?=some (.cells #[.pointer (some ⟨b,0,none⟩),v] 257 (0,0)):=by
  rw [hgrow.block b hlt (fun e=>hne e.symm)];exact hbk
 have d0:w2.cell? ⟨b,0,none⟩=some (.pointer (some ⟨b,0,none⟩)):=by rw [Lib.cell_of_heap hb2];rfl
 have d1:w2.cell? ⟨b,1,none⟩=some v:=by rw [Lib.cell_of_heap hb2];rfl
 have f1:w2.frozen? ⟨b,1,none⟩=false:=Lib.frozen_of_heap hb2 1
 obtain ⟨ao,n',cap,rfl⟩:∃ao n' cap,v'=.slice ao n' cap:=by
  rcases hown'.2 with ⟨hv,_⟩ | ⟨g,cap,cur,hv,_⟩
  ·exact ⟨_,_,_,hv⟩
  ·exact ⟨_,_,_,hv⟩
 go_wp2;go_ret2;refine ⟨rfl,?_,?_⟩
 ·exact Lib.BuilderAt.put (T:=257) (e:=5) hB hb2 (bs':=bs++Lib.strCells s) (by simpa [Lib.strCells_length] using hown') (by decide)
 ·exact (hb1.grown hgrow (by have:=hb1.size;omega) (fun k hk=>(hown.lt k hk).1)).setCell (p:=⟨b,1,none⟩) hB _
theorem vZ (l m:List UInt8):Lib.byteCells l++Lib.byteCells m=Lib.byteCells (l++m):=by simp [Lib.byteCells]
theorem Ii {l:List UInt8} (s:ByteArray) (h:Bld B b l w) (hlen:l.length+s.size≤140737488355328) (hBw:B≤w.heap.size) :
  Calls Tryz.prog 182 #[.pointer (some ⟨b,0,none⟩),.string s] w fun e w'=>e=.returned (.tuple #[.int .i64 s.size,.nilIface])∧Bld B b (l++s.data.toList) w'∧Below B w w':=by
 refine (Rh s h (by simpa [Lib.byteCells] using hlen) hBw).mono ?_;rintro e w' ⟨rfl,h1,h2⟩;refine ⟨rfl,.inr ?_,h2⟩;rw [←vZ];exact h1
theorem uG {l:List UInt8} (h:Bld B b l w) (hBw:B≤w.heap.size):Calls Tryz.prog 183 #[.pointer (some ⟨b,0,none⟩)] w fun e w'=>e=.returned (.string ⟨l.toArray⟩)∧Below B w w' :=
 Tryz.Builder_String_any B b l w h hBw
end
end Go.Proofs.YtnhekaepgpbijaaGreatDoor

namespace Go.Proofs.YtnhekaepgpbijaaGreatDoor
open Go.RowKit Go.ChangeShapes Go.WideShapes Go.Sort
def Tab (w:World):Prop:=Lib.TabIs Tryz.prog w "internal/strconv.uint64pow10" .u64 Lib.pow10Tab
theorem Ji:∃g,Tryz.prog.globalNamed "internal/strconv.uint64pow10" = some g:=⟨3,by kernel_rfl⟩
theorem Tab.below {w w':World} (h:Tab w) (hb:Below w.heap.size w w'):Tab w':=by
 obtain ⟨g,hg⟩:=Ji;exact Joins.tab_stays hg h hb (Nat.le_refl _)
theorem AQ (i:Nat):Lib.itoa (i:Int)=Lib.decDigits i:=by
 unfold Lib.itoa;rw [if_neg (by omega)];rfl
theorem below_grown (w:World) (k:Nat) (os:Array Obj):Below w.heap.size w (grow (w.drewN k) os) :=
 ⟨rfl,rfl,rfl,by simp [grow],fun k hk=>by simp [grow,Array.getElem?_append,hk]⟩
theorem OA (w:World):Bld w.heap.size w.heap.size [] (w.alloc (.cells #[.pointer none,.slice none 0 0] 257)) :=
 .inl ⟨Nat.le_refl _,_,heap_alloc_new w _,World.ownsRow_nil _ _ _ _,by simp [Value.ownBlock]⟩
theorem Ia {B b:Nat} {l:List UInt8} {w w':World} (h:Bld B b l w) (hb:Below w.heap.size w w'):Bld B b l w':=by
 have key:∀p,Lib.BuilderAt 257 5 B b p (Lib.byteCells l) w→Lib.BuilderAt 257 5 B b p (Lib.byteCells l) w':=by
  rintro p ⟨h1,v,h2,h3,h4⟩;exact ⟨h1,v,Blk.below (cs:=#[p,v]) h2 hb (Blk.lt (cs:=#[p,v]) h2),h3.kept (ai hb none) (by cases v.ownBlock <;> simp),h4⟩
 rcases h with h | h
 ·exact .inl (key _ h)
 ·exact .inr (key _ h)
theorem MQ (n:Nat) (w:World) (hn:n≤9223372036854775807) (ht:Tab w):Calls Tryz.prog 93 #[.int .i64 n] w fun e w'=>e=.returned (.string ⟨(Lib.decDigits n).toArray⟩)∧Below w.heap.size w w':=by
 refine (Tryz.strconv_Itoa n (by omega) (by omega) w ht).mono ?_;rintro e w' ⟨rfl,k,os,rfl⟩;exact ⟨by rw [AQ],below_grown w k os⟩
theorem F5 (n:Nat) (h:n≤9223372036854775807):(Lib.decDigits n).length≤21:=by
 have:=Lib.itoa_length_le (n:Int) (by omega) (by omega);rwa [AQ] at this
theorem x8 {js:List Nat} (h:∀j∈js,j≤9223372036854775807):(fM js).length≤js.length*22:=by
 induction js with
 | nil=>simp [fM]
 | cons j js ih =>
  have h1:=F5 j (h j (by simp));have h2:=ih fun x hx=>h x (by simp [hx])
  have:fM (j :: js)=Lib.decDigits j++32 :: fM js:=by simp [fM]
  rw [this];simp only [List.length_append,List.length_cons];omega
theorem Ku {v:Value} {js:List Nat} {w:World} (h:Ids w v (js.map Int.ofNat)) (ht:Tab w) (hl:js.length≤1000000) (hj:∀j∈js,j≤9223372036854775807) :
  Calls Tryz.prog 99 #[v] w fun e w'=>e=.returned (.string (kU js))∧Below w.heap.size w w':=by
 obtain ⟨A,c,rfl,hr⟩:=h;simp only [List.length_map] at hr ⊢;have HB:=hide (OA w);have Hj:=hide hj;have Ht:=hide ht;clear hj ht;go_enter Tryz.func99,Tryz.ntmps99;go_wp2
 go_loopw [8,5] (fun i _ wr=>∃k:Nat,k≤js.length∧i=.int .i64 k∧Bld w.heap.size w.heap.size (fM (js.take k)) wr∧Below w.heap.size w wr) (fun i _ _=>js.length - (intOf i).toNat)
 case atStart=>exact ⟨0,Nat.zero_le _,rfl,HB.out,by exact aa⟩
 case round =>
  obtain ⟨k,hk,rfl,hB,hbr⟩:=hrel
  by_cases hlt:k<js.length
  ·have hki:(k:Int)<js.length:=by omega
   obtain ⟨ad,u,rfl,_,hab,hu,hc0⟩:=hr.at_ hlt;simp only [List.getElem?_map,List.getElem?_eq_getElem hlt,Option.map_some,Option.some.injEq] at hu;subst hu;have hc:=o8 hbr hab hc0;have hjk:=Hj.out _ (List.getElem_mem hlt);have hT:=x8 (js:=js.take k) (fun x hx=>Hj.out x (List.mem_of_mem_take hx));have hs:=Dn (js.take k) js[k];rw [←List.take_succ_eq_append_getElem hlt] at hs;have Hs:=hide hs;have hdl:=F5 js[k] hjk;clear hs hc0;generalize js[k]=n at hc hjk hdl Hs;have hI:=hide (MQ n wr hjk (Ht.out.below hbr));have hws:=hbr.size;have hTl:(js.take k).length≤js.length:=List.length_take_le' _ _;have hsz:(⟨(Lib.decDigits n).toArray⟩:ByteArray).size≤21:=hdl
   have hlen:(fM (js.take k)).length+((⟨(Lib.decDigits n).toArray⟩:ByteArray)++(⟨#[32]⟩:ByteArray)).size≤140737488355328:=by
    rw [ByteArray.size_append];have:(⟨#[32]⟩:ByteArray).size=1:=rfl;omega
   have Hlen:=hide hlen;clear hT hlen
   go_wp2_with (first
    | (go_at_call 93;refine hI.out.mono ?_;rintro e w1 ⟨rfl,hb1⟩;have hB1:=Ia hB hb1;have ha1:=hbr.trans (hb1.mono hws);have hz1:=ha1.size)
    | (go_at_call 182;refine (Ii _ hB1 Hlen.out hz1).mono ?_;rintro e w2 ⟨rfl,hB2,hb2⟩))
   go_round
   case rel =>
    refine ⟨k+1,hlt,by go_num,?_,ha1.trans hb2⟩;rw [Hs.out];simpa using hB2
   case measure=>simp [intOf];omega
  ·have hki:¬ (k:Int)<js.length:=by omega
   obtain rfl:k=js.length:=by omega
   rw [List.take_length] at hB;go_wp2_with (go_at_call 183;refine (uG hB hbr.size).mono ?_;rintro e w1 ⟨rfl,hb1⟩);go_ret;exact ⟨rfl,hbr.trans hb1⟩
end Go.Proofs.YtnhekaepgpbijaaGreatDoor

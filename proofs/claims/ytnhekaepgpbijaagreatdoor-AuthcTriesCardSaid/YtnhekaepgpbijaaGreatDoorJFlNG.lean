/- Several of my texts in one: ReadW, DecW, FlN. -/
import Derived.Test.YtnhekaepgpbijaaGreatDoorJRGetXG
import Derived.Test.YtnhekaepgpbijaaGreatDoorJGetsG
import Derived.Test.YtnhekaepgpbijaaGreatDoorJCfBG
set_option linter.unusedVariables false
set_option linter.unusedSimpArgs false
set_option maxHeartbeats 40000000
set_option maxRecDepth 100000
namespace Go.Proofs.YtnhekaepgpbijaaGreatDoor
open Go.RowKit Go.ChangeShapes Go.WideShapes Go.Sort
def fc (z:Fld × Value):List Value:=[.int .u8 z.1.k,.int .i64 z.1.n,.string (bs z.1.s),z.2]
def fcs (zs:List (Fld × Value)):List Value:=(zs.map fc).flatten
theorem zw {zs:List (Fld × Value)} {i:Nat} (h:i<zs.length) {k:Nat} (hk:k<4):(fcs zs)[i*4+k]?=(fc zs[i])[k]?:=by
 induction zs generalizing i with
 | nil=>simp at h
 | cons z zs ih =>
  have hf:fcs (z :: zs)=fc z++fcs zs:=by simp [fcs]
  rw [hf]
  cases i with
  | zero =>
   rw [List.getElem?_append_left (by simp [fc];omega)];simp
  | succ i =>
   rw [List.getElem?_append_right (by simp [fc];omega)];have hl:(fc z).length=4:=rfl;rw [hl,show (i+1)*4+k - 4=i*4+k by omega,ih (by simpa using h)];rfl
theorem KP (zs:List (Fld × Value)) (z:Fld × Value):fcs (zs++[z])=fcs zs++fc z:=by simp [fcs]
def Inn (lo:Nat) (v:Value) (w:World) (lv:Value) (ls:List (List UInt8)):Prop :=
 ∃A c,lv=.slice A ls.length c∧ls.length≤c∧Sl lo w 1 A ls.length ((ls.map bs).map Value.string)∧∀ad,A=some ad→0<ls.length→v.ownBlock≠some ad.block
theorem Inn.step {lo:Nat} {v v':Value} {w w':World} {lv:Value} {ls:List (List UInt8)} {row:Option Nat} (h:Inn lo v w lv ls) (ho:w.grownBy w' row) (hr:∀i,row=some i→i<lo∨v.ownBlock=some i)
  (hv:v'.ownBlock=v.ownBlock∨∃n,v'.ownBlock=some n∧w.heap.size≤n):Inn lo v' w' lv ls:=by
 obtain ⟨A,c,e,hc,hS,hn⟩:=h;refine ⟨A,c,e,hc,⟨hS.1,fun hp=>?_⟩,fun ad he hp=>?_⟩
 ·obtain ⟨ad,e2,h1,h2,h3⟩:=hS.2 hp
  have hne:some ad.block≠row:=fun e3=>by
   rcases hr _ e3.symm with h4 | h4
   ·omega
   ·exact hn ad e2 hp h4
  exact ⟨ad,e2,h1,Nat.lt_of_lt_of_le h2 ho.size,fun j u hu=>(World.cell?_of_block (ho.block _ (by rw [ax];exact h2) (by rw [ax];exact hne))).trans (h3 j u hu)⟩
 ·rcases hv with hv | ⟨n,hv,hn2⟩
  ·rw [hv]
   exact hn ad he hp
  ·rw [hv]
   intro e3;have e4:=Option.some.inj e3;obtain ⟨ad2,e2,_,h2,_⟩:=hS.2 hp;rw [he] at e2;cases e2
   omega
theorem Inn.txc {lo:Nat} {v:Value} {w:World} {lv:Value} {ls:List (List UInt8)} (h:Inn lo v w lv ls):Txc w lv ls:=by
 obtain ⟨A,c,e,hc,hS,_⟩:=h;exact bG.txc (lo:=lo) ⟨A,c,e,hc,hS⟩
theorem BQ {a w:World} {B:Nat} (h:a.grownBy w (some B)) (f:ByteArray) (i:Nat):a.grownBy (w.iterAt B f i) (some B) :=
 ⟨h.os,h.tape,h.output,by rw [Lib.iterAt_size];exact h.size,fun j hj hn=>(Lib.iterAt_other w B j f i (fun e=>hn (by rw [e]))).trans (h.block j hj hn)⟩
structure vz (lo:Nat) (w:World) (A:Option Addr) (n c:Nat) (zs:List (Fld × Value)):Prop where
 len:zs.length=n
 own:w.ownsRow lo 60 4 (.slice A n c) n (fcs zs)
 inn:∀z∈zs,Inn lo (.slice A n c) w z.2 z.1.l∧z.1.k<256
theorem vz.step {lo:Nat} {w w':World} {A:Option Addr} {n c:Nat} {zs:List (Fld × Value)} {row:Option Nat} (h:vz lo w A n c zs) (ho:w.grownBy w' row) (hr:∀i,row=some i→i<lo):vz lo w' A n c zs:=by
 refine ⟨h.len,h.own.kept ho ?_,fun z hz=>⟨(h.inn z hz).1.step ho (fun i e=>.inl (hr i e)) (.inl rfl),(h.inn z hz).2⟩⟩
 cases e:(Value.slice A n c).ownBlock with
 | none=>exact .inl rfl
 | some j =>
  refine .inr (fun e2=>?_);have h1:=hr j e2.symm;have h2:=(h.own.lt j e).1;omega
def dB (lo:Nat) (w:World) (A:Option Addr) (l:List Fld):Prop :=
 ∀w2:World,w.heap.size≤w2.heap.size→(∀p:Addr,lo≤p.block→p.block<w.heap.size→w2.cell? p=w.cell? p)→kR w2 A l
theorem dB.flds {lo:Nat} {w:World} {A:Option Addr} {l:List Fld} (h:dB lo w A l):kR w A l:=h w (Nat.le_refl _) (fun _ _ _=>rfl)
theorem dB.below {lo:Nat} {w w':World} {A:Option Addr} {l:List Fld} (h:dB lo w A l) (hb:Below w.heap.size w w'):dB lo w' A l :=
 fun w2 hs hk=>h w2 (Nat.le_trans hb.size hs) (fun p h1 h2=>(hk p h1 (Nat.lt_of_lt_of_le h2 hb.size)).trans (hb.cell h2))
theorem dB.setCell {lo:Nat} {w:World} {A:Option Addr} {l:List Fld} (h:dB lo w A l) {p:Addr} (hp:p.block<lo) (u:Value):dB lo (w.setCell p u) A l :=
 fun w2 hs hk=>h w2 (by simpa [World.setCell] using hs) (fun q h1 h2=>(hk q h1 (by simpa [World.setCell] using h2)).trans (World.cell?_setCell_other w p q u (fun e=>by subst e;omega)))
theorem dB.mono {lo lo':Nat} {w:World} {A:Option Addr} {l:List Fld} (h:dB lo w A l) (hl:lo'≤lo):dB lo' w A l :=
 fun w2 hs hk=>h w2 hs (fun p h1 h2=>hk p (Nat.le_trans hl h1) h2)
theorem vz.flds {lo:Nat} {w:World} {A:Option Addr} {n c:Nat} {zs:List (Fld × Value)} (h:vz lo w A n c zs):dB lo w A (zs.map (·.1)):=by
 intro w2 hs2 hk2;refine ⟨fun i x hx=>?_⟩;rw [List.getElem?_map,Option.map_eq_some_iff] at hx;obtain ⟨z,hz,rfl⟩:=hx;obtain ⟨hi,rfl⟩:=List.getElem?_eq_some_iff.1 hz;have hn:0<n:=by have:=h.len;omega
 obtain ⟨g,cap,hv,_,hlt⟩:=h.own.form hn;obtain rfl:A=some ⟨g,0,none⟩:=by injection hv
 have hlo:=(h.own.lt g rfl).1;have hc:=h.own.cells (g:=g) rfl;have key:∀p:Addr,p.block=g→∀v,w.cell? p=some v→w2.cell? p=some v:=fun p hp v hv=>(hk2 p (by omega) (by omega)).trans hv
 have k0:=key _ (ax _ _) _ (hc (i*4+0) (.int .u8 zs[i].1.k) (by rw [zw hi (by omega)];rfl));have k1:=key _ (ax _ _) _ (hc (i*4+1) (.int .i64 zs[i].1.n) (by rw [zw hi (by omega)];rfl));have k2:=key _ (ax _ _) _ (hc (i*4+2) (.string (bs zs[i].1.s)) (by rw [zw hi (by omega)];rfl));have k3:=key _ (ax _ _) _ (hc (i*4+3) zs[i].2 (by rw [zw hi (by omega)];rfl));have hin:=h.inn zs[i] (List.getElem_mem hi);obtain ⟨A2,c2,e2,hc2,hS,_⟩:=hin.1;exact ⟨⟨g,0,none⟩,zs[i].2,rfl,Nat.lt_of_lt_of_le hlt hs2,k0,lD (j:=0) k1,lD (j:=1) k2,lD (j:=2) k3,bG.txc (lo:=lo) ⟨A2,c2,e2,hc2,hS.keep hs2 hk2⟩,hin.2⟩
theorem vz.add {lo:Nat} {w w9 w':World} {A A6:Option Addr} {n c c6:Nat} {zs:List (Fld × Value)} {row:Option Nat} {x:Fld} {lv:Value} (h:vz lo w A n c zs) (ho9:∃b,w.grownBy w9 b∧∀i,b=some i→i<lo)
  (hN:bG w.heap.size w9 lv x.l) (hk:x.k<256) (hlo:lo≤w.heap.size) (ho:w9.grownBy w' row) (hr:∀i,row=some i→(Value.slice A n c).ownBlock=some i)
  (hv:(Value.slice A6 (n+1) c6).ownBlock=(Value.slice A n c).ownBlock∨∃m,(Value.slice A6 (n+1) c6).ownBlock=some m∧w9.heap.size≤m) (hown:w'.ownsRow lo 60 4 (.slice A6 (n+1) c6) (n+1) (fcs (zs++[(x,lv)]))):vz lo w' A6 (n+1) c6 (zs++[(x,lv)]):=by
 obtain ⟨b,ho9,hb⟩:=ho9;refine ⟨by rw [List.length_append,h.len];rfl,hown,fun z hz=>?_⟩;rcases List.mem_append.1 hz with hz | hz
 ·have h9:=(h.step ho9 hb).inn z hz
  exact ⟨h9.1.step ho (fun i e=>.inr (hr i e)) hv,h9.2⟩
 ·simp only [List.mem_singleton] at hz
  subst hz;refine ⟨?_,hk⟩;obtain ⟨B,d,e,hd,hS⟩:=hN
  have hI:Inn lo (.slice A n c) w9 lv x.l:=by
   refine ⟨B,d,e,hd,⟨hS.1,fun hp=>?_⟩,fun ad he hp=>?_⟩
   ·obtain ⟨ad,e2,h1,h2⟩:=hS.2 hp
    exact ⟨ad,e2,Nat.le_trans hlo h1,h2⟩
   ·obtain ⟨ad2,e2,h1,_⟩:=hS.2 hp
    rw [he] at e2;cases e2
    intro e3;have:=(h.own.lt _ e3).2;omega
  exact hI.step ho (fun i e=>.inr (hr i e)) hv
def eu:List Fld→RdR→RdR
 | [],R=>R
 | x :: xs,R=>(eu xs R).cons x
theorem zB (xs:List Fld) (x:Fld) (R:RdR):eu (xs++[x]) R=eu xs (R.cons x):=by
 induction xs with
 | nil=>rfl
 | cons y ys ih =>
  show (eu (ys++[x]) R).cons y=(eu ys (R.cons x)).cons y;rw [ih]
theorem Ey (xs l:List Fld):eu xs (.ok l)=.ok (xs++l):=by
 induction xs with
 | nil=>rfl
 | cons y ys ih =>
  show (eu ys (.ok l)).cons y=_;rw [ih];rfl
theorem CJ (xs:List Fld) (e i:Nat):eu xs (.no e i)=.no e i:=by
 induction xs with
 | nil=>rfl
 | cons y ys ih =>
  show (eu ys (.no e i)).cons y=_;rw [ih];rfl
theorem zD (xs:List Fld):eu xs .tail=.tail:=by
 induction xs with
 | nil=>rfl
 | cons y ys ih =>
  show (eu ys .tail).cons y=_;rw [ih];rfl
def Sz:List UInt8:=[101,110,100]
def Mi (R:RdR) (w:World) (e:Ending) (w':World):Prop :=
 Below w.heap.size w w'∧((∃l A c,R=.ok l∧e=.returned (.tuple #[.slice A l.length c,.nilIface])∧dB w.heap.size w' A l) ∨
  (∃x i b A n c,R=.no x i∧x≠0∧e=.returned (.tuple #[.slice A n c,aH b])∧aT w' (aH b) [Lib.decDigits i] (x:Nat)) ∨
  (∃b A n c,R=.tail∧e=.returned (.tuple #[.slice A n c,aH b])∧aT w' (aH b) [Sz] 3))
theorem Dg:(Tryz.prog.info? 60).map (fun i=>(i.zero,i.size,i.bytes))=some (some (.agg #[.int .u8 0,.int .i64 0,.string ⟨#[]⟩,.slice none 0 0]),4,56):=by kernel_rfl
theorem Rk {k:Nat} {r r':List UInt8} {x:Fld} (h:dR k r=.ok x r'):x.k=k:=(FW h).1
theorem gN (w:World) (o:Obj) (t:TypeId) (cs:Array Value):Blk ((w.alloc o).alloc (.cells cs t)) (w.heap.size+1) t cs:=by
 have:=Blk.new (w.alloc o) t cs;simpa using this
structure QQ (w:World) (s f:ByteArray) (rb B:Nat) (R:RdR) (i:Nat) (A:Option Addr) (c:Nat) (wr:World):Prop where
 bel:Below w.heap.size w wr
 it:wr.heap[B]?=some (.stringIter f i)
 st:∃zs p',vz (B+1) wr A i c zs∧Rdr wr rb s p' 0∧p'≤s.size∧R=eu (zs.map (·.1)) (bu (f.data.toList.drop i) (s.data.toList.drop p') i)
theorem D9 (r:List UInt8) (i:Nat):bu [] r i=if uZ r=0 then .ok [] else .tail:=by
 unfold uZ
 cases r with
 | nil=>rfl
 | cons c r=>simp [bu]
theorem DX (r:List UInt8):uZ r=0∨uZ r=3:=by
 unfold uZ
 split <;> simp
section
variable {w : World}
theorem J8 (pl f:ByteArray) (hpl:pl.size≤1000000) (hp1:1≤pl.size) (hf13:f.size≤13) (hasc:∀c∈f.data.toList,c.toNat<128) (hM:jq w) :
  Calls Tryz.prog 46 #[.string pl,.string f] w (Mi (bu f.data.toList (pl.data.toList.drop 1) 0) w):=by
 obtain ⟨s,hs0⟩:∃s,s=pl.extract 1 pl.size:=⟨_,rfl⟩
 have hs1:s.size≤1000000:=by rw [hs0,ByteArray.size_extract];omega
 have hsd:s.data.toList=pl.data.toList.drop 1:=by
  rw [hs0,Lib.extract_data];rw [List.take_of_length_le];rw [List.length_drop];exact Nat.le_refl _
 rw [←hsd];generalize hRR:bu f.data.toList s.data.toList 0=R;have HRR:=hide hRR;clear hRR;have HN:=hide (fun W=>NQ s W);have HA:=hide hasc;have HM:=hide hM;have Hs1:=hide hs1;have h1p:(1:Int)≤pl.size:=by omega
 obtain ⟨iI,hiI,hI0,hI1,hI2⟩:=dK Dg;clear hsd hasc hM hs1;go_enter Tryz.func46,Tryz.ntmps46
 go_upto_region 3 with (first
  | (rw [←hs0];refine (HN.out _).mono ?_;rintro e w1 ⟨rfl,hr1,hb1⟩)
  | fail)
 have hB:w.heap.size<w1.heap.size:=Blk.lt hr1;have HI0:=hide (show QQ w s f w.heap.size w1.heap.size R 0 none 0 (w1.iter f 0) from ⟨by show Below w.heap.size w (w1.alloc _);exact hb1.alloc hb1.size _,World.iter_heap _ _ _,[],0,⟨rfl,World.ownsRow_nil _ _ _ _,by simp⟩,by show Rdr (w1.alloc _) _ _ _ _;exact Blk.alloc hr1 _,Nat.zero_le _,HRR.out.symm⟩);clear HN hr1 hb1;go_upto_region 4 with fail;generalize hWi:w1.iter f 0=w3 at HI0 ⊢;generalize w1.heap.size=B at HI0 hB ⊢;clear hWi
 go_loopw [7] (fun vo wr=>∃(i:Nat) (A:Option Addr) (c:Nat),vo=.slice A i c∧i≤f.size∧Hid (QQ w s f w.heap.size B R i A c wr)) (fun _ wr=>f.size - wr.iterPos B)
 case atStart=>exact ⟨0,none,0,rfl,Nat.zero_le _,HI0⟩
 case round =>
  obtain ⟨i,A,c,rfl,hi,HI⟩:=hrel;have hit:=HI.out.it;have hip:wr.iterPos B=i:=iterPos_of hit;have hbr:=HI.out.bel;obtain ⟨zs,p',hF,hr,hp',hR⟩:=HI.out.st
  by_cases hlt:i<f.size
  ·have hmemc:=bQ hlt
   have hnx:∀ty,(Instr.next (.pointer (some ⟨B,0,none⟩)) true ty).run Tryz.prog wr=_:=fun ty=>Lib.run_next_ascii_at wr B f i ty hit hlt (HA.out _ hmemc)
   obtain ⟨wn,hwn⟩:∃wn,wn=wr.iterAt B f (i+1):=⟨_,rfl⟩
   have hitn:wn.heap[B]?=some (.stringIter f (i+1)):=by rw [hwn];exact Lib.iterAt_heap wr B f i (i+1) hit
   have hbn:Below w.heap.size w wn:=by rw [hwn];exact Lib.below_iterAt hbr (by omega) f (i+1)
   have hgn:wr.grownBy wn (some B):=by rw [hwn];exact BQ (aj wr _) f (i+1)
   have hFn:=hF.step hgn (fun j e=>by cases e;omega);have hrn:Rdr wn w.heap.size s p' 0:=Blk.grown hr hgn (fun e=>by have:=Option.some.inj e;omega);rw [←hwn] at hnx;have hBn:B<wn.heap.size:=(Array.getElem?_eq_some_iff.1 hitn).1;have hlf:i<f.data.toList.length:=hlt;have hR2:=hR;rw [List.drop_eq_getElem_cons hlf] at hR2;have hfc:f.data.toList[i]'hlf=f[i]:=rfl;rw [hfc] at hR2;have hok:=hide (fun x r' (hg:dR f[i].toNat (s.data.toList.drop p')=.ok x r')=>show R=eu (zs.map (·.1)++[x]) (bu (f.data.toList.drop (i+1)) r' (i+1)) from by rw [hR2,j5 hg,zB]);have hno:=hide (fun x (hg:dR f[i].toNat (s.data.toList.drop p')=.no x)=>show R=.no x i from by rw [hR2,xB hg,CJ]);have HG:=hide (Ol f[i].toNat (HM.out.below hbn) hrn Hs1.out hp');have hc7:f[i].toNat<128:=HA.out _ hmemc;generalize f[i].toNat=ch at hnx hok hno HG hc7
   have hw8:IntKind.u8.wrap (ch:Int)=ch:=by
    simp only [IntKind.wrap,IntKind.bits,IntKind.signed];simp;omega
   have Hip:=hide hip;have HX:=hide (And.intro hFn (And.intro hbn hitn));have hi13:i<100:=by omega
   have HIt:=hide (fun W=>Tryz.strconv_Itoa_small i hi13 W);clear hfc hR2 hR hF hr hgn hFn hrn hmemc hit hip hwn hbr HI hitn hbn hlf;go_wp2_with fail;refine HG.out.mono ?_;rintro e w9 (⟨x,lv,p2,hg,rfl,hN,hr9,hp9,ho9⟩ | ⟨ke,v0,v1,v2,v3,v4,v5,hg,hk0,rfl,ho9⟩)
   ·have hkx:=Rk hg
    have HR:=hide (hok.out _ _ hg);have hb9:Below w.heap.size w w9:=HX.out.2.1.grown ho9 HX.out.2.1.size (fun k e=>by cases e;exact Nat.le_refl _);have hF9:=HX.out.1.step ho9 (fun j e=>by cases e;omega);have hit9:w9.heap[B]?=some (.stringIter f (i+1)):=(ho9.block B hBn (fun e=>by have:=Option.some.inj e;omega)).trans HX.out.2.2;have hz9:B+1≤w9.heap.size:=Nat.le_trans hBn ho9.size;have HN9:=hide hN;have Hr9:=hide (show Rdr w9 w.heap.size s p2 0 from hr9);have Hho9:=hide ho9;have Hit9:=hide hit9;have hk256:x.k<256:=by omega
    obtain ⟨lA,lc,rfl,hlc,_⟩:=hN;clear hg hok hno HG hr9 hit9 ho9 hkx;unfold dV
    go_wp2_with (first
     | (at_builtin;refine aA _ rfl (.tmp 34) (.tmp 36) _ rfl (B+1) 60 iI (.agg #[.int .u8 0,.int .i64 0,.string ⟨#[]⟩,.slice none 0 0]) 4 56 Tryz.underlying53 hiI hI0 hI1 hI2 rfl (by decide) (.slice A i c) i _ rfl ((hF9.own.alloc _).alloc _) _ (some ⟨_,0,none⟩) 1 1 [.int .u8 x.k,.int .i64 x.n,.string (bs x.s),.slice lA x.l.length lc] rfl (dx (gN _ _ _ _) rfl) (by simp [Value.oneCell']) (by unfold maxLen;omega) (by omega) (by simp only [World.size_alloc];omega) ?_;intro v6 w6 hown6 hgr6 hor6;obtain ⟨A6,c6,rfl⟩:=di hown6)
     | fail)
    have hgX:w9.grownBy w6 (Value.slice A i c).ownBlock:=au (gu (gu (aj w9 _) (.cells #[.int .u8 x.k,.int .i64 x.n,.string (bs x.s),.slice lA x.l.length lc] 60)) (.cells #[.int .u8 x.k,.int .i64 x.n,.string (bs x.s),.slice lA x.l.length lc] 60)) hgr6;have hrow:∀k,(Value.slice A i c).ownBlock=some k→B+1≤k:=fun k e=>(hF9.own.lt k e).1
    have hit6:w6.heap[B]?=some (.stringIter f (i+1)):=(hgX.block B (by omega) (fun e=>by have:=hrow _ e.symm;omega)).trans Hit9.out;have hr6:Rdr w6 w.heap.size s p2 0:=Blk.grown Hr9.out hgX (fun e=>by have:=hrow _ e.symm;omega);have hb6:Below w.heap.size w w6:=hb9.grown hgX hb9.size (fun k e=>by have:=hrow _ e;omega)
    have hF6:=HX.out.1.add ⟨_,Hho9.out,fun j e=>by cases e;omega⟩ HN9.out hk256 (by omega) hgX (fun k e=>e) (by
     rcases hor6 with h6 | h6
     ·exact .inl h6
     ·exact .inr ⟨_,h6,by simp only [World.size_alloc];omega⟩) (by rw [KP];exact hown6)
    refine ⟨⟨i+1,A6,c6,by first | rfl | (simp;done),by omega,hide ⟨hb6,hit6,_,p2,hF6,hr6,hp9,by rw [List.map_append];exact HR.out⟩⟩,?_⟩;rw [iterPos_of hit6,Hip.out];omega
   ·have HR:=hide (hno.out _ hg)
    have hb9:Below w.heap.size w w9:=HX.out.2.1.grown ho9 HX.out.2.1.size (fun k e=>by cases e;exact Nat.le_refl _);have hx1:((ke:Int) == 0)=false:=by rw [beq_eq_false_iff_ne];omega
    have hx2:((ke:Int) != 0)=true:=by simp [bne,hx1]
    have HOf:=hide (fun W=>bH ⟨(Lib.decDigits i).toArray⟩ (ke:Nat) hx1 W);unfold aH at HOf;have Hk0:=hide hk0;clear hg hok hno HG ho9 hk0 HX Hip
    go_wp2_with (first
     | (go_at_call 93;refine (HIt.out _).mono ?_;rintro e w6 ⟨rfl,rfl⟩)
     | (go_at_call 43;refine (HOf.out _).mono ?_;rintro e w7 ⟨b7,rfl,hi7,hb7⟩)
     | fail)
    go_ret2;exact ⟨by exact aa,.inr (.inl ⟨ke,i,b7,_,_,_,HR.out,Hk0.out,rfl,hi7⟩)⟩
  ·have hil:i=f.size:=by omega
   subst hil;have hnx:∀ty,(Instr.next (.pointer (some ⟨B,0,none⟩)) true ty).run Tryz.prog wr=_:=fun ty=>Lib.run_next_end_at wr B f f.size ty hit hlt
   have hR2:R=eu (zs.map (·.1)) (if uZ (s.data.toList.drop p')=0 then .ok [] else .tail):=by
    rw [hR,List.drop_of_length_le (show f.data.toList.length≤f.size from Nat.le_refl _),D9]
   have HE:=hide (JX hr Hs1.out hp');have HF:=hide hF;have Hbr:=hide hbr;have hec:=DX (s.data.toList.drop p');have hzl:=hF.len;generalize uZ (s.data.toList.drop p')=ev at hR2 HE hec;clear hit hip HI hR hF hr hbr;rcases hec with rfl | rfl
   ·have HR:=hide (show R=.ok (zs.map (·.1)) from by rw [hR2,if_pos rfl,Ey,List.append_nil])
    have HOf:=hide (fun W=>Gm ⟨#[101,110,100]⟩ W);clear hR2;go_wp2_with fail;refine HE.out.mono ?_;rintro e w6 ⟨rfl,ho6⟩;have hb6:Below w.heap.size w w6:=Hbr.out.grown ho6 Hbr.out.size (fun k e=>by cases e;exact Nat.le_refl _);have hF6:=HF.out.step ho6 (fun j e=>by cases e;omega);go_wp2_with (first | (refine (HOf.out _).mono ?_;rintro e w7 ⟨rfl,rfl⟩) | fail);go_ret2;exact ⟨hb6,.inl ⟨_,A,c,HR.out,by rw [List.length_map,hzl];rfl,hF6.flds.mono (by omega)⟩⟩
   ·have HR:=hide (show R=.tail from by rw [hR2,if_neg (by decide),zD])
    have HOf:=hide (fun W=>bH ⟨#[101,110,100]⟩ 3 (by decide) W);unfold aH at HOf;clear hR2;go_wp2_with fail;refine HE.out.mono ?_;rintro e w6 ⟨rfl,ho6⟩;have hb6:Below w.heap.size w w6:=Hbr.out.grown ho6 Hbr.out.size (fun k e=>by cases e;exact Nat.le_refl _);go_wp2_with (first | (refine (HOf.out _).mono ?_;rintro e w7 ⟨b7,rfl,hi7,hb7⟩) | fail);go_ret2;exact ⟨by exact aa,.inr (.inr ⟨b7,A,_,c,HR.out,rfl,hi7⟩)⟩
end
def lW:RdR→Option (List (List UInt8) × Nat)
 | .ok _=>none
 | .no e i=>some ([Lib.decDigits i],e)
 | .tail=>some ([Sz],3)
def jU:Sd→Option (List (List UInt8) × Nat)
 | .ok _ _=>none
 | .all e=>some ([vG],e)
 | .bad num R=>(lW R).map fun x=>((word (num:Nat)).data.toList :: x.1,x.2)
def Un (D:Sd) (w:World) (e:Ending) (w':World):Prop :=
 Below w.heap.size w w'∧((∃num l A c,D=.ok num l∧e=.returned (.tuple #[.agg #[.int .i64 (num:Nat),.slice A l.length c],.nilIface])∧dB w.heap.size w' A l) ∨
  (∃b ps,∃k:Nat,jU D=some (ps,k)∧e=.returned (.tuple #[.agg #[.int .i64 0,.slice none 0 0],aH b])∧aT w' (aH b) ps k))
theorem Kj {R:RdR} {w:World} {e:Ending} {w':World} (h:Mi R w e w'):Below w.heap.size w w'∧((∃l A c,R=.ok l∧e=.returned (.tuple #[.slice A l.length c,.nilIface])∧dB w.heap.size w' A l) ∨
  (∃b A n c ps,∃k:Nat,lW R=some (ps,k)∧(∀l,R≠.ok l)∧ps.length≤1∧e=.returned (.tuple #[.slice A n c,aH b])∧aT w' (aH b) ps k)):=by
 obtain ⟨hb,h | ⟨x,i,b,A,n,c,hR,h0,he,hi⟩ | ⟨b,A,n,c,hR,he,hi⟩⟩:=h
 ·exact ⟨hb,.inl h⟩
 ·exact ⟨hb,.inr ⟨b,A,n,c,_,x,by rw [hR];rfl,(fun l e=>by rw [hR] at e;cases e),by simp,he,hi⟩⟩
 ·exact ⟨hb,.inr ⟨b,A,n,c,_,3,by rw [hR];rfl,(fun l e=>by rw [hR] at e;cases e),by simp,he,hi⟩⟩
theorem xI {c:UInt8} {r:List UInt8} (h:32768<(c :: r).length):fq (c :: r)=.all 2:=by
 simp only [fq];rw [if_pos h]
theorem wH {c:UInt8} {r:List UInt8} (h:¬ 32768<(c :: r).length) (hf:forms c.toNat=[]):fq (c :: r)=.all 6:=by
 simp only [fq];rw [if_neg h]
 split
 ·rfl
 ·rename_i h2
  rw [hf] at h2;cases h2
theorem BB {c:UInt8} {r:List UInt8} {f:ByteArray} {fs:List ByteArray} (h:¬ 32768<(c :: r).length) (hf:forms c.toNat=f :: fs) (hn:dO (forms c.toNat) r=none):fq (c :: r)=.bad c.toNat (bu f.data.toList r 0):=by
 simp only [fq];rw [if_neg h]
 split
 ·rename_i h2
  rw [hf] at h2;cases h2
 ·rename_i f2 fs2 h2
  rw [hf] at h2;cases h2
  rw [hf] at hn;rw [hn]
theorem MP {w:World} {r:Nat} {t:TypeId} {o0 o1:Value} (h:Blk w r t #[o0,o1]) (v0 v1:Value):Blk ((w.setCell ⟨r,0,none⟩ v0).setCell ⟨r,1,none⟩ v1) r t #[v0,v1]:=by
 have h1:=(h.set_ 0 v0).set_ 1 v1;simpa using h1
structure Sn (w:World) (p:List UInt8) (fs:List ByteArray) (j:Nat) (vf:Value) (wr:World):Prop where
 bel:Below w.heap.size w wr
 blk:Blk wr w.heap.size 55 #[.int .i64 0,.slice none 0 0]
 rest:dO fs (p.drop 1)=dO (fs.drop j) (p.drop 1)
 first:0<j→∃b ps,∃k:Nat,vf=aH b∧aT wr (aH b) ps k∧ps.length≤1∧∀f r,fs=f :: r→lW (bu f.data.toList (p.drop 1) 0)=some (ps,k)
section
variable {w : World}
theorem pR {w w7:World} {v0 v1:Value} {g:Nat} (hg:w.heap.size≤g) (hb:Below w.heap.size w w7):Below w.heap.size w ((w7.setCell ⟨g,0,none⟩ v0).setCell ⟨g,1,none⟩ v1):=(hb.setCell (p:=⟨g,0,none⟩) hg v0).setCell (p:=⟨g,1,none⟩) hg v1
theorem rV {w7:World} {v0 v1:Value} {g:Nat} {cs:Array Value} (hB:Blk w7 g 55 cs) {v:Value} {ps:List (List UInt8)} {k:Int} (h:aT w7 v ps k):aT ((w7.setCell ⟨g,0,none⟩ v0).setCell ⟨g,1,none⟩ v1) v ps k :=
 aT.own hB (by decide) (ag (ag (aj w7 (some g)) (p:=⟨g,0,none⟩) (.inl rfl) v0) (p:=⟨g,1,none⟩) (.inl rfl) v1) h
theorem lK (pl:ByteArray) (hpl:pl.size≤1000000) (hM:jq w):Calls Tryz.prog 11 #[.string pl] w (Un (fq pl.data.toList) w):=by
 have hX0:=Blk.new w 55 #[.int .i64 0,.slice none 0 0];have hb0:Below w.heap.size w (w.alloc (.cells #[.int .i64 0,.slice none 0 0] 55)):=(Below.refl _ _).alloc (Nat.le_refl _) _
 by_cases hnil:pl=⟨#[]⟩
 ·subst hnil
  have HE:=hide (show jU (fq (⟨#[]⟩:ByteArray).data.toList)=some ([vG],4) from rfl);have HOf:=hide (fun W=>bH ⟨#[109,101,115,115,97,103,101]⟩ 4 (by decide) W);unfold aH at HOf;have HX:=hide (And.intro hX0 hb0);clear hX0 hb0 hM;go_enter Tryz.func11,Tryz.ntmps11
  go_wp2_with (first
   | (go_at_call 43;refine (HOf.out _).mono ?_;rintro e w7 ⟨b7,rfl,hi7,hb7⟩;have hX7:=HX.out.1.below hb7 HX.out.1.lt;have x0:=hX7.cell 0;have x1:=hX7.cell 1;have t0:=hX7.frozen 0;have t1:=hX7.frozen 1;simp at x0 x1)
   | fail)
  have hF:=MP hX7 (.int .i64 0) (.slice none 0 0);have q0:=hF.cell 0;have q1:=hF.cell 1;simp at q0 q1;exact bodyPost_ret (v:=.tuple #[.agg #[.int .i64 0,.slice none 0 0],aH b7]) (by simp [results,Tryz.results11,go_sem,q0,q1,aH]) rfl ⟨pR (Nat.le_refl _) (HX.out.2.trans (hb7.mono HX.out.2.size)),.inr ⟨b7,_,4,HE.out,rfl,rV hX7 hi7⟩⟩
 ·have hz:0<pl.size:=Nat.pos_of_ne_zero (fun e=>hnil (by
   have:pl.data.size=0:=e;have h2:pl.data=#[]:=Array.eq_empty_of_size_eq_zero this;cases pl
   simp_all))
  have hzl:pl.data.toList.length=pl.size:=rfl;obtain ⟨c,r,hcr⟩:=List.exists_cons_of_ne_nil (show pl.data.toList≠[] from fun e=>by rw [e] at hzl;simp at hzl;omega)
  have hg0:pl[0]=c:=by
   have h2:pl.data.toList[0]'(by rw [hzl];exact hz)=c:=by simp only [hcr,List.getElem_cons_zero]
   exact h2
  have hne:=dU hnil;have hne2:=gq hnil
  have hw64:wrap64 ((pl[0].toNat:Nat):Int)=(pl[0].toNat:Nat):=by
   have:=pl[0].toNat_lt;unfold wrap64;omega
  rw [hcr] at hzl ⊢;have hz1:(0:Int)<pl.size:=by omega
  by_cases hlong:32768<pl.size
  ·have hlong':(32768:Int)<pl.size:=by omega
   have HK:=hide (fun W=>qD 0 W);have HE:=hide (show jU (fq (c :: r))=some ([vG],2) from by rw [xI (by omega)];rfl);have HOf:=hide (fun W=>bH ⟨#[109,101,115,115,97,103,101]⟩ 2 (by decide) W);unfold aH at HOf;have HX:=hide (And.intro hX0 hb0);clear hX0 hb0 hM HK hg0 hlong;go_enter Tryz.func11,Tryz.ntmps11
   go_wp2_with (first
    | (go_at_call 44;refine (HK.out _).mono ?_;rintro e w6 ⟨rfl,hb6⟩)
    | (go_at_call 43;refine (HOf.out _).mono ?_;rintro e w7 ⟨b7,rfl,hi7,hb7⟩;have hb17:Below (w.alloc (.cells #[.int .i64 0,.slice none 0 0] 55)).heap.size (w.alloc (.cells #[.int .i64 0,.slice none 0 0] 55)) w7:=(by exact aa);have hX7:=HX.out.1.below hb17 HX.out.1.lt;have x0:=hX7.cell 0;have x1:=hX7.cell 1;have t0:=hX7.frozen 0;have t1:=hX7.frozen 1;simp at x0 x1)
    | fail)
   have hF:=MP hX7 (.int .i64 0) (.slice none 0 0);have q0:=hF.cell 0;have q1:=hF.cell 1;simp at q0 q1;exact bodyPost_ret (v:=.tuple #[.agg #[.int .i64 0,.slice none 0 0],aH b7]) (by simp [results,Tryz.results11,go_sem,q0,q1,aH]) rfl ⟨pR (Nat.le_refl _) (HX.out.2.trans (hb17.mono HX.out.2.size)),.inr ⟨b7,_,2,HE.out,rfl,rV hX7 hi7⟩⟩
  ·have hlong':¬ (32768:Int)<pl.size:=by omega
   have hl2:¬ 32768<(c :: r).length:=by omega
   cases hfs:forms c.toNat with
   | nil =>
    have HK:=hide (fun W=>qD (pl[0].toNat:Nat) W);have hkn:known ((pl[0].toNat:Nat):Int)=false:=by rw [hg0];unfold known;rw [hfs];rfl
    rw [hkn] at HK;have HE:=hide (show jU (fq (c :: r))=some ([vG],6) from by rw [wH hl2 hfs];rfl);have HOf:=hide (fun W=>bH ⟨#[109,101,115,115,97,103,101]⟩ 6 (by decide) W);unfold aH at HOf;have HX:=hide (And.intro hX0 hb0);clear hX0 hb0 hM hg0 hlong hkn hfs hl2;go_enter Tryz.func11,Tryz.ntmps11
    go_wp2_with (first
     | (go_at_call 44;refine (HK.out _).mono ?_;rintro e w6 ⟨rfl,hb6⟩)
     | (go_at_call 43;refine (HOf.out _).mono ?_;rintro e w7 ⟨b7,rfl,hi7,hb7⟩;have hb17:Below (w.alloc (.cells #[.int .i64 0,.slice none 0 0] 55)).heap.size (w.alloc (.cells #[.int .i64 0,.slice none 0 0] 55)) w7:=(by exact aa);have hX7:=HX.out.1.below hb17 HX.out.1.lt;have x0:=hX7.cell 0;have x1:=hX7.cell 1;have t0:=hX7.frozen 0;have t1:=hX7.frozen 1;simp at x0 x1)
     | fail)
    have hF:=MP hX7 (.int .i64 0) (.slice none 0 0);have q0:=hF.cell 0;have q1:=hF.cell 1;simp at q0 q1;exact bodyPost_ret (v:=.tuple #[.agg #[.int .i64 0,.slice none 0 0],aH b7]) (by simp [results,Tryz.results11,go_sem,q0,q1,aH]) rfl ⟨pR (Nat.le_refl _) (HX.out.2.trans (hb17.mono HX.out.2.size)),.inr ⟨b7,_,6,HE.out,rfl,rV hX7 hi7⟩⟩
   | cons f0 fs0 =>
    have HK:=hide (fun W=>qD (pl[0].toNat:Nat) W);have hkn:known ((pl[0].toNat:Nat):Int)=true:=by rw [hg0];unfold known;rw [hfs];rfl
    rw [hkn] at HK;have HFm:=hide (fun W=>qf (pl[0].toNat:Nat) W);have HWd:=hide (fun W=>AO (pl[0].toNat:Nat) W);rw [hg0] at HFm HWd;have hmem:∀f∈f0 :: fs0,f.size≤13∧∀x∈f.data.toList,x.toNat<128:=fun f hf=>nD (n:=(c.toNat:Nat)) (by rw [hfs];exact hf)
    have Hmem:=hide hmem;have HOk:=hide (fun l (h:dO (f0 :: fs0) r=some l)=>yK (c:=c) (r:=r) (l:=l) (by omega) (by rw [hfs];exact h));have HBad:=hide (fun (h:dO (f0 :: fs0) r=none)=>BB (c:=c) (r:=r) (f:=f0) (fs:=fs0) hl2 hfs (by rw [hfs];exact h));rw [hfs] at HFm;generalize hD:fq (c :: r)=D at HOk HBad ⊢;clear hD hkn hmem;have HRd:=hide (fun (W:World) (f:ByteArray) (hf:f∈f0 :: fs0) (hW:jq W)=>(J8 (w:=W) pl f hpl hz (Hmem.out f hf).1 (Hmem.out f hf).2 hW).mono fun _ _ h=>Kj h);rw [hcr] at HRd;rw [show List.drop 1 (c :: r)=r from rfl] at HRd;have HM:=hide hM;have Hg0:=hide hg0;have HX:=hide (And.intro hX0 hb0);have hfl:(f0 :: fs0).length≤3:=by rw [←hfs];exact lU _
    obtain ⟨fs,hfs1⟩:∃fs,fs=f0 :: fs0:=⟨_,rfl⟩
    have Hfs1:=hide hfs1;rw [←hfs1] at hfl HFm HRd HOk HBad;clear hfs1 hfs hg0 hX0 hb0 hM hlong hl2 hzl hcr hnil Hmem;go_enter Tryz.func11,Tryz.ntmps11
    go_wp2_with (first
     | (go_at_call 44;refine (HK.out _).mono ?_;rintro e w6 ⟨rfl,hb6⟩)
     | (rw [Hg0.out];go_at_call 45;refine (HFm.out _).mono ?_;rintro e w7 ⟨v7,rfl,⟨fA,fc,rfl,hS7⟩,hb7⟩)
     | fail)
    have hb07:Below (w.alloc (.cells #[.int .i64 0,.slice none 0 0] 55)).heap.size (w.alloc (.cells #[.int .i64 0,.slice none 0 0] 55)) w7:=by exact aa
    have HI0:=hide (show Sn w (c :: r) fs 0 .nilIface w7∧Sl w6.heap.size w7 1 fA fs.length (fs.map Value.string) from ⟨⟨HX.out.2.trans (hb07.mono HX.out.2.size),HX.out.1.below hb07 HX.out.1.lt,rfl,fun h=>absurd h (by omega)⟩,hS7⟩);have hw0:IntKind.i64.wrap ((c.toNat:Nat):Int)=(c.toNat:Nat):=wrap_small _ (by omega) (by have:=c.toNat_lt;omega);have hwc:wrap64 ((c.toNat:Nat):Int)=(c.toNat:Nat):=by rw [←Hg0.out];exact hw64
    clear hS7 hb7 hb6 hb07 HFm HK hne hne2 hz1 hlong' hw64;generalize w6.heap.size=lo at HI0;rw [hwc]
    go_loopw [5,35] (fun vf vi wr=>∃j:Nat,vi=.int .i64 j∧j≤fs.length∧(j=0→vf=.nilIface)∧Hid (Sn w (c :: r) fs j vf wr∧Sl lo wr 1 fA fs.length (fs.map Value.string))) (fun _ vi _=>fs.length - (intOf vi).toNat)
    case atStart=>exact ⟨0,rfl,Nat.zero_le _,fun _=>rfl,HI0⟩
    case round =>
     obtain ⟨j,rfl,hj,hj0,HI⟩:=hrel;have hbr:=HI.out.1.bel;have hblk:=HI.out.1.blk;have hrest:=HI.out.1.rest;have hfirst:=HI.out.1.first;have hSl:=HI.out.2
     by_cases hlt:j<fs.length
     ·obtain ⟨ad,rfl,had,hc⟩:=hSl.str hlt
      have hmj:=List.getElem_mem hlt;rw [List.drop_eq_getElem_cons hlt] at hrest;have hfst:j=0→∀f q,fs=f :: q→fs[j]=f:=fun e f q h=>by subst e;simp [h]
      have HR:=hide (HRd.out wr fs[j] hmj (HM.out.below hbr));have hnext:=hide (fun (h:∀l,bu fs[j].data.toList r 0≠.ok l)=>hrest.trans (gX h));have hyes:=hide (fun l (h:bu fs[j].data.toList r 0=.ok l)=>HOk.out l (hrest.trans (gB h)));have hzr:w.heap.size<wr.heap.size:=hblk.lt;have HS:=hide (And.intro hblk (And.intro hbr hSl));have hre:=hide (fun x (hx:lW (bu fs[j].data.toList r 0)=x) (e:j=0) f q (h:fs=f :: q)=>show lW (bu f.data.toList r 0)=x from by rw [←hfst e f q h];exact hx);have Hfirst:=hide hfirst;have hj4:j≤3:=by omega
      generalize fs[j]=f at hc HR hnext hyes hre;generalize bu f.data.toList r 0=R at HR hnext hyes hre;clear hblk hbr hSl hrest hfirst hfst HI hmj HRd HOk HBad HX HWd;go_wp2_with fail;refine HR.out.mono ?_;rintro e w2 ⟨hb2,(⟨l,A2,c2,hR2,rfl,hF2⟩ | ⟨b2,A2,n2,c2,ps,k,hR2,hn2,hps,rfl,hi2⟩)⟩
      ·have hx2:=HS.out.1.below hb2 HS.out.1.lt
       have x0:=hx2.cell 0;have x1:=hx2.cell 1;have t0:=hx2.frozen 0;have t1:=hx2.frozen 1;simp at x0 x1;have HY:=hide (hyes.out _ hR2);have HF:=hide hF2;clear hR2 hyes hnext hre hF2 HR;go_wp2_with fail;have hF:=MP hx2 (.int .i64 (c.toNat:Nat)) (.slice A2 l.length c2);have q0:=hF.cell 0;have q1:=hF.cell 1;simp at q0 q1;exact bodyPost_ret (v:=.tuple #[.agg #[.int .i64 (c.toNat:Nat),.slice A2 l.length c2],.nilIface]) (by simp [results,Tryz.results11,go_sem,q0,q1]) rfl ⟨pR (Nat.le_refl _) (HS.out.2.1.trans (hb2.mono (Nat.le_of_lt hzr))),.inl ⟨c.toNat,l,A2,c2,HY.out,rfl,((HF.out.setCell (p:=⟨w.heap.size,0,none⟩) hzr _).setCell (p:=⟨w.heap.size,1,none⟩) hzr _).mono (Nat.le_of_lt hzr)⟩⟩
      ·have HX2:=hide (And.intro (HS.out.1.below hb2 HS.out.1.lt) (And.intro (HS.out.2.1.trans (hb2.mono (Nat.le_of_lt hzr))) (HS.out.2.2.below hb2)))
       have HN:=hide (hnext.out hn2);have HR2:=hide (hre.out _ hR2);have Hi2:=hide hi2;have Hps:=hide hps;unfold aH;clear hR2 hn2 hyes hnext hre hi2 HR hps;rcases Nat.eq_zero_or_pos j with rfl | hjp
       ·obtain rfl:=hj0 rfl
        go_wp2_with fail;exact ⟨⟨1,by go_num,by omega,fun h=>absurd h (by omega),hide ⟨⟨HX2.out.2.1,HX2.out.1,HN.out,fun _=>⟨b2,ps,k,rfl,Hi2.out,Hps.out,fun f q h=>HR2.out (by first | rfl | trivial) f q h⟩⟩,HX2.out.2.2⟩⟩,by simp [intOf];omega⟩
       ·have hj1:((j:Int) == 0)=false:=by rw [beq_eq_false_iff_ne];omega
        have Hj:=hide (Hfirst.out hjp);clear hj0;go_wp2_with fail;refine ⟨⟨j+1,by go_num,by omega,fun h=>absurd h (by omega),hide ⟨⟨HX2.out.2.1,HX2.out.1,HN.out,fun _=>?_⟩,HX2.out.2.2⟩⟩,by simp [intOf];omega⟩;obtain ⟨b,ps,k,e1,h1,h2,h3⟩:=Hj.out;exact ⟨b,ps,k,e1,h1.below hb2,h2,h3⟩
     ·have hjl:j=fs.length:=by omega
      subst hjl;have hpos:0<fs.length:=by rw [Hfs1.out];simp
      obtain ⟨b,ps,k,rfl,hi,hps,hq⟩:=hfirst hpos
      have HE:=hide (show jU D=some ((word (c.toNat:Nat)).data.toList :: ps,k) from by
       rw [HBad.out (hrest.trans (by rw [List.drop_length];rfl))];show Option.map _ (lW (bu f0.data.toList (List.drop 1 (c :: r)) 0))=_;rw [hq _ _ Hfs1.out]
       rfl)
      have HAt:=hide (fun (W:World) (h:aT W (aH b) ps k)=>kL (word (c.toNat:Nat)) b h);have Hi:=hide hi;have HS:=hide (And.intro hblk hbr);have hzr:w.heap.size<wr.heap.size:=hblk.lt;unfold aH at HAt ⊢;clear hblk hbr hrest hfirst hq hi hSl HI HRd HOk HBad HX hj0
      go_wp2_with (first
       | (go_at_call 48;refine (HWd.out _).mono ?_;rintro e w5 ⟨rfl,rfl⟩)
       | (go_at_call 47;refine (HAt.out _ Hi.out).mono ?_;rintro e w7 ⟨b7,rfl,hi7,hb7⟩;have hX7:=HS.out.1.below hb7 HS.out.1.lt;have x0:=hX7.cell 0;have x1:=hX7.cell 1;have t0:=hX7.frozen 0;have t1:=hX7.frozen 1;simp at x0 x1)
       | fail)
      have hF:=MP hX7 (.int .i64 0) (.slice none 0 0);have q0:=hF.cell 0;have q1:=hF.cell 1;simp at q0 q1;exact bodyPost_ret (v:=.tuple #[.agg #[.int .i64 0,.slice none 0 0],aH b7]) (by simp [results,Tryz.results11,go_sem,q0,q1,aH]) rfl ⟨pR (Nat.le_refl _) (HS.out.2.trans (hb7.mono (Nat.le_of_lt hzr))),.inr ⟨b7,_,k,HE.out,rfl,rV hX7 hi7⟩⟩
end
theorem dB.at_ {lo:Nat} {w:World} {A:Option Addr} {l:List Fld} (h:dB lo w A l) {i:Nat} {x:Fld} (hx:l[i]?=some x) :
  ∃ad B c,A=some ad∧lo≤ad.block∧ad.block<w.heap.size∧At4 w (ad.add (i*4)) x (.slice B x.l.length c)∧bG lo w (.slice B x.l.length c) x.l:=by
 obtain ⟨ad,lv,e,h1,c0,c1,c2,c3,⟨ht,B,c,hlv,hc⟩,hk⟩:=h.flds.at_ i x hx;subst hlv
 have hlo:lo≤ad.block:=by
  rcases Nat.lt_or_ge ad.block lo with hlt | hge
  ·exfalso
   have h2:=(h.setCell (p:=ad.add (i*4)) (by rw [ax];exact hlt) undef).flds;obtain ⟨ad',lv',e',_,d0,_⟩:=h2.at_ i x hx;rw [e] at e';cases e'
   rw [World.cell?_setCell_same w _ undef c0] at d0;cases d0
  ·exact hge
 refine ⟨ad,B,c,e,hlo,h1,⟨c0,c1,c2,c3⟩,?_⟩;obtain ⟨B',c',e2,hS⟩:=ht;rw [List.length_map] at e2 hS;obtain ⟨rfl,rfl⟩:B=B'∧c=c':=by injection e2 with e3 _ e4;exact ⟨e3,e4⟩
 refine ⟨B,c,rfl,hc,hS.1,fun hn=>?_⟩;obtain ⟨q,e3,_,h5,h6⟩:=hS.2 hn;refine ⟨q,e3,?_,h5,h6⟩;rcases Nat.lt_or_ge q.block lo with hlt | hge
 ·exfalso
  have hq0:(x.l.map bs).map Value.string≠[]:=by
   intro e4;have:=congrArg List.length e4;simp only [List.length_map,List.length_nil] at this;omega
  obtain ⟨u0,us,hus⟩:=List.exists_cons_of_ne_nil hq0;have hu:=h6 0 u0 (by rw [hus];rfl);have h7:=(h.setCell (p:=q.add 0) (by rw [ax];exact hlt) undef).flds;obtain ⟨ad',lv',e',_,_,_,_,d3,⟨ht',_⟩,_⟩:=h7.at_ i x hx;rw [e] at e';cases e'
  have hne:(q.add 0)≠⟨(ad.add (i*4)).block,(ad.add (i*4)).off+3,none⟩:=by
   intro e5;have:=congrArg Addr.block e5;simp only [ax] at this;omega
  rw [World.cell?_setCell_other w _ _ undef hne,c3] at d3;cases d3
  obtain ⟨B2,c2',e6,hS2⟩:=ht';rw [List.length_map] at e6 hS2;obtain ⟨q2,e7,_,_,h8⟩:=hS2.2 hn;have:B=B2:=by injection e6
  subst this;rw [e3] at e7;cases e7
  have h9:=h8 0 u0 (by rw [hus];rfl);rw [World.cell?_setCell_same w _ undef hu] at h9;have h10:=List.mem_of_getElem? (show ((x.l.map bs).map Value.string)[0]?=some u0 by rw [hus];rfl);obtain ⟨s,_,rfl⟩:=List.mem_map.1 h10;cases h9
 ·exact hge
end Go.Proofs.YtnhekaepgpbijaaGreatDoor

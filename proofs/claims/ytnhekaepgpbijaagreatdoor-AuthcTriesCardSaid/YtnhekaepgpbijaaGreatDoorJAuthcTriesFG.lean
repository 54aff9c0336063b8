/- Several of my texts in one: Card, CardC, CardS, Hand, AuthcTriesF, AuthcTriesE. -/
import Derived.Test.YtnhekaepgpbijaaGreatDoorJMsgHG
import Derived.Test.YtnhekaepgpbijaaGreatDoorJMakeAG
import Derived.Test.YtnhekaepgpbijaaGreatDoorCards
import Derived.Test.YtnhekaepgpbijaaGreatDoorTie
import Derived.Lib.LaidTab
import Derived.Stop.LaidErr
import Derived.Lay
import Derived.SevenTiedAt
import Derived.LaidHandle
import Derived.MakeChecks
import Derived.Test.YtnhekaepgpbijaaGreatDoorJCfDG
import Derived.Lib.LaidU8
import Derived.Test.YtnhekaepgpbijaaGreatDoorJCfBG
import Derived.Handed
import Derived.Shelf.Vars
import Derived.Test.YtnhekaepgpbijaaGreatDoorJAsG
set_option linter.unusedVariables false
set_option linter.unusedSimpArgs false
set_option maxHeartbeats 40000000
set_option maxRecDepth 100000
namespace Go.Proofs.YtnhekaepgpbijaaGreatDoor
open Go.ChangeShapes Go.WideShapes Go.ChangeAt Go.RowKit
theorem DK:(Rows.laid_internal_strconv_uint64pow10:DataW Unit)=Lib.tabData .u64 Lib.pow10Tab:=by kernel_rfl
theorem Am {a b:String × DataW Unit} {l:List (String × DataW Unit)} {W:World} (h:laidMet Tryz.prog (a :: b :: ("internal/strconv.uint64pow10",Rows.laid_internal_strconv_uint64pow10) :: l) W):Tab W:=by
 have h:=laidMet.tail (laidMet.tail h);rw [DK] at h;exact Lib.tabIs_of_head (g:=3) (by kernel_rfl) (by kernel_rfl) Tryz.underlying363 Tryz.underlying321 (by kernel_rfl) (by kernel_rfl) h
end Go.Proofs.YtnhekaepgpbijaaGreatDoor
namespace Go.Proofs.YtnhekaepgpbijaaGreatDoor
open Go.RowKit Go.ChangeShapes Go.WideShapes Go.ChangeAt
theorem bL {H:Type} {enc:TypeId × Value→H} {w:World} {base:Nat} {sp:Nat→Bool} {held:Bool} {fuel:Nat} {c:Value} {y:DataW H × List MemPlace}
  (h:DataW.trod enc Tryz.prog w base sp held fuel 9 [c]=some y):∃s:ByteArray,c=.string s∧y=(.lit (.string s.data.toList),[]):=by
 obtain ⟨s,hc,hy,_⟩:=DataW.trod_string Tryz.underlying9 h;simp only [List.cons.injEq,and_true] at hc;exact ⟨s,hc,hy⟩
theorem cO {s:ByteArray} {l:List UInt8} (h:s.data.toList=l):s=⟨l.toArray⟩:=by rw [←h,Lib.mk_data]
theorem P8 {W:World} (h:Lib.VarReads Tryz.prog W "shibboleth/prefs.methods" Rows.laid_shibboleth_prefs_methods):fC W:=by
 obtain ⟨g,t,cs,fuel,p,hg,ht,hvar,hd⟩:=h;have hg0:Tryz.prog.globalNamed "shibboleth/prefs.methods" = some 0:=by kernel_rfl
 have ht0:(Tryz.prog.globals[0]?).map (·.type)=some 231:=by kernel_rfl
 have hc1:Tryz.prog.cellsOf 231=4:=by kernel_rfl
 have hc2:Tryz.prog.cellsOf 9=1:=by kernel_rfl
 obtain rfl:=Option.some.inj (hg0.symm.trans hg);obtain rfl:=Option.some.inj (ht0.symm.trans ht)
 have key:cs=#[.string ⟨#[]⟩,.string ⟨#[99,117,114,118,101,50,53,53,49,57,45,115,104,97,50,53,54]⟩,.string ⟨#[101,99,100,104,45,115,104,97,50,45,110,105,115,116,112,50,53,54]⟩,.string ⟨#[100,105,102,102,105,101,45,104,101,108,108,109,97,110,45,103,114,111,117,112,45,101,120,99,104,97,110,103,101,45,115,104,97,50,53,54]⟩]:=by
  obtain ⟨l⟩:=cs
  cases fuel with
  | zero=>simp [DataW.trod] at hd
  | succ fuel =>
   simp only [DataW.trod,Tryz.underlying231,hc1,hc2] at hd
   split at hd
   ·rename_i hl
    obtain ⟨c0,c1,c2,c3,rfl⟩:∃c0 c1 c2 c3,l=[c0,c1,c2,c3]:=by
     match l,hl with
     | [x0,x1,x2,x3],_=>exact ⟨x0,x1,x2,x3,rfl⟩
    have e:List.range 4=[0,1,2,3]:=rfl;rw [e] at hd;simp only [Option.map_eq_some_iff,List.mapM_cons,List.mapM_nil,Option.bind_eq_bind,Option.bind_eq_some_iff,Option.pure_def,Option.some.injEq] at hd;obtain ⟨xs,⟨y0,h0,_,⟨y1,h1,_,⟨y2,h2,_,⟨y3,h3,_,rfl,rfl⟩,rfl⟩,rfl⟩,rfl⟩,hx⟩:=hd;obtain ⟨n0,rfl,rfl⟩:=bL h0;obtain ⟨n1,rfl,rfl⟩:=bL h1;obtain ⟨n2,rfl,rfl⟩:=bL h2;obtain ⟨n3,rfl,rfl⟩:=bL h3;simp [Rows.laid_shibboleth_prefs_methods] at hx;obtain ⟨⟨e0,e1,e2,e3⟩,_⟩:=hx;rw [show n0=⟨#[]⟩ from by cases n0;simpa using e0,cO e1,cO e2,cO e3]
   ·cases hd
 subst key;have hv:=fun i=>World.var?_cell hg0 hvar i
 exact ⟨by simpa using hv 0,by simpa using hv 1,by simpa using hv 2,by simpa using hv 3⟩
theorem PV {W:World} (h:Lib.VarReads Tryz.prog W "shibboleth/prefs.words" Rows.laid_shibboleth_prefs_words):gJ W:=by
 obtain ⟨g,t,cs,fuel,p,hg,ht,hvar,hd⟩:=h;have hg0:Tryz.prog.globalNamed "shibboleth/prefs.words" = some 2:=by kernel_rfl
 have ht0:(Tryz.prog.globals[2]?).map (·.type)=some 352:=by kernel_rfl
 have hc1:Tryz.prog.cellsOf 352=8:=by kernel_rfl
 have hc2:Tryz.prog.cellsOf 9=1:=by kernel_rfl
 obtain rfl:=Option.some.inj (hg0.symm.trans hg);obtain rfl:=Option.some.inj (ht0.symm.trans ht)
 have key:cs=#[.string ⟨#[107,101,120]⟩,.string ⟨#[104,111,115,116]⟩,.string ⟨#[101,110,99,45,99]⟩,.string ⟨#[101,110,99,45,115]⟩,.string ⟨#[109,97,99,45,99]⟩,.string ⟨#[109,97,99,45,115]⟩,.string ⟨#[99,111,109,112,45,99]⟩,.string ⟨#[99,111,109,112,45,115]⟩]:=by
  obtain ⟨l⟩:=cs
  cases fuel with
  | zero=>simp [DataW.trod] at hd
  | succ fuel =>
   simp only [DataW.trod,Tryz.underlying352,hc1,hc2] at hd
   split at hd
   ·rename_i hl
    obtain ⟨c0,c1,c2,c3,c4,c5,c6,c7,rfl⟩:∃c0 c1 c2 c3 c4 c5 c6 c7,l=[c0,c1,c2,c3,c4,c5,c6,c7]:=by
     match l,hl with
     | [x0,x1,x2,x3,x4,x5,x6,x7],_=>exact ⟨x0,x1,x2,x3,x4,x5,x6,x7,rfl⟩
    have e:List.range 8=[0,1,2,3,4,5,6,7]:=rfl;rw [e] at hd;simp only [Option.map_eq_some_iff,List.mapM_cons,List.mapM_nil,Option.bind_eq_bind,Option.bind_eq_some_iff,Option.pure_def,Option.some.injEq] at hd;obtain ⟨xs,⟨y0,h0,_,⟨y1,h1,_,⟨y2,h2,_,⟨y3,h3,_,⟨y4,h4,_,⟨y5,h5,_,⟨y6,h6,_,⟨y7,h7,_,rfl,rfl⟩,rfl⟩,rfl⟩,rfl⟩,rfl⟩,rfl⟩,rfl⟩,rfl⟩,hx⟩:=hd;obtain ⟨n0,rfl,rfl⟩:=bL h0;obtain ⟨n1,rfl,rfl⟩:=bL h1;obtain ⟨n2,rfl,rfl⟩:=bL h2;obtain ⟨n3,rfl,rfl⟩:=bL h3;obtain ⟨n4,rfl,rfl⟩:=bL h4;obtain ⟨n5,rfl,rfl⟩:=bL h5;obtain ⟨n6,rfl,rfl⟩:=bL h6;obtain ⟨n7,rfl,rfl⟩:=bL h7;simp [Rows.laid_shibboleth_prefs_words] at hx;obtain ⟨⟨e0,e1,e2,e3,e4,e5,e6,e7⟩,_⟩:=hx;rw [cO e0,cO e1,cO e2,cO e3,cO e4,cO e5,cO e6,cO e7]
   ·cases hd
 subst key;have hv:=fun i=>World.var?_cell hg0 hvar i
 exact ⟨by simpa using hv 0,by simpa using hv 1,by simpa using hv 2,by simpa using hv 3,by simpa using hv 4,by simpa using hv 5,by simpa using hv 6,by simpa using hv 7⟩
end Go.Proofs.YtnhekaepgpbijaaGreatDoor
namespace Go.Proofs.YtnhekaepgpbijaaGreatDoor
open Go.RowKit Go.ChangeShapes
theorem vK {H:Type} {enc:TypeId × Value→H} {a:Assume} {C:Checked} {os:Os} {f:FuncId} {fn:Func} {s:ChangeSpec} {cs:List PathCond} {x1 x2 x3 x4:Bool} {X:World→Array Value→Prop}
  (hX:∀(w w':World) (args:Array Value),w.heap=w'.heap→X w args→X w' args) (own:ownKnob C.prog.godebug=none) (started:os.Started) (ni:C.prog.inits.idxOf? f=none) (hfn:C.prog.funcs[f]?=some fn)
  (wit:∃(w:World) (tape:Tape) (i:Input),w.os=os∧(w.forCall tape i).Shaped C.prog∧i.vars=[]∧Input.okWide C.prog (w.forCall tape i) .any w.heap.size f i ∧
   ((s.pre enc C.prog fn cs x1 (w.forCall tape i).memory i.args∧X (w.forCall tape i).memory i.args)∧sizedMet enc C.prog fn (OpenSpec.ofChange s) x1 (w.forCall tape i).memory i.args)∧a.holds C.prog (lone (Frame.enter C.prog f i.args .normal) [] (w.forCall tape i)))
  (con:∀(W:World) (base:Nat) (args:Array Value) (ds gs:List (DataW H)) (before:List MemPlace),(∀(j:Nat) t v,fn.params[j]?=some t→args[j]?=some v→Value.okWide C.prog W .any base t v) →
   DataW.Whole enc C.prog fn.params.toList s.vars x1 W args.toList ds gs before→X W args→W.ShapedOpen C.prog →
   Calls C.prog f args W fun e W'=>∃v,e=.returned v∧s.post enc C.prog fn x1 x2 x3 x4 W args v W') :
  ReturnsInHanded a C os f .any (fun w args=>(s.pre enc C.prog fn cs x1 w args∧X w args)∧sizedMet enc C.prog fn (OpenSpec.ofChange s) x1 w args) (s.post enc C.prog fn x1 x2 x3 x4) :=
 returnsInHanded_of_calls own started ni wit fun w tape i _ hsh _ hok hpre _=>by
  obtain ⟨_,_,_,fn2,h2,_,_,_,_,hval⟩:=hok;obtain rfl:fn2=fn:=Option.some.inj (h2.symm.trans hfn);obtain ⟨ds,gs,before,hw,_⟩:=hpre.1.1;have key:=con (w.forCall tape i) w.heap.size i.args ds gs before hval (DataW.Whole.of_heap (w':=w.forCall tape i) (by rfl) hw) (hX _ _ _ (by rfl) hpre.1.2) hsh;refine key.mono fun e W' he=>?_
  obtain ⟨v,rfl,hp⟩:=he;exact ChangeSpec.post_blind hp
theorem Pb {W:World} (h:W.ShapedOpen Tryz.prog):jq W :=
 cell_of_shapedOpen_int (g:=4) (t:=3) (zero:=#[.int .i64 0]) h (by decide +kernel) (by kernel_rfl) rfl (by kernel_rfl) (by kernel_rfl) Tryz.underlying3
end Go.Proofs.YtnhekaepgpbijaaGreatDoor
namespace Go.Proofs.YtnhekaepgpbijaaGreatDoor
open Go.ChangeShapes Go.WideShapes Go.ChangeAt Go.RowKit
def mZ:List (String × DataW Unit):=[("math/bits.deBruijn32tab",Rows.laid_math_bits_deBruijn32tab),("math/bits.deBruijn64tab",Rows.laid_math_bits_deBruijn64tab),("internal/strconv.uint64pow10",Rows.laid_internal_strconv_uint64pow10),("unicode/utf8.acceptRanges",Rows.laid_unicode_utf8_acceptRanges),("shibboleth/prefs.methods",Rows.laid_shibboleth_prefs_methods),("shibboleth/prefs.words",Rows.laid_shibboleth_prefs_words),("unicode/utf8.first",Rows.laid_unicode_utf8_first)]
def Q0:List (String × DataW Unit):=[("errors.errorType",Rows.laid_errors_errorType)]
def QZ:List (String × DataW Unit):=[("math/bits.deBruijn32tab",Rows.laid_math_bits_deBruijn32tab),("math/bits.deBruijn64tab",Rows.laid_math_bits_deBruijn64tab),("internal/strconv.uint64pow10",Rows.laid_internal_strconv_uint64pow10),("unicode/utf8.acceptRanges",Rows.laid_unicode_utf8_acceptRanges),("errors.errorType",Rows.laid_errors_errorType),("shibboleth/prefs.methods",Rows.laid_shibboleth_prefs_methods),("shibboleth/prefs.words",Rows.laid_shibboleth_prefs_words),("unicode/utf8.first",Rows.laid_unicode_utf8_first)]
theorem SX:Tryz.prog.globalNamed "errors.errorType" = some 1:=by kernel_rfl
theorem TA:(Tryz.prog.cutTypes.find? (·.1 == "internal/reflectlite.rtype")).map (·.2)=some 331:=by kernel_rfl
theorem Qp:Tryz.prog.types.size=427:=by kernel_rfl
theorem IB:((List.range 427).filter fun t=>Tryz.prog.rowNamed t [101,114,114,111,114])=[41]:=by kernel_rfl
theorem DY {W:World} (h:laidMetH Tryz.prog QZ W):laidMet Tryz.prog mZ W∧handlesMet Tryz.prog Q0 W:=h
theorem zL {W:World} (h:handlesMet Tryz.prog Q0 W):Hand W:=by
 obtain ⟨name,u,ty,e1,e2,e3,e4,e5⟩:=h _ (List.mem_singleton.2 rfl);have en:name=[101,114,114,111,114]:=(Option.some.inj e1).symm;subst en;obtain rfl:=Option.some.inj (TA.symm.trans e2);have hm:ty∈(List.range 427).filter fun t=>Tryz.prog.rowNamed t [101,114,114,111,114]:=List.mem_filter.2 ⟨List.mem_range.2 (by rw [←Qp];exact e3),e4⟩
 rw [IB] at hm;obtain rfl:=List.mem_singleton.1 hm;have hh:typeHandle Tryz.prog 41=.pointer (some ⟨9,41,none⟩):=by kernel_rfl
 rw [hh] at e5;unfold Hand;simpa using World.var?_cell SX e5 0
noncomputable def QO (os:Os):World :=
 let w0:=World.holding Tryz.prog os ⟨#[],#[],[]⟩
 { w0 with heap:=w0.heap.modify 1 fun
   | .cells _ t frozen=>.cells #[.iface 331 (.agg #[.pointer (some ⟨9,41,none⟩)])] t frozen
   | o=>o }
noncomputable def kI (os:Os):World:=(QO os).layVars Tryz.prog mZ
theorem yX (os:Os):(kI os).os=os:=(World.layVars_os _ _ _).trans rfl
theorem qm (os:Os):(kI os).Shaped Tryz.prog:=World.shaped_of_ZipB (by kernel_rfl) (by kernel_rfl)
theorem GZ (os:Os):laidMet Tryz.prog mZ (kI os):=by
 have e1:(mZ.filter fun x=>(mZ.map (·.1)).contains x.1)=mZ:=List.filter_eq_self.2 fun x hx=>List.contains_iff_mem.2 (List.mem_map.2 ⟨x,hx,rfl⟩)
 have e2:(mZ.filter fun x=>!(mZ.map (·.1)).contains x.1)=[]:=List.filter_eq_nil_iff.2 fun x hx=>by rw [List.contains_iff_mem.2 (List.mem_map.2 ⟨x,hx,rfl⟩)];simp
 exact laidMet_layVars (w0:=QO os) (mZ.map (·.1)) [] (by rw [e1];rfl) (by rw [e1];kernel_rfl) (by rw [e1];kernel_rfl) (by rw [e2];exact LaidIn.none)
theorem vL (os:Os) (args:Array Value):laidMetH Tryz.prog QZ ((kI os).forCall (fun _ _=>0) ⟨#[],args,[]⟩).memory :=
 laidMetH_of_parts ((GZ os).of_heap (by simp [World.memory,World.forCall,Input.heap])) (by kernel_rfl)
end Go.Proofs.YtnhekaepgpbijaaGreatDoor
namespace Go.Proofs.YtnhekaepgpbijaaGreatDoor
open Go.ChangeShapes Go.WideShapes Go.ChangeAt Go.RowKit Go.Sort
theorem nR:(Rows.authcTriesRow.inPlace == Tryz.pinned.checked.prog.inPlace 5)=true:=by kernel_rfl
theorem nT:(Rows.authcTriesRow.named == Tryz.pinned.checked.prog.varsNamed 5)=true:=by kernel_rfl
theorem sV:Rows.authcTriesRow.wfByText (OpenSpec.ofChange Rows.authcTriesSpec)=true:=by kernel_rfl
theorem rE:Tryz.pinned.checked.prog.mainIs=some (Rows.authcTriesCard.stood.harness.1,Rows.authcTriesCard.stood.harness.2.toList):=by kernel_rfl
theorem qI:true=Tryz.pinned.checked.prog.looks []:=by kernel_rfl
theorem nH:(Rows.authcTriesRow.unfollowed == Tryz.pinned.checked.prog.unfollowed 5)=true:=by kernel_rfl
theorem nM:(Rows.authcTriesRow.recurses == Tryz.pinned.checked.prog.recurses 5)=true:=by kernel_rfl
theorem qi:Tryz.prog.funcNamed Rows.authcTriesRow.func=some 5:=by kernel_rfl
theorem Kg:false=Rows.authcTriesRow.goesBy Tryz.pinned.checked.prog:=by kernel_rfl
end Go.Proofs.YtnhekaepgpbijaaGreatDoor

/-
  Several of my texts in one: AsQ, As.
-/
import Derived.Test.YtkfnepnghnicoaaGreatDoorKMkrG
import Derived.LaidEql
import Derived.Stop.Asserts
import Derived.RowKitTokens
set_option linter.unusedVariables false
set_option linter.unusedSimpArgs false
set_option maxHeartbeats 40000000
set_option maxRecDepth 100000
namespace Go.Proofs.YtkfnepnghnicoaaGreatDoor
open Go.RowKit Go.Extern.Stop Go.Stop Go.Extern
theorem q_valueOfFF (t:Addr) (w:World):(ReflectliteValue.unpack (.iface 197 (.pointer (some t)))).run Tryz.prog w=.ok (.agg #[.pointer (some ⟨9,197,none⟩),.pointer (some ⟨w.heap.size,0,none⟩),.int .u64 150]) (w.alloc (.cells #[.pointer (some t)] 197)):=by kernel_rfl
theorem q_valueOfEE (t:Addr) (w:World):(ReflectliteValue.unpack (.iface 198 (.pointer (some t)))).run Tryz.prog w=.ok (.agg #[.pointer (some ⟨9,198,none⟩),.pointer (some ⟨w.heap.size,0,none⟩),.int .u64 150]) (w.alloc (.cells #[.pointer (some t)] 198)):=by kernel_rfl
theorem q_valueOfF (t:Addr) (w:World):(ReflectliteValue.unpack (.iface 135 (.pointer (some t)))).run Tryz.prog w=.ok (.agg #[.pointer (some ⟨9,135,none⟩),.pointer (some ⟨w.heap.size,0,none⟩),.int .u64 150]) (w.alloc (.cells #[.pointer (some t)] 135)):=by kernel_rfl
theorem q_valueOfE (k:Int) (w:World):(ReflectliteValue.unpack (.iface 42 (.int .i64 k))).run Tryz.prog w=.ok (.agg #[.pointer (some ⟨9,42,none⟩),.pointer (some ⟨w.heap.size,0,none⟩),.int .u64 130]) (w.alloc (.cells #[.int .i64 k] 42)):=by kernel_rfl
theorem q_typeFF (a:Addr) (w:World):(ReflectliteValue.methodAny (ReflectliteValue.valueError "reflectlite.Value.Type" 0) (fun t _ _ _=>ReflectliteType.toType t) #[.agg #[.pointer (some ⟨9,197,none⟩),.pointer (some a),.int .u64 150]]).run Tryz.prog w=.ok (.iface 286 (.agg #[.pointer (some ⟨9,197,none⟩)])) (w):=by kernel_rfl
theorem q_typeEE (a:Addr) (w:World):(ReflectliteValue.methodAny (ReflectliteValue.valueError "reflectlite.Value.Type" 0) (fun t _ _ _=>ReflectliteType.toType t) #[.agg #[.pointer (some ⟨9,198,none⟩),.pointer (some a),.int .u64 150]]).run Tryz.prog w=.ok (.iface 286 (.agg #[.pointer (some ⟨9,198,none⟩)])) (w):=by kernel_rfl
theorem q_mKind (h:Value) (w:World):(Go.method 489 286 (.agg #[h]) "Kind").run Tryz.prog w=.ok (331,h) (w):=by kernel_rfl
theorem q_mElem (h:Value) (w:World):(Go.method 489 286 (.agg #[h]) "Elem").run Tryz.prog w=.ok (344,.agg #[h]) (w):=by kernel_rfl
theorem q_mImpl (h:Value) (w:World):(Go.method 489 286 (.agg #[h]) "Implements").run Tryz.prog w=.ok (345,.agg #[h]) (w):=by kernel_rfl
theorem q_mAss (h:Value) (w:World):(Go.method 489 286 (.agg #[h]) "AssignableTo").run Tryz.prog w=.ok (342,.agg #[h]) (w):=by kernel_rfl
theorem q_kindFF (w:World):((ReflectliteType.abiMethod fun t=>(fun a:Nat=>Value.int IntKind.u8 (a:Int)) <$> Rtype.kind t) #[.pointer (some ⟨9,197,none⟩)]).run Tryz.prog w=.ok (.int .u8 22) (w):=by kernel_rfl
theorem q_kindEE (w:World):((ReflectliteType.abiMethod fun t=>(fun a:Nat=>Value.int IntKind.u8 (a:Int)) <$> Rtype.kind t) #[.pointer (some ⟨9,198,none⟩)]).run Tryz.prog w=.ok (.int .u8 22) (w):=by kernel_rfl
theorem q_kindF (w:World):((ReflectliteType.abiMethod fun t=>(fun a:Nat=>Value.int IntKind.u8 (a:Int)) <$> Rtype.kind t) #[.pointer (some ⟨9,135,none⟩)]).run Tryz.prog w=.ok (.int .u8 22) (w):=by kernel_rfl
theorem q_kindE (w:World):((ReflectliteType.abiMethod fun t=>(fun a:Nat=>Value.int IntKind.u8 (a:Int)) <$> Rtype.kind t) #[.pointer (some ⟨9,42,none⟩)]).run Tryz.prog w=.ok (.int .u8 2) (w):=by kernel_rfl
theorem q_elemFF (w:World):(ReflectliteType.method ReflectliteType.elem #[.agg #[.pointer (some ⟨9,197,none⟩)]]).run Tryz.prog w=.ok (.iface 286 (.agg #[.pointer (some ⟨9,135,none⟩)])) (w):=by kernel_rfl
theorem q_elemEE (w:World):(ReflectliteType.method ReflectliteType.elem #[.agg #[.pointer (some ⟨9,198,none⟩)]]).run Tryz.prog w=.ok (.iface 286 (.agg #[.pointer (some ⟨9,42,none⟩)])) (w):=by kernel_rfl
theorem q_implF (w:World):(ReflectliteType.relation "Implements" ReflectliteType.implements_ #[.agg #[.pointer (some ⟨9,135,none⟩)],.iface 286 (.agg #[.pointer (some ⟨9,40,none⟩)])]).run Tryz.prog w=.ok (.bool true) (w):=by kernel_rfl
theorem q_typeOfF (v:Value) (w:World):(ReflectliteType.typeOf #[.iface 135 v]).run Tryz.prog w=.ok (.iface 286 (.agg #[.pointer (some ⟨9,135,none⟩)])) (w):=by kernel_rfl
theorem q_implE (w:World):(ReflectliteType.relation "Implements" ReflectliteType.implements_ #[.agg #[.pointer (some ⟨9,42,none⟩)],.iface 286 (.agg #[.pointer (some ⟨9,40,none⟩)])]).run Tryz.prog w=.ok (.bool true) (w):=by kernel_rfl
theorem q_typeOfE (v:Value) (w:World):(ReflectliteType.typeOf #[.iface 42 v]).run Tryz.prog w=.ok (.iface 286 (.agg #[.pointer (some ⟨9,42,none⟩)])) (w):=by kernel_rfl
theorem q_assFF (w:World):(ReflectliteType.relation "AssignableTo" ReflectliteType.assignableTo #[.agg #[.pointer (some ⟨9,135,none⟩)],.iface 286 (.agg #[.pointer (some ⟨9,135,none⟩)])]).run Tryz.prog w=.ok (.bool true) (w):=by kernel_rfl
theorem q_assFE (w:World):(ReflectliteType.relation "AssignableTo" ReflectliteType.assignableTo #[.agg #[.pointer (some ⟨9,135,none⟩)],.iface 286 (.agg #[.pointer (some ⟨9,42,none⟩)])]).run Tryz.prog w=.ok (.bool false) (w):=by kernel_rfl
theorem q_assEF (w:World):(ReflectliteType.relation "AssignableTo" ReflectliteType.assignableTo #[.agg #[.pointer (some ⟨9,42,none⟩)],.iface 286 (.agg #[.pointer (some ⟨9,135,none⟩)])]).run Tryz.prog w=.ok (.bool false) (w):=by kernel_rfl
theorem q_assEE (w:World):(ReflectliteType.relation "AssignableTo" ReflectliteType.assignableTo #[.agg #[.pointer (some ⟨9,42,none⟩)],.iface 286 (.agg #[.pointer (some ⟨9,42,none⟩)])]).run Tryz.prog w=.ok (.bool true) (w):=by kernel_rfl
theorem q_partsFF (a:Addr) (w:World):(ReflectliteValue.parts (.agg #[.pointer (some ⟨9,197,none⟩),.pointer (some a),.int .u64 150])).run Tryz.prog w=.ok (some (197,a,150)) (w):=by kernel_rfl
theorem q_partsEE (a:Addr) (w:World):(ReflectliteValue.parts (.agg #[.pointer (some ⟨9,198,none⟩),.pointer (some a),.int .u64 150])).run Tryz.prog w=.ok (some (198,a,150)) (w):=by kernel_rfl
theorem q_partsF (a:Addr) (w:World):(ReflectliteValue.parts (.agg #[.pointer (some ⟨9,135,none⟩),.pointer (some a),.int .u64 150])).run Tryz.prog w=.ok (some (135,a,150)) (w):=by kernel_rfl
theorem q_partsFa (a:Addr) (w:World):(ReflectliteValue.parts (.agg #[.pointer (some ⟨9,135,none⟩),.pointer (some a),.int .u64 406])).run Tryz.prog w=.ok (some (135,a,406)) (w):=by kernel_rfl
theorem q_partsE (a:Addr) (w:World):(ReflectliteValue.parts (.agg #[.pointer (some ⟨9,42,none⟩),.pointer (some a),.int .u64 130])).run Tryz.prog w=.ok (some (42,a,130)) (w):=by kernel_rfl
theorem q_partsEa (a:Addr) (w:World):(ReflectliteValue.parts (.agg #[.pointer (some ⟨9,42,none⟩),.pointer (some a),.int .u64 386])).run Tryz.prog w=.ok (some (42,a,386)) (w):=by kernel_rfl
theorem q_elemOfF (w:World):(Rtype.elem? 197).run Tryz.prog w=.ok (some 135) (w):=by kernel_rfl
theorem q_mkF (p:Addr) (w:World):(ReflectliteValue.mk 135 p ReflectliteValue.flagAddr).run Tryz.prog w=.ok (.agg #[.pointer (some ⟨9,135,none⟩),.pointer (some p),.int .u64 406]) (w):=by kernel_rfl
theorem q_directF (w:World):(Rtype.directlyAssignable 135 135).run Tryz.prog w=.ok (true) (w):=by kernel_rfl
theorem q_elemOfE (w:World):(Rtype.elem? 198).run Tryz.prog w=.ok (some 42) (w):=by kernel_rfl
theorem q_mkE (p:Addr) (w:World):(ReflectliteValue.mk 42 p ReflectliteValue.flagAddr).run Tryz.prog w=.ok (.agg #[.pointer (some ⟨9,42,none⟩),.pointer (some p),.int .u64 386]) (w):=by kernel_rfl
theorem q_directE (w:World):(Rtype.directlyAssignable 42 42).run Tryz.prog w=.ok (true) (w):=by kernel_rfl
theorem rlm (z:Sem Value) (f:TypeId→Addr→Nat→Nat→Sem Value) (v:Value) :
  ReflectliteValue.method z f #[v]=(do match←ReflectliteValue.parts v with | none=>z | some (t,a,fl)=>f t a fl (fl % 32)):=rfl
theorem rls (v x:Value):ReflectliteValue.set #[v,x]=(do
  let (some (dst,a,fl),some (src,b,_)):=(← ReflectliteValue.parts v,← ReflectliteValue.parts x)
   | unsupported (.noEntry "extern/(internal/reflectlite.Value).Set.zeroValue")
  if fl / ReflectliteValue.flagAddr % 2 == 0 then unsupported (.noEntry "extern/(internal/reflectlite.Value).Set.unaddressable")
  let val←loadVar src b
  if←Rtype.directlyAssignable dst src then storeVar dst a val
  else if←Rtype.implements dst src then
   if (← Rtype.kind src) == 20 then
    match val with
    | .nilIface=>unsupported (.noEntry "extern/reflectlite: a nil value of one interface type handed on as a value of another")
    | _=>storeVar dst a val
   else storeVar dst a (.iface src val)
  else panicString ("reflectlite.Set: value of type " ++ (← Rtype.spelt src) ++ " is not assignable to type " ++ (← Rtype.spelt dst))
  pure (.tuple #[])):=rfl
theorem q_isNilF (a p:Addr) (W:World) (ha:W.cell? a=some (.pointer (some p))) :
  (ReflectliteValue.method (ReflectliteValue.valueError "reflectlite.Value.IsNil" 0) ReflectliteValue.isNil #[.agg #[.pointer (some ⟨9,197,none⟩),.pointer (some a),.int .u64 150]]).run Tryz.prog W=.ok (.bool false) W:=by
 rw [rlm]
 simp only [Sem.run_bind,q_partsFF,Result.andThen]
 simp [ReflectliteValue.isNil,loadVar,isAgg,underlying,Tryz.underlying197,ha,Result.andThen]
theorem q_elemVF (a p:Addr) (W:World) (ha:W.cell? a=some (.pointer (some p))) :
  (ReflectliteValue.method (ReflectliteValue.valueError "reflectlite.Value.Elem" 0) ReflectliteValue.elem #[.agg #[.pointer (some ⟨9,197,none⟩),.pointer (some a),.int .u64 150]]).run Tryz.prog W
   = .ok (.agg #[.pointer (some ⟨9,135,none⟩),.pointer (some p),.int .u64 406]) W:=by
 rw [rlm]
 simp only [Sem.run_bind,q_partsFF,Result.andThen]
 simp [ReflectliteValue.elem,loadVar,isAgg,underlying,Tryz.underlying197,ha,Result.andThen,q_elemOfF,q_mkF]
theorem q_isNilE (a p:Addr) (W:World) (ha:W.cell? a=some (.pointer (some p))) :
  (ReflectliteValue.method (ReflectliteValue.valueError "reflectlite.Value.IsNil" 0) ReflectliteValue.isNil #[.agg #[.pointer (some ⟨9,198,none⟩),.pointer (some a),.int .u64 150]]).run Tryz.prog W=.ok (.bool false) W:=by
 rw [rlm]
 simp only [Sem.run_bind,q_partsEE,Result.andThen]
 simp [ReflectliteValue.isNil,loadVar,isAgg,underlying,Tryz.underlying198,ha,Result.andThen]
theorem q_elemVE (a p:Addr) (W:World) (ha:W.cell? a=some (.pointer (some p))) :
  (ReflectliteValue.method (ReflectliteValue.valueError "reflectlite.Value.Elem" 0) ReflectliteValue.elem #[.agg #[.pointer (some ⟨9,198,none⟩),.pointer (some a),.int .u64 150]]).run Tryz.prog W
   = .ok (.agg #[.pointer (some ⟨9,42,none⟩),.pointer (some p),.int .u64 386]) W:=by
 rw [rlm]
 simp only [Sem.run_bind,q_partsEE,Result.andThen]
 simp [ReflectliteValue.elem,loadVar,isAgg,underlying,Tryz.underlying198,ha,Result.andThen,q_elemOfE,q_mkE]
theorem q_setF (ta b e:Addr) (old:Value) (W:World) (hb:W.cell? b=some (.pointer (some e))) (ht:W.cell? ta=some old) (hf:W.frozen? ta=false) :
  (ReflectliteValue.set #[.agg #[.pointer (some ⟨9,135,none⟩),.pointer (some ta),.int .u64 406],.agg #[.pointer (some ⟨9,135,none⟩),.pointer (some b),.int .u64 150]]).run Tryz.prog W=.ok (.tuple #[]) (W.setCell ta (.pointer (some e))):=by
 rw [rls]
 simp only [Sem.run_bind,q_partsFa,q_partsF,Result.andThen]
 simp [ReflectliteValue.flagAddr,loadVar,isAgg,underlying,Tryz.underlying135,hb,Result.andThen,q_directF,storeVar,Value.cells,storeCells,Addr.add]
 rw [run_store Tryz.prog W ta _ _ (by rfl)]
 simp [ht,hf]
theorem q_setE (ta b:Addr) (k:Int) (old:Value) (W:World) (hb:W.cell? b=some (.int .i64 k)) (ht:W.cell? ta=some old) (hf:W.frozen? ta=false) :
  (ReflectliteValue.set #[.agg #[.pointer (some ⟨9,42,none⟩),.pointer (some ta),.int .u64 386],.agg #[.pointer (some ⟨9,42,none⟩),.pointer (some b),.int .u64 130]]).run Tryz.prog W=.ok (.tuple #[]) (W.setCell ta (.int .i64 k)):=by
 rw [rls]
 simp only [Sem.run_bind,q_partsEa,q_partsE,Result.andThen]
 simp [ReflectliteValue.flagAddr,loadVar,isAgg,underlying,Tryz.underlying42,hb,Result.andThen,q_directE,storeVar,Value.cells,storeCells,Addr.add]
 rw [run_store Tryz.prog W ta _ _ (by rfl)]
 simp [ht,hf]
theorem q_noAsF (v:Value) (xT:TypeId) (w:World):(Instr.typeAssert (.iface 135 v) xT 291 true).run Tryz.prog w=.ok (.tuple #[.nilIface,.bool false]) w:=run_typeAssert_lacksB Tryz.underlying291 (by kernel_rfl) (by kernel_rfl) v xT w
theorem q_noAsE (v:Value) (xT:TypeId) (w:World):(Instr.typeAssert (.iface 42 v) xT 291 true).run Tryz.prog w=.ok (.tuple #[.nilIface,.bool false]) w:=run_typeAssert_lacksB Tryz.underlying291 (by kernel_rfl) (by kernel_rfl) v xT w
theorem q_isUnF (v:Value) (xT:TypeId) (w:World):(Instr.typeAssert (.iface 135 v) xT 294 true).run Tryz.prog w=.ok (.tuple #[.iface 135 v,.bool true]) w:=run_typeAssert_hasB Tryz.underlying294 (by kernel_rfl) v xT w
theorem q_noUnE (v:Value) (xT:TypeId) (w:World):(Instr.typeAssert (.iface 42 v) xT 294 true).run Tryz.prog w=.ok (.tuple #[.nilIface,.bool false]) w:=run_typeAssert_lacksB Tryz.underlying294 (by kernel_rfl) (by kernel_rfl) v xT w
theorem q_noUsE (v:Value) (xT:TypeId) (w:World):(Instr.typeAssert (.iface 42 v) xT 295 true).run Tryz.prog w=.ok (.tuple #[.nilIface,.bool false]) w:=run_typeAssert_lacksB Tryz.underlying295 (by kernel_rfl) (by kernel_rfl) v xT w
theorem q_mUn (e:Addr) (w:World):(Go.method 489 135 (.pointer (some e)) "Unwrap").run Tryz.prog w=.ok (336,.pointer (some e)) (w):=by kernel_rfl
def Hand (w:World):Prop:=w.cell? ⟨1,0,none⟩=some (.iface 286 (.agg #[.pointer (some ⟨9,40,none⟩)]))
theorem Hand.lt {w:World} (h:Hand w):1<w.heap.size:=World.block_lt_of_cell? w ⟨1,0,none⟩ h
theorem Hand.below {w w':World} (h:Hand w) (hb:Below w.heap.size w w'):Hand w':=(hb.cell (p:=⟨1,0,none⟩) h.lt).trans h
section
variable {w : World}
theorem asF_hit (e t:Addr) (old:Value) (hg:Hand w) (ht0:w.cell? t=some old) (hf0:w.frozen? t=false) :
  Calls Tryz.prog 110 #[.iface 135 (.pointer (some e)),.iface 197 (.pointer (some t))] w fun ev w'=>ev=.returned (.bool true)∧∃W,Below w.heap.size w W∧w'=W.setCell t (.pointer (some e)):=by
 have h139:=@run_callFunc_extern Tryz.prog 183 _ (fun args=>ReflectliteValue.unpack (args.getD 0 (.tuple #[]))) Tryz.func183 (by kernel_rfl) (by kernel_rfl) (by kernel_rfl) (by kernel_rfl)
 have h140:=@run_callFunc_extern Tryz.prog 184 _ (ReflectliteValue.methodAny (ReflectliteValue.valueError "reflectlite.Value.Type" 0) (fun t _ _ _=>ReflectliteType.toType t)) Tryz.func184 (by kernel_rfl) (by kernel_rfl) (by kernel_rfl) (by kernel_rfl)
 have h141:=@run_callFunc_extern Tryz.prog 185 _ (ReflectliteValue.method (ReflectliteValue.valueError "reflectlite.Value.IsNil" 0) ReflectliteValue.isNil) Tryz.func185 (by kernel_rfl) (by kernel_rfl) (by kernel_rfl) (by kernel_rfl)
 have h203:=@run_callFunc_extern Tryz.prog 331 _ (ReflectliteType.abiMethod fun t=>do pure (.int .u8 (← Rtype.kind t))) Tryz.func331 (by kernel_rfl) (by kernel_rfl) (by kernel_rfl) (by kernel_rfl)
 have h217:=@run_callFunc_extern Tryz.prog 344 _ (ReflectliteType.method ReflectliteType.elem) Tryz.func344 (by kernel_rfl) (by kernel_rfl) (by kernel_rfl) (by kernel_rfl)
 have h218:=@run_callFunc_extern Tryz.prog 345 _ (ReflectliteType.relation "Implements" ReflectliteType.implements_) Tryz.func345 (by kernel_rfl) (by kernel_rfl) (by kernel_rfl) (by kernel_rfl)
 have h155:=@run_callFunc_extern Tryz.prog 240 _ ReflectliteType.typeOf Tryz.func240 (by kernel_rfl) (by kernel_rfl) (by kernel_rfl) (by kernel_rfl)
 have h215:=@run_callFunc_extern Tryz.prog 342 _ (ReflectliteType.relation "AssignableTo" ReflectliteType.assignableTo) Tryz.func342 (by kernel_rfl) (by kernel_rfl) (by kernel_rfl) (by kernel_rfl)
 have h156:=@run_callFunc_extern Tryz.prog 241 _ (ReflectliteValue.method (ReflectliteValue.valueError "reflectlite.Value.Elem" 0) ReflectliteValue.elem) Tryz.func241 (by kernel_rfl) (by kernel_rfl) (by kernel_rfl) (by kernel_rfl)
 have h157:=@run_callFunc_extern Tryz.prog 242 _ ReflectliteValue.set Tryz.func242 (by kernel_rfl) (by kernel_rfl) (by kernel_rfl) (by kernel_rfl)
 have tO:=q_typeOfF
 have aF:=q_assFF
 have vF:=q_valueOfF
 have f6:=q_valueOfFF
 have f7:=q_typeFF
 have kFF:=q_kindFF
 have kF:=q_kindF
 have eFF:=q_elemFF
 have iF:=q_implF
 have mA:=q_mAss
 have mK:=q_mKind
 have mE:=q_mElem
 have mI:=q_mImpl
 have hlt:=hg.lt
 have htl:t.block<w.heap.size:=by
  rcases Nat.lt_or_ge t.block w.heap.size with h | h
  ·exact h
  ·simp [World.cell?,Array.getElem?_eq_none h] at ht0
 have n8:=q_isNilF ⟨w.heap.size,0,none⟩ t ((w.alloc (.cells #[.pointer (some t)] 197)).alloc (.cells #[.pointer (some ⟨9,197,none⟩),.pointer (some ⟨w.heap.size,0,none⟩),.int .u64 150] 254)) (by simp)
 have hg2:((w.alloc (.cells #[.pointer (some t)] 197)).alloc (.cells #[.pointer (some ⟨9,197,none⟩),.pointer (some ⟨w.heap.size,0,none⟩),.int .u64 150] 254)).cell? ⟨1,0,none⟩=some (.iface 286 (.agg #[.pointer (some ⟨9,40,none⟩)])):=by
  rw [World.cell?_alloc_lt _ _ ⟨1,0,none⟩ (by first | (simp;done) | (simp;omega)),World.cell?_alloc_lt _ _ ⟨1,0,none⟩ hlt];exact hg
 have el:=q_elemVF ⟨w.heap.size,0,none⟩ t (((w.alloc (.cells #[.pointer (some t)] 197)).alloc (.cells #[.pointer (some ⟨9,197,none⟩),.pointer (some ⟨w.heap.size,0,none⟩),.int .u64 150] 254)).alloc (.cells #[.pointer (some ⟨9,197,none⟩),.pointer (some ⟨w.heap.size,0,none⟩),.int .u64 150] 254)) (by rw [World.cell?_alloc_lt _ _ ⟨w.heap.size,0,none⟩ (by simp;omega)];simp)
 have st:=q_setF t ⟨w.heap.size+1+1+1,0,none⟩ e old ((((w.alloc (.cells #[.pointer (some t)] 197)).alloc (.cells #[.pointer (some ⟨9,197,none⟩),.pointer (some ⟨w.heap.size,0,none⟩),.int .u64 150] 254)).alloc (.cells #[.pointer (some ⟨9,197,none⟩),.pointer (some ⟨w.heap.size,0,none⟩),.int .u64 150] 254)).alloc (.cells #[.pointer (some e)] 135))
  (by rw [World.cell?_alloc_at _ _ _ _ (by simp)];rfl)
  (by rw [World.cell?_alloc_lt _ _ t (by simp;omega),World.cell?_alloc_lt _ _ t (by simp;omega),World.cell?_alloc_lt _ _ t (by simp;omega),World.cell?_alloc_lt _ _ t htl];exact ht0)
  (by rw [World.frozen?_alloc_old _ _ t (by simp;omega),World.frozen?_alloc_old _ _ t (by simp;omega),World.frozen?_alloc_old _ _ t (by simp;omega),World.frozen?_alloc_old _ _ t (Nat.ne_of_lt htl)];exact hf0)
 have hbl:Below w.heap.size w ((((w.alloc (.cells #[.pointer (some t)] 197)).alloc (.cells #[.pointer (some ⟨9,197,none⟩),.pointer (some ⟨w.heap.size,0,none⟩),.int .u64 150] 254)).alloc (.cells #[.pointer (some ⟨9,197,none⟩),.pointer (some ⟨w.heap.size,0,none⟩),.int .u64 150] 254)).alloc (.cells #[.pointer (some e)] 135)):=by exact bel_by
 go_enter Tryz.func110,Tryz.ntmps110
 go_wp2
 refine wp_loop_rounds 1 ?_
 rw [rounds_succ]
 go_wp2
 go_ret
 exact ⟨rfl,_,hbl,rfl⟩
theorem asF_miss (k:Int) (t:Addr) (old:Value) (hg:Hand w) (ht0:w.cell? t=some old) :
  Calls Tryz.prog 110 #[.iface 42 (.int .i64 k),.iface 197 (.pointer (some t))] w fun ev w'=>ev=.returned (.bool false)∧Below w.heap.size w w':=by
 have h139:=@run_callFunc_extern Tryz.prog 183 _ (fun args=>ReflectliteValue.unpack (args.getD 0 (.tuple #[]))) Tryz.func183 (by kernel_rfl) (by kernel_rfl) (by kernel_rfl) (by kernel_rfl)
 have h140:=@run_callFunc_extern Tryz.prog 184 _ (ReflectliteValue.methodAny (ReflectliteValue.valueError "reflectlite.Value.Type" 0) (fun t _ _ _=>ReflectliteType.toType t)) Tryz.func184 (by kernel_rfl) (by kernel_rfl) (by kernel_rfl) (by kernel_rfl)
 have h141:=@run_callFunc_extern Tryz.prog 185 _ (ReflectliteValue.method (ReflectliteValue.valueError "reflectlite.Value.IsNil" 0) ReflectliteValue.isNil) Tryz.func185 (by kernel_rfl) (by kernel_rfl) (by kernel_rfl) (by kernel_rfl)
 have h203:=@run_callFunc_extern Tryz.prog 331 _ (ReflectliteType.abiMethod fun t=>do pure (.int .u8 (← Rtype.kind t))) Tryz.func331 (by kernel_rfl) (by kernel_rfl) (by kernel_rfl) (by kernel_rfl)
 have h217:=@run_callFunc_extern Tryz.prog 344 _ (ReflectliteType.method ReflectliteType.elem) Tryz.func344 (by kernel_rfl) (by kernel_rfl) (by kernel_rfl) (by kernel_rfl)
 have h218:=@run_callFunc_extern Tryz.prog 345 _ (ReflectliteType.relation "Implements" ReflectliteType.implements_) Tryz.func345 (by kernel_rfl) (by kernel_rfl) (by kernel_rfl) (by kernel_rfl)
 have h155:=@run_callFunc_extern Tryz.prog 240 _ ReflectliteType.typeOf Tryz.func240 (by kernel_rfl) (by kernel_rfl) (by kernel_rfl) (by kernel_rfl)
 have h215:=@run_callFunc_extern Tryz.prog 342 _ (ReflectliteType.relation "AssignableTo" ReflectliteType.assignableTo) Tryz.func342 (by kernel_rfl) (by kernel_rfl) (by kernel_rfl) (by kernel_rfl)
 have h156:=@run_callFunc_extern Tryz.prog 241 _ (ReflectliteValue.method (ReflectliteValue.valueError "reflectlite.Value.Elem" 0) ReflectliteValue.elem) Tryz.func241 (by kernel_rfl) (by kernel_rfl) (by kernel_rfl) (by kernel_rfl)
 have h157:=@run_callFunc_extern Tryz.prog 242 _ ReflectliteValue.set Tryz.func242 (by kernel_rfl) (by kernel_rfl) (by kernel_rfl) (by kernel_rfl)
 have tO:=q_typeOfE
 have aF:=q_assEF
 have f6:=q_valueOfFF
 have f7:=q_typeFF
 have kFF:=q_kindFF
 have kF:=q_kindF
 have eFF:=q_elemFF
 have iF:=q_implF
 have n1:=q_noAsE
 have n2:=q_noUnE
 have n3:=q_noUsE
 have mA:=q_mAss
 have mK:=q_mKind
 have mE:=q_mElem
 have mI:=q_mImpl
 have hlt:=hg.lt
 have htl:t.block<w.heap.size:=by
  rcases Nat.lt_or_ge t.block w.heap.size with h | h
  ·exact h
  ·simp [World.cell?,Array.getElem?_eq_none h] at ht0
 have n8:=q_isNilF ⟨w.heap.size,0,none⟩ t ((w.alloc (.cells #[.pointer (some t)] 197)).alloc (.cells #[.pointer (some ⟨9,197,none⟩),.pointer (some ⟨w.heap.size,0,none⟩),.int .u64 150] 254)) (by simp)
 have hg2:((w.alloc (.cells #[.pointer (some t)] 197)).alloc (.cells #[.pointer (some ⟨9,197,none⟩),.pointer (some ⟨w.heap.size,0,none⟩),.int .u64 150] 254)).cell? ⟨1,0,none⟩=some (.iface 286 (.agg #[.pointer (some ⟨9,40,none⟩)])):=by
  rw [World.cell?_alloc_lt _ _ ⟨1,0,none⟩ (by first | (simp;done) | (simp;omega)),World.cell?_alloc_lt _ _ ⟨1,0,none⟩ hlt];exact hg
 have el:=q_elemVF ⟨w.heap.size,0,none⟩ t (((w.alloc (.cells #[.pointer (some t)] 197)).alloc (.cells #[.pointer (some ⟨9,197,none⟩),.pointer (some ⟨w.heap.size,0,none⟩),.int .u64 150] 254)).alloc (.cells #[.pointer (some ⟨9,197,none⟩),.pointer (some ⟨w.heap.size,0,none⟩),.int .u64 150] 254)) (by rw [World.cell?_alloc_lt _ _ ⟨w.heap.size,0,none⟩ (by simp;omega)];simp)
 have hbl:Below w.heap.size w (((w.alloc (.cells #[.pointer (some t)] 197)).alloc (.cells #[.pointer (some ⟨9,197,none⟩),.pointer (some ⟨w.heap.size,0,none⟩),.int .u64 150] 254)).alloc (.cells #[.pointer (some ⟨9,197,none⟩),.pointer (some ⟨w.heap.size,0,none⟩),.int .u64 150] 254)):=by exact bel_by
 go_enter Tryz.func110,Tryz.ntmps110
 go_wp2
 refine wp_loop_rounds 1 ?_
 rw [rounds_succ]
 go_wp2
 go_ret
 exact ⟨rfl,hbl⟩
end
end Go.Proofs.YtkfnepnghnicoaaGreatDoor

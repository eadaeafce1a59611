/- Proves for the statement AvssNamesCardSaid, under no other condition than the statement's own, that the card avssNames holds of the program. Part 17. -/
import Derived.Test.YtkdfjkdphdfclaaGreatDoorZ16
import Derived.Test.YtkdfjkdphdfclaaGreatDoorCards
import Derived.Test.YtkdfjkdphdfclaaGreatDoorTie
import Derived.Deep.DeepHandedRow
import Derived.Lib.LaidTab
import Derived.Stop.LaidErr
set_option maxRecDepth 100000
set_option maxHeartbeats 16000000
set_option linter.unusedVariables false
set_option linter.unusedSimpArgs false
namespace Go.Proofs.YtkdfjkdphdfclaaGreatDoor
namespace avssNames
open Go.ChangeShapes Go.WideShapes Go.ChangeAt Go.RowKit
theorem own:ownKnob Tryz.prog.godebug=none:=by kernel_rfl
theorem gA:Tryz.prog.globalNamed "math/bits.deBruijn64tab" =some 1:=by kernel_rfl
theorem gB:Tryz.prog.globalNamed "consistory/mod.tried" =some 0:=by kernel_rfl
theorem tA:(Tryz.prog.globals[1]?).map (·.type)=some 237:=by kernel_rfl
theorem tB:(Tryz.prog.globals[0]?).map (·.type)=some 206:=by kernel_rfl
theorem cA:Tryz.prog.cellsOf 237=64:=by kernel_rfl
theorem cB:Tryz.prog.cellsOf 206=12:=by kernel_rfl
theorem c8:Tryz.prog.cellsOf 5=1:=by kernel_rfl
theorem c64:Tryz.prog.cellsOf 22=1:=by kernel_rfl
theorem DB{W:World}(h:laidMetH Tryz.prog Rows.avssNamesRow.laid W):zK W:=by
 have h1:laidMet Tryz.prog Rows.avssNamesRow.laid W:=h;have a:=Lib.tabIs_of_head (zs:= [0,1,56,2,57,49,28,3,61,58,42,50,38,29,17,4,62,47,59,36,45,43,51,22,53,39,33,30,24,18,12,5,63,55,48,27,60,41,37,16,46,35,44,21,52,32,23,11,54,26,40,15,34,20,31,10,25,14,19,9,13,8,7,6]) gA tA Tryz.underlying237 Tryz.underlying5 c8 cA h1;have b:=Lib.tabIs_of_head (rest:= []) (zs:=yH) gB tB Tryz.underlying206 Tryz.underlying22 c64 cB (laidMet.tail h1);exact ⟨fun j hj=>by rw [a.cell gA j hj];exact congrArg (fun z=>some (Value.int .u8 z)) (DC j hj),fun j hj=>b.cell gB j hj⟩
theorem walk(w:World)(hT:zK w):
  Calls Tryz.prog 6 #[] w fun e w'=>e= .returned (.bool true)∧Below w.heap.size w w':=
 (TK w hT).mono fun _ _ ⟨he,hg⟩=>⟨he,zy hg⟩
theorem Il(H:Type)(enc:TypeId×Value→H)(W:World)(base:Nat)(args:Array Value)(ds gs:List (DataW H))(before:List MemPlace)
  (hval: ∀(j:Nat) t v,Tryz.f6.params[j]? =some t→args[j]? =some v→Value.okWide Tryz.prog W .any base t v)
  (hW:DataW.Whole enc Tryz.prog Tryz.f6.params.toList Rows.avssNamesSpec.vars false W args.toList ds gs before) (hL:laidMetH Tryz.prog Rows.avssNamesRow.laid W)
  (hZ:(DataW.weightsEach Tryz.prog (Tryz.f6.params.toList++(OpenSpec.ofChange Rows.avssNamesSpec).bare.plain.varTypes Tryz.prog) (ds++gs)).all (· ≤reachBytes)=true):
  Calls Tryz.prog 6 args W fun e W'=> ∃v,e= .returned v∧Rows.avssNamesSpec.post enc Tryz.prog Tryz.f6 false true false false W args v W':=by
 have hW':=hW;obtain ⟨p,q,hA0,hV,rfl,hfz,hnd⟩:=hW;have hA:DataW.TrodAll enc Tryz.prog W 0 (fun _=>true) true Tryz.f6.params.toList args.toList ds p:=hA0;rw [Tryz.params6] at hA hval hZ;obtain ⟨hargs,rfl,rfl⟩:=trodAll_nil hA;obtain rfl:args= #[]:=by cases args;simp_all
 obtain ⟨rfl,rfl⟩:=trodVars_none hV;clear hA0;refine (walk W (DB hL)).mono fun e W' ⟨he,bel⟩=> ?_
 subst he;exact ⟨_,rfl,_,_,_, [],_, [],hW',trodAll_mk1 (shut_bool Tryz.underlying4 _),trodAll_mk0,rfl,bel.frame _,fun h=>by cases h⟩
noncomputable def VM(os:Os):World:=
 {World.holding Tryz.prog os ⟨#[], #[], []⟩ with heap:=((World.holding Tryz.prog os ⟨#[], #[], []⟩).heap.modify 0 (Oc #[.int .u64 2, .int .u64 3, .int .u64 5, .int .u64 7, .int .u64 11, .int .u64 13, .int .u64 17, .int .u64 19, .int .u64 23, .int .u64 29, .int .u64 31, .int .u64 37])).modify 1 (Oc #[.int .u8 0, .int .u8 1, .int .u8 56, .int .u8 2, .int .u8 57, .int .u8 49, .int .u8 28, .int .u8 3, .int .u8 61, .int .u8 58, .int .u8 42, .int .u8 50, .int .u8 38, .int .u8 29, .int .u8 17, .int .u8 4, .int .u8 62, .int .u8 47, .int .u8 59, .int .u8 36, .int .u8 45, .int .u8 43, .int .u8 51, .int .u8 22, .int .u8 53, .int .u8 39, .int .u8 33, .int .u8 30, .int .u8 24, .int .u8 18, .int .u8 12, .int .u8 5, .int .u8 63, .int .u8 55, .int .u8 48, .int .u8 27, .int .u8 60, .int .u8 41, .int .u8 37, .int .u8 16, .int .u8 46, .int .u8 35, .int .u8 44, .int .u8 21, .int .u8 52, .int .u8 32, .int .u8 23, .int .u8 11, .int .u8 54, .int .u8 26, .int .u8 40, .int .u8 15, .int .u8 34, .int .u8 20, .int .u8 31, .int .u8 10, .int .u8 25, .int .u8 14, .int .u8 19, .int .u8 9, .int .u8 13, .int .u8 8, .int .u8 7, .int .u8 6])}
theorem JP(os:Os):laidMet Tryz.prog Rows.avssNamesRow.laid ((VM os).forCall (fun _ _=>0) ⟨#[], #[], []⟩).memory:=
 laidMet_of_run' 8 (by kernel_rfl) (by kernel_rfl)
theorem FO(os:Os){H:Type}(enc:TypeId×Value→H): ∃places,DataW.whole enc Tryz.prog ((VM os).forCall (fun _ _=>0) ⟨#[], #[], []⟩).memory Tryz.f6.params.toList Rows.avssNamesSpec.vars false (#[]:Array Value).toList 8=some ([], [],places):=
 ⟨[],by kernel_rfl⟩
theorem GT(os:Os)(started:os.Started)(H:Type)(enc:TypeId×Value→H)(F:Stop.Interp):
  ReturnsInHanded {} Tryz.checked os 6 .any ((OpenSpec.ofChange Rows.avssNamesSpec).preRow enc Tryz.prog Tryz.f6 Rows.avssNamesRow.domain false Rows.avssNamesRow.laid) (((OpenSpec.ofChange Rows.avssNamesSpec).at F).post enc Tryz.prog Tryz.f6 false true false false):=by
 obtain ⟨places,hx⟩:=FO os enc;refine returnsInHanded_of_row (C:=Tryz.checked) (s:=OpenSpec.ofChange Rows.avssNamesSpec) own started (by kernel_rfl) Tryz.func6
  (witness_row_at (enc:=enc) (C:=Tryz.checked) false (VM os) #[] rfl (by kernel_rfl) (by kernel_rfl) (by kernel_rfl)
   (OpenSpec.preRow_of_cond 8 hx (by kernel_rfl) (fun k hk=>by cases hk) (by kernel_rfl) (JP os))) ?_
 intro W base args ds gs before hval hW _ _ hZ hL _ _;exact Il H enc W base args ds gs before hval hW hL hZ
theorem DF:Rows.AvssNamesSaid:=
 OpenClaim.holds_of_cond 6 Tryz.f6 rfl rfl rfl rfl rfl rfl rfl ⟨rfl,rfl,rfl,rfl,rfl⟩ rfl rfl rfl rfl rfl (by kernel_rfl) Tryz.func6 (by kernel_rfl)
  (of_decide_eq_true (by kernel_rfl)) (by unfold Func.isWrapper;first|(rw [if_pos (by decide+kernel)];kernel_rfl)|(rw [if_neg (by decide+kernel)];exact ⟨rfl,rfl⟩))
  (fun os started H enc _ F=>by rw [OpenClaim.pre_eq_preRow];exact GT os started H enc F)
theorem plain(f:FuncId)(fn:Func)(hf:Tryz.pinned.checked.prog.funcNamed "consistory/consistorylaw19.AvssNames" =some f)(hfn:Tryz.pinned.checked.prog.funcs[f]? =some fn):
  false=Tryz.pinned.checked.prog.looks []∧ ∀(j:Nat) t,fn.params[j]? =some t→Tryz.pinned.checked.prog.wantsStandIn t=false:=by
 obtain rfl:f=6:=Option.some.inj ((show Tryz.prog.funcNamed "consistory/consistorylaw19.AvssNames" =some 6 by kernel_rfl).symm.trans hf)|>.symm
 obtain rfl:fn=Tryz.f6:=(Option.some.inj (Tryz.func6.symm.trans hfn)).symm;refine ⟨by kernel_rfl,fun j t ht=> ?_⟩;rw [Tryz.params6] at ht;have hmem:=Array.mem_of_getElem? ht;simp at hmem
theorem card:Rows.AvssNamesCardSaid:=
 Claim7.holds_tied_plain_at .later [] _ _ _ _ DF (fun _ h=>by cases h) (by kernel_rfl) (fun _ h=>by cases h) avssNames_row_tie rfl ⟨rfl,rfl⟩ (by kernel_rfl) rfl plain (by kernel_rfl)
end avssNames
end Go.Proofs.YtkdfjkdphdfclaaGreatDoor

/- The card of AvssAnew. -/
import Derived.Test.YtkdfjkdphdfclaaGreatDoorV18
import Derived.Test.YtkdfjkdphdfclaaGreatDoorCards
import Derived.Test.YtkdfjkdphdfclaaGreatDoorTie
set_option maxRecDepth 100000
set_option maxHeartbeats 16000000
set_option linter.unusedVariables false
set_option linter.unusedSimpArgs false
namespace Go.Proofs.YtkdfjkdphdfclaaGreatDoor
open Go.Proofs.Tryz
namespace avssAnew
open Go.ChangeShapes Go.WideShapes Go.ChangeAt Go.RowKit
theorem own:ownKnob Tryz.prog.godebug=none:=by kernel_rfl
theorem gA:Tryz.prog.globalNamed "math/bits.deBruijn64tab" =some 1:=by kernel_rfl
theorem gB:Tryz.prog.globalNamed "consistory/mod.tried" =some 0:=by kernel_rfl
theorem tA:(Tryz.prog.globals[1]?).map (·.type)=some 237:=by kernel_rfl
theorem tB:(Tryz.prog.globals[0]?).map (·.type)=some 206:=by kernel_rfl
theorem cA:Tryz.prog.cellsOf 237=64:=by kernel_rfl
theorem cB:Tryz.prog.cellsOf 206=12:=by kernel_rfl
theorem c8:Tryz.prog.cellsOf 5=1:=by kernel_rfl
theorem c64:Tryz.prog.cellsOf 22=1:=by kernel_rfl
theorem AL{W:World}(h:laidMetH prog Rows.avssAnewRow.laid W):ye W:=by
 have h1:laidMet prog Rows.avssAnewRow.laid W:=h;have a:=Lib.tabIs_of_head (zs:= [0,1,56,2,57,49,28,3,61,58,42,50,38,29,17,4,62,47,59,36,45,43,51,22,53,39,33,30,24,18,12,5,63,55,48,27,60,41,37,16,46,35,44,21,52,32,23,11,54,26,40,15,34,20,31,10,25,14,19,9,13,8,7,6]) gA tA Tryz.underlying237 Tryz.underlying5 c8 cA h1;have b:=Lib.tabIs_of_head (rest:= []) (zs:=yU) gB tB Tryz.underlying206 Tryz.underlying22 c64 cB (laidMet.tail h1);exact ⟨fun j hj=>by rw [a.cell gA j hj];exact congrArg (fun z=>some (Value.int .u8 z)) (AM j hj),fun j hj=>b.cell gB j hj⟩
theorem walk(a0:Bool)(a1:Int)(a2:Int)(a3:Int)(v4:Value)(l4:List IK)(w:World)(w1:(Lit.int .i64 a1).wf=true)(w2:(Lit.int .i64 a2).wf=true)(w3:(Lit.int .u64 a3).wf=true)(w4:Sl UK (fun _=>True) w v4 l4)(g4:LG (fun d=>d.2.2.2.length≤17592186044415) l4)(hT:ye w):
  Calls prog 8 #[.bool a0, .int .i64 a1, .int .i64 a2, .int .u64 a3,v4] w fun e w'=>e= .returned (.bool true)∧Below w.heap.size w w':=
 (PE a0 a1 a2 a3 v4 l4 _ w (JB w1) (JB w2) (Fi w3) w4 hT g4.1 g4.2).mono fun _ _ ⟨he,hg⟩=>⟨he,zG hg⟩
theorem Et:laidOutB prog=true:=by kernel_rfl
theorem GQ(H:Type)(enc:TypeId×Value→H)(W:World)(base:Nat)(args:Array Value)(ds gs:List (DataW H))(before:List MemPlace)
  (hval: ∀(j:Nat) t v,Tryz.f8.params[j]? =some t→args[j]? =some v→Value.okWide prog W .any base t v)
  (hW:DataW.Whole enc prog Tryz.f8.params.toList Rows.avssAnewSpec.vars false W args.toList ds gs before) (hL:laidMetH prog Rows.avssAnewRow.laid W)
  (hZ:(DataW.weightsEach prog (Tryz.f8.params.toList++(OpenSpec.ofChange Rows.avssAnewSpec).bare.plain.varTypes prog) (ds++gs)).all (· ≤reachBytes)=true):
  Calls prog 8 args W fun e W'=> ∃v,e= .returned v∧Rows.avssAnewSpec.post enc prog Tryz.f8 false true false false W args v W':=by
 have hW':=hW;obtain ⟨p,q,hA0,hV,rfl,hfz,hnd⟩:=hW;have hA:DataW.TrodAll enc prog W 0 (fun _=>true) true Tryz.f8.params.toList args.toList ds p:=hA0;rw [Tryz.params8] at hA hval hZ;obtain ⟨v0,vs0,d0,ds0,p0,q0,hargs,rfl,rfl,h0,r0⟩:=trodAll_cons hA;obtain ⟨v1,vs1,d1,ds1,p1,q1,rfl,rfl,rfl,h1,r1⟩:=trodAll_cons r0;obtain ⟨v2,vs2,d2,ds2,p2,q2,rfl,rfl,rfl,h2,r2⟩:=trodAll_cons r1;obtain ⟨v3,vs3,d3,ds3,p3,q3,rfl,rfl,rfl,h3,r3⟩:=trodAll_cons r2;obtain ⟨v4,vs4,d4,ds4,p4,q4,rfl,rfl,rfl,h4,r4⟩:=trodAll_cons r3;obtain ⟨rfl,rfl,rfl⟩:=trodAll_nil r4;obtain rfl:args= #[v0,v1,v2,v3,v4]:=by cases args;simp_all
 obtain ⟨rfl,rfl⟩:=trodVars_none hV;have z0:=xN (t:=4) (ts:=_) (d:=d0) (r:=_) hZ;have y0:=xM (t:=4) (ts:=_) (d:=d0) (r:=_) hZ;have z1:=xN (t:=3) (ts:=_) (d:=d1) (r:=_) y0;have y1:=xM (t:=3) (ts:=_) (d:=d1) (r:=_) y0;have z2:=xN (t:=3) (ts:=_) (d:=d2) (r:=_) y1;have y2:=xM (t:=3) (ts:=_) (d:=d2) (r:=_) y1;have z3:=xN (t:=22) (ts:=_) (d:=d3) (r:=_) y2;have y3:=xM (t:=22) (ts:=_) (d:=d3) (r:=_) y2;have z4:=xN (t:=47) (ts:=_) (d:=d4) (r:=_) y3;have y4:=xM (t:=47) (ts:=_) (d:=d4) (r:=_) y3;obtain ⟨a0,rfl,rfl,rfl⟩:=open_bool Tryz.underlying4 (hval 0 4 v0 rfl rfl) h0;obtain ⟨a1,rfl,rfl,rfl,w1⟩:=open_int Tryz.underlying3 (hval 1 3 v1 rfl rfl) h1;obtain ⟨a2,rfl,rfl,rfl,w2⟩:=open_int Tryz.underlying3 (hval 2 3 v2 rfl rfl) h2;obtain ⟨a3,rfl,rfl,rfl,w3⟩:=open_int Tryz.underlying22 (hval 3 22 v3 rfl rfl) h3;obtain ⟨a4,len4,cap4,rfl⟩:=okWide_slice Tryz.underlying47 (hval 4 47 v4 rfl rfl);have k4:=h4;have lt4: ∀x∈p4,x.block< W.heap.size:=by obtain ⟨m,hm⟩:=k4;exact DataW.trod_lt m _ _ _ hm
 obtain ⟨l4,w4,g4⟩:=Gf QA k4 z4;clear hA0;refine (walk a0 a1 a2 a3 _ l4 W w1 w2 w3 w4 g4 (AL hL)).mono fun e W' ⟨he,bel⟩=> ?_
 subst he;exact ⟨_,rfl,_,_,_, [],_, [],hW',trodAll_mk1 (shut_bool Tryz.underlying4 _),(trodAll_cons_mk (shut_bool Tryz.underlying4 _) (trodAll_cons_mk (shut_int Tryz.underlying3 w1) (trodAll_cons_mk (shut_int Tryz.underlying3 w2) (trodAll_cons_mk (shut_int Tryz.underlying22 w3) (trodAll_cons_mk (Below.trod Et (by kernel_rfl) (of_decide_eq_true (by kernel_rfl)) k4 bel lt4) trodAll_mk0))))),rfl,bel.frame _,fun h=>by cases h⟩
noncomputable def UE(os:Os):World:=
 {World.holding prog os ⟨#[], #[], []⟩ with heap:=((World.holding prog os ⟨#[], #[], []⟩).heap.modify 0 (NK #[.int .u64 2, .int .u64 3, .int .u64 5, .int .u64 7, .int .u64 11, .int .u64 13, .int .u64 17, .int .u64 19, .int .u64 23, .int .u64 29, .int .u64 31, .int .u64 37])).modify 1 (NK #[.int .u8 0, .int .u8 1, .int .u8 56, .int .u8 2, .int .u8 57, .int .u8 49, .int .u8 28, .int .u8 3, .int .u8 61, .int .u8 58, .int .u8 42, .int .u8 50, .int .u8 38, .int .u8 29, .int .u8 17, .int .u8 4, .int .u8 62, .int .u8 47, .int .u8 59, .int .u8 36, .int .u8 45, .int .u8 43, .int .u8 51, .int .u8 22, .int .u8 53, .int .u8 39, .int .u8 33, .int .u8 30, .int .u8 24, .int .u8 18, .int .u8 12, .int .u8 5, .int .u8 63, .int .u8 55, .int .u8 48, .int .u8 27, .int .u8 60, .int .u8 41, .int .u8 37, .int .u8 16, .int .u8 46, .int .u8 35, .int .u8 44, .int .u8 21, .int .u8 52, .int .u8 32, .int .u8 23, .int .u8 11, .int .u8 54, .int .u8 26, .int .u8 40, .int .u8 15, .int .u8 34, .int .u8 20, .int .u8 31, .int .u8 10, .int .u8 25, .int .u8 14, .int .u8 19, .int .u8 9, .int .u8 13, .int .u8 8, .int .u8 7, .int .u8 6])}
theorem Gr(os:Os):laidMet prog Rows.avssAnewRow.laid ((UE os).forCall (fun _ _=>0) ⟨#[], #[.bool false, .int .i64 0, .int .i64 0, .int .u64 0, .slice none 0 0], []⟩).memory:=
 laidMet_of_run' 8 (by kernel_rfl) (by kernel_rfl)
theorem CD(os:Os){H:Type}(enc:TypeId×Value→H): ∃places,DataW.whole enc prog ((UE os).forCall (fun _ _=>0) ⟨#[], #[.bool false, .int .i64 0, .int .i64 0, .int .u64 0, .slice none 0 0], []⟩).memory Tryz.f8.params.toList Rows.avssAnewSpec.vars false (#[.bool false, .int .i64 0, .int .i64 0, .int .u64 0, .slice none 0 0]:Array Value).toList 8=some ([.lit (.bool false), .lit (.int .i64 0), .lit (.int .i64 0), .lit (.int .u64 0), .nil], [],places):=
 ⟨[],by kernel_rfl⟩
theorem DF(os:Os)(started:os.Started)(H:Type)(enc:TypeId×Value→H)(F:Stop.Interp):
  ReturnsInHanded {} Tryz.checked os 8 .any ((OpenSpec.ofChange Rows.avssAnewSpec).preRow enc prog Tryz.f8 Rows.avssAnewRow.domain false Rows.avssAnewRow.laid) (((OpenSpec.ofChange Rows.avssAnewSpec).at F).post enc prog Tryz.f8 false true false false):=by
 obtain ⟨places,hx⟩:=CD os enc;refine returnsInHanded_of_row (C:=Tryz.checked) (s:=OpenSpec.ofChange Rows.avssAnewSpec) own started (by kernel_rfl) func8
  (witness_row_at (enc:=enc) (C:=Tryz.checked) false (UE os) #[.bool false, .int .i64 0, .int .i64 0, .int .u64 0, .slice none 0 0] rfl (by kernel_rfl) (by kernel_rfl) (by kernel_rfl)
   (OpenSpec.preRow_of_cond 8 hx (by kernel_rfl) (fun k hk=>by cases hk) (by kernel_rfl) (Gr os))) ?_
 intro W base args ds gs before hval hW _ _ hZ hL _ _;exact GQ H enc W base args ds gs before hval hW hL hZ
theorem AP:Rows.AvssAnewSaid:=
 OpenClaim.holds_of_cond 8 Tryz.f8 rfl rfl rfl rfl rfl rfl rfl ⟨rfl,rfl,rfl,rfl,rfl⟩ rfl rfl rfl rfl rfl (by kernel_rfl) func8 (by kernel_rfl)
  (of_decide_eq_true (by kernel_rfl)) (by unfold Func.isWrapper;first|(rw [if_pos (by decide+kernel)];kernel_rfl)|(rw [if_neg (by decide+kernel)];exact ⟨rfl,rfl⟩))
  (fun os started H enc _ F=>by rw [OpenClaim.pre_eq_preRow];exact DF os started H enc F)
theorem plain(f:FuncId)(fn:Func)(hf:Tryz.pinned.checked.prog.funcNamed "consistory/consistorylaw19.AvssAnew" =some f)(hfn:Tryz.pinned.checked.prog.funcs[f]? =some fn):
  false=Tryz.pinned.checked.prog.looks []∧ ∀(j:Nat) t,fn.params[j]? =some t→Tryz.pinned.checked.prog.wantsStandIn t=false:=by
 obtain rfl:f=8:=Option.some.inj ((show Tryz.prog.funcNamed "consistory/consistorylaw19.AvssAnew" =some 8 by kernel_rfl).symm.trans hf)|>.symm
 obtain rfl:fn=Tryz.f8:=(Option.some.inj (Tryz.func8.symm.trans hfn)).symm;refine ⟨by kernel_rfl,fun j t ht=> ?_⟩;rw [Tryz.params8] at ht;have hmem:=Array.mem_of_getElem? ht;have hor:t=4∨t=3∨t=3∨t=22∨t=47:=by simpa using hmem
 rcases hor with rfl|rfl|rfl|rfl|rfl
 all_goals first|exact (show Tryz.prog.wantsStandIn 47=false by kernel_rfl)|exact (show Tryz.prog.wantsStandIn 4=false by kernel_rfl)|exact (show Tryz.prog.wantsStandIn 3=false by kernel_rfl)|exact (show Tryz.prog.wantsStandIn 22=false by kernel_rfl)
theorem card:Rows.AvssAnewCardSaid:=
 Claim7.holds_tied_plain_at .later [] _ _ _ _ AP (fun _ h=>by cases h) (by kernel_rfl) (fun _ h=>by cases h) avssAnew_row_tie rfl ⟨rfl,rfl⟩ (by kernel_rfl) rfl plain (by kernel_rfl)
end avssAnew
end Go.Proofs.YtkdfjkdphdfclaaGreatDoor

/- A card of AvssOne, AvssAll. -/
import Derived.Test.YtkdfjkdphdfclaaGreatDoorW21
import Derived.Test.YtkdfjkdphdfclaaGreatDoorW22
import Derived.Test.YtkdfjkdphdfclaaGreatDoorCards
import Derived.Test.YtkdfjkdphdfclaaGreatDoorTie
set_option maxRecDepth 100000
set_option maxHeartbeats 16000000
set_option linter.unusedVariables false
set_option linter.unusedSimpArgs false
namespace Go.Proofs.YtkdfjkdphdfclaaGreatDoor
open Go.Proofs.Tryz
section
open Go Go.RowKit Go.Shelf Go.Maps
attribute [local go_sem] Oper.semAt_some
theorem Np(g0:Bool)(d0 a0:Int)(vi:Value)(j0:List Int)(vl:Value)(f0:List Ts)(X Y:Nat→Prop)(w:World)(v0:U64 a0)(hi:Sl Fk X w vi j0)(hl:Sl Yc Y w vl f0)(b1:f0.length≤17592186044415)(b2: ∀x∈f0,x.2.2.2.2.2.2.length≤17592186044415)(hT:yd w):
  Calls prog 3 #[.bool g0, .int .i64 d0, .int .u64 a0,vi,vl] w fun e w'=>e= .returned (.bool true)∧w.grownBy w' none:=by
 have y0:=za hT;have m0:=za (Rk vl f0 Y w hl b1 b2);have l0:=za (fun W (hg:w.grownBy W none)=>TX g0 d0 a0 vi j0 vl f0 X Y W v0 (hi.kept hg) (hl.kept hg) (hT.kept hg));obtain ⟨Ai,ci,rfl, -, -⟩:=hi.form;obtain ⟨Al,cl,rfl, -, -⟩:=hl.form;obtain ⟨LA,q0⟩:=exq (f0.length);have z0:=za q0;rw [←q0] at m0 l0 b1 ⊢;clear hT hi hl b2 v0 q0;go_enter func3,ntmps3;go_wp2_with fail;refine m0.z.mono ?_;rintro e x ⟨B,rfl,hB,ew⟩;subst x;cases B with
 |true=>
  clear hB m0 l0;go_wp2_with fail;refine (Vl w y0.z).mono ?_;rintro e w3 ⟨rfl,hg3⟩;have HF:=za hg3;clear hg3;go_wp2;go_ret;exact ⟨rfl,HF.z⟩
 |false=>
  have HB:=za (hB rfl);clear hB m0;go_wp2_with fail;refine (Vl w y0.z).mono ?_;rintro e w3 ⟨rfl,hg3⟩;have A0:=za hg3;clear hg3;go_wp2_with fail;refine (l0.z w3 A0.z).mono ?_;rintro e w4 ⟨d,hon,g,va,vd,vc,L,rfl,hd,hf,hrw⟩;have s0:Hid (YD g0 d a0 hon).ok:=za (Jd hd hf);have G0:(p19 g0).N≤7:=by cases g0<;>decide
  have HD:Hid (1≤d∧d≤7):=za ⟨hd.1,by omega⟩;have r0:Hid (∃S vw sts i0,Rw w3 (YD g0 d a0 hon) (Xe g0 d a0) f0 (.slice Al LA cl) va vd vc g S L (3*0) sts i0 vw w4∧RGo (YD g0 d a0 hon) false sts i0):=za ⟨_,_,_,_,hrw,RGo.start s0.z _⟩;have H0:Hid (LA≤150):=za (by rw [z0.z];exact HB.z.1);clear hrw hf hd l0 G0;go_wp2_with fail;go_loopg [14] LA (fun gk s4 wx=> ∃i:Nat,i+gk=LA∧s4= .int .i64 i∧Hid (∃S vw sts i0,Rw w3 (YD g0 d a0 hon) (Xe g0 d a0) f0 (.slice Al LA cl) va vd vc g S L (3*i) sts i0 vw wx∧RGo (YD g0 d a0 hon) false sts i0))
  case atStart=>exact ⟨0,by omega,rfl,r0⟩
  case round=>
   obtain ⟨i,hi,rfl,HX⟩:=hrel;rcases Nat.eq_zero_or_pos gk with hg0|hg0
   ·obtain rfl:i=LA:=by omega
    obtain ⟨S1,v1,o0,n0,h1,h2⟩:=HX.z;have C0:=za (Tq g0 d a0 hon w3 (Xe g0 d a0) f0 _ va vd vc g S1 L _ o0 n0 v1 wr s0.z HD.z h1 h2.inv);have I0:=za (A0.z.trans h1.gr);clear HX r0 h1 h2 hg0;go_wp2_with fail;refine C0.z.mono ?_;rintro e w6 ⟨yes,no,rfl, -,hg6⟩;have HF:=za (I0.z.trans hg6);clear hg6 C0;go_wp2;go_ret;exact ⟨rfl,HF.z⟩
   ·have J0:(i:Int)< (LA:Int):=by omega
    have K0:(0:Int)≤(i:Int):=iNn i;have p0:i< f0.length:=by rw [←z0.z];omega
    obtain ⟨S1,v1,o0,n0,h1,h2⟩:=HX.z;obtain ⟨ge,oe,ce',cs,ee,F0,D0,⟨u,rfl,hI,k0⟩,b0⟩:=h1.ac.atAct p0;injection ee with ee1 ee2 ee3
    subst ee1;clear ee2 ee3;obtain ⟨y,hy⟩:=exq (f0[i]);have u0:y.2.2.2.2.2.2.length≤3000:=by rw [hy];have:=HB.z.2 _ (lGm p0);omega
    rw [←hy] at hI k0 b0;have c0:wr.cell? ⟨ge,oe+i*7,none⟩=some (.int .u8 y.1):=b0 0 _ rfl;have c1:wr.cell? ⟨ge,oe+i*7+1,none⟩=some (.int .i64 y.2.1):=b0 1 _ rfl;have c2:wr.cell? ⟨ge,oe+i*7+2,none⟩=some (.int .i64 y.2.2.1):=b0 2 _ rfl;have c3:wr.cell? ⟨ge,oe+i*7+3,none⟩=some (.int .i64 y.2.2.2.1):=b0 3 _ rfl;have c4:wr.cell? ⟨ge,oe+i*7+4,none⟩=some (.int .u8 y.2.2.2.2.1):=b0 4 _ rfl;have c5:wr.cell? ⟨ge,oe+i*7+5,none⟩=some (.int .u8 y.2.2.2.2.2.1):=b0 5 _ rfl;have c6:wr.cell? ⟨ge,oe+i*7+6,none⟩=some u:=b0 6 _ rfl;have B0:=za (Mo g0 d a0 hon false true w3 f0 _ va vd vc g S1 L (3*i) o0 n0 v1 wr y u _ s0.z h1 h2 (by simp) (xj _ (by have:=H0.z;omega)) hI k0 u0);obtain ⟨Au,nu,cu,rfl⟩:=k0.shape;clear HX r0 h1 h2 hI k0 b0 hy u0 F0 D0 p0;go_wp2_with fail;refine B0.z.mono ?_;rintro e w5 ⟨rfl,S2,v2,st2,wy2,q1,q2⟩;have t0:Hid (∃S vw sts i0,Rw w3 (YD g0 d a0 hon) (Xe g0 d a0) f0 (.slice (some ⟨ge,oe,none⟩) LA cl) va vd vc g S L (3*(i+1)) sts i0 vw w5∧RGo (YD g0 d a0 hon) false sts i0):=za ⟨S2,v2,st2,wy2,q1.up (by omega),q2⟩;clear q1 q2 B0 c0 c1 c2 c3 c4 c5 c6;go_wp2_with fail;go_roundg (gk - 1)
    case measure=>omega
    case rel=>exact ⟨i+1,by omega,by go_num,t0⟩
end
namespace avssOne
open Go.ChangeShapes Go.WideShapes Go.ChangeAt Go.RowKit
theorem own:ownKnob Tryz.prog.godebug=none:=by kernel_rfl
theorem gA:Tryz.prog.globalNamed "math/bits.deBruijn64tab" =some 1:=by kernel_rfl
theorem gB:Tryz.prog.globalNamed "consistory/mod.tried" =some 0:=by kernel_rfl
theorem tA:(Tryz.prog.globals[1]?).map (·.type)=some 237:=by kernel_rfl
theorem tB:(Tryz.prog.globals[0]?).map (·.type)=some 206:=by kernel_rfl
theorem cA:Tryz.prog.cellsOf 237=64:=by kernel_rfl
theorem cB:Tryz.prog.cellsOf 206=12:=by kernel_rfl
theorem c8:Tryz.prog.cellsOf 5=1:=by kernel_rfl
theorem c64:Tryz.prog.cellsOf 22=1:=by kernel_rfl
theorem Bf{W:World}(h:laidMetH prog Rows.avssOneRow.laid W):yd W:=by
 have h1:laidMet prog Rows.avssOneRow.laid W:=h;have a:=Lib.tabIs_of_head (zs:= [0,1,56,2,57,49,28,3,61,58,42,50,38,29,17,4,62,47,59,36,45,43,51,22,53,39,33,30,24,18,12,5,63,55,48,27,60,41,37,16,46,35,44,21,52,32,23,11,54,26,40,15,34,20,31,10,25,14,19,9,13,8,7,6]) gA tA Tryz.underlying237 Tryz.underlying5 c8 cA h1;have b:=Lib.tabIs_of_head (rest:= []) (zs:=xf) gB tB Tryz.underlying206 Tryz.underlying22 c64 cB (laidMet.tail h1);exact ⟨fun j hj=>by rw [a.cell gA j hj];exact congrArg (fun z=>some (Value.int .u8 z)) (zaa j hj),fun j hj=>b.cell gB j hj⟩
theorem walk(a0:Bool)(a1:Int)(a2:Int)(v3:Value)(l3:List Int)(v4:Value)(l4:List Ts)(w:World)(w1:(Lit.int .i64 a1).wf=true)(w2:(Lit.int .u64 a2).wf=true)(w3:Sl Fk (fun _=>True) w v3 l3)(g3:(fun _:List Int=>True) l3)(w4:Sl Yc (fun _=>True) w v4 l4)(g4:LG (fun d=>d.2.2.2.2.2.2.length≤17592186044415) l4)(hT:yd w):
  Calls prog 3 #[.bool a0, .int .i64 a1, .int .u64 a2,v3,v4] w fun e w'=>e= .returned (.bool true)∧Below w.heap.size w w':=
 (Np a0 a1 a2 v3 l3 v4 l4 _ _ w (Kx w2) w3 w4 g4.1 g4.2 hT).mono fun _ _ ⟨he,hg⟩=>⟨he,zE hg⟩
theorem UX:laidOutB prog=true:=by kernel_rfl
theorem Qd(H:Type)(enc:TypeId×Value→H)(W:World)(base:Nat)(args:Array Value)(ds gs:List (DataW H))(before:List MemPlace)
  (hval: ∀(j:Nat) t v,Tryz.f3.params[j]? =some t→args[j]? =some v→Value.okWide prog W .any base t v)
  (hW:DataW.Whole enc prog Tryz.f3.params.toList Rows.avssOneSpec.vars false W args.toList ds gs before) (hL:laidMetH prog Rows.avssOneRow.laid W)
  (hZ:(DataW.weightsEach prog (Tryz.f3.params.toList++(OpenSpec.ofChange Rows.avssOneSpec).bare.plain.varTypes prog) (ds++gs)).all (· ≤reachBytes)=true):
  Calls prog 3 args W fun e W'=> ∃v,e= .returned v∧Rows.avssOneSpec.post enc prog Tryz.f3 false true false false W args v W':=by
 have hW':=hW;obtain ⟨p,q,hA0,hV,rfl,hfz,hnd⟩:=hW;have hA:DataW.TrodAll enc prog W 0 (fun _=>true) true Tryz.f3.params.toList args.toList ds p:=hA0;rw [Tryz.params3] at hA hval hZ;obtain ⟨v0,vs0,d0,ds0,p0,q0,hargs,rfl,rfl,h0,r0⟩:=trodAll_cons hA;obtain ⟨v1,vs1,d1,ds1,p1,q1,rfl,rfl,rfl,h1,r1⟩:=trodAll_cons r0;obtain ⟨v2,vs2,d2,ds2,p2,q2,rfl,rfl,rfl,h2,r2⟩:=trodAll_cons r1;obtain ⟨v3,vs3,d3,ds3,p3,q3,rfl,rfl,rfl,h3,r3⟩:=trodAll_cons r2;obtain ⟨v4,vs4,d4,ds4,p4,q4,rfl,rfl,rfl,h4,r4⟩:=trodAll_cons r3;obtain ⟨rfl,rfl,rfl⟩:=trodAll_nil r4;obtain rfl:args= #[v0,v1,v2,v3,v4]:=by cases args;simp_all
 obtain ⟨rfl,rfl⟩:=trodVars_none hV;have z0:=yh (t:=4) (ts:=_) (d:=d0) (r:=_) hZ;have y0:=yg (t:=4) (ts:=_) (d:=d0) (r:=_) hZ;have z1:=yh (t:=3) (ts:=_) (d:=d1) (r:=_) y0;have y1:=yg (t:=3) (ts:=_) (d:=d1) (r:=_) y0;have z2:=yh (t:=22) (ts:=_) (d:=d2) (r:=_) y1;have y2:=yg (t:=22) (ts:=_) (d:=d2) (r:=_) y1;have z3:=yh (t:=23) (ts:=_) (d:=d3) (r:=_) y2;have y3:=yg (t:=23) (ts:=_) (d:=d3) (r:=_) y2;have z4:=yh (t:=24) (ts:=_) (d:=d4) (r:=_) y3;have y4:=yg (t:=24) (ts:=_) (d:=d4) (r:=_) y3;obtain ⟨a0,rfl,rfl,rfl⟩:=open_bool Tryz.underlying4 (hval 0 4 v0 rfl rfl) h0;obtain ⟨a1,rfl,rfl,rfl,w1⟩:=open_int Tryz.underlying3 (hval 1 3 v1 rfl rfl) h1;obtain ⟨a2,rfl,rfl,rfl,w2⟩:=open_int Tryz.underlying22 (hval 2 22 v2 rfl rfl) h2;obtain ⟨a3,len3,cap3,rfl⟩:=okWide_slice Tryz.underlying23 (hval 3 23 v3 rfl rfl);have k3:=h3;have lt3: ∀x∈p3,x.block< W.heap.size:=by obtain ⟨m,hm⟩:=k3;exact DataW.trod_lt m _ _ _ hm
 obtain ⟨l3,w3,g3⟩:=Un TN k3 z3;obtain ⟨a4,len4,cap4,rfl⟩:=okWide_slice Tryz.underlying24 (hval 4 24 v4 rfl rfl);have k4:=h4;have lt4: ∀x∈p4,x.block< W.heap.size:=by obtain ⟨m,hm⟩:=k4;exact DataW.trod_lt m _ _ _ hm
 obtain ⟨l4,w4,g4⟩:=Un UI k4 z4;clear hA0;refine (walk a0 a1 a2 _ l3 _ l4 W w1 w2 w3 g3 w4 g4 (Bf hL)).mono fun e W' ⟨he,bel⟩=> ?_
 subst he;exact ⟨_,rfl,_,_,_, [],_, [],hW',trodAll_mk1 (shut_bool Tryz.underlying4 _),(trodAll_cons_mk (shut_bool Tryz.underlying4 _) (trodAll_cons_mk (shut_int Tryz.underlying3 w1) (trodAll_cons_mk (shut_int Tryz.underlying22 w2) (trodAll_cons_mk (Below.trod UX (by kernel_rfl) (of_decide_eq_true (by kernel_rfl)) k3 bel lt3) (trodAll_cons_mk (Below.trod UX (by kernel_rfl) (of_decide_eq_true (by kernel_rfl)) k4 bel lt4) trodAll_mk0))))),rfl,bel.frame _,fun h=>by cases h⟩
noncomputable def Zw(os:Os):World:=
 {World.holding prog os ⟨#[], #[], []⟩ with heap:=((World.holding prog os ⟨#[], #[], []⟩).heap.modify 0 (Up #[.int .u64 2, .int .u64 3, .int .u64 5, .int .u64 7, .int .u64 11, .int .u64 13, .int .u64 17, .int .u64 19, .int .u64 23, .int .u64 29, .int .u64 31, .int .u64 37])).modify 1 (Up #[.int .u8 0, .int .u8 1, .int .u8 56, .int .u8 2, .int .u8 57, .int .u8 49, .int .u8 28, .int .u8 3, .int .u8 61, .int .u8 58, .int .u8 42, .int .u8 50, .int .u8 38, .int .u8 29, .int .u8 17, .int .u8 4, .int .u8 62, .int .u8 47, .int .u8 59, .int .u8 36, .int .u8 45, .int .u8 43, .int .u8 51, .int .u8 22, .int .u8 53, .int .u8 39, .int .u8 33, .int .u8 30, .int .u8 24, .int .u8 18, .int .u8 12, .int .u8 5, .int .u8 63, .int .u8 55, .int .u8 48, .int .u8 27, .int .u8 60, .int .u8 41, .int .u8 37, .int .u8 16, .int .u8 46, .int .u8 35, .int .u8 44, .int .u8 21, .int .u8 52, .int .u8 32, .int .u8 23, .int .u8 11, .int .u8 54, .int .u8 26, .int .u8 40, .int .u8 15, .int .u8 34, .int .u8 20, .int .u8 31, .int .u8 10, .int .u8 25, .int .u8 14, .int .u8 19, .int .u8 9, .int .u8 13, .int .u8 8, .int .u8 7, .int .u8 6])}
theorem RT(os:Os):laidMet prog Rows.avssOneRow.laid ((Zw os).forCall (fun _ _=>0) ⟨#[], #[.bool false, .int .i64 0, .int .u64 0, .slice none 0 0, .slice none 0 0], []⟩).memory:=
 laidMet_of_run' 8 (by kernel_rfl) (by kernel_rfl)
theorem EI(os:Os){H:Type}(enc:TypeId×Value→H): ∃places,DataW.whole enc prog ((Zw os).forCall (fun _ _=>0) ⟨#[], #[.bool false, .int .i64 0, .int .u64 0, .slice none 0 0, .slice none 0 0], []⟩).memory Tryz.f3.params.toList Rows.avssOneSpec.vars false (#[.bool false, .int .i64 0, .int .u64 0, .slice none 0 0, .slice none 0 0]:Array Value).toList 8=some ([.lit (.bool false), .lit (.int .i64 0), .lit (.int .u64 0), .nil, .nil], [],places):=
 ⟨[],by kernel_rfl⟩
theorem JS(os:Os)(started:os.Started)(H:Type)(enc:TypeId×Value→H)(F:Stop.Interp):
  ReturnsInHanded {} Tryz.checked os 3 .any ((OpenSpec.ofChange Rows.avssOneSpec).preRow enc prog Tryz.f3 Rows.avssOneRow.domain false Rows.avssOneRow.laid) (((OpenSpec.ofChange Rows.avssOneSpec).at F).post enc prog Tryz.f3 false true false false):=by
 obtain ⟨places,hx⟩:=EI os enc;refine returnsInHanded_of_row (C:=Tryz.checked) (s:=OpenSpec.ofChange Rows.avssOneSpec) own started (by kernel_rfl) func3
  (witness_row_at (enc:=enc) (C:=Tryz.checked) false (Zw os) #[.bool false, .int .i64 0, .int .u64 0, .slice none 0 0, .slice none 0 0] rfl (by kernel_rfl) (by kernel_rfl) (by kernel_rfl)
   (OpenSpec.preRow_of_cond 8 hx (by kernel_rfl) (fun k hk=>by cases hk) (by kernel_rfl) (RT os))) ?_
 intro W base args ds gs before hval hW _ _ hZ hL _ _;exact Qd H enc W base args ds gs before hval hW hL hZ
theorem Bj:Rows.AvssOneSaid:=
 OpenClaim.holds_of_cond 3 Tryz.f3 rfl rfl rfl rfl rfl rfl rfl ⟨rfl,rfl,rfl,rfl,rfl⟩ rfl rfl rfl rfl rfl (by kernel_rfl) func3 (by kernel_rfl)
  (of_decide_eq_true (by kernel_rfl)) (by unfold Func.isWrapper;first|(rw [if_pos (by decide+kernel)];kernel_rfl)|(rw [if_neg (by decide+kernel)];exact ⟨rfl,rfl⟩))
  (fun os started H enc _ F=>by rw [OpenClaim.pre_eq_preRow];exact JS os started H enc F)
theorem plain(f:FuncId)(fn:Func)(hf:Tryz.pinned.checked.prog.funcNamed "consistory/consistorylaw19.AvssOne" =some f)(hfn:Tryz.pinned.checked.prog.funcs[f]? =some fn):
  false=Tryz.pinned.checked.prog.looks []∧ ∀(j:Nat) t,fn.params[j]? =some t→Tryz.pinned.checked.prog.wantsStandIn t=false:=by
 obtain rfl:f=3:=Option.some.inj ((show Tryz.prog.funcNamed "consistory/consistorylaw19.AvssOne" =some 3 by kernel_rfl).symm.trans hf)|>.symm
 obtain rfl:fn=Tryz.f3:=(Option.some.inj (Tryz.func3.symm.trans hfn)).symm;refine ⟨by kernel_rfl,fun j t ht=> ?_⟩;rw [Tryz.params3] at ht;have hmem:=Array.mem_of_getElem? ht;have hor:t=4∨t=3∨t=22∨t=23∨t=24:=by simpa using hmem
 rcases hor with rfl|rfl|rfl|rfl|rfl
 all_goals first|exact (show Tryz.prog.wantsStandIn 24=false by kernel_rfl)|exact (show Tryz.prog.wantsStandIn 23=false by kernel_rfl)|exact (show Tryz.prog.wantsStandIn 4=false by kernel_rfl)|exact (show Tryz.prog.wantsStandIn 3=false by kernel_rfl)|exact (show Tryz.prog.wantsStandIn 22=false by kernel_rfl)
theorem card:Rows.AvssOneCardSaid:=
 Claim7.holds_tied_plain_at .later [] _ _ _ _ Bj (fun _ h=>by cases h) (by kernel_rfl) (fun _ h=>by cases h) avssOne_row_tie rfl ⟨rfl,rfl⟩ (by kernel_rfl) rfl plain (by kernel_rfl)
end avssOne
end Go.Proofs.YtkdfjkdphdfclaaGreatDoor

/- A card of AvssOne, AvssAll. -/
import Derived.Test.YtkdfjkdphdfclaaGreatDoorW21
import Derived.Test.YtkdfjkdphdfclaaGreatDoorW22
import Derived.Test.YtkdfjkdphdfclaaGreatDoorCards
import Derived.Test.YtkdfjkdphdfclaaGreatDoorTie
set_option maxRecDepth 100000
set_option maxHeartbeats 16000000
set_option linter.unusedVariables false
set_option linter.unusedSimpArgs false
namespace Go.Proofs.YtkdfjkdphdfclaaGreatDoor
open Go.Proofs.Tryz
section
open Go Go.RowKit Go.Shelf Go.Maps
attribute [local go_sem] Oper.semAt_some
theorem Nq(g0:Bool)(d0 a0:Int)(vi:Value)(j0:List Int)(vl:Value)(f0:List Ts)(n:Int)(X Y:Nat→Prop)(w:World)(A0:U64 a0)(hi:Sl Fk X w vi j0)(hl:Sl Yc Y w vl f0)(b1:f0.length≤17592186044415)(b2: ∀x∈f0,x.2.2.2.2.2.2.length≤17592186044415)(hT:yd w):
  Calls prog 4 #[.bool g0, .int .i64 d0, .int .u64 a0,vi,vl, .int .i64 n] w fun e w'=>e= .returned (.bool true)∧w.grownBy w' none:=by
 have B0:=za hT;have p0:=za (Rk vl f0 Y w hl b1 b2);have o0:=za (fun W (hg:w.grownBy W none)=>TX g0 d0 a0 vi j0 vl f0 X Y W A0 (hi.kept hg) (hl.kept hg) (hT.kept hg));obtain ⟨Ai,ci,rfl, -, -⟩:=hi.form;obtain ⟨Al,cl,rfl, -, -⟩:=hl.form;obtain ⟨LA,u0⟩:=exq (f0.length);have D0:=za u0;rw [←u0] at p0 o0 b1 ⊢;clear hT hi hl b2 A0 u0;go_enter func4,ntmps4;go_wp2_with fail;refine p0.z.mono ?_;rintro e x ⟨B,rfl,hB,ew⟩;subst x;cases B with
 |true=>
  clear hB p0 o0;go_wp2_with fail;refine (Vl w B0.z).mono ?_;rintro e w3 ⟨rfl,hg3⟩;have HF:=za hg3;clear hg3;go_wp2;go_ret;exact ⟨rfl,HF.z⟩
 |false=>
  have HB:=za (hB rfl);clear hB p0;go_wp2_with fail;refine (Vl w B0.z).mono ?_;rintro e w3 ⟨rfl,hg3⟩;have F0:=za hg3;clear hg3;go_wp2_with fail;refine (o0.z w3 F0.z).mono ?_;rintro e w4 ⟨d,hon,g,va,vd,vc,L,rfl,hd,hf,hrw⟩;have k0:Hid (YD g0 d a0 hon).ok:=za (Jd hd hf);have M0:(p19 g0).N≤7:=by cases g0<;>decide
  have HD:Hid (1≤d∧d≤7):=za ⟨hd.1,by omega⟩;have v0:Hid (∃S vw sts i0,Rw w3 (YD g0 d a0 hon) (Xe g0 d a0) f0 (.slice Al LA cl) va vd vc g S L (3*0) sts i0 vw w4∧RGo (YD g0 d a0 hon) true sts i0):=za ⟨_,_,_,_,hrw,RGo.start k0.z _⟩;have C0:Hid (LA≤150):=za (by rw [D0.z];exact HB.z.1);clear hrw hf hd o0 M0;go_wp2_with fail;go_loopg [16] LA (fun gk s4 wx=> ∃i:Nat,i+gk=LA∧s4= .int .i64 i∧Hid (∃S vw sts i0,Rw w3 (YD g0 d a0 hon) (Xe g0 d a0) f0 (.slice Al LA cl) va vd vc g S L (3*i) sts i0 vw wx∧RGo (YD g0 d a0 hon) true sts i0))
  case atStart=>exact ⟨0,by omega,rfl,v0⟩
  case round=>
   obtain ⟨i,hi,rfl,HX⟩:=hrel;rcases Nat.eq_zero_or_pos gk with hg0|hg0
   ·obtain rfl:i=LA:=by omega
    obtain ⟨S1,v1,r0,q0,h1,h2⟩:=HX.z;have G0:=za (Is w3 _ k0.z true (Xe g0 d a0) f0 _ va vd vc g S1 L _ r0 q0 v1 wr n h1 h2 (by have:=C0.z;omega));clear HX v0 h1 h2 hg0;go_wp2_with fail;refine G0.z.mono ?_;rintro e w6 ⟨rfl,S2,v2,st2,q1,q2⟩;have J0:=za (Tq g0 d a0 hon w3 (Xe g0 d a0) f0 _ va vd vc g S2 L _ st2 [] v2 w6 k0.z HD.z q1 q2.inv);have n0:=za q1;have I0:=za (fun j k hj hk hd=>Nv.ends k0.z q2.inv (q2.al rfl) (j:=j) (k:=k) hj hk hd);clear q1 q2 G0;go_wp2_with fail;refine J0.z.mono ?_;rintro e w7 ⟨l0,no,rfl,⟨hy,hn⟩,hg7⟩;have HF:=za ((F0.z.trans n0.z.gr).trans hg7);obtain ⟨Aw,cw,ew, -, -⟩:=n0.z.wy.sl.form;subst ew;have hr:=(n0.z.kept hg7).bk.rule;have s0:l0=0∨no=0:=by
     by_cases e1:l0=0
     ·exact .inl e1
     ·by_cases e2:no=0
      ·exact .inr e2
      ·obtain ⟨j,j1,j2⟩:=hy e1;obtain ⟨k,k1,k2⟩:=hn e2
       have:=I0.z j k j1 k1 j2
       rw [k2] at this;cases this
    clear hg7 J0 n0 I0 hy hn;by_cases e1:l0=0
    ·subst e1;clear s0;go_wp2;go_ret;exact ⟨rfl,HF.z⟩
    ·obtain rfl:no=0:=s0.resolve_left e1;have N0:((l0:Int)==0)=false:=by simp [e1]
     clear s0 e1;go_wp2;go_ret;exact ⟨rfl,HF.z⟩
   ·have O0:(i:Int)< (LA:Int):=by omega
    have P0:(0:Int)≤(i:Int):=iNn i;have t0:i< f0.length:=by rw [←D0.z];omega
    obtain ⟨S1,v1,r0,q0,h1,h2⟩:=HX.z;obtain ⟨ge,oe,ce',cs,ee,L0,K0,⟨u,rfl,hI,m0⟩,b0⟩:=h1.ac.atAct t0;injection ee with ee1 ee2 ee3
    subst ee1;clear ee2 ee3;obtain ⟨y,hy⟩:=exq (f0[i]);have z0:y.2.2.2.2.2.2.length≤3000:=by rw [hy];have:=HB.z.2 _ (lGm t0);omega
    rw [←hy] at hI m0 b0;have c0:wr.cell? ⟨ge,oe+i*7,none⟩=some (.int .u8 y.1):=b0 0 _ rfl;have c1:wr.cell? ⟨ge,oe+i*7+1,none⟩=some (.int .i64 y.2.1):=b0 1 _ rfl;have c2:wr.cell? ⟨ge,oe+i*7+2,none⟩=some (.int .i64 y.2.2.1):=b0 2 _ rfl;have c3:wr.cell? ⟨ge,oe+i*7+3,none⟩=some (.int .i64 y.2.2.2.1):=b0 3 _ rfl;have c4:wr.cell? ⟨ge,oe+i*7+4,none⟩=some (.int .u8 y.2.2.2.2.1):=b0 4 _ rfl;have c5:wr.cell? ⟨ge,oe+i*7+5,none⟩=some (.int .u8 y.2.2.2.2.2.1):=b0 5 _ rfl;have c6:wr.cell? ⟨ge,oe+i*7+6,none⟩=some u:=b0 6 _ rfl;have H0:=za (Mo g0 d a0 hon true false w3 f0 _ va vd vc g S1 L (3*i) r0 q0 v1 wr y u _ k0.z h1 h2 (by simp) (xj _ (by have:=C0.z;omega)) hI m0 z0);obtain ⟨Au,nu,cu,rfl⟩:=m0.shape;clear HX v0 h1 h2 hI m0 b0 hy z0 L0 K0 t0;go_wp2_with fail;refine H0.z.mono ?_;rintro e w5 ⟨rfl,S2,v2,st2,wy2,q1,q2⟩;have y0:Hid (∃S vw sts i0,Rw w3 (YD g0 d a0 hon) (Xe g0 d a0) f0 (.slice (some ⟨ge,oe,none⟩) LA cl) va vd vc g S L (3*(i+1)) sts i0 vw w5∧RGo (YD g0 d a0 hon) true sts i0):=za ⟨S2,v2,st2,wy2,q1.up (by omega),q2⟩;clear q1 q2 H0 c0 c1 c2 c3 c4 c5 c6;go_wp2_with fail;go_roundg (gk - 1)
    case measure=>omega
    case rel=>exact ⟨i+1,by omega,by go_num,y0⟩
end
namespace avssAll
open Go.ChangeShapes Go.WideShapes Go.ChangeAt Go.RowKit
theorem own:ownKnob Tryz.prog.godebug=none:=by kernel_rfl
theorem gA:Tryz.prog.globalNamed "math/bits.deBruijn64tab" =some 1:=by kernel_rfl
theorem gB:Tryz.prog.globalNamed "consistory/mod.tried" =some 0:=by kernel_rfl
theorem tA:(Tryz.prog.globals[1]?).map (·.type)=some 237:=by kernel_rfl
theorem tB:(Tryz.prog.globals[0]?).map (·.type)=some 206:=by kernel_rfl
theorem cA:Tryz.prog.cellsOf 237=64:=by kernel_rfl
theorem cB:Tryz.prog.cellsOf 206=12:=by kernel_rfl
theorem c8:Tryz.prog.cellsOf 5=1:=by kernel_rfl
theorem c64:Tryz.prog.cellsOf 22=1:=by kernel_rfl
theorem Bf{W:World}(h:laidMetH prog Rows.avssAllRow.laid W):yd W:=by
 have h1:laidMet prog Rows.avssAllRow.laid W:=h;have a:=Lib.tabIs_of_head (zs:= [0,1,56,2,57,49,28,3,61,58,42,50,38,29,17,4,62,47,59,36,45,43,51,22,53,39,33,30,24,18,12,5,63,55,48,27,60,41,37,16,46,35,44,21,52,32,23,11,54,26,40,15,34,20,31,10,25,14,19,9,13,8,7,6]) gA tA underlying237 underlying5 c8 cA h1;have b:=Lib.tabIs_of_head (rest:= []) (zs:=xf) gB tB underlying206 underlying22 c64 cB (laidMet.tail h1);exact ⟨fun j hj=>by rw [a.cell gA j hj];exact congrArg (fun z=>some (Value.int .u8 z)) (zaa j hj),fun j hj=>b.cell gB j hj⟩
theorem walk(a0:Bool)(a1:Int)(a2:Int)(v3:Value)(l3:List Int)(v4:Value)(l4:List Ts)(a5:Int)(w:World)(w1:(Lit.int .i64 a1).wf=true)(w2:(Lit.int .u64 a2).wf=true)(w3:Sl Fk (fun _=>True) w v3 l3)(g3:(fun _:List Int=>True) l3)(w4:Sl Yc (fun _=>True) w v4 l4)(g4:LG (fun d=>d.2.2.2.2.2.2.length≤17592186044415) l4)(w5:(Lit.int .i64 a5).wf=true)(hT:yd w):
  Calls prog 4 #[.bool a0, .int .i64 a1, .int .u64 a2,v3,v4, .int .i64 a5] w fun e w'=>e= .returned (.bool true)∧Below w.heap.size w w':=
 (Nq a0 a1 a2 v3 l3 v4 l4 a5 _ _ w (Kx w2) w3 w4 g4.1 g4.2 hT).mono fun _ _ ⟨he,hg⟩=>⟨he,zE hg⟩
theorem UX:laidOutB prog=true:=by kernel_rfl
theorem Qd(H:Type)(enc:TypeId×Value→H)(W:World)(base:Nat)(args:Array Value)(ds gs:List (DataW H))(bf:List MemPlace)
  (hval: ∀(j:Nat) t v,Tryz.f4.params[j]? =some t→args[j]? =some v→Value.okWide prog W .any base t v)
  (hW:DataW.Whole enc prog Tryz.f4.params.toList Rows.avssAllSpec.vars false W args.toList ds gs bf) (hL:laidMetH prog Rows.avssAllRow.laid W)
  (hZ:(DataW.weightsEach prog (Tryz.f4.params.toList++(OpenSpec.ofChange Rows.avssAllSpec).bare.plain.varTypes prog) (ds++gs)).all (· ≤reachBytes)=true):
  Calls prog 4 args W fun e W'=> ∃v,e= .returned v∧Rows.avssAllSpec.post enc prog Tryz.f4 false true false false W args v W':=by
 have hW':=hW;obtain ⟨p,q,hA0,hV,rfl,hfz,hnd⟩:=hW;have hA:DataW.TrodAll enc prog W 0 (fun _=>true) true Tryz.f4.params.toList args.toList ds p:=hA0;rw [params4] at hA hval hZ;obtain ⟨v0,vs0,d0,ds0,p0,q0,hargs,rfl,rfl,h0,r0⟩:=trodAll_cons hA;obtain ⟨v1,vs1,d1,ds1,p1,q1,rfl,rfl,rfl,h1,r1⟩:=trodAll_cons r0;obtain ⟨v2,vs2,d2,ds2,p2,q2,rfl,rfl,rfl,h2,r2⟩:=trodAll_cons r1;obtain ⟨v3,vs3,d3,ds3,p3,q3,rfl,rfl,rfl,h3,r3⟩:=trodAll_cons r2;obtain ⟨v4,vs4,d4,ds4,p4,q4,rfl,rfl,rfl,h4,r4⟩:=trodAll_cons r3;obtain ⟨v5,vs5,d5,ds5,p5,q5,rfl,rfl,rfl,h5,r5⟩:=trodAll_cons r4;obtain ⟨rfl,rfl,rfl⟩:=trodAll_nil r5;obtain rfl:args= #[v0,v1,v2,v3,v4,v5]:=by cases args;simp_all
 obtain ⟨rfl,rfl⟩:=trodVars_none hV;have z0:=yh (t:=4) (d:=d0) hZ;have y0:=yg (t:=4) (d:=d0) hZ;have z1:=yh (t:=3) (d:=d1) y0;have y1:=yg (t:=3) (d:=d1) y0;have z2:=yh (t:=22) (d:=d2) y1;have y2:=yg (t:=22) (d:=d2) y1;have z3:=yh (t:=23) (d:=d3) y2;have y3:=yg (t:=23) (d:=d3) y2;have z4:=yh (t:=24) (d:=d4) y3;have y4:=yg (t:=24) (d:=d4) y3;have z5:=yh (t:=3) (d:=d5) y4;have y5:=yg (t:=3) (d:=d5) y4;obtain ⟨a0,rfl,rfl,rfl⟩:=open_bool underlying4 (hval 0 4 v0 rfl rfl) h0;obtain ⟨a1,rfl,rfl,rfl,w1⟩:=open_int underlying3 (hval 1 3 v1 rfl rfl) h1;obtain ⟨a2,rfl,rfl,rfl,w2⟩:=open_int underlying22 (hval 2 22 v2 rfl rfl) h2;obtain ⟨a3,len3,cap3,rfl⟩:=okWide_slice underlying23 (hval 3 23 v3 rfl rfl);have k3:=h3;have lt3: ∀x∈p3,x.block< W.heap.size:=by obtain ⟨m,hm⟩:=k3;exact DataW.trod_lt m _ _ _ hm
 obtain ⟨l3,w3,g3⟩:=Un TN k3 z3;obtain ⟨a4,len4,cap4,rfl⟩:=okWide_slice underlying24 (hval 4 24 v4 rfl rfl);have k4:=h4;have lt4: ∀x∈p4,x.block< W.heap.size:=by obtain ⟨m,hm⟩:=k4;exact DataW.trod_lt m _ _ _ hm
 obtain ⟨l4,w4,g4⟩:=Un UI k4 z4;obtain ⟨a5,rfl,rfl,rfl,w5⟩:=open_int underlying3 (hval 5 3 v5 rfl rfl) h5;clear hA0;refine (walk a0 a1 a2 _ l3 _ l4 a5 W w1 w2 w3 g3 w4 g4 w5 (Bf hL)).mono fun e W' ⟨he,bel⟩=> ?_
 subst he;exact ⟨_,rfl,_,_,_, [],_, [],hW',trodAll_mk1 (shut_bool underlying4 _),(trodAll_cons_mk (shut_bool underlying4 _) (trodAll_cons_mk (shut_int underlying3 w1) (trodAll_cons_mk (shut_int underlying22 w2) (trodAll_cons_mk (Below.trod UX (by kernel_rfl) (of_decide_eq_true (by kernel_rfl)) k3 bel lt3) (trodAll_cons_mk (Below.trod UX (by kernel_rfl) (of_decide_eq_true (by kernel_rfl)) k4 bel lt4) (trodAll_cons_mk (shut_int underlying3 w5) trodAll_mk0)))))),rfl,bel.frame _,fun h=>by cases h⟩
noncomputable def Zw(os:Os):World:=
 {World.holding prog os ⟨#[], #[], []⟩ with heap:=((World.holding prog os ⟨#[], #[], []⟩).heap.modify 0 (Up ⟨[2,3,5,7,11,13,17,19,23,29,31,37].map (.int .u64)⟩)).modify 1 (Up ⟨[0,1,56,2,57,49,28,3,61,58,42,50,38,29,17,4,62,47,59,36,45,43,51,22,53,39,33,30,24,18,12,5,63,55,48,27,60,41,37,16,46,35,44,21,52,32,23,11,54,26,40,15,34,20,31,10,25,14,19,9,13,8,7,6].map (.int .u8)⟩)}
theorem RT(os:Os):laidMet prog Rows.avssAllRow.laid ((Zw os).forCall (fun _ _=>0) ⟨#[], #[.bool false, .int .i64 0, .int .u64 0, .slice none 0 0, .slice none 0 0, .int .i64 0], []⟩).memory:=
 laidMet_of_run' 8 (by kernel_rfl) (by kernel_rfl)
theorem EI(os:Os){H:Type}(enc:TypeId×Value→H): ∃pz,DataW.whole enc prog ((Zw os).forCall (fun _ _=>0) ⟨#[], #[.bool false, .int .i64 0, .int .u64 0, .slice none 0 0, .slice none 0 0, .int .i64 0], []⟩).memory Tryz.f4.params.toList Rows.avssAllSpec.vars false (#[.bool false, .int .i64 0, .int .u64 0, .slice none 0 0, .slice none 0 0, .int .i64 0]:Array Value).toList 8=some ([.lit (.bool false), .lit (.int .i64 0), .lit (.int .u64 0), .nil, .nil, .lit (.int .i64 0)], [],pz):=
 ⟨[],by kernel_rfl⟩
theorem JS(os:Os)(sd:os.Started)(H:Type)(enc:TypeId×Value→H)(F:Stop.Interp):
  ReturnsInHanded {} Tryz.checked os 4 .any ((OpenSpec.ofChange Rows.avssAllSpec).preRow enc prog Tryz.f4 Rows.avssAllRow.domain false Rows.avssAllRow.laid) (((OpenSpec.ofChange Rows.avssAllSpec).at F).post enc prog Tryz.f4 false true false false):=by
 obtain ⟨pz,hx⟩:=EI os enc;refine returnsInHanded_of_row (C:=Tryz.checked) (s:=OpenSpec.ofChange Rows.avssAllSpec) own sd (by kernel_rfl) func4
  (witness_row_at (enc:=enc) (C:=Tryz.checked) false (Zw os) #[.bool false, .int .i64 0, .int .u64 0, .slice none 0 0, .slice none 0 0, .int .i64 0] rfl (by kernel_rfl) (by kernel_rfl) (by kernel_rfl)
   (OpenSpec.preRow_of_cond 8 hx (by kernel_rfl) (fun k hk=>by cases hk) (by kernel_rfl) (RT os))) ?_
 intro W base args ds gs bf hval hW _ _ hZ hL _ _;exact Qd H enc W base args ds gs bf hval hW hL hZ
theorem Bj:Rows.AvssAllSaid:=
 OpenClaim.holds_of_cond 4 Tryz.f4 rfl rfl rfl rfl rfl rfl rfl ⟨rfl,rfl,rfl,rfl,rfl⟩ rfl rfl rfl rfl rfl (by kernel_rfl) func4 (by kernel_rfl)
  (of_decide_eq_true (by kernel_rfl)) (by unfold Func.isWrapper;first|(rw [if_pos (by decide+kernel)];kernel_rfl)|(rw [if_neg (by decide+kernel)];exact ⟨rfl,rfl⟩))
  (fun os sd H enc _ F=>by rw [OpenClaim.pre_eq_preRow];exact JS os sd H enc F)
theorem plain(f:FuncId)(fn:Func)(hf:Tryz.pinned.checked.prog.funcNamed "consistory/consistorylaw19.AvssAll" =some f)(hfn:Tryz.pinned.checked.prog.funcs[f]? =some fn):
  false=Tryz.pinned.checked.prog.looks []∧ ∀(j:Nat) t,fn.params[j]? =some t→Tryz.pinned.checked.prog.wantsStandIn t=false:=by
 obtain rfl:f=4:=Option.some.inj ((show Tryz.prog.funcNamed "consistory/consistorylaw19.AvssAll" =some 4 by kernel_rfl).symm.trans hf)|>.symm
 obtain rfl:fn=Tryz.f4:=(Option.some.inj (Tryz.func4.symm.trans hfn)).symm;refine ⟨by kernel_rfl,fun j t ht=> ?_⟩;rw [params4] at ht;have hmem:=Array.mem_of_getElem? ht;have hor:t=4∨t=3∨t=22∨t=23∨t=24∨t=3:=by simpa using hmem
 rcases hor with rfl|rfl|rfl|rfl|rfl|rfl
 all_goals first|exact (show Tryz.prog.wantsStandIn 24=false by kernel_rfl)|exact (show Tryz.prog.wantsStandIn 23=false by kernel_rfl)|exact (show Tryz.prog.wantsStandIn 4=false by kernel_rfl)|exact (show Tryz.prog.wantsStandIn 3=false by kernel_rfl)|exact (show Tryz.prog.wantsStandIn 22=false by kernel_rfl)
theorem card:Rows.AvssAllCardSaid:=
 Claim7.holds_tied_plain_at .later [] _ _ _ _ Bj (fun _ h=>by cases h) (by kernel_rfl) (fun _ h=>by cases h) avssAll_row_tie rfl ⟨rfl,rfl⟩ (by kernel_rfl) rfl plain (by kernel_rfl)
end avssAll
end Go.Proofs.YtkdfjkdphdfclaaGreatDoor

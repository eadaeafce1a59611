/- Part 18 of the proof of a card of AvssAnew. -/
import Derived.Test.YtkdfjkdphdfclaaGreatDoorV17
set_option maxRecDepth 100000
set_option maxHeartbeats 16000000
set_option linter.unusedVariables false
set_option linter.unusedSimpArgs false
namespace Go.Proofs.YtkdfjkdphdfclaaGreatDoor
open Tryz
section
open Go Go.RowKit Go.Shelf Go.Maps
theorem Zz(v1 v2:Value)(xs:List Int)(X Y:Nat→Prop)(w:World)(h1:Sl ze X w v1 xs)(h2:Sl ze Y w v2 xs):
  Calls prog 25 #[v1,v2] w (Td w (.bool true)):=by
 have H1:=za h1;have H2:=za h2;obtain ⟨A1,c1,rfl,hc1,hc2⟩:=h1.form;obtain ⟨A2,c2,rfl,_,_⟩:=h2.form;clear h1 h2;have HST:Hid (∃n,w=w.drewN n):=za ⟨0,rfl⟩;go_enter func25,ntmps25;go_wp2_with fail;go_loopg [5] xs.length (fun g s5 wx=> ∃j:Nat,j+g=xs.length∧s5= .int .i64 j∧Hid (∃n,wx=w.drewN n))
 case atStart=>exact ⟨0,by omega,rfl,HST⟩
 case round=>
  obtain ⟨j,hj,rfl,HX⟩:=hrel;obtain ⟨n0,rfl⟩:=HX.z;cases gk with
  |zero=>
   obtain rfl:j=xs.length:=by omega
   clear HX HST;go_wp2;go_ret;exact ⟨rfl,_,rfl⟩
  |succ m=>
   have hjn:(j:Int)< (xs.length:Int):=by omega
   have hj0:(0:Int)≤(j:Int):=by omega
   have hjN:j< xs.length:=by omega
   obtain ⟨g1,o1,c1',e1,_,_,a1,u1⟩:=H1.z.atU hjN;injection e1 with e11 e12 e13
   subst e11 e13;obtain ⟨g2,o2,c2',e2,_,_,a2,_⟩:=H2.z.atU hjN;injection e2 with e21 e22 e23
   subst e21 e23;clear HX HST e12 e22;generalize xs[j]=y at *;go_wp2_with fail;go_quiet (fail);go_wp2_with fail;go_roundg m
   case measure=>omega
   case rel=>exact ⟨j+1,by omega,by go_num,za ⟨_,rfl⟩⟩
theorem To(v1 v2:Value)(xs:List (Int×List Int))(X Y:Nat→Prop)(w:World)(h1:Sl Yg X w v1 xs)(h2:Sl Yg Y w v2 xs):
  Calls prog 65 #[v1,v2] w (Td w (.bool true)):=by
 have H1:=za h1;have H2:=za h2;obtain ⟨A1,c1,rfl,hc1,hc2⟩:=h1.form;obtain ⟨A2,c2,rfl,_,_⟩:=h2.form;clear h1 h2;have HST:Hid (∃n,w=w.drewN n):=za ⟨0,rfl⟩;go_enter func65,ntmps65;go_wp2_with fail;go_loopg [5] xs.length (fun g s5 wx=> ∃j:Nat,j+g=xs.length∧s5= .int .i64 j∧Hid (∃n,wx=w.drewN n))
 case atStart=>exact ⟨0,by omega,rfl,HST⟩
 case round=>
  obtain ⟨j,hj,rfl,HX⟩:=hrel;obtain ⟨n0,rfl⟩:=HX.z;cases gk with
  |zero=>
   obtain rfl:j=xs.length:=by omega
   clear HX HST;go_wp2;go_ret;exact ⟨rfl,_,rfl⟩
  |succ m=>
   have hjn:(j:Int)< (xs.length:Int):=by omega
   have hj0:(0:Int)≤(j:Int):=by omega
   have hjN:j< xs.length:=by omega
   obtain ⟨g1,o1,c1',t1,e1,_,_,a1,b1,_,k1⟩:=H1.z.atT hjN;injection e1 with e11 e12 e13
   subst e11 e13;obtain ⟨g2,o2,c2',t2,e2,_,_,a2,b2,_,k2⟩:=H2.z.atT hjN;injection e2 with e21 e22 e23
   subst e21 e23;have HN:=za (fun k=>Zz t1 t2 xs[j].2 X Y (w.drewN k) (k1.kept (zf (gRr w none) k)) (k2.kept (zf (gRr w none) k)));obtain ⟨B1,d1,rfl,_,_⟩:=k1.form;obtain ⟨B2,d2,rfl,_,_⟩:=k2.form;clear HX HST e12 e22 k1 k2;generalize xs[j].2.length=n1 at *;generalize xs[j].1=y at *;go_wp2_with fail;go_quiet ((go_at_call 25;exact Uq (HN.z _)));go_wp2_with fail;go_roundg m
   case measure=>omega
   case rel=>exact ⟨j+1,by omega,by go_num,za ⟨_,rfl⟩⟩
attribute [local go_sem] Oper.semAt_some
theorem Un(v1 v2:Value)(s:SSt)(X Y:Nat→Prop)(w:World)(h1:Xj X w v1 s)(h2:Xj Y w v2 s):
  Calls prog 28 #[v1,v2] w fun e w'=>e= .returned (.bool true)∧w.grownBy w' none:=by
 obtain ⟨a1,a2,a3,a4,a5,rfl,p1,p2,p3,p4',p5⟩:=h1;obtain ⟨b1,b2,b3,b4,b5,rfl,q1,q2,q3,q4,q5⟩:=h2;obtain ⟨w0,d0⟩:=exq ((w.alloc (.cells #[.int .i64 s.dealer, .int .i64 s.me,a1,a2,a3,a4,a5, .bool s.done] 78)).alloc (.cells #[.int .i64 s.dealer, .int .i64 s.me,b1,b2,b3,b4,b5, .bool s.done] 78));have c0:w.grownBy w0 none:=by rw [d0];exact (gAl _ _ none).trans (gAl _ _ none)
 have y0:=za c0;have g0:Hid (Bk w0 w.heap.size 78 #[.int .i64 s.dealer, .int .i64 s.me,a1,a2,a3,a4,a5, .bool s.done]):=za (by rw [d0];exact (Bk.new w _ _).alloc _);have f0:Hid (Bk w0 (w.heap.size+1) 78 #[.int .i64 s.dealer, .int .i64 s.me,b1,b2,b3,b4,b5, .bool s.done]):=za (by
  rw [d0];have h:=Bk.new (w.alloc (.cells #[.int .i64 s.dealer, .int .i64 s.me,a1,a2,a3,a4,a5, .bool s.done] 78)) 78 #[.int .i64 s.dealer, .int .i64 s.me,b1,b2,b3,b4,b5, .bool s.done];rw [World.size_alloc] at h;exact h)
 have HL:=za (fun W (hW:w0.grownBy W none)=>Gq a1 b1 s.coms X Y W (p1.kept (c0.trans hW)) (q1.kept (c0.trans hW)));have v0:=za (fun W (hW:w0.grownBy W none)=>Zz a2 b2 s.deal X Y W (p2.kept (c0.trans hW)) (q2.kept (c0.trans hW)));have t0:=za (fun W (hW:w0.grownBy W none)=>To a3 b3 s.echos X Y W (p3.kept (c0.trans hW)) (q3.kept (c0.trans hW)));have s0:=za (fun W (hW:w0.grownBy W none)=>To a4 b4 s.readies X Y W (p4'.kept (c0.trans hW)) (q4.kept (c0.trans hW)));have u0:=za (fun W (hW:w0.grownBy W none)=>Zz a5 b5 s.own X Y W (p5.kept (c0.trans hW)) (q5.kept (c0.trans hW)));obtain ⟨A1,n1,c1,rfl⟩:=p1.shape;obtain ⟨A2,n2,c2,rfl⟩:=p2.shape;obtain ⟨A3,n3,c3,rfl⟩:=p3.shape;obtain ⟨A4,n4,c4,rfl⟩:=p4'.shape;obtain ⟨A5,n5,c5,rfl⟩:=p5.shape;obtain ⟨B1,m1,d1,rfl⟩:=q1.shape;obtain ⟨B2,m2,d2,rfl⟩:=q2.shape;obtain ⟨B3,m3,d3,rfl⟩:=q3.shape;obtain ⟨B4,m4,d4,rfl⟩:=q4.shape;obtain ⟨B5,m5,d5,rfl⟩:=q5.shape;obtain ⟨dn,p0⟩:=exq (s.done);obtain ⟨de,q0⟩:=exq (s.dealer);obtain ⟨me,o0⟩:=exq (s.me);rw [←p0, ←q0, ←o0] at g0 f0 d0 ⊢;have b0:=g0.z.rule;have a0:=f0.z.rule;have r0:=za d0;rw [d0] at b0 a0;have z0:Hid ((dn==dn)=true):=za (by simp);have A0:=z0.z;clear p1 p2 p3 p4' p5 q1 q2 q3 q4 q5 d0 c0 p0 q0 o0;go_enter func28,ntmps28;go_wp2_with fail;rw [←r0.z] at b0 a0 ⊢;have n0:w0.grownBy w0 none:=gRr _ _;refine (HL.z w0 n0).mono ?_;rintro e x2 ⟨rfl,n2',ew2⟩;have l0:w0.grownBy x2 none:=n0.trans (by rw [ew2];exact zb _ _);clear b0 a0 ew2 n0;have b0:=(g0.z.grown l0 (by simp)).rule
 have a0:=(f0.z.grown l0 (by simp)).rule;go_wp2_with fail;refine (v0.z x2 l0).mono ?_;rintro e x3 ⟨rfl,n3',ew3⟩;have k0:w0.grownBy x3 none:=l0.trans (by rw [ew3];exact zb _ _);clear b0 a0 ew3 l0;have b0:=(g0.z.grown k0 (by simp)).rule;have a0:=(f0.z.grown k0 (by simp)).rule;go_wp2_with fail;refine (t0.z x3 k0).mono ?_;rintro e x4 ⟨rfl,n4',ew4⟩;have j0:w0.grownBy x4 none:=k0.trans (by rw [ew4];exact zb _ _);clear b0 a0 ew4 k0;have b0:=(g0.z.grown j0 (by simp)).rule;have a0:=(f0.z.grown j0 (by simp)).rule;go_wp2_with fail;refine (s0.z x4 j0).mono ?_;rintro e x5 ⟨rfl,n5',ew5⟩;have i0:w0.grownBy x5 none:=j0.trans (by rw [ew5];exact zb _ _);clear b0 a0 ew5 j0;have b0:=(g0.z.grown i0 (by simp)).rule;have a0:=(f0.z.grown i0 (by simp)).rule;go_wp2_with fail;refine (u0.z x5 i0).mono ?_;rintro e x6 ⟨rfl,n6',ew6⟩;have m0:w0.grownBy x6 none:=i0.trans (by rw [ew6];exact zb _ _);clear b0 a0 ew6 i0;have b0:=(g0.z.grown m0 (by simp)).rule;have a0:=(f0.z.grown m0 (by simp)).rule;go_wp2_with fail;go_ret;exact ⟨rfl,y0.z.trans m0⟩
end
section
open Go Go.RowKit Go.Shelf Go.Maps
theorem MY:(Tryz.prog.info? 137).map (fun i=>(i.zero,i.size,i.bytes))=some (some (.agg #[.int .i64 0, .slice none 0 0]),2,32):=by kernel_rfl
theorem NQ:zM prog 76 137 2 32:=zM.mk' (by decide) Tryz.underlying76 MY rfl
theorem Ti{fn:Func}{W:World}{B:Nat}{a b c d e f g h:Value}(hr:fn.results= #[.cell 2 78])(tmps:Array Value)(h2:tmps.getD 2 undef= .pointer (some ⟨B,0,none⟩))(hb:Bk W B 78 #[a,b,c,d,e,f,g,h]):(results fn tmps).run prog W= .ok (.agg #[a,b,c,d,e,f,g,h]) W:=by
 have r1:=run_loadVar_row (P:=prog) W B 78 78 #[a,b,c,d,e,f,g,h] (0,0) _ hb Tryz.underlying78 rfl (by kernel_rfl);have h2':tmps[2]?.getD undef= .pointer (some ⟨B,0,none⟩):=by simpa using h2
 simp [results,hr,h2',asAddr,r1]
theorem yQ.sl{α:Type}{E:Enc α}{X:Nat→Prop}{s:Option Nat}{b:Nat}{w w':World}{v:Value}{xs:List α}(h:yQ s (some b) w w')(hs: ∀g,X g→some g≠s)(ht: ∀g,X g→g≠b)(k:Sl E X w v xs):Sl E X w' v xs:=by
 cases s with
 |none=>
  have hg:w.grownBy w' (some b):=⟨h.os,h.tape,h.output,h.size,fun i hi hne=>h.block i hi (by simp) hne⟩;exact k.keep hg (fun g hg e=>by injection e with e;exact ht g hg e)
 |some a=>
  have hg:zk a b w w':=⟨h.os,h.tape,h.output,h.size,fun i hi e1 e2=>h.block i hi (by simpa using e1) (by simpa using e2)⟩;exact k.keep2 hg (fun hX=>hs a hX rfl) (fun hX=>ht b hX rfl)
theorem Ui{o:Oper}{a:Act}{K:Act→World→Prop}{Q:Exit→Act→World→Prop}{w:World}(p v:Operand)(ho:o.op= .store 76 p v)(hd:o.dst=none){g k:Nat}{u c0:Value}(hp:a.eval p= .pointer (some ⟨g,k,none⟩))(hv:a.eval v=u)(hu: ∃A n c,u= .slice A n c)(hc:w.cell? ⟨g,k,none⟩=some c0)(hf:w.frozen? ⟨g,k,none⟩=false)(h:K a (w.setCell ⟨g,k,none⟩ u)):o.wp prog a w K Q:=by
 obtain ⟨A,n,c,rfl⟩:=hu;unfold Oper.wp execOp;simp only [ho];rw [hp,hv];clear hp hv ho;go_simp;exact h
abbrev Hw:Array Value:= #[.int .i64 0, .int .i64 0, .slice none 0 0, .slice none 0 0, .slice none 0 0, .slice none 0 0, .slice none 0 0, .bool false]
attribute [local go_sem] Oper.semAt_some
theorem OO(v:Value)(s:SSt)(X:Nat→Prop)(w:World)(h:Xj X w v s)(o1:s.echos.length≤100000)(j1:s.readies.length≤100000):
  Calls prog 29 #[v] w fun e w'=> ∃v',e= .returned v'∧Xj (fun g=>X g∨w.heap.size≤g) w' v' s∧w.grownBy w' none:=by
 obtain ⟨vc,vd,ve,vr,vo,rfl,s1,s2,s3,s4,s5⟩:=h;have HS:Hid (Sl (zh ze) X w vc s.coms∧Sl ze X w vd s.deal∧Sl ze X w vo s.own):=za ⟨s1,s2,s5⟩;have s3b:Sl Yg (fun g=>X g∧g< w.heap.size) w ve s.echos:=s3.more fun g h1 h2=>⟨h2,h1⟩
 have s4b:Sl Yg (fun g=>X g∧g< w.heap.size) w vr s.readies:=s4.more fun g h1 h2=>⟨h2,h1⟩
 have I1:=za s3b;have H1:=za s4b;have X1:=za o1;have E1:=za j1;obtain ⟨Ac,nc,cc,rfl⟩:=s1.shape;obtain ⟨Ad,nd,cd,rfl⟩:=s2.shape;obtain ⟨Ae,ce,rfl,_,_⟩:=s3.form;obtain ⟨Ar,cr,rfl,_,_⟩:=s4.form;obtain ⟨Ao,no,co,rfl⟩:=s5.shape;obtain ⟨L4,e0⟩:=exq (s.echos.length);obtain ⟨L5,Z0⟩:=exq (s.readies.length);have F1:=za e0;have D1:=za Z0;have x1:(L4:Int)≤100000:=by omega
 have w1:(L5:Int)≤100000:=by omega
 rw [←e0] at I1 ⊢;rw [←Z0] at H1 ⊢;obtain ⟨dn,V0⟩:=exq (s.done);obtain ⟨de,Y0⟩:=exq (s.dealer);obtain ⟨me,R0⟩:=exq (s.me);have E0:Hid (dn=s.done∧de=s.dealer∧me=s.me):=za ⟨V0,Y0,R0⟩;rw [←V0, ←Y0, ←R0];obtain ⟨W0,m0⟩:=exq (((w.alloc (.cells #[.int .i64 de, .int .i64 me, .slice Ac nc cc, .slice Ad nd cd, .slice Ae L4 ce, .slice Ar L5 cr, .slice Ao no co, .bool dn] 82)).alloc (.cells Hw 78)).alloc (.cells #[.int .i64 de, .int .i64 me, .slice Ac nc cc, .slice Ad nd cd, .slice none 0 0, .slice none 0 0, .slice Ao no co, .bool dn] 78));have G1:Hid (w.grownBy W0 none):=za (by rw [m0];exact ((gAl _ _ none).trans (gAl _ _ none)).trans (gAl _ _ none));have M0:Hid (W0.heap.size=w.heap.size+3):=za (by rw [m0];simp);have O0:Hid (Bk W0 w.heap.size 82 #[.int .i64 de, .int .i64 me, .slice Ac nc cc, .slice Ad nd cd, .slice Ae L4 ce, .slice Ar L5 cr, .slice Ao no co, .bool dn]):=za (by rw [m0];exact ((Bk.new w _ _).alloc _).alloc _);have U1:Hid (Bk W0 (w.heap.size+1) 78 Hw):=za (by
  rw [m0];have h:=Bk.new (w.alloc (.cells #[.int .i64 de, .int .i64 me, .slice Ac nc cc, .slice Ad nd cd, .slice Ae L4 ce, .slice Ar L5 cr, .slice Ao no co, .bool dn] 82)) 78 Hw;rw [World.size_alloc] at h;exact h.alloc _)
 have T1:Hid (Bk W0 (w.heap.size+1+1) 78 #[.int .i64 de, .int .i64 me, .slice Ac nc cc, .slice Ad nd cd, .slice none 0 0, .slice none 0 0, .slice Ao no co, .bool dn]):=za (by
  rw [m0];have h:=Bk.new ((w.alloc (.cells #[.int .i64 de, .int .i64 me, .slice Ac nc cc, .slice Ad nd cd, .slice Ae L4 ce, .slice Ar L5 cr, .slice Ao no co, .bool dn] 82)).alloc (.cells Hw 78)) 78 #[.int .i64 de, .int .i64 me, .slice Ac nc cc, .slice Ad nd cd, .slice none 0 0, .slice none 0 0, .slice Ao no co, .bool dn];rw [World.size_alloc,World.size_alloc] at h;exact h)
 have O1:=za m0;clear s1 s2 s3 s3b s4b s4 s5 o1 j1 e0 Z0 V0 Y0 R0 m0;go_enter func29,ntmps29;go_upto_region 2 with (fail)
 rw [←O1.z];have L1:=O0.z.rule;go_wp2_with fail;go_loopg [4] L4 (fun g s4 wx=> ∃j:Nat,j+g=L4∧s4= .int .i64 j∧Hid (∃a,Bk wx (w.heap.size+1+1) 78 #[.int .i64 de, .int .i64 me, .slice Ac nc cc, .slice Ad nd cd,a, .slice none 0 0, .slice Ao no co, .bool dn]∧Acc Yg W0.heap.size 137 (fun g=>(X g∧g< w.heap.size)∨W0.heap.size≤g) wx a (s.echos.take j)∧W0.grownBy wx (some (w.heap.size+1+1))))
 case atStart=>exact ⟨0,by omega,rfl,za ⟨.slice none 0 0,T1.z,Acc.nil _ _ _ _ _,gRr _ _⟩⟩
 case round=>
  rename World=>wr
  obtain ⟨j,hj,rfl,HX⟩:=hrel;rcases Nat.eq_zero_or_pos gk with hg0|hg0
  ·obtain rfl:j=L4:=by omega
   obtain ⟨a4,k1,k2,k3⟩:=HX.z;rw [List.take_of_length_le (by rw [←F1.z];exact nRf _)] at k2;have J1:=za k2.sl;obtain ⟨W1,J0⟩:=exq (wr);have d1:=za k3;have f1:Hid (w.grownBy wr none):=za (G1.z.andThen k3 (fun b e=> .inl (by injection e with e;omega)));have F0:Hid (w.heap.size+1+1< wr.heap.size):=za (by have:=k3.size;have:=M0.z;omega);have f0:=za (O0.z.grown k3 (fun e=>by injection e with e;omega));have G0:=za (U1.z.grown k3 (fun e=>by injection e with e;omega));have p0:=za k1;have t0:=f0.z.rule;obtain ⟨A4,n4,c4,e4⟩:=k2.sl.shape;subst e4;clear HX k1 k2 k3 hg0 L1;have H0:Hid (Sl Yg (fun g=>((X g∧g< w.heap.size)∨W0.heap.size≤g)∧g< W1.heap.size) W1 (.slice A4 n4 c4) s.echos):=za (by rw [J0];exact J1.z.more fun g h1 h2=>⟨h2,h1⟩);rw [←J0] at f1 F0 f0 G0 p0 t0 ⊢;have P1:Hid (w.heap.size+3≤W1.heap.size):=za (by rw [J0];have:=d1.z.size;have:=M0.z;omega);obtain ⟨a4,A0⟩: ∃y:Value,y= .slice A4 n4 c4:=⟨_,rfl⟩;have i1:=za A0;rw [←A0] at p0 H0;clear J0 J1 A0;go_wp2_with fail;go_loopg [5] L5 (fun g s5 wx=> ∃j:Nat,j+g=L5∧s5= .int .i64 j∧Hid (∃a,Bk wx (w.heap.size+1+1) 78 #[.int .i64 de, .int .i64 me, .slice Ac nc cc, .slice Ad nd cd,a4,a, .slice Ao no co, .bool dn]∧Acc Yg W1.heap.size 137 (fun g=>(X g∧g< w.heap.size)∨W1.heap.size≤g) wx a (s.readies.take j)∧W1.grownBy wx (some (w.heap.size+1+1))))
   case atStart=>exact ⟨0,by omega,rfl,za ⟨.slice none 0 0,p0.z,Acc.nil _ _ _ _ _,gRr _ _⟩⟩
   case round=>
    rename World=>wr
    obtain ⟨j,hj,rfl,HX⟩:=hrel;rcases Nat.eq_zero_or_pos gk with hg0|hg0
    ·obtain rfl:j=L5:=by omega
     obtain ⟨a5,k1,k2,k3⟩:=HX.z;rw [List.take_of_length_le (by rw [←D1.z];exact nRf _)] at k2;have V1:=za k2.sl;have a0:=za k3;have g1:=za k1;have K1:=(f0.z.grown k3 (fun e=>by injection e with e;omega)).rule;have q0:=za (G0.z.grown k3 (fun e=>by injection e with e;omega));obtain ⟨A5,n5,c5,e5⟩:=k2.sl.shape;subst e5;have A0:=i1.z;subst A0;have e1:=g1.z.rule;have f2:=q0.z.free;have h2:=q0.z.rule;obtain ⟨wF,P0⟩:=exq ((((((((wr.setCell ⟨w.heap.size+1,0,none⟩ (.int .i64 de)).setCell ⟨w.heap.size+1,1,none⟩ (.int .i64 me)).setCell ⟨w.heap.size+1,2,none⟩ (.slice Ac nc cc)).setCell ⟨w.heap.size+1,3,none⟩ (.slice Ad nd cd)).setCell ⟨w.heap.size+1,4,none⟩ (.slice A4 n4 c4)).setCell ⟨w.heap.size+1,5,none⟩ (.slice A5 n5 c5)).setCell ⟨w.heap.size+1,6,none⟩ (.slice Ao no co)).setCell ⟨w.heap.size+1,7,none⟩ (.bool dn));have S1:Hid (Bk wF (w.heap.size+1) 78 #[.int .i64 de, .int .i64 me, .slice Ac nc cc, .slice Ad nd cd, .slice A4 n4 c4, .slice A5 n5 c5, .slice Ao no co, .bool dn]):=za (by rw [P0];exact ((((((((q0.z.set 0 _).set 1 _).set 2 _).set 3 _).set 4 _).set 5 _).set 6 _).set 7 _));have I0:wr.grownBy wF (some (w.heap.size+1)):=by
      rw [P0];exact (((((((zo _ _ 0 _).trans (zo _ _ 1 _)).trans (zo _ _ 2 _)).trans (zo _ _ 3 _)).trans (zo _ _ 4 _)).trans (zo _ _ 5 _)).trans (zo _ _ 6 _)).trans (zo _ _ 7 _)
     have t1:w.grownBy wr none:=f1.z.andThen k3 (fun b e=> .inl (by injection e with e;omega));have N0:Hid (w.grownBy wF none):=za (zP t1 I0 (fun b e=>by injection e with e;omega));have R1:Hid (Xj (fun g=>X g∨w.heap.size≤g) wF (.agg #[.int .i64 de, .int .i64 me, .slice Ac nc cc, .slice Ad nd cd, .slice A4 n4 c4, .slice A5 n5 c5, .slice Ao no co, .bool dn]) s):=za (by
      obtain ⟨q1,q2,q5⟩:=HS.z;have Y1:=M0.z;have Z1:=P1.z;refine ⟨_,_,_,_,_,by rw [E0.z.1,E0.z.2.1,E0.z.2.2],(q1.kept N0.z).more fun g _ h=> .inl h,(q2.kept N0.z).more fun g _ h=> .inl h, ?_, ?_,(q5.kept N0.z).more fun g _ h=> .inl h⟩
      ·have r1:=H0.z.keep k3 (fun g hg e=>by injection e with e;rcases hg.1 with h|h<;>omega);exact (r1.keep I0 (fun g hg e=>by injection e with e;rcases hg.1 with h|h<;>omega)).more fun g _ hg=>by
        rcases hg.1 with h|h
        ·exact .inl h.1
        ·exact .inr (by omega)
      ·exact (V1.z.keep I0 (fun g hg e=>by injection e with e;rcases hg with h|h<;>omega)).more fun g _ hg=>by
        rcases hg with h|h
        ·exact .inl h.1
        ·exact .inr (by omega))
     clear HX k1 k2 k3 hg0 t0 I0 t1;go_wp2_with fail;rw [←P0];exact ⟨rfl,_,Ti rfl _ rfl S1.z,_,rfl,R1.z,N0.z⟩
    ·have M1:(j:Int)< (L5:Int):=by omega
     have N1:(0:Int)≤(j:Int):=iNn j;have j0:j< s.readies.length:=by rw [←D1.z];omega
     obtain ⟨a,k1,k2,k3⟩:=HX.z;have b1:=za (f1.z.andThen k3 (fun b e=> .inl (by injection e with e;omega)));obtain ⟨ge,oe,ce',ue,ee,U0,v0,l0,z0,XX,g0⟩:=(H1.z.kept b1.z).atT j0;injection ee with ee1 ee2 ee3
     subst ee1 ee3;obtain ⟨y,hy⟩:=exq (s.readies[j]);rw [←hy] at l0 XX g0;have B0:Hid (s.readies.take (j+1)=s.readies.take j++ [y]):=za (by rw [tSg j0,hy]);obtain ⟨PR,n0⟩:=exq (s.readies.take j);have X0:Hid ((PR.length+1)*32≤140737488355328):=za (by rw [n0,lLt];omega);rw [←n0] at k2 B0;obtain ⟨Au,nu,cu,rfl⟩:=g0.shape;have HU:=za g0;have HI:=za XX;have Q1:=za k1;have Q0:=(f0.z.grown k3 (fun e=>by injection e with e;omega)).rule;have a0:=za k3;have d0:Hid (w.heap.size+1+1< W1.heap.size):=za (F0.z);have o0:Hid (∀g,a.ownBlock=some g→W1.heap.size≤g∧g< wr.drew.heap.size):=za fun g e=>k2.lt g e
     have C0:Hid ((∀g,a.ownBlock=some g→g< wr.drew.heap.size)∧w.heap.size+1+1< wr.drew.heap.size):=za ⟨fun g e=>(o0.z g e).2,by have:=d0.z;have:=k3.size;exact nLl d0.z k3.size⟩;have D0:Hid (Zb Yg W1.heap.size 137 (fun g=>(X g∧g< w.heap.size)∨W1.heap.size≤g) wr.drew a PR y (w.heap.size+1+1) 78 #[.int .i64 de, .int .i64 me, .slice Ac nc cc, .slice Ad nd cd,a4,a, .slice Ao no co, .bool dn] 5 [] wr.drew):=za (Zb.start (k2.kept (zb wr 1)) (k1.grown (zb wr 1) (by simp)) d0.z);have x0:Hid (∀g,((X g∧g< w.heap.size)∨W1.heap.size≤g)→g≠w.heap.size+1+1):=za (fun g hg e=>by have:=d0.z;rcases hg with hg|hg<;>omega);have b0:Hid (∀vs W,Zb Yg W1.heap.size 137 (fun g=>(X g∧g< w.heap.size)∨W1.heap.size≤g) wr.drew a PR y (w.heap.size+1+1) 78 #[.int .i64 de, .int .i64 me, .slice Ac nc cc, .slice Ad nd cd,a4,a, .slice Ao no co, .bool dn] 5 vs W→(W.cell? ⟨ge,oe+j*2,none⟩=some (.int .i64 y.1)∧W.cell? ⟨ge,oe+j*2+1,none⟩=some (.slice Au nu cu))∧W.cell? ⟨w.heap.size,5,none⟩=some (.slice (some ⟨ge,oe,none⟩) L5 cr)∧wr.drew.heap.size≤W.heap.size∧W1.heap.size≤W.heap.size∧Yg.rep (fun g=>((X g∧g< w.heap.size)∨W1.heap.size≤g)∧some g≠a.ownBlock) W [.int .i64 y.1, .slice Au nu cu] y):=za (fun vs W hC=>by
      have c0:=hC.gr;have s0:=c0.size;have n1: ∀g,g< w.heap.size+1→(∀k,a.ownBlock=some k→k≠g)∧g≠w.heap.size+1+1:=fun g hg=>⟨fun k e=>by have:=(o0.z k e).1;have:=d0.z;omega,by omega⟩
      obtain ⟨T0,S0⟩:=v0;refine ⟨⟨c0.cell (w:=wr.drew) l0 (fun e=>(n1 ge (by omega)).1 _ e.symm rfl) (fun e=>by injection e with e;omega),c0.cell (w:=wr.drew) z0 (fun e=>(n1 ge (by omega)).1 _ e.symm rfl) (fun e=>by injection e with e;omega)⟩, ?_,s0,nLT a0.z.size s0,_,rfl,HI.z, ?_⟩
      ·exact c0.cell (w:=wr.drew) (by have h:=(f0.z.grown a0.z (fun e=>by injection e with e;omega)).cell 5;exact h) (fun e=>(n1 w.heap.size (by omega)).1 _ e.symm rfl) (fun e=>by injection e with e;omega)
      ·exact (c0.sl (fun g hg e=>(n1 g (by have:=hg.2;omega)).1 _ e.symm rfl) (fun g hg e=>by have:=hg.2;omega) (HU.z.kept (zb wr 1))).more fun g _ hg=>⟨.inl hg,fun e=>(n1 g (by have:=hg.2;omega)).1 _ e.symm rfl⟩)
     clear HX k1 k2 k3 l0 z0 g0 XX U0 v0 hy n0 j0 ee2;go_upto_region 9 with (fail)
     clear Q0;refine FR.wp_region_late (MC Yg W1.heap.size 137 (fun g=>(X g∧g< w.heap.size)∨W1.heap.size≤g) wr.drew a PR y (w.heap.size+1+1) 78 #[.int .i64 de, .int .i64 me, .slice Ac nc cc, .slice Ad nd cd,a4,a, .slice Ao no co, .bool dn] 5) [8,10] 11 (by kernel_rfl) (by kernel_rfl) (by kernel_rfl) D0.z ?_;refine FR.mS (.pointer (some ⟨w.heap.size+1+1,5,none⟩)) [] (fun vs w' hC=>FR.kD fun K hK=> ?_) ?_
     ·go_simp;exact hK _ _ rfl ⟨rfl,gRf⟩
     refine FR.LateR.monoN (FR.Qv.eq (a)) [(0,43)] [0,1] (by kernel_rfl) (by rfl) (by kernel_rfl) (fun vs w' hq hC=> ?_) ?_
     ·intro x43 z1;have e43:x43= .pointer (some ⟨w.heap.size+1+1,5,none⟩):=z1;clear z1;subst e43;refine FR.askl_do rfl fun K hK=> ?_
      have hC:Zb _ _ _ _ _ _ _ _ _ _ _ _ vs w':=hC;obtain ⟨⟨l1,l1'⟩,l2,l3,l4,l5⟩:=b0.z vs w' hC;have c1:w'.cell? ⟨w.heap.size+1+1,5,none⟩=some a:=(hC.bk0 (hq 1 (by simp))).cell 5;go_simp;exact hK _ _ rfl ⟨rfl,gRf⟩
     refine FR.mS (.pointer (some ⟨w.heap.size,5,none⟩)) [] (fun vs w' hC=>FR.kD fun K hK=> ?_) ?_
     ·go_simp;exact hK _ _ rfl ⟨rfl,gRf⟩
     refine FR.mS (.slice (some ⟨ge,oe,none⟩) L5 cr) [(2,45)] (fun vs w' hC=>FR.pQ (FR.kD fun K hK=> ?_)) ?_
     ·have hC:Zb _ _ _ _ _ _ _ _ _ _ _ _ vs w':=hC;obtain ⟨⟨l1,l1'⟩,l2,l3,l4,l5⟩:=b0.z vs w' hC;go_simp;exact hK _ _ rfl ⟨rfl,gRf⟩
     refine FR.mS (.int .i64 j) [] (fun vs w' hC=>FR.kD fun K hK=> ?_) ?_
     ·go_simp;exact hK _ _ rfl ⟨rfl,gRf⟩
     refine FR.mS (.pointer (some ⟨ge,oe+j*2,none⟩)) [(3,46),(4,47)] (fun vs w' hC=>FR.pQ (FR.pQ (FR.kD fun K hK=> ?_))) ?_
     ·go_simp;exact hK _ _ rfl ⟨rfl,gRf⟩
     refine FR.mS (.agg #[.int .i64 y.1, .slice Au nu cu]) [(5,48)] (fun vs w' hC=>FR.pQ (FR.kD fun K hK=> ?_)) ?_
     ·have hC:Zb _ _ _ _ _ _ _ _ _ _ _ _ vs w':=hC;obtain ⟨⟨l1,l1'⟩,l2,l3,l4,l5⟩:=b0.z vs w' hC;go_simp;exact hK _ _ rfl ⟨rfl,gRf⟩
     refine FR.mV (Ef wr.drew.heap.size 137 #[.int .i64 y.1, .slice Au nu cu] C0.z.1 C0.z.2) [(6,49)] (fun vs w' hC=>FR.pQ (FR.kD fun K hK=> ?_)) ?_
     ·have hC:Zb _ _ _ _ _ _ _ _ _ _ _ _ vs w':=hC;obtain ⟨⟨l1,l1'⟩,l2,l3,l4,l5⟩:=b0.z vs w' hC;go_simp;exact hK _ _ rfl ⟨⟨_,rfl,l3,Bk.new w' _ _⟩,gAl w' _ none⟩
     refine FR.LateR.turn 0 [(1,44),(7,50)] (by kernel_rfl) [] rfl (by kernel_rfl) (fun vs w' hn hr hC=> ?_) ?_
     ·intro x44 v1;intro x50 h0;have h0: ∃b,x50= .slice (some ⟨b,0,none⟩) 1 1∧wr.drew.heap.size≤b∧Bk w' b 137 #[.int .i64 y.1, .slice Au nu cu]:=h0;obtain ⟨b50,e50,k50,l50⟩:=h0;subst e50;have e44:x44=a:=v1;clear v1;subst e44;refine FR.askl_do rfl fun K hK=> ?_
      have hC:Zb _ _ _ _ _ _ _ _ _ _ _ _ vs w':=hC;obtain ⟨⟨l1,l1'⟩,l2,l3,l4,l5⟩:=b0.z vs w' hC;refine Zb.app hC hn NQ (cx:= [.int .i64 y.1, .slice Au nu cu]) l5 (fun j u hu=>by rw [l50.cell j];simpa using hu) X0.z l4 (fun g hg=> .inr (nLT l4 hg)) (.tmp 44) (.tmp 50) rfl rfl rfl fun v' w2 hr=>hK _ _ rfl hr
     refine FR.mS (.pointer (some ⟨w.heap.size+1+1,5,none⟩)) [] (fun vs w' hC=>FR.kD fun K hK=> ?_) ?_
     ·go_simp;exact hK _ _ rfl ⟨rfl,gRf⟩
     refine FR.LateR.turn 1 [(9,52),(8,51)] (by kernel_rfl) [] rfl (by kernel_rfl) (fun vs w' hn hr hC=> ?_) ?_
     ·intro x52 u1;intro x51 K0;have e52:x52= .pointer (some ⟨w.heap.size+1+1,5,none⟩):=u1;clear u1;subst e52;refine FR.askl_do rfl fun K hK=> ?_
      have hC:Zb _ _ _ _ _ _ _ _ _ _ _ _ vs w':=hC;have K0:(0,x51)∈vs:=K0;have hb:=hC.bk0 hn;exact Ui (.tmp 52) (.tmp 51) rfl rfl rfl rfl (hC.shape K0) (hb.cell 5) (hb.free 5) (hK _ _ rfl (hC.put (u:=undef) hn K0 x0.z (EB w' (w.heap.size+1+1) 5 _) (hb.set 5 _)))
     intro vs w3 r0 i0;have i0:Zb _ _ _ _ _ _ _ _ _ _ _ _ vs w3:=i0;intro y0 k0 y1 k1 y2 k2 y3 k3
     iterate 7 (refine pD ?_;intro _)
     have HF:Hid (∃a,Bk w3 (w.heap.size+1+1) 78 #[.int .i64 de, .int .i64 me, .slice Ac nc cc, .slice Ad nd cd,a4,a, .slice Ao no co, .bool dn]∧Acc Yg W1.heap.size 137 (fun g=>(X g∧g< w.heap.size)∨W1.heap.size≤g) w3 a (s.readies.take (j+1))∧W1.grownBy w3 (some (w.heap.size+1+1))):=za (by
      obtain ⟨a1,p1,p2,p3⟩:=i0.fin r0.2;refine ⟨a1,p2,by rw [B0.z];exact p1, ?_⟩;exact ⟨p3.os.trans a0.z.os,p3.tape.trans a0.z.tape,p3.output.trans a0.z.output,nLT a0.z.size p3.size,fun i hi u0=>(p3.block i (nLl hi a0.z.size) (fun e=>by have:=(o0.z i e.symm).1;omega) u0).trans (a0.z.block i hi u0)⟩)
     clear k0 k1 k2 k3 r0 i0 b0 D0;simp only [Act.put,sAa,sAb,sAc];show wpList _ _ _ _ _ _;refine wpList_nil ?_;go_wp2_with fail;go_roundg (gk - 1)
     case measure=>omega
     case rel=>exact ⟨j+1,by omega,by go_num,HF⟩
  ·have M1:(j:Int)< (L4:Int):=by omega
   have N1:(0:Int)≤(j:Int):=iNn j;have j0:j< s.echos.length:=by rw [←F1.z];omega
   obtain ⟨a,k1,k2,k3⟩:=HX.z;have b1:=za (G1.z.andThen k3 (fun b e=> .inl (by injection e with e;omega)));obtain ⟨ge,oe,ce',ue,ee,U0,v0,l0,z0,XX,g0⟩:=(I1.z.kept b1.z).atT j0;injection ee with ee1 ee2 ee3
   subst ee1 ee3;obtain ⟨y,hy⟩:=exq (s.echos[j]);rw [←hy] at l0 XX g0;have B0:Hid (s.echos.take (j+1)=s.echos.take j++ [y]):=za (by rw [tSg j0,hy]);obtain ⟨PR,n0⟩:=exq (s.echos.take j);have X0:Hid ((PR.length+1)*32≤140737488355328):=za (by rw [n0,lLt];omega);rw [←n0] at k2 B0;obtain ⟨Au,nu,cu,rfl⟩:=g0.shape;have HU:=za g0;have HI:=za XX;have Q1:=za k1;have Q0:=(O0.z.grown k3 (fun e=>by injection e with e;omega)).rule;have a0:=za k3;have d0:Hid (w.heap.size+1+1< W0.heap.size):=za (by rw [M0.z];omega);have o0:Hid (∀g,a.ownBlock=some g→W0.heap.size≤g∧g< wr.drew.heap.size):=za fun g e=>k2.lt g e
   have C0:Hid ((∀g,a.ownBlock=some g→g< wr.drew.heap.size)∧w.heap.size+1+1< wr.drew.heap.size):=za ⟨fun g e=>(o0.z g e).2,by have:=d0.z;have:=k3.size;exact nLl d0.z k3.size⟩;have D0:Hid (Zb Yg W0.heap.size 137 (fun g=>(X g∧g< w.heap.size)∨W0.heap.size≤g) wr.drew a PR y (w.heap.size+1+1) 78 #[.int .i64 de, .int .i64 me, .slice Ac nc cc, .slice Ad nd cd,a, .slice none 0 0, .slice Ao no co, .bool dn] 4 [] wr.drew):=za (Zb.start (k2.kept (zb wr 1)) (k1.grown (zb wr 1) (by simp)) d0.z);have x0:Hid (∀g,((X g∧g< w.heap.size)∨W0.heap.size≤g)→g≠w.heap.size+1+1):=za (fun g hg e=>by have:=d0.z;rcases hg with hg|hg<;>omega);have b0:Hid (∀vs W,Zb Yg W0.heap.size 137 (fun g=>(X g∧g< w.heap.size)∨W0.heap.size≤g) wr.drew a PR y (w.heap.size+1+1) 78 #[.int .i64 de, .int .i64 me, .slice Ac nc cc, .slice Ad nd cd,a, .slice none 0 0, .slice Ao no co, .bool dn] 4 vs W→(W.cell? ⟨ge,oe+j*2,none⟩=some (.int .i64 y.1)∧W.cell? ⟨ge,oe+j*2+1,none⟩=some (.slice Au nu cu))∧W.cell? ⟨w.heap.size,4,none⟩=some (.slice (some ⟨ge,oe,none⟩) L4 ce)∧wr.drew.heap.size≤W.heap.size∧W0.heap.size≤W.heap.size∧Yg.rep (fun g=>((X g∧g< w.heap.size)∨W0.heap.size≤g)∧some g≠a.ownBlock) W [.int .i64 y.1, .slice Au nu cu] y):=za (fun vs W hC=>by
    have c0:=hC.gr;have s0:=c0.size;have n1: ∀g,g< w.heap.size+1→(∀k,a.ownBlock=some k→k≠g)∧g≠w.heap.size+1+1:=fun g hg=>⟨fun k e=>by have:=(o0.z k e).1;have:=d0.z;omega,by omega⟩
    obtain ⟨T0,S0⟩:=v0;refine ⟨⟨c0.cell (w:=wr.drew) l0 (fun e=>(n1 ge (by omega)).1 _ e.symm rfl) (fun e=>by injection e with e;omega),c0.cell (w:=wr.drew) z0 (fun e=>(n1 ge (by omega)).1 _ e.symm rfl) (fun e=>by injection e with e;omega)⟩, ?_,s0,nLT a0.z.size s0,_,rfl,HI.z, ?_⟩
    ·exact c0.cell (w:=wr.drew) (by have h:=(O0.z.grown a0.z (fun e=>by injection e with e;omega)).cell 4;exact h) (fun e=>(n1 w.heap.size (by omega)).1 _ e.symm rfl) (fun e=>by injection e with e;omega)
    ·exact (c0.sl (fun g hg e=>(n1 g (by have:=hg.2;omega)).1 _ e.symm rfl) (fun g hg e=>by have:=hg.2;omega) (HU.z.kept (zb wr 1))).more fun g _ hg=>⟨.inl hg,fun e=>(n1 g (by have:=hg.2;omega)).1 _ e.symm rfl⟩)
   clear HX k1 k2 k3 l0 z0 g0 XX U0 v0 hy n0 j0 ee2;go_upto_region 5 with (fail)
   clear Q0;refine FR.wp_region_late (MC Yg W0.heap.size 137 (fun g=>(X g∧g< w.heap.size)∨W0.heap.size≤g) wr.drew a PR y (w.heap.size+1+1) 78 #[.int .i64 de, .int .i64 me, .slice Ac nc cc, .slice Ad nd cd,a, .slice none 0 0, .slice Ao no co, .bool dn] 4) [8,10] 11 (by kernel_rfl) (by kernel_rfl) (by kernel_rfl) D0.z ?_;refine FR.mS (.pointer (some ⟨w.heap.size+1+1,4,none⟩)) [] (fun vs w' hC=>FR.kD fun K hK=> ?_) ?_
   ·go_simp;exact hK _ _ rfl ⟨rfl,gRf⟩
   refine FR.LateR.monoN (FR.Qv.eq (a)) [(0,26)] [0,1] (by kernel_rfl) (by rfl) (by kernel_rfl) (fun vs w' hq hC=> ?_) ?_
   ·intro x26 C1;have e26:x26= .pointer (some ⟨w.heap.size+1+1,4,none⟩):=C1;clear C1;subst e26;refine FR.askl_do rfl fun K hK=> ?_
    have hC:Zb _ _ _ _ _ _ _ _ _ _ _ _ vs w':=hC;obtain ⟨⟨l1,l1'⟩,l2,l3,l4,l5⟩:=b0.z vs w' hC;have c1:w'.cell? ⟨w.heap.size+1+1,4,none⟩=some a:=(hC.bk0 (hq 1 (by simp))).cell 4;go_simp;exact hK _ _ rfl ⟨rfl,gRf⟩
   refine FR.mS (.pointer (some ⟨w.heap.size,4,none⟩)) [] (fun vs w' hC=>FR.kD fun K hK=> ?_) ?_
   ·go_simp;exact hK _ _ rfl ⟨rfl,gRf⟩
   refine FR.mS (.slice (some ⟨ge,oe,none⟩) L4 ce) [(2,28)] (fun vs w' hC=>FR.pQ (FR.kD fun K hK=> ?_)) ?_
   ·have hC:Zb _ _ _ _ _ _ _ _ _ _ _ _ vs w':=hC;obtain ⟨⟨l1,l1'⟩,l2,l3,l4,l5⟩:=b0.z vs w' hC;go_simp;exact hK _ _ rfl ⟨rfl,gRf⟩
   refine FR.mS (.int .i64 j) [] (fun vs w' hC=>FR.kD fun K hK=> ?_) ?_
   ·go_simp;exact hK _ _ rfl ⟨rfl,gRf⟩
   refine FR.mS (.pointer (some ⟨ge,oe+j*2,none⟩)) [(3,29),(4,30)] (fun vs w' hC=>FR.pQ (FR.pQ (FR.kD fun K hK=> ?_))) ?_
   ·go_simp;exact hK _ _ rfl ⟨rfl,gRf⟩
   refine FR.mS (.agg #[.int .i64 y.1, .slice Au nu cu]) [(5,31)] (fun vs w' hC=>FR.pQ (FR.kD fun K hK=> ?_)) ?_
   ·have hC:Zb _ _ _ _ _ _ _ _ _ _ _ _ vs w':=hC;obtain ⟨⟨l1,l1'⟩,l2,l3,l4,l5⟩:=b0.z vs w' hC;go_simp;exact hK _ _ rfl ⟨rfl,gRf⟩
   refine FR.mV (Ef wr.drew.heap.size 137 #[.int .i64 y.1, .slice Au nu cu] C0.z.1 C0.z.2) [(6,32)] (fun vs w' hC=>FR.pQ (FR.kD fun K hK=> ?_)) ?_
   ·have hC:Zb _ _ _ _ _ _ _ _ _ _ _ _ vs w':=hC;obtain ⟨⟨l1,l1'⟩,l2,l3,l4,l5⟩:=b0.z vs w' hC;go_simp;exact hK _ _ rfl ⟨⟨_,rfl,l3,Bk.new w' _ _⟩,gAl w' _ none⟩
   refine FR.LateR.turn 0 [(1,27),(7,33)] (by kernel_rfl) [] rfl (by kernel_rfl) (fun vs w' hn hr hC=> ?_) ?_
   ·intro x27 B1;intro x33 w0;have w0: ∃b,x33= .slice (some ⟨b,0,none⟩) 1 1∧wr.drew.heap.size≤b∧Bk w' b 137 #[.int .i64 y.1, .slice Au nu cu]:=w0;obtain ⟨b33,e33,k33,l33⟩:=w0;subst e33;have e27:x27=a:=B1;clear B1;subst e27;refine FR.askl_do rfl fun K hK=> ?_
    have hC:Zb _ _ _ _ _ _ _ _ _ _ _ _ vs w':=hC;obtain ⟨⟨l1,l1'⟩,l2,l3,l4,l5⟩:=b0.z vs w' hC;refine Zb.app hC hn NQ (cx:= [.int .i64 y.1, .slice Au nu cu]) l5 (fun j u hu=>by rw [l33.cell j];simpa using hu) X0.z l4 (fun g hg=> .inr (nLT l4 hg)) (.tmp 27) (.tmp 33) rfl rfl rfl fun v' w2 hr=>hK _ _ rfl hr
   refine FR.mS (.pointer (some ⟨w.heap.size+1+1,4,none⟩)) [] (fun vs w' hC=>FR.kD fun K hK=> ?_) ?_
   ·go_simp;exact hK _ _ rfl ⟨rfl,gRf⟩
   refine FR.LateR.turn 1 [(9,35),(8,34)] (by kernel_rfl) [] rfl (by kernel_rfl) (fun vs w' hn hr hC=> ?_) ?_
   ·intro x35 A1;intro x34 L0;have e35:x35= .pointer (some ⟨w.heap.size+1+1,4,none⟩):=A1;clear A1;subst e35;refine FR.askl_do rfl fun K hK=> ?_
    have hC:Zb _ _ _ _ _ _ _ _ _ _ _ _ vs w':=hC;have L0:(0,x34)∈vs:=L0;have hb:=hC.bk0 hn;exact Ui (.tmp 35) (.tmp 34) rfl rfl rfl rfl (hC.shape L0) (hb.cell 4) (hb.free 4) (hK _ _ rfl (hC.put (u:=undef) hn L0 x0.z (EB w' (w.heap.size+1+1) 4 _) (hb.set 4 _)))
   intro vs w3 r0 i0;have i0:Zb _ _ _ _ _ _ _ _ _ _ _ _ vs w3:=i0
   iterate 11 (refine pD ?_;intro _)
   have HF:Hid (∃a,Bk w3 (w.heap.size+1+1) 78 #[.int .i64 de, .int .i64 me, .slice Ac nc cc, .slice Ad nd cd,a, .slice none 0 0, .slice Ao no co, .bool dn]∧Acc Yg W0.heap.size 137 (fun g=>(X g∧g< w.heap.size)∨W0.heap.size≤g) w3 a (s.echos.take (j+1))∧W0.grownBy w3 (some (w.heap.size+1+1))):=za (by
    obtain ⟨a1,p1,p2,p3⟩:=i0.fin r0.2;refine ⟨a1,p2,by rw [B0.z];exact p1, ?_⟩;exact ⟨p3.os.trans a0.z.os,p3.tape.trans a0.z.tape,p3.output.trans a0.z.output,nLT a0.z.size p3.size,fun i hi u0=>(p3.block i (nLl hi a0.z.size) (fun e=>by have:=(o0.z i e.symm).1;omega) u0).trans (a0.z.block i hi u0)⟩)
   clear r0 i0 b0 D0;simp only [Act.put,sAa,sAb,sAc];show wpList _ _ _ _ _ _;refine wpList_nil ?_;go_wp2_with fail;go_roundg (gk - 1)
   case measure=>omega
   case rel=>exact ⟨j+1,by omega,by go_num,HF⟩
end
section
open Go Go.RowKit Go.Shelf Go.Maps
abbrev IK:=Int×Int×Int×List Int
def UK:Enc IK where
 size:=4
 pos:=by decide
 rep:=fun X w cs d=> ∃v,cs= [.int .u8 d.1, .int .i64 d.2.1, .int .u8 d.2.2.1,v]∧U8 d.1∧I64 d.2.1∧U8 d.2.2.1∧Sl ze X w v d.2.2.2
 len:=fun h=>by obtain ⟨v,rfl,_⟩:=h;rfl
 ones:=fun h u hu=>by
  obtain ⟨v,rfl,_,_,_,A,c,rfl,_⟩:=h;simp at hu;rcases hu with rfl|rfl|rfl|rfl<;>rfl
 keep:=fun h hg hX=>by obtain ⟨v,e,i,j,k,h⟩:=h;exact ⟨v,e,i,j,k,h.keep hg hX⟩
 more:=fun h hX=>by obtain ⟨v,e,i,j,k,h⟩:=h;exact ⟨v,e,i,j,k,h.more hX⟩
 keepc:=fun h hg hr=>by obtain ⟨v,e,i,j,k,h⟩:=h;exact ⟨v,e,i,j,k,h.keepc hg hr⟩
theorem Sl.atStp{X:Nat→Prop}{w:World}{v:Value}{xs:List IK}(h:Sl UK X w v xs){k:Nat}(hk:k< xs.length):
  ∃g o c u,v= .slice (some ⟨g,o,none⟩) xs.length c∧g< w.heap.size∧X g∧(w.cell? ⟨g,o+k*4,none⟩=some (.int .u8 xs[k].1)∧w.cell? ⟨g,o+k*4+1,none⟩=some (.int .i64 xs[k].2.1)∧w.cell? ⟨g,o+k*4+2,none⟩=some (.int .u8 xs[k].2.2.1)∧w.cell? ⟨g,o+k*4+3,none⟩=some u)∧(U8 xs[k].1∧I64 xs[k].2.1∧U8 xs[k].2.2.1)∧Sl ze X w u xs[k].2.2.2:=by
 obtain ⟨g,o,c,cs,e,hg,hX,⟨u,rfl,hi,hj,hk',hu⟩,hc⟩:=h.at hk;exact ⟨g,o,c,u,e,hg,hX,⟨hc 0 _ rfl,hc 1 _ rfl,hc 2 _ rfl,hc 3 _ rfl⟩,⟨hi,hj,hk'⟩,hu⟩
theorem MZ:(Tryz.prog.info? 144).map (fun i=>(i.zero,i.size,i.bytes))=some (some (.agg #[.int .u8 0, .int .i64 0, .slice none 0 0]),3,40):=by kernel_rfl
theorem GG:zM prog 65 144 3 40:=zM.mk' (by decide) Tryz.underlying65 MZ rfl
theorem Ou(v1 v2:Value)(xs:List yE)(X Y:Nat→Prop)(w:World)(h1:Sl xZ X w v1 xs)(h2:Sl xZ Y w v2 xs):
  Calls prog 23 #[v1,v2] w (Td w (.bool true)):=by
 have H1:=za h1;have H2:=za h2;obtain ⟨A1,c1,rfl,hc1,hc2⟩:=h1.form;obtain ⟨A2,c2,rfl,_,_⟩:=h2.form;clear h1 h2;have HST:Hid (∃n,w=w.drewN n):=za ⟨0,rfl⟩;go_enter func23,ntmps23;go_wp2_with fail;go_loopg [5] xs.length (fun g s5 wx=> ∃j:Nat,j+g=xs.length∧s5= .int .i64 j∧Hid (∃n,wx=w.drewN n))
 case atStart=>exact ⟨0,by omega,rfl,HST⟩
 case round=>
  obtain ⟨j,hj,rfl,HX⟩:=hrel;obtain ⟨n0,rfl⟩:=HX.z;cases gk with
  |zero=>
   obtain rfl:j=xs.length:=by omega
   clear HX HST;go_wp2;go_ret;exact ⟨rfl,_,rfl⟩
  |succ m=>
   have hjn:(j:Int)< (xs.length:Int):=by omega
   have hj0:(0:Int)≤(j:Int):=by omega
   have hjN:j< xs.length:=by omega
   obtain ⟨g1,o1,c1',t1,e1,_,_,⟨a1,b1,d1⟩,_,_,k1⟩:=H1.z.atO hjN;injection e1 with e11 e12 e13
   subst e11 e13;obtain ⟨g2,o2,c2',t2,e2,_,_,⟨a2,b2,d2⟩,_,_,k2⟩:=H2.z.atO hjN;injection e2 with e21 e22 e23
   subst e21 e23;have HN:=za (fun k=>Zz t1 t2 xs[j].2.2 X Y (w.drewN k) (k1.kept (zf (gRr w none) k)) (k2.kept (zf (gRr w none) k)));obtain ⟨B1,d1,rfl,_,_⟩:=k1.form;obtain ⟨B2,d2,rfl,_,_⟩:=k2.form;clear HX HST e12 e22 k1 k2;generalize xs[j].2.2.length=n1 at *;generalize xs[j].2.1=y at *;generalize xs[j].1=z at *;go_wp2_with fail;go_quiet ((go_at_call 25;exact Uq (HN.z _)));go_wp2_with fail;go_roundg m
   case measure=>omega
   case rel=>exact ⟨j+1,by omega,by go_num,za ⟨_,rfl⟩⟩
def Cf(xs:List IK)(w:World)(e:Ending)(w':World):Prop:= ∃B:Bool,e= .returned (.bool B)∧(B=false→ ∀x∈xs,x.2.2.2.length< 3000)∧w=w'
theorem Hi{α:Type}{P:α→Prop}{l:List α}{i:Nat}(hi:i< l.length)(h: ∀x∈l.take i,P x)(h1:P l[i]): ∀x∈l.take (i+1),P x:=fun x hx=>by
 rw [tSg hi] at hx;rcases List.mem_append.1 hx with hx|hx
 ·exact h x hx
 ·rw [List.mem_singleton.1 hx];exact h1
theorem MQ(v:Value)(xs:List IK)(X:Nat→Prop)(w:World)(hs:Sl UK X w v xs)(b1:xs.length≤17592186044415)(b2: ∀x∈xs,x.2.2.2.length≤17592186044415):
  Calls prog 16 #[v] w (Cf xs w):=by
 have HS:=za hs;have t0:=za b2;obtain ⟨A,c,rfl,p0,F0⟩:=hs.form;obtain ⟨L,hL⟩:=exq (xs.length);have i0:=za hL;rw [←hL] at b1 p0 HS ⊢;clear hs b2 hL;go_enter func16,ntmps16;go_wp2_with fail;go_loopg [3,4] L (fun gk s3 s4 wx=> ∃i n:Nat,i+gk=L∧s4= .int .i64 i∧s3= .int .i64 n∧n≤20000000000000∧Hid (w=wx∧ ∀x∈xs.take i,x.2.2.2.length≤n))
 case atStart=>exact ⟨0,0,by omega,rfl,rfl,by omega,za ⟨rfl,by simp⟩⟩
 case round=>
  obtain ⟨i,n,j0,rfl,rfl,z0,HX⟩:=hrel;obtain rfl:w=wr:=HX.z.1;by_cases f0:i< L∧n< 3000
  case neg=>
   have HR:Hid (n< 3000→ ∀x∈xs,x.2.2.2.length< 3000):=za (fun hn=>by
    have h3:=HX.z.2;have h4:i=L:=by omega
    rw [List.take_of_length_le (by rw [←i0.z];omega)] at h3;exact fun x hx=>by have:=h3 x hx;omega)
   have o0:((i:Int)< (L:Int)∧ ¬((n:Int)< 3000))∨ ¬((i:Int)< (L:Int)):=by omega
   clear j0 f0 HX;rcases o0 with ⟨hjL,hn1⟩|hjL
   all_goals
    go_wp2;go_ret;refine ⟨_,rfl,fun hB=>HR.z ?_,rfl⟩
    first|(exact Bool.noConfusion hB)|(have G0:=of_decide_eq_false hB;omega)
  obtain ⟨k0,A0⟩:=f0;have B0:(i:Int)< (L:Int):=by omega
  have y0:(n:Int)< 3000:=by omega
  have C0:(0:Int)≤(i:Int):=iNn i;have b0:i< xs.length:=by rw [←i0.z];omega
  obtain ⟨g,o,c2,u,e,m0,l0,⟨s0,r0,q0,D0⟩,hU,c0⟩:=HS.z.atStp b0;injection e with e1 e2 e3
  subst e1;clear e2 e3;obtain ⟨Au,cu,eu,a0,n0⟩:=c0.form;have d0:=t0.z _ (lGm b0);obtain ⟨x,hx⟩:=exq (xs[i]);have g0:Hid (∀q:Nat,n≤q→x.2.2.2.length≤q→ ∀d∈xs.take (i+1),d.2.2.2.length≤q):=za (fun q hq h=>Hi b0 (fun d hd=>by have:=HX.z.2 d hd;omega) (by rw [←hx];exact h));rw [←hx] at eu a0 d0;obtain ⟨M,hM⟩:=exq (x.2.2.2.length);rw [←hM] at eu a0 d0 g0;subst eu;clear c0 HX s0 r0 q0 hU m0 l0 hx hM b0;have v0:IntKind.i64.wrap ((n:Int)+30)=(n:Int)+30:=i6n _ (by omega);have u0:IntKind.i64.wrap ((n:Int)+30+(M:Int))=(n:Int)+30+(M:Int):=i6n _ (by omega);go_wp2_with fail;go_roundg (gk - 1)
  case measure=>omega
  case rel=>exact ⟨i+1,n+30+M,by omega,by go_num,by go_num,by omega,za ⟨rfl,g0.z _ (by omega) (by omega)⟩⟩
theorem Oq(v:Value)(xs:List yE)(X:Nat→Prop)(w:World)(hs:Sl xZ X w v xs)(hb:xs.length≤1000):
  Calls prog 24 #[v] w (zN xZ (fun g=>(X g∧g< w.heap.size)∨w.heap.size≤g) w xs):=by
 have HS:=za hs.bounded;obtain ⟨A,c,rfl,s0,z0⟩:=hs.form;obtain ⟨L,hL⟩:=exq (xs.length);have n0:=za hL;rw [←hL] at hb s0 HS ⊢;clear hs hL;go_enter func24,ntmps24;go_wp2_with fail;go_loopg [3,4] L (fun g s3 s4 wx=> ∃j:Nat,j+g=L∧s4= .int .i64 j∧Hid (Acc xZ w.heap.size 144 (fun g=>(X g∧g< w.heap.size)∨w.heap.size≤g) wx s3 (xs.take j)∧w.grownBy wx none))
 case atStart=>exact ⟨0,by omega,rfl,za ⟨Acc.nil _ _ _ _ _,gRf⟩⟩
 case round=>
  obtain ⟨j,hj,rfl,HX⟩:=hrel;rcases Nat.eq_zero_or_pos gk with hg0|hg0
  ·obtain rfl:j=L:=by omega
   have HR:Hid (Sl xZ (fun g=>(X g∧g< w.heap.size)∨w.heap.size≤g) wr u3 xs∧w.grownBy wr none):=za ⟨by have h:=HX.z.1.sl;rwa [List.take_of_length_le (by rw [←n0.z];exact nRf _)] at h,HX.z.2⟩;clear HX hg0;go_wp2;go_ret;exact ⟨_,rfl,HR.z.1,HR.z.2⟩
  ·have u0:(j:Int)< (L:Int):=by omega
   have v0:(0:Int)≤(j:Int):=iNn j;have f0:j< xs.length:=by rw [←n0.z];omega
   obtain ⟨b0,hg⟩:=HX.z;have k0:=za b0;have HG:=za hg;obtain ⟨ge,oe,ce',ue,ee,p0,o0,⟨r0,q0,y0⟩,d0,XX,c0⟩:=(HS.z.kept hg).atO f0;injection ee with ee1 ee2 ee3
   subst ee1 ee3;obtain ⟨y,hy⟩:=exq (xs[j]);rw [←hy] at r0 q0 d0 XX c0;have m0:Hid (xs.take (j+1)=xs.take j++ [y]):=za (by rw [tSg f0,hy]);obtain ⟨PR,g0⟩:=exq (xs.take j);have t0:Hid ((PR.length+1)*40≤140737488355328):=za (by rw [g0,lLt];omega);rw [←g0] at k0 m0;obtain ⟨Au,nu,cu,rfl⟩:=c0.shape;have i0:Hid (xZ.rep (fun g=>((X g∧g< w.heap.size)∨w.heap.size≤g)∧some g≠u3.ownBlock) wr [.int .u8 y.1, .int .i64 y.2.1, .slice Au nu cu] y):=za ⟨_,rfl,d0,XX,c0.more fun g _ hx=>⟨.inl hx,fun e=>by have:=(k0.z.lt g e.symm).1;omega⟩⟩;clear HX b0 hg c0 d0 XX p0 o0 hy g0 f0 ee2;go_wp2_with (at_builtin;refine zF rfl (.tmp 11) (.tmp 16) rfl (E:=xZ) GG HG.z k0.z (fun _ h=> .inr h) i0.z t0.z rfl rfl ?_);intro v9 w9 a0 l0 _;have j0:Hid (Acc xZ w.heap.size 144 (fun g=>(X g∧g< w.heap.size)∨w.heap.size≤g) w9 v9 (xs.take (j+1))∧w.grownBy w9 none):=za ⟨by rw [m0.z];exact a0,l0⟩;clear a0 l0;go_wp2_with fail;go_roundg (gk - 1)
   case measure=>omega
   case rel=>exact ⟨j+1,by omega,by go_num,j0⟩
end
section
open Go
theorem FC{p q:Int→Bool}: ∀{l:List Int},(∀x∈l,p x=true→q x=true)→(l.filter p).length≤(l.filter q).length∧ ∀a∈l,p a=false→q a=true→(l.filter p).length< (l.filter q).length
 | [],_=>⟨nRf _,fun _ h=>by cases h⟩
 |x::l,h=>by
  obtain ⟨h1,h2⟩:=FC (l:=l) fun y hy=>h y (mCm _ hy)
  have hx:=h x mCs;rw [List.filter_cons,List.filter_cons];cases hp:p x with
  |true=>
   rw [hx hp,if_pos rfl,if_pos rfl];refine ⟨by simpa using h1,fun a ha e1 e2=> ?_⟩;rcases List.mem_cons.1 ha with rfl|ha
   ·rw [hp] at e1;cases e1
   ·simpa using h2 a ha e1 e2
  |false=>
   cases hq:q x with
   |true=>
    simp only [Bool.false_eq_true,if_false,if_true,List.length_cons];exact ⟨by omega,fun _ _ _ _=>by omega⟩
   |false=>
    simp only [Bool.false_eq_true,if_false];refine ⟨h1,fun a ha e1 e2=> ?_⟩;rcases List.mem_cons.1 ha with rfl|ha
    ·rw [hq] at e2;cases e2
    ·exact h2 a ha e1 e2
theorem Nn(E:zy)(s:ASt)(k:Int):(xE E s k).length=((Tf E.p.N).filter fun i=>(s.heard k i).isSome).length:=by
 unfold xE;generalize Tf E.p.N=l;induction l with
 |nil=>rfl
 |cons a l ih=>
  rw [List.filterMap_cons,List.filter_cons];cases s.heard k a with
  |none=>simpa using ih
  |some x=>simpa using ih
theorem Rc{E:zy}{s s':ASt}(h: ∀k j x,s.heard k j=some x→s'.heard k j=some x)(k:Int):(xE E s k).length≤(xE E s' k).length∧ ∀i,1≤i→i≤E.p.N→s.heard k i=none→(s'.heard k i).isSome=true→(xE E s k).length< (xE E s' k).length:=by
 rw [Nn,Nn]
 have:=FC (p:=fun i=>(s.heard k i).isSome) (q:=fun i=>(s'.heard k i).isSome) (l:=Tf E.p.N) fun i _ hi=>by
  obtain ⟨x,hx⟩:=Option.isSome_iff_exists.1 hi;rw [h k i x hx];rfl
 exact ⟨this.1,fun i h1 h2 e1 e2=>this.2 i (Zc.2 ⟨h1,h2⟩) (by rw [e1];rfl) e2⟩
def Qh(E:zy)(s:ASt):Nat:=(xE E s 8).length+(xE E s 9).length
theorem PU.grown{E:zy}(hE:E.ok)(hs:Sm E.p){s s':ASt}(hst:zK E s){k i:Int}{l:List Int}{out:List yE}(h:PU E s k i l s' out):
  Qh E s< Qh E s'∨(Qh E s=Qh E s'∧((s'=s∧out= [])∨((zE s.dealt).length≠(zE s'.dealt).length∧out≠ []))):=by
 have hm:=hE.me;cases h with
 |no=>exact .inr ⟨rfl, .inl ⟨rfl,rfl⟩⟩
 |put x hx hg hk hi hn=>
  left;have h1:=hst.put hk hi hg;obtain ⟨t,td,tn⟩:=TY hE (s:=s.put k i x) x.m (fun hne=>(YF hE hs h1 hne).2);have hh: ∀k' j y,s.heard k' j=some y→(yM E (s.put k i x) x.m).1.heard k' j=some y:=fun k' j y h=>t.heard k' j y (QY hn h)
  have hi2:((yM E (s.put k i x) x.m).1.heard k i).isSome=true:=by rw [t.heard k i x Nx];rfl
  have a8:=Rc (E:=E) hh 8;have a9:=Rc (E:=E) hh 9;unfold Qh;rcases hk with rfl|rfl
  ·have:=a8.2 i hi.1 hi.2 hn hi2
   have:=a9.1
   omega
  ·have:=a9.2 i hi.1 hi.2 hn hi2
   have:=a8.1
   omega
 |deal d hd hk hi hn h8=>
  left;have h1:zK E (({s with dealt:=some d}:ASt).put 8 E.me (Ym E d E.me)):=(hst.setDealt hd).put (.inl rfl) hm (xH hE hd).2;obtain ⟨t,td,tn⟩:=TY hE (s:=({s with dealt:=some d}:ASt).put 8 E.me (Ym E d E.me)) d.m (fun hne=>(YF hE hs h1 hne).2);have hn8:({s with dealt:=some d}:ASt).heard 8 E.me=none:=h8;have hh: ∀k' j y,s.heard k' j=some y→(yM E (({s with dealt:=some d}:ASt).put 8 E.me (Ym E d E.me)) d.m).1.heard k' j=some y:=fun k' j y h=>t.heard k' j y (QY hn8 h)
  have hi2:((yM E (({s with dealt:=some d}:ASt).put 8 E.me (Ym E d E.me)) d.m).1.heard 8 E.me).isSome=true:=by rw [t.heard 8 E.me _ Nx];rfl
  have a8:=Rc (E:=E) hh 8;have a9:=Rc (E:=E) hh 9;unfold Qh
  have:=a8.2 E.me hm.1 hm.2 h8 hi2
  have:=a9.1
  omega
 |alone d hd hk hi hn h8=>
  right;refine ⟨rfl, .inr ?_⟩;obtain ⟨_,_,_,_,_,_,hT1,hT2,_⟩:=zx hE.may
  have:yz d.m d.a d.b≠ []:=OF hE.may (by omega) hd.ok
  rw [hn]
  have:=List.length_pos_iff.2 this
  refine ⟨by simp only [zE,List.length_nil];omega,fun e=> ?_⟩;obtain ⟨_,_,_,hN1,_⟩:=zx hE.may;by_cases h1:E.me=1
  ·have:=XB (E:=E) (k:=8) (x:=d) (y:=(8,2,yl E d 2))|>.2 ⟨2,⟨by omega,by omega⟩,by omega,rfl⟩
   rw [e] at this;cases this
  ·have:=XB (E:=E) (k:=8) (x:=d) (y:=(8,1,yl E d 1))|>.2 ⟨1,⟨by omega,by omega⟩,fun h=>h1 h.symm,rfl⟩
   rw [e] at this;cases this
def anE(two:Bool)(d m seed:Int):zy:=⟨p19 two,d,m,GO (p19 two) [0] seed⟩
theorem FF{two:Bool}{d m seed:Int}(hd:1≤d∧d≤(p19 two).N)(hm:1≤m∧m≤(p19 two).N):(anE two d m seed).ok:=
 ⟨Yl two,Vf two,hd,hm,OR (Vf two) (Yl two).Q [0] seed,by
  show (GO (p19 two) [0] seed).length≤100000;rw [GN]
  have:=(Zq (Vf two)).2.2.2.1
  omega⟩
theorem IA(two:Bool)(d m seed:Int):Sm (anE two d m seed).p:=by cases two<;>exact ⟨rfl,rfl,rfl,rfl⟩
end
section
open Go Go.RowKit Go.Shelf Go.Maps
def IN:Enc Nat where
 size:=1
 pos:=by decide
 rep:=fun _ _ cs g=>cs= [.pointer (some ⟨g,0,none⟩)]
 len:=fun h=>by rw [h];rfl
 ones:=fun h u hu=>by rw [h] at hu;simp at hu;subst hu;rfl
 keep:=fun h _ _=>h
 more:=fun h _=>h
 keepc:=fun h _ _=>h
theorem Sl.atA{X:Nat→Prop}{w:World}{v:Value}{xs:List Nat}(h:Sl IN X w v xs){k:Nat}(hk:k< xs.length):
  ∃g o c,v= .slice (some ⟨g,o,none⟩) xs.length c∧g< w.heap.size∧X g∧w.cell? ⟨g,o+k,none⟩=some (.pointer (some ⟨xs[k],0,none⟩)):=by
 obtain ⟨g,o,c,cs,e,hg,hX,rfl,hc⟩:=h.at hk;have h0:=hc 0 _ rfl;rw [show IN.size=1 from rfl,Nat.mul_one] at h0;exact ⟨g,o,c,e,hg,hX,h0⟩
theorem Gw:(Tryz.prog.info? 53).map (fun i=>(i.zero,i.size,i.bytes))=some (some (.pointer none),1,8):=by kernel_rfl
theorem DO:zM prog 40 53 1 8:=zM.mk' (by decide) Tryz.underlying40 Gw rfl
theorem Jz:(Tryz.prog.info? 63).map (fun i=>(i.zero,i.size,i.bytes))=some (some (.slice none 0 0),1,24):=by kernel_rfl
theorem EF:zM prog 100 63 1 24:=zM.mk' (by decide) Tryz.underlying100 Jz rfl
def VR(S:List Nat)(g:Nat):Prop:=g ∉ S
theorem Acc.neAv{α:Type}{E:Enc α}{base:Nat}{e:TypeId}{X Y:Nat→Prop}{W:World}{v:Value}{xs:List α}{gA gM nn:Nat}{E':zy}{st:ASt}(h:Acc E base e X W v xs)(hA:AvW Y gA gM nn E' st W)(he:e≠125):v.ownBlock≠some gA∧v.ownBlock≠some gM:=by
 obtain ⟨⟨vc,vd,vo,hb,_⟩,⟨D,⟨es,cl,hm,_⟩,_⟩,_⟩:=hA;refine ⟨h.ne_bk hb he,fun ev=> ?_⟩;obtain ⟨_,css,_,_,h3⟩:=h;rcases h3.2 with ⟨rfl,_⟩|⟨g',cap,cur,rfl,_,hh,_⟩
 ·simp [Value.ownBlock] at ev
 ·obtain rfl:g'=gM:=by simpa [Value.ownBlock] using ev
  rw [hh] at hm;cases hm
theorem Acc.neAcc{α β:Type}{E:Enc α}{F:Enc β}{b b':Nat}{e f:TypeId}{X Y:Nat→Prop}{W:World}{v u:Value}{xs:List α}{ys:List β}(h:Acc E b e X W v xs)(k:Acc F b' f Y W u ys)(he:e≠f){g:Nat}(hg:v.ownBlock=some g):u.ownBlock≠some g:=fun hu=>by
 obtain ⟨_,css,_,_,h3⟩:=h;obtain ⟨_,dss,_,_,k3⟩:=k;rcases h3.2 with ⟨rfl,_⟩|⟨g1,cap,cur,rfl,_,hh,_⟩
 ·simp [Value.ownBlock] at hg
 ·rcases k3.2 with ⟨rfl,_⟩|⟨g2,cap2,cur2,rfl,_,kh,_⟩
  ·simp [Value.ownBlock] at hu
  ·obtain rfl:g1=g:=by simpa [Value.ownBlock] using hg
   obtain rfl:g2=g1:=by simpa [Value.ownBlock] using hu
   rw [hh] at kh;injection kh with kh
   injection kh with _ k2 _
   exact he k2
structure Rm (EV:Nat→zy) (S:List Nat) (L:List (Nat×Nat)) (sts:Nat→ASt) (nn:Nat) (W:World):Prop where
 sz: ∀g∈S,g< W.heap.size
 nd: ∀i j (hi:i< L.length) (hj:j< L.length),i≠j→(L[i].1≠L[j].1∧L[i].1≠L[j].2)∧L[i].2≠L[j].1∧L[i].2≠L[j].2
 sub: ∀i (h:i< L.length),L[i].1∈S∧L[i].2∈S
 av: ∀i (h:i< L.length),(EV i).ok∧AvW (VR S) L[i].1 L[i].2 nn (EV i) (sts i) W∧yI (EV i) (sts i)
section
variable {EV:Nat→zy} {S:List Nat} {L:List (Nat×Nat)} {sts:Nat→ASt} {nn:Nat} {W W':World}
theorem Rm.keep(h:Rm EV S L sts nn W){row:Option Nat}(hg:W.grownBy W' row)(hr: ∀b,row=some b→b∈S∧ ∀i (h:i< L.length),L[i].1≠b∧L[i].2≠b):Rm EV S L sts nn W' where
 sz:=fun g hgS=>nLl (h.sz g hgS) hg.size
 nd:=h.nd
 sub:=h.sub
 av:=fun i hi=>by
  obtain ⟨h1,h2,h3⟩:=h.av i hi;exact ⟨h1,h2.keep hg (fun g hX e=>hX (hr g e.symm).1) (fun e=>((hr _ e.symm).2 i hi).1 rfl) (fun e=>((hr _ e.symm).2 i hi).2 rfl),h3⟩
theorem Rm.kept(h:Rm EV S L sts nn W)(hg:W.grownBy W' none):Rm EV S L sts nn W':=h.keep hg (fun b e=>by cases e)
theorem Rm.up(h:Rm EV S L sts nn W){m:Nat}(hm:nn≤m):Rm EV S L sts m W:=⟨h.sz,h.nd,h.sub,fun i hi=>⟨(h.av i hi).1,(h.av i hi).2.1.upN hm,(h.av i hi).2.2⟩⟩
theorem Rm.free(h:Rm EV S L sts nn W){g:Nat}(hg:W.heap.size≤g):VR S g:=fun e=>by have:=h.sz g e;omega
theorem Rm.add(h:Rm EV S L sts nn W){gA gM:Nat}(hg:W.grownBy W' none)(hA:W.heap.size≤gA)(hM:W.heap.size≤gM)(hE:(EV L.length).ok)(hv:AvW (fun g=>W.heap.size≤g∧g≠gA∧g≠gM) gA gM 0 (EV L.length) ASt.start W')(hs:sts L.length=ASt.start):Rm EV (gA::gM::S) (L++ [(gA,gM)]) sts nn W' where
 sz:=fun g hgS=>by
  rcases List.mem_cons.1 hgS with rfl|hgS
  ·exact hv.ltA
  ·rcases List.mem_cons.1 hgS with rfl|hgS
   ·exact hv.ltM
   ·exact nLl (h.sz g hgS) hg.size
 nd:=fun i j hi hj hij=>by
  have old: ∀k (hk:k< L.length),L[k].1< W.heap.size∧L[k].2< W.heap.size:=fun k hk=>⟨h.sz _ (h.sub k hk).1,h.sz _ (h.sub k hk).2⟩
  simp only [List.length_append,List.length_cons,List.length_nil] at hi hj;rcases Nat.lt_or_ge i L.length with h1|h1<;>rcases Nat.lt_or_ge j L.length with h2|h2
  ·rw [List.getElem_append_left h1,List.getElem_append_left h2];exact h.nd i j h1 h2 hij
  ·obtain rfl:j=L.length:=by omega
   rw [List.getElem_append_left h1,List.getElem_append_right (nRf _)]
   have:=old i h1
   simp;omega
  ·obtain rfl:i=L.length:=by omega
   rw [List.getElem_append_left h2,List.getElem_append_right (nRf _)]
   have:=old j h2
   simp;omega
  ·omega
 sub:=fun i hi=>by
  simp only [List.length_append,List.length_cons,List.length_nil] at hi;rcases Nat.lt_or_ge i L.length with h1|h1
  ·rw [List.getElem_append_left h1];exact ⟨by simp [(h.sub i h1).1],by simp [(h.sub i h1).2]⟩
  ·obtain rfl:i=L.length:=by omega
   rw [List.getElem_append_right (nRf _)];simp
 av:=fun i hi=>by
  simp only [List.length_append,List.length_cons,List.length_nil] at hi;rcases Nat.lt_or_ge i L.length with h1|h1
  ·rw [List.getElem_append_left h1];obtain ⟨k1,k2,k3⟩:=h.av i h1;refine ⟨k1,(k2.more (Y:=VR (gA::gM::S)) fun g hl hX e=> ?_).kept hg,k3⟩;rcases List.mem_cons.1 e with e|e
   ·omega
   ·rcases List.mem_cons.1 e with e|e
    ·omega
    ·exact hX e
  ·obtain rfl:i=L.length:=by omega
   rw [List.getElem_append_right (nRf _)];simp only [Nat.sub_self,List.getElem_cons_zero];rw [hs];refine ⟨hE,(hv.more fun g _ hX e=> ?_).upN (Nat.zero_le _),yI.start _⟩;rcases List.mem_cons.1 e with e|e
   ·exact hX.2.1 e
   ·rcases List.mem_cons.1 e with e|e
    ·exact hX.2.2 e
    ·have:=h.sz g e
     omega
theorem Rm.take(h:Rm EV S L sts nn W){k:Nat}(hk:k< L.length)(hn:nn+3< maxLen){kind i:Int}(hk8:U8 kind)(hi:I64 i){v:Value}{l:List Int}{Y:Nat→Prop}(hl:Sl ze Y W v l)(hll:l.length≤100000):
  Calls prog 21 #[.pointer (some ⟨L[k].1,0,none⟩), .int .u8 kind, .int .i64 i,v] W fun e W'=> ∃v',e= .returned v'∧Sl xZ (VR S) W' v' (zV (EV k) (sts k) kind i l).2∧Rm EV S L (fun j=>if j=k then (zV (EV k) (sts k) kind i l).1 else sts j) (nn+3) W'∧zk L[k].1 L[k].2 W W':=by
 obtain ⟨k1,k2,k3⟩:=h.av k hk;have hXA: ¬VR S L[k].1:=fun e=>e (h.sub k hk).1
 have hXM: ¬VR S L[k].2:=fun e=>e (h.sub k hk).2
 refine (UW (EV k) (sts k) L[k].1 L[k].2 nn (nn+3) kind i v l (VR S) Y W k1 k2 k3 hk8 hi hXA hXM (fun g hg=>h.free hg) ⟨nRf _,hn⟩ hl hll).mono ?_;rintro e W' ⟨v',Z,rfl,z1,z2,z3,z4⟩;refine ⟨v',rfl,z2.sl.more fun g _ hg=>h.free (z1 g hg),⟨fun g hg=>nLl (h.sz g hg) z4.size,h.nd,h.sub,fun j hj=> ?_⟩,z4⟩;by_cases hjk:j=k
 ·subst hjk;rw [if_pos rfl];exact ⟨k1,z3.more fun g _ hg=>hg.1,yI.take k1 k3 _ _ _⟩
 ·rw [if_neg hjk];obtain ⟨q1,q2,q3⟩:=h.av j hj;have hd:=h.nd j k hj hk hjk;exact ⟨q1,(q2.keep2 z4 hXA hXM hd.1 hd.2).upN (by omega),q3⟩
end
structure AwF (w:World) (gp B:Nat) (vd vc:Value) (W:World):Prop where
 g:w.grownBy W none
 b:w.heap.size≤B
 sz:B≤W.heap.size
 par:Bk W gp 39 p4.cells
 gpl:gp< B
 ds:Sl UL (fun g=>g< B) W vd [DL5]
 cm:Sl (zh ze) (fun g=>g< B) W vc CM5
section
variable {w W W':World} {gp B:Nat} {vd vc:Value}
theorem AwF.keep(h:AwF w gp B vd vc W){row:Option Nat}(hg:W.grownBy W' row)(hr: ∀b,row=some b→B≤b):AwF w gp B vd vc W' where
 g:=zP h.g hg (fun b e=>nLT h.b (hr b e))
 b:=h.b
 sz:=nLT h.sz hg.size
 par:=h.par.grown hg (fun e=>by have:=hr _ e.symm;have:=h.gpl;omega)
 gpl:=h.gpl
 ds:=h.ds.keep hg (fun g hg e=>by have:=hr _ e.symm;omega)
 cm:=h.cm.keep hg (fun g hg e=>by have:=hr _ e.symm;omega)
theorem AwF.kept(h:AwF w gp B vd vc W)(hg:W.grownBy W' none):AwF w gp B vd vc W':=h.keep hg (fun b e=>by cases e)
theorem AwF.keep2(h:AwF w gp B vd vc W){gA gM:Nat}(hg:zk gA gM W W')(hA:B≤gA)(hM:B≤gM):AwF w gp B vd vc W':=by
 obtain ⟨u,k1,k2⟩:=hg.split;exact (h.keep k1 (fun b e=>by injection e with e;omega)).keep k2 (fun b e=>by injection e with e;omega)
end
noncomputable def stJ(i k:Nat):ASt:=if k< i∧k< 3 then (tA ((k:Int)+1)).1 else ASt.start
noncomputable def Fp(i:Nat):List (List yE):=(List.range (min i 3)).map fun k:Nat=>(tA ((k:Int)+1)).2
abbrev EW(k:Nat):zy:=EE ((k:Int)+1)
theorem Bu(k:Nat)(h:k< 4):(EW k).ok:=Bw _ ⟨by omega,by omega⟩
theorem Nt(i:Nat):stJ i i=ASt.start:=by unfold stJ;rw [if_neg (by omega)]
theorem DC(i:Nat)(h:i< 3):(tA ((i:Int)+1)).2.length=3∧toI 8 4 (tA ((i:Int)+1)).2≠ []:=by
 have h0:=DZ;simp only [awB,Bool.and_eq_true] at h0;have key: ∀j,okA j=true→(tA j).2.length=3∧toI 8 4 (tA j).2≠ []:=fun j hj=>by
  simp only [okA,Bool.and_eq_true,decide_eq_true_eq] at hj;exact ⟨hj.1,fun e=>hj.2 (by rw [e];rfl)⟩
 have hi:i=0∨i=1∨i=2:=by omega
 rcases hi with rfl|rfl|rfl
 ·exact key 1 h0.1.1.1.1.1.1
 ·exact key 2 h0.1.1.1.1.1.2
 ·exact key 3 h0.1.1.1.1.2
theorem KY(i:Nat)(h:i< 3):Fp (i+1)=Fp i++ [(tA ((i:Int)+1)).2]:=by
 unfold Fp;rw [Nat.min_eq_left (by omega),Nat.min_eq_left (by omega),List.range_succ,lMa];rfl
theorem Fw:Cl 4 DL5:=by
 have h:=DR (p:=p4) KX ⟨by decide,by decide⟩ 5 2 0;rw [Fy] at h;exact h
theorem Fe{b:Nat}{e:TypeId}{X:Nat→Prop}{W:World}{v:Value}{xs:List Nat}(h:Acc IN b e X W v xs):Acc IN b e (fun g=>v.ownBlock=some g) W v xs:=by
 obtain ⟨hb,css,r1,r2,r3⟩:=h;exact ⟨fun g e=>e,css,r1,fun i hi hi'=>r2 i hi hi',r3⟩
theorem Acc.keep2{α:Type}{E:Enc α}{b:Nat}{e:TypeId}{X:Nat→Prop}{W W':World}{v:Value}{xs:List α}{gA gM:Nat}(h:Acc E b e X W v xs)(hg:zk gA gM W W')(hA: ¬X gA)(hM: ¬X gM):Acc E b e X W' v xs:=by
 obtain ⟨u,k1,k2⟩:=hg.split;exact (h.keep k1 (fun g hx e=>by injection e with e;rw [e] at hx;exact hM hx)).keep k2 (fun g hx e=>by injection e with e;rw [e] at hx;exact hA hx)
theorem Rm.push{EV:Nat→zy}{S:List Nat}{L:List (Nat×Nat)}{sts:Nat→ASt}{nn:Nat}{W W':World}(h:Rm EV S L sts nn W){α:Type}{E:Enc α}{base base':Nat}{e:TypeId}{X X':Nat→Prop}{v v':Value}{xs xs':List α}(ha:Acc E base e X W v xs)(he:e≠125)(ho: ∀b,v.ownBlock=some b→b∈S)(hg:W.grownBy W' v.ownBlock)(hm:Zr W v v')(ha':Acc E base' e X' W' v' xs'):
  ∃S',Rm EV S' L sts nn W'∧(∀b,v'.ownBlock=some b→b∈S')∧ ∀g,g∈S→g∈S':=by
 have hk:Rm EV S L sts nn W':=h.keep hg fun b e=>⟨ho b e,fun i hi=>by
  have:=ha.neAv (h.av i hi).2.1 he
  rw [e] at this;exact ⟨fun e2=>this.1 (by rw [e2]),fun e2=>this.2 (by rw [e2])⟩⟩
 rcases hm with hm|⟨n,hn,hm⟩
 ·exact ⟨S,hk,fun b e=>ho b (by rw [←hm];exact e),fun g h=>h⟩
 ·refine ⟨n::S,⟨fun g hgS=> ?_,h.nd,fun i hi=>⟨mCm _ (h.sub i hi).1,mCm _ (h.sub i hi).2⟩,fun i hi=> ?_⟩,fun b e=> ?_,fun g h=>mCm _ h⟩
  ·rcases List.mem_cons.1 hgS with rfl|hgS
   ·exact (ha'.lt _ hm).2
   ·exact hk.sz g hgS
  ·obtain ⟨h1,h2,h3⟩:=h.av i hi;have hne:=ha.neAv h2 he;refine ⟨h1,(h2.more (Y:=VR (n::S)) fun g hl hX e=> ?_).keep hg (fun g hX e=>hX (mCm _ (ho g e.symm))) (fun e=>hne.1 e.symm) (fun e=>hne.2 e.symm),h3⟩;rcases List.mem_cons.1 e with e|e
   ·omega
   ·exact hX e
  ·rw [hm] at e;injection e with e
   rw [←e];exact mCs
theorem Rm.take_last{EV:Nat→zy}{S:List Nat}{L:List (Nat×Nat)}{sts:Nat→ASt}{nn gA gM:Nat}{W:World}(h:Rm EV S (L++ [(gA,gM)]) sts nn W)(hn:nn+3< maxLen){kind i:Int}(hk8:U8 kind)(hi:I64 i){v:Value}{l:List Int}{Y:Nat→Prop}(hl:Sl ze Y W v l)(hll:l.length≤100000):
  Calls prog 21 #[.pointer (some ⟨gA,0,none⟩), .int .u8 kind, .int .i64 i,v] W fun e W'=> ∃v',e= .returned v'∧Sl xZ (VR S) W' v' (zV (EV L.length) (sts L.length) kind i l).2∧Rm EV S (L++ [(gA,gM)]) (fun j=>if j=L.length then (zV (EV L.length) (sts L.length) kind i l).1 else sts j) (nn+3) W'∧zk gA gM W W':=by
 have h2:=h.take (k:=L.length) (by simp) hn hk8 hi hl hll;have e:(L++ [(gA,gM)])[L.length]'(by simp)=(gA,gM):=by simp
 rw [e] at h2;exact h2
structure AwM (w:World) (gp B:Nat) (vd vc:Value) (S:List Nat) (L:List (Nat×Nat)) (xs:List Nat) (s5 s6:Value) (sts:Nat→ASt) (nn:Nat) (outs:List (List yE)) (W:World):Prop where
 rm:Rm EW S L sts nn W
 f:AwF w gp B vd vc W
 bd: ∀k (h:k< L.length),B≤L[k].1∧B≤L[k].2
 a5:Acc IN B 53 (fun g=>s5.ownBlock=some g) W s5 xs
 o5: ∀b,s5.ownBlock=some b→b∈S
 a6:Acc (zh xZ) B 63 (fun g=>(∀k (h:k< L.length),g≠L[k].1∧g≠L[k].2)∧s5.ownBlock≠some g) W s6 outs
 o6: ∀b,s6.ownBlock=some b→b∈S
section
variable {w W W':World} {gp B:Nat} {vd vc s5 s6:Value} {S:List Nat} {L:List (Nat×Nat)} {xs:List Nat} {sts:Nat→ASt} {nn:Nat} {outs:List (List yE)}
theorem AwM.kept(h:AwM w gp B vd vc S L xs s5 s6 sts nn outs W)(hg:W.grownBy W' none):AwM w gp B vd vc S L xs s5 s6 sts nn outs W':=⟨h.rm.kept hg,h.f.kept hg,h.bd,h.a5.kept hg,h.o5,h.a6.kept hg,h.o6⟩
theorem AwM.new(h:AwM w gp B vd vc S L xs s5 s6 sts nn outs W){gA gM:Nat}(hg:W.grownBy W' none)(hA:W.heap.size≤gA)(hM:W.heap.size≤gM)(hE:(EW L.length).ok)(hv:AvW (fun g=>W.heap.size≤g∧g≠gA∧g≠gM) gA gM 0 (EW L.length) ASt.start W')(hs:sts L.length=ASt.start):AwM w gp B vd vc (gA::gM::S) (L++ [(gA,gM)]) xs s5 s6 sts nn outs W' where
 rm:=h.rm.add hg hA hM hE hv hs
 f:=h.f.kept hg
 bd:=fun k hk=>by
  simp only [List.length_append,List.length_cons,List.length_nil] at hk;have hB:=h.f.sz;rcases Nat.lt_or_ge k L.length with h1|h1
  ·rw [List.getElem_append_left h1];exact h.bd k h1
  ·obtain rfl:k=L.length:=by omega
   rw [List.getElem_append_right (nRf _)];simp;omega
 a5:=h.a5.kept hg
 o5:=fun b e=>by simp [h.o5 b e]
 a6:=(h.a6.more fun g hl hX=>⟨fun k hk=>by
  simp only [List.length_append,List.length_cons,List.length_nil] at hk;rcases Nat.lt_or_ge k L.length with h1|h1
  ·rw [List.getElem_append_left h1];exact hX.1 k h1
  ·obtain rfl:k=L.length:=by omega
   rw [List.getElem_append_right (nRf _)];simp;omega,hX.2⟩).kept hg
 o6:=fun b e=>by simp [h.o6 b e]
theorem AwM.push5(h:AwM w gp B vd vc S L xs s5 s6 sts nn outs W){v:Value}{x:Nat}(ha:Acc IN B 53 (fun _=>True) W' v (xs++ [x]))(hg:W.grownBy W' s5.ownBlock)(hm:Zr W s5 v): ∃S',AwM w gp B vd vc S' L (xs++ [x]) v s6 sts nn outs W':=by
 have h5:Acc IN B 53 (fun _=>True) W s5 xs:=h.a5.more fun _ _ _=>trivial
 obtain ⟨S',r1,r2,r3⟩:=h.rm.push h5 (by decide) h.o5 hg hm ha;refine ⟨S',r1,h.f.keep hg (fun b e=>(h.a5.lt b e).1),h.bd,Fe ha,r2, ?_,fun b e=>r3 b (h.o6 b e)⟩;refine (h.a6.more (Y:=fun g=>((∀k (hk:k< L.length),g≠L[k].1∧g≠L[k].2)∧v.ownBlock≠some g)∧s5.ownBlock≠some g) fun g hl hX=>⟨⟨hX.1,hm.ne hl hX.2⟩,hX.2⟩).keep hg (fun g hX e=>hX.2 e.symm)|>.more fun g _ hX=>hX.1
theorem AwM.push6(h:AwM w gp B vd vc S L xs s5 s6 sts nn outs W){v:Value}{x:List yE}(ha:Acc (zh xZ) B 63 (fun g=>(∀k (h:k< L.length),g≠L[k].1∧g≠L[k].2)∧s5.ownBlock≠some g) W' v (outs++ [x]))(hg:W.grownBy W' s6.ownBlock)(hm:Zr W s6 v): ∃S',AwM w gp B vd vc S' L xs s5 v sts nn (outs++ [x]) W':=by
 obtain ⟨S',r1,r2,r3⟩:=h.rm.push h.a6 (by decide) h.o6 hg hm ha;refine ⟨S',r1,h.f.keep hg (fun b e=>(h.a6.lt b e).1),h.bd,h.a5.keep hg (fun g hX e=>(h.a5.neAcc h.a6 (by decide) hX) e.symm),fun b e=>r3 b (h.o5 b e),ha,r2⟩
end
theorem AwM.take{w W:World}{gp B:Nat}{vd vc s5 s6:Value}{S:List Nat}{L:List (Nat×Nat)}{xs:List Nat}{sts:Nat→ASt}{nn gA gM:Nat}{outs:List (List yE)}(h:AwM w gp B vd vc S (L++ [(gA,gM)]) xs s5 s6 sts nn outs W)(hn:nn+3< maxLen){kind i:Int}(hk8:U8 kind)(hi:I64 i){v:Value}{l:List Int}{Y:Nat→Prop}(hl:Sl ze Y W v l)(hll:l.length≤100000){st:ASt}(hst:sts L.length=st){r:ASt×List yE}(hr:yK (EW L.length) st kind i l=r):
  Calls prog 21 #[.pointer (some ⟨gA,0,none⟩), .int .u8 kind, .int .i64 i,v] W fun e W'=> ∃v',e= .returned v'∧Sl xZ (VR S) W' v' r.2∧AwM w gp B vd vc S (L++ [(gA,gM)]) xs s5 s6 (fun j=>if j=L.length then r.1 else sts j) (nn+3) outs W':=by
 have hlast:L.length< (L++ [(gA,gM)]).length:=by simp
 have hav:=h.rm.av L.length hlast;have e0:(L++ [(gA,gM)])[L.length]'hlast=(gA,gM):=by simp
 have hbd:=h.bd L.length hlast;rw [e0] at hav hbd;refine (h.rm.take_last hn hk8 hi hl hll).mono ?_;rintro e W' ⟨v',rfl,z1,z2,z3⟩;have e1:zV (EW L.length) (sts L.length) kind i l=r:=by rw [hst,NZ hav.1 rfl,hr]
 rw [e1] at z1 z2;have n5:=h.a5.neAv hav.2.1 (by decide);refine ⟨v',rfl,z1,z2,h.f.keep2 z3 hbd.1 hbd.2,h.bd,h.a5.keep2 z3 n5.1 n5.2,h.o5,h.a6.keep2 z3 (fun e=> ?_) (fun e=> ?_),h.o6⟩
 ·have:=e.1 L.length hlast
  rw [e0] at this;exact this.1 rfl
 ·have:=e.1 L.length hlast
  rw [e0] at this;exact this.2 rfl
def AwL(w:World)(gp B:Nat)(vd vc:Value)(i:Nat)(s5 s6:Value)(W:World):Prop:= ∃(S:List Nat) (L:List (Nat×Nat)),L.length=i∧AwM w gp B vd vc S L (L.map (·.1)) s5 s6 (stJ i) (3*i) (Fp i) W
structure Aw2 (w:World) (gp B:Nat) (vd vc:Value) (S:List Nat) (L:List (Nat×Nat)) (s5 s6:Value) (sts:Nat→ASt) (nn:Nat) (W:World):Prop where
 len:L.length=4
 rm:Rm EW S L sts nn W
 f:AwF w gp B vd vc W
 bd: ∀k (h:k< L.length),B≤L[k].1∧B≤L[k].2
 a5:Sl IN (fun g=> ∀k (h:k< L.length),g≠L[k].1∧g≠L[k].2) W s5 (L.map (·.1))
 a6:Sl (zh xZ) (fun g=> ∀k (h:k< L.length),g≠L[k].1∧g≠L[k].2) W s6 (Fp 4)
theorem AwL.fin{w W:World}{gp B:Nat}{vd vc s5 s6:Value}(h:AwL w gp B vd vc 4 s5 s6 W): ∃S L,Aw2 w gp B vd vc S L s5 s6 (stJ 4) 12 W:=by
 obtain ⟨S,L,h1,h⟩:=h;refine ⟨S,L,h1,h.rm,h.f,h.bd,h.a5.sl.more fun g _ e k hk=> ?_,h.a6.sl.more fun g _ e=>e.1⟩;have hn:=h.a5.neAv (h.rm.av k hk).2.1 (by decide);exact ⟨fun e2=>hn.1 (by rw [←e2];exact e),fun e2=>hn.2 (by rw [←e2];exact e)⟩
section
variable {w W W':World} {gp B:Nat} {vd vc s5 s6:Value} {S:List Nat} {L:List (Nat×Nat)} {sts:Nat→ASt} {nn:Nat}
theorem Aw2.kept(h:Aw2 w gp B vd vc S L s5 s6 sts nn W)(hg:W.grownBy W' none):Aw2 w gp B vd vc S L s5 s6 sts nn W':=⟨h.len,h.rm.kept hg,h.f.kept hg,h.bd,h.a5.kept hg,h.a6.kept hg⟩
theorem Aw2.take(h:Aw2 w gp B vd vc S L s5 s6 sts nn W){k:Nat}(hk:k< L.length)(hn:nn+3< maxLen){kind i:Int}(hk8:U8 kind)(hi:I64 i){v:Value}{l:List Int}{Y:Nat→Prop}(hl:Sl ze Y W v l)(hll:l.length≤100000){st:ASt}(hst:sts k=st){r:ASt×List yE}(hr:yK (EW k) st kind i l=r):
  Calls prog 21 #[.pointer (some ⟨L[k].1,0,none⟩), .int .u8 kind, .int .i64 i,v] W fun e W'=> ∃v',e= .returned v'∧Sl xZ (VR S) W' v' r.2∧Aw2 w gp B vd vc S L s5 s6 (fun j=>if j=k then r.1 else sts j) (nn+3) W'∧zk L[k].1 L[k].2 W W':=by
 refine (h.rm.take hk hn hk8 hi hl hll).mono ?_;rintro e W' ⟨v',rfl,z1,z2,z3⟩;have e:zV (EW k) (sts k) kind i l=r:=by rw [hst,NZ (h.rm.av k hk).1 rfl,hr]
 rw [e] at z1 z2;have hb:=h.bd k hk;exact ⟨v',rfl,z1,⟨h.len,z2,h.f.keep2 z3 hb.1 hb.2,h.bd,h.a5.keep2 z3 (fun e=>(e k hk).1 rfl) (fun e=>(e k hk).2 rfl),h.a6.keep2 z3 (fun e=>(e k hk).1 rfl) (fun e=>(e k hk).2 rfl)⟩,z3⟩
theorem Aw2.nums(h:Aw2 w gp B vd vc S L s5 s6 sts nn W)(kind f me:Int)(hk:U8 kind)(hf:I64 f)(hme:1≤me∧me≤4):Calls prog 20 #[.agg #[.int .u8 kind, .int .i64 f, .int .u8 1, .slice none 0 0],p4.v,vd, .int .i64 me] W fun e W'=> ∃v',e= .returned v'∧Sl ze (fun _=>True) W' v' (VO p4 kind f 1 [] [DL5] me)∧Aw2 w gp B vd vc S L s5 s6 sts nn W'∧W.grownBy W' none:=
 (Vh p4 kind f 1 (.slice none 0 0) vd [] [DL5] me (fun _=>False) _ W (Yl false) ⟨by decide,by decide⟩ ⟨by decide,by decide⟩ hk hf (Sl.nil _ _ _) h.f.ds (fun d hd=>by rw [List.mem_singleton.1 hd];exact Fw) (by decide) hme).mono (by
  rintro e W' ⟨v',rfl,h1,h2⟩;exact ⟨v',rfl,h1.more fun _ _ _=>trivial,h.kept h2,h2⟩)
end
end
section
open Go Go.RowKit Go.Shelf Go.Maps
theorem rB1:yK (EW 0) (tA 1).1 8 2 (toI 8 1 (tA 2).2)=tB1:=rfl
theorem rB2:yK (EW 0) tB1.1 8 3 (toI 8 1 (tA 3).2)=tB2:=rfl
theorem rB3:yK (EW 0) tB2.1 9 2 (nR 2 1)=tB3:=rfl
theorem rB4:yK (EW 0) tB3.1 9 3 (nR 3 1)=tB4:=rfl
theorem rD1:yK (EW 3) ASt.start 9 2 (nR 2 4)=tD1:=rfl
theorem rD2:yK (EW 3) tD1.1 9 3 (nR 3 4)=tD2:=rfl
theorem zae:(tA 2).2.length≤100000:=by decide+kernel
theorem zad:(tA 3).2.length≤100000:=by decide+kernel
theorem CZ:(toI 8 1 (tA 2).2).length≤100000:=by decide+kernel
theorem CY:(toI 8 1 (tA 3).2).length≤100000:=by decide+kernel
theorem zac:tB1.2.length=0:=by decide+kernel
theorem AD:tB2.2.length=3:=by decide+kernel
theorem Br:toI 9 4 tB2.2≠ []:=by decide+kernel
theorem Bt:tB2.1.done=false:=by decide+kernel
theorem zab:tB3.2.length=0:=by decide+kernel
theorem AC:tB4.2.length=1:=by decide+kernel
theorem Bm:(toI 10 0 tB4.2).length=4:=by decide+kernel
theorem Bp:tB4.1.done=true:=by decide+kernel
theorem zaa:tD1.2.length=0:=by decide+kernel
theorem Cp:tD2.2.length=4:=by decide+kernel
theorem Bj:(tD2.2[3]?.getD (0,0, [])).1=10:=by decide+kernel
theorem Bl:tD2.1.done=true:=by decide+kernel
theorem Bh:(tD2.1.own.map fun o=>o.a.map (atP 11 0))=some ((DL5.a[3]?.getD []).map (atP 11 0)):=by decide+kernel
theorem Bg:(nR 2 1).length≤100000:=by decide+kernel
theorem Be:(nR 3 1).length≤100000:=by decide+kernel
theorem Bf:(nR 2 4).length≤100000:=by decide+kernel
theorem Bc:(nR 3 4).length≤100000:=by decide+kernel
theorem CI(i:Nat)(h:i< 3):(nD ((i:Int)+1)).length≤100000:=by
 have hi:i=0∨i=1∨i=2:=by omega
 rcases hi with rfl|rfl|rfl<;>decide+kernel
theorem yX(n:Nat)(h:n< 1000000):n< maxLen:=by unfold maxLen;omega
theorem Ho(i:Nat)(h:i< 3):stJ (i+1)=fun j=>if j=i then (tA ((i:Int)+1)).1 else stJ i j:=by
 funext k
 unfold stJ;by_cases hk:k=i
 ·subst hk;rw [if_pos rfl,if_pos ⟨by omega,h⟩]
 ·rw [if_neg hk];by_cases h2:k< i∧k< 3
  ·rw [if_pos ⟨by omega,h2.2⟩,if_pos h2]
  ·rw [if_neg (fun e=>h2 ⟨by omega,e.2⟩),if_neg h2]
attribute [local go_sem] Oper.semAt_some
theorem UT(w:World)(hT:ye w):Calls prog 10 #[] w fun e w'=>e= .returned (.bool true)∧w.grownBy w' none:=by
 have X1:=za hT;clear hT;go_enter func10,ntmps10;go_wp2_with fail;refine (Uj false w).mono ?_;rintro e w1 ⟨rfl,hg1⟩;obtain ⟨w2,R0⟩:=exq (w1.alloc (Obj.cells p4.cells 39));obtain ⟨gp,W0⟩:=exq (w1.heap.size);have f1:Hid (Bk w2 gp 39 p4.cells):=za (by rw [R0,W0];exact Bk.new _ _ _);have a1:Hid (w.grownBy w2 none):=za (by rw [R0];exact hg1.trans (gAl _ _ none));have M1:(p19 false).v=p4.v:=rfl;rw [M1];clear hg1 M1;go_upto_region 2 with (fail)
 first|rw [←R0, ←W0]|(have Q0:w1.alloc (Obj.cells #[.int .u64 23, .int .u64 11, .int .u64 4, .int .u64 9, .int .i64 4, .int .i64 4, .int .i64 1, .int .i64 1, .int .i64 1, .int .i64 1, .int .i64 1, .int .i64 1] 39)=w2:=R0.symm;rw [Q0, ←W0];clear Q0)
 clear R0 W0;have hp:=f1.z.prule;go_wp2_with fail;refine (YT p4 2 5 1 w2 (Yl false) KX ⟨rfl,rfl⟩ (X1.z.kept a1.z) ⟨by decide,by decide⟩ ⟨by decide,by decide⟩ (by decide)).mono ?_;rintro e w3 ⟨vd,vc,rfl,hds,hcm,hg3⟩;have D0:Sl UL (fun _=>True) w3 vd [DL5]:=by
  have h:=hds;rw [show (List.range 1).map (dlD p4 5 2)= [dlD p4 5 2 0] from rfl,Fy] at h;exact h
 rw [DV] at hcm;have K1:Hid (AwF w gp w3.heap.size vd vc w3):=za ⟨a1.z.trans hg3,(a1.z.trans hg3).size,nRf _,f1.z.grown hg3 (by simp),nLl f1.z.lt hg3.size,D0.more fun g h _=>h,hcm.more fun g h _=>h⟩;obtain ⟨B,hB⟩:=exq (w3.heap.size);have HB:=za hB;rw [←hB] at K1;obtain ⟨Ad,nd,cd,rfl⟩:=D0.shape;obtain ⟨Ac,nc,cc,rfl⟩:=hcm.shape;have L2:Hid (AwL w gp B (.slice Ad nd cd) (.slice Ac nc cc) 0 (.slice none 0 0) (.slice none 0 0) w3):=za ⟨[], [],rfl,⟨(fun g h=>absurd h (by simp)),(fun i j hi=>absurd hi (by simp)),(fun i hi=>absurd hi (by simp)),(fun i hi=>absurd hi (by simp))⟩,K1.z,(fun k hk=>absurd hk (by simp)),Acc.nil _ _ _ _ _,(fun b e=>by simp [Value.ownBlock] at e),Acc.nil _ _ _ _ _,(fun b e=>by simp [Value.ownBlock] at e)⟩;clear hp hds D0 hcm hg3 hB f1 a1 K1;go_wp2_with fail;go_loopg [5,6,7,8,9,10] 4 (fun g s5 s6 s7 s8 s9 s10 wx=> ∃i:Nat,i+g=4∧s7= .int .i64 ((i:Int)+1)∧Hid (AwL w gp B (.slice Ad nd cd) (.slice Ac nc cc) i s5 s6 wx))
 case atStart=>exact ⟨0,by omega,rfl,L2⟩
 case round=>
  rename World=>wr
  obtain ⟨i,hi,rfl,HX⟩:=hrel;rcases Nat.eq_zero_or_pos gk with hg0|hg0
  ·obtain rfl:i=4:=by omega
   obtain ⟨S,L,hA⟩:=HX.z.fin;have HA:=za hA;clear HX hA hg0;obtain ⟨p0,p1,p2,p3,rfl⟩: ∃p0 p1 p2 p3,L= [p0,p1,p2,p3]:=by
    have h:=HA.z.len
    match L,h with
    | [a,b,c,d],_=>exact ⟨a,b,c,d,rfl⟩
   obtain ⟨g5,o5,c5,e5,_,_,x1⟩:=HA.z.a5.atA (k:=0) (by simp);subst e5;have l2:wr.cell? ⟨g5,o5,none⟩=some (.pointer (some ⟨p0.1,0,none⟩)):=x1;obtain ⟨g6,o6,c6,v61,e6,_,_,u2,s61⟩:=HA.z.a6.atS (k:=1) (by decide);subst e6;have s61:Sl xZ _ wr v61 (tA 2).2:=s61;have b2:=za (Xr v61 (tA 2).2 8 1 _ wr s61 zae);obtain ⟨A61,n61,c61,e61⟩:=s61.shape;subst e61;have k0:Hid (0< [p0,p1,p2,p3].length∧3< [p0,p1,p2,p3].length):=za ⟨by simp,by simp⟩;clear x1 s61;go_wp2_with fail;refine b2.z.mono ?_;rintro e w8 ⟨v8,rfl,ew,hs8⟩;subst w8;have b0:=za (HA.z.take k0.z.1 (yX _ (by decide)) (show U8 8 from ⟨by decide,by decide⟩) (show I64 2 from ⟨by decide,by decide⟩) hs8 CZ (st:=(tA 1).1) rfl (r:=tB1) rB1);obtain ⟨A8,n8,c8,e8⟩:=hs8.shape;subst e8;clear hs8 b2;go_wp2_with fail;refine b0.z.mono ?_;rintro e w9 ⟨v9,rfl,hs9,hA9,_⟩;have g2:=za hA9;obtain ⟨A9,c9,e9,_,_⟩:=hs9.form;rw [zac] at e9;subst e9;obtain ⟨g6',o6',c6',v62,e6,_,_,t2,s62⟩:=g2.z.a6.atS (k:=2) (by decide);injection e6 with e6a e6b e6c
   injection e6a with e6a
   injection e6a with e6d e6e
   subst e6d e6e;have s62:Sl xZ _ w9 v62 (tA 3).2:=s62;have a2:=za (Xr v62 (tA 3).2 8 1 _ w9 s62 zad);obtain ⟨A62,n62,c62,e62⟩:=s62.shape;subst e62;clear hs9 hA9 s62 b0 l2 u2 e6b e6c;go_wp2_with fail;refine a2.z.mono ?_;rintro e w10 ⟨v10,rfl,ew,hs10⟩;subst w10;have b0:=za (g2.z.take k0.z.1 (yX _ (by decide)) (show U8 8 from ⟨by decide,by decide⟩) (show I64 3 from ⟨by decide,by decide⟩) hs10 CY (st:=tB1.1) rfl (r:=tB2) rB2);obtain ⟨A10,n10,c10,e10⟩:=hs10.shape;subst e10;clear hs10 a2 t2;go_wp2_with fail;refine b0.z.mono ?_;rintro e w11 ⟨v11,rfl,hs11,hA11,_⟩;have a0:=za hA11;obtain ⟨A11,c11,e11,_,_⟩:=hs11.form;rw [AD] at e11;subst e11;have Y0:=za (Xr _ tB2.2 9 4 _ w11 hs11 (by rw [AD];decide));clear hs11 hA11 b0;go_wp2_with fail;refine Y0.z.mono ?_;rintro e w12 ⟨v12,rfl,ew,hs12⟩;subst w12;have B0:=List.length_pos_iff.2 Br;obtain ⟨g12,o12,c12,e12,_⟩:=hs12.atU B0;subst e12;have s2:(binOp .eql 31 (.slice (some ⟨g12,o12,none⟩) (toI 9 4 tB2.2).length c12) (.slice none 0 0)).run prog w11= .ok (.bool false) w11:=NP w11 (some ⟨g12,o12,none⟩) _ _;obtain ⟨_,⟨⟨qc,qd,qo,T0,_⟩,_,_⟩,_⟩:=a0.z.rm.av 0 k0.z.1;have c0:Bk w11 p0.1 125 (zz (EW 0) qc qd qo p0.2 tB2.1.done):=T0;rw [Bt] at c0;have b1:=za (Ta (EW 0) p0.1 p0.2 qc qd qo false w11 c0);clear hs12 Y0 T0 c0;go_wp2_with fail;refine b1.z.mono ?_;rintro e w12 ⟨rfl,ew⟩;subst w12;clear b1;obtain ⟨gb1,m0⟩:=exq (w11.heap.size);obtain ⟨w13,l0⟩:=exq ((w11.alloc (.cells #[.int .u8 9, .int .i64 2, .int .u8 1, .slice none 0 0] 61)).alloc (.cells #[.int .u8 9, .int .i64 3, .int .u8 1, .slice none 0 0] 61))
   have B1:w11.grownBy w13 none:=by rw [l0];exact (gAl _ _ none).trans (gAl _ _ none)
   have L0:=za (a0.z.kept B1);have g1:Hid (Bk w13 gb1 61 #[.int .u8 9, .int .i64 2, .int .u8 1, .slice none 0 0]∧Bk w13 (gb1+1) 61 #[.int .u8 9, .int .i64 3, .int .u8 1, .slice none 0 0]):=za (by
    rw [l0,m0];refine ⟨(Bk.new w11 _ _).alloc _, ?_⟩;have h:=Bk.new (w11.alloc (.cells #[.int .u8 9, .int .i64 2, .int .u8 1, .slice none 0 0] 61)) 61 #[.int .u8 9, .int .i64 3, .int .u8 1, .slice none 0 0];rw [World.size_alloc] at h;exact h)
   have L1:Hid ((p0.1< gb1∧p0.2< gb1)∧p3.1< gb1∧p3.2< gb1):=za (by
    rw [m0];have h0:=a0.z.rm.sub 0 k0.z.1;have h3:=a0.z.rm.sub 3 k0.z.2;exact ⟨⟨a0.z.rm.sz _ h0.1,a0.z.rm.sz _ h0.2⟩,a0.z.rm.sz _ h3.1,a0.z.rm.sz _ h3.2⟩)
   have j2:=a0.z.f.par.prule;go_upto_region 27 with (fail)
   rw [←l0, ←m0];clear l0 m0;have o1:=g1.z.1.rule;have u1:=L0.z.f.par.prule;have j0:=za (L0.z.nums 9 2 1 (show U8 9 from ⟨by decide,by decide⟩) (show I64 2 from ⟨by decide,by decide⟩) ⟨by decide,by decide⟩);clear j2 a0;go_wp2_with fail;refine j0.z.mono ?_;rintro e w14 ⟨v14,rfl,hs14,hA14,hg14⟩;have u0:Sl ze (fun _=>True) w14 v14 (nR 2 1):=hs14;have b0:=za (hA14.take k0.z.1 (yX _ (by decide)) (show U8 9 from ⟨by decide,by decide⟩) (show I64 2 from ⟨by decide,by decide⟩) u0 Bg (st:=tB2.1) rfl (r:=tB3) rB3);obtain ⟨A14,n14,c14,e14⟩:=hs14.shape;subst e14;clear hs14 u0 hA14 j0 o1 u1;go_wp2_with fail;refine b0.z.mono ?_;rintro e w15 ⟨v15,rfl,hs15,hA15,hg15⟩;obtain ⟨A15,c15,e15,_,_⟩:=hs15.form;rw [zab] at e15;subst e15;have i0:zk p0.1 p0.2 w14 w15:=hg15;have K0:=za hA15;have o0:Hid (Bk w15 gb1 61 #[.int .u8 9, .int .i64 2, .int .u8 1, .slice none 0 0]∧Bk w15 (gb1+1) 61 #[.int .u8 9, .int .i64 3, .int .u8 1, .slice none 0 0]):=za (by
    have h:=L1.z.1;exact ⟨(g1.z.1.grown hg14 (by simp)).keep2 i0 (by omega) (by omega),(g1.z.2.grown hg14 (by simp)).keep2 i0 (by omega) (by omega)⟩)
   have l1:=o0.z.2.rule;have t1:=K0.z.f.par.prule;have j0:=za (K0.z.nums 9 3 1 (show U8 9 from ⟨by decide,by decide⟩) (show I64 3 from ⟨by decide,by decide⟩) ⟨by decide,by decide⟩);clear hs15 hA15 hg15 i0 hg14 b0 g1 L0;go_wp2_with fail;refine j0.z.mono ?_;rintro e w16 ⟨v16,rfl,hs16,hA16,hg16⟩;have t0:Sl ze (fun _=>True) w16 v16 (nR 3 1):=hs16;have b0:=za (hA16.take k0.z.1 (yX _ (by decide)) (show U8 9 from ⟨by decide,by decide⟩) (show I64 3 from ⟨by decide,by decide⟩) t0 Be (st:=tB3.1) rfl (r:=tB4) rB4);obtain ⟨A16,n16,c16,e16⟩:=hs16.shape;subst e16;have F0:=za hg16;clear hs16 t0 hA16 j0 l1 t1 hg16;go_wp2_with fail;refine b0.z.mono ?_;rintro e w17 ⟨v17,rfl,hs17,hA17,hg17⟩;have g0:zk p0.1 p0.2 w16 w17:=hg17;have q0:=za hA17;have H0:Hid (Bk w17 gb1 61 #[.int .u8 9, .int .i64 2, .int .u8 1, .slice none 0 0]∧Bk w17 (gb1+1) 61 #[.int .u8 9, .int .i64 3, .int .u8 1, .slice none 0 0]):=za (by
    have h:=L1.z.1;exact ⟨(o0.z.1.grown F0.z (by simp)).keep2 g0 (by omega) (by omega),(o0.z.2.grown F0.z (by simp)).keep2 g0 (by omega) (by omega)⟩)
   obtain ⟨g5',o5',c5',e5,_,_,h1⟩:=q0.z.a5.atA (k:=3) (by simp);injection e5 with e5a e5b e5c
   injection e5a with e5a
   injection e5a with e5d e5e
   subst e5d e5e;have k2:w17.cell? ⟨g5,o5+3,none⟩=some (.pointer (some ⟨p3.1,0,none⟩)):=h1;have Y0:=za (Xr v17 tB4.2 10 0 _ w17 hs17 (by rw [AC];decide));obtain ⟨A17,c17,e17,_,_⟩:=hs17.form;rw [AC] at e17;subst e17;have k1:=H0.z.1.rule;have s1:=q0.z.f.par.prule;have j0:=za (q0.z.nums 9 2 4 (show U8 9 from ⟨by decide,by decide⟩) (show I64 2 from ⟨by decide,by decide⟩) ⟨by decide,by decide⟩);clear hs17 hA17 hg17 g0 b0 K0 o0 F0 h1 e5b e5c;go_wp2_with fail;refine Y0.z.mono ?_;rintro e w18 ⟨v18,rfl,ew,hs18⟩;subst w18;obtain ⟨A18,c18,e18,_,_⟩:=hs18.form;rw [Bm] at e18;subst e18;clear hs18 Y0;go_wp2_with fail;refine j0.z.mono ?_;rintro e w19 ⟨v19,rfl,hs19,hA19,hg19⟩;have s0:Sl ze (fun _=>True) w19 v19 (nR 2 4):=hs19;have b0:=za (hA19.take k0.z.2 (yX _ (by decide)) (show U8 9 from ⟨by decide,by decide⟩) (show I64 2 from ⟨by decide,by decide⟩) s0 Bf (st:=ASt.start) rfl (r:=tD1) rD1);obtain ⟨A19,n19,c19,e19⟩:=hs19.shape;subst e19;have w0:=za hg19;clear hs19 s0 hA19 j0 k1 s1 hg19 k2;go_wp2_with fail;refine b0.z.mono ?_;rintro e w20 ⟨v20,rfl,hs20,hA20,hg20⟩;have v0:zk p3.1 p3.2 w19 w20:=hg20;have J0:=za hA20;have x0:Hid (Bk w20 (gb1+1) 61 #[.int .u8 9, .int .i64 3, .int .u8 1, .slice none 0 0]):=za (by
    have h:=L1.z.2;exact (H0.z.2.grown w0.z (by simp)).keep2 v0 (by omega) (by omega))
   obtain ⟨A20,c20,e20,_,_⟩:=hs20.form;rw [zaa] at e20;subst e20;have j1:=x0.z.rule;have r1:=J0.z.f.par.prule;have j0:=za (J0.z.nums 9 3 4 (show U8 9 from ⟨by decide,by decide⟩) (show I64 3 from ⟨by decide,by decide⟩) ⟨by decide,by decide⟩);clear hs20 hA20 hg20 v0 b0 q0 H0 w0;go_wp2_with fail;refine j0.z.mono ?_;rintro e w21 ⟨v21,rfl,hs21,hA21,hg21⟩;have r0:Sl ze (fun _=>True) w21 v21 (nR 3 4):=hs21;have b0:=za (hA21.take k0.z.2 (yX _ (by decide)) (show U8 9 from ⟨by decide,by decide⟩) (show I64 3 from ⟨by decide,by decide⟩) r0 Bc (st:=tD1.1) rfl (r:=tD2) rD2);obtain ⟨A21,n21,c21,e21⟩:=hs21.shape;subst e21;clear hs21 r0 hA21 j0 j1 r1 hg21;go_wp2_with fail;refine b0.z.mono ?_;rintro e w22 ⟨v22,rfl,hs22,hA22,_⟩;have d0:=za hA22;obtain ⟨o,C0,O1⟩: ∃o,tD2.1.own=some o∧o.a.map (atP 11 0)=(DL5.a[3]?.getD []).map (atP 11 0):=by
    have h:=Bh;cases ho:tD2.1.own with
    |none=>rw [ho] at h;cases h
    |some o=>rw [ho] at h;exact ⟨o,rfl,by injection h⟩
   obtain ⟨qE,qA,qS⟩:=d0.z.rm.av 3 k0.z.2;have qA':AvW (VR S) p3.1 p3.2 _ (EW 3) tD2.1 w22:=qA;have qS':yI (EW 3) tD2.1:=qS;have e0:=za (Mi (EW 3) tD2.1 p3.1 p3.2 _ o _ w22 qE qA' Bl C0 (qS'.own o C0));have hQ:(EW 3).p.Q=11:=rfl;rw [hQ,O1] at e0;have H1:=za hs22;obtain ⟨g22,o22,c22,u22,e22,_,_,⟨E0,_,_⟩,_⟩:=hs22.atO (k:=3) (by rw [Cp];decide);rw [Cp] at e22;subst e22;have V0:tD2.2[3]'(by rw [Cp];decide)=tD2.2[3]?.getD (0,0, []):=by rw [List.getElem?_eq_getElem (by rw [Cp];decide)];rfl
   rw [V0,Bj] at E0;have K2:=za E0;obtain ⟨gd,od,cd',vm,va,vb,ed,_,_,⟨_,M0,_⟩,_,sa,_⟩:=d0.z.f.ds.atDl (k:=0) (by decide);injection ed with ed1 ed2 ed3
   subst ed1;obtain ⟨ga,oa,ca,u3,ea,_,_,V1,s3⟩:=sa.atS (k:=3) (by decide);have ea:va= .slice (some ⟨ga,oa,none⟩) 4 ca:=ea;subst ea;have s3':Sl (zh zq) (fun g=>g< B) w22 u3 (DL5.a[3]?.getD []):=s3;obtain ⟨RW,D1⟩:=exq (DL5.a[3]?.getD []);have I1:Hid (RW.length≤1000∧ ∀c∈RW,c.length≤1000):=za (by rw [D1];decide);rw [←D1] at e0 s3';obtain ⟨PT,X0⟩:=exq (RW.map (atP 11 0));have G2:Hid (PT.length≤100000):=za (by rw [X0,lLm];have:=I1.z.1;omega);rw [←X0] at e0;have O2:Hid (∀W,w22.grownBy W none→Calls prog 38 #[u3, .int .u64 0, .int .u64 11] W (zN zq (fun g=>W.heap.size≤g) W PT)):=za (fun W hW=>by
    rw [X0];exact Vo u3 RW 0 11 _ W (s3'.kept hW) ⟨by decide,by decide⟩ I1.z.1 I1.z.2)
   obtain ⟨_,⟨⟨qc,qd,qo,T0,_⟩,_,_⟩,_⟩:=d0.z.rm.av 0 k0.z.1;have c0:Bk w22 p0.1 125 (zz (EW 0) qc qd qo p0.2 tB4.1.done):=T0;rw [Bp] at c0;have b1:Hid (∀W,w22.grownBy W none→Calls prog 31 #[.pointer (some ⟨p0.1,0,none⟩)] W fun e w'=>e= .returned (.bool true)∧w'=W):=za (fun W hW=>Ta (EW 0) p0.1 p0.2 qc qd qo true W (c0.grown hW (by simp)));have d1:Hid (∀W,w22.grownBy W none→W.cell? ⟨g22,o22+9,none⟩=some (.int .u8 10)∧W.cell? ⟨gd,od+1,none⟩=some (.slice (some ⟨ga,oa,none⟩) 4 ca)∧W.cell? ⟨ga,oa+3,none⟩=some u3∧ ∀o,W.cell? ⟨gp,o,none⟩=(p4.cells:Array Value)[o]?):=za (fun W hW=>⟨cell_kept E0 hW (by simp),by have:=cell_kept M0 hW (by simp);simpa using this,cell_kept V1 hW (by simp),(d0.z.f.par.grown hW (by simp)).prule⟩);have M2:Hid (w.grownBy w22 none):=za d0.z.f.g;obtain ⟨A3,n3,c3,e3⟩:=s3'.shape;subst e3;obtain ⟨nd',Q1⟩:=exq ( [DL5].length);have z1:nd'=1:=Q1;subst z1;clear hs22 hA22 E0 V1 M0 s3 s3' sa T0 c0 b0 qA qA' qS qS' D1 X0 C0 O1 V0 H1 K2 J0 x0 d0 hQ Q1;go_wp2_with fail;refine e0.z.mono ?_;rintro e w23 ⟨v1,v2,rfl,hs1,hs2,hg23⟩;have B2:=za hs1;have J1:=za hg23;obtain ⟨A1,n1,c1,e1⟩:=hs1.shape;subst e1;obtain ⟨A2,n2,c2,e2⟩:=hs2.shape;subst e2;clear hs1 hs2 hg23 e0;go_upto_region 35 with (fail)
   have A0:Hid (w22.grownBy w23.drew none):=za (J1.z.trans (zb w23 1));have F2:Hid (Sl zq (fun g=>w22.heap.size≤g) w23.drew (.slice A1 n1 c1) PT):=za (B2.z.kept (zb w23 1));refine ZF 31 ?_;refine mP0 (.slice (some ⟨g22,o22,none⟩) 4 c22) ?_;refine mP1 (.int .i64 4) 0 146 ?_;refine mP1 (.bool true) 1 147 ?_;refine mP1 (.bool true) 2 148 ?_;refine ZH (.slice (some ⟨g22,o22,none⟩) 4 c22) 3 149 ?_;refine yV (.pointer (some ⟨g22,o22+9,none⟩)) 3 149 4 150 ?_;refine yV (.pointer (some ⟨g22,o22+9,none⟩)) 3 149 5 151 ?_;refine YM (.int .u8 10) 3 149 6 152 (fun w' hw' K hK=> ?_) ?_
   ·obtain ⟨hm,M0,C1,q1⟩:=d1.z w' (A0.z.trans hw');go_simp;exact hK _ rfl rfl
   refine yV (.bool true) 3 149 7 153 ?_;refine mP2 (.bool true) 3 149 8 154 ?_;refine mP1 (.bool true) 9 155 ?_;refine ZH (.bool true) 10 156 ?_;refine mP2 (.bool true) 10 156 11 157 ?_;refine mP1 (.bool true) 12 158 ?_;refine ZH (.slice A1 n1 c1) 13 159 ?_;refine ZH (.slice (some ⟨gd,od,none⟩) 1 cd') 13 159 ?_;refine yV (.pointer (some ⟨gd,od,none⟩)) 13 159 15 161 ?_;refine yV (.pointer (some ⟨gd,od+1,none⟩)) 13 159 16 162 ?_;refine YM (.slice (some ⟨ga,oa,none⟩) 4 ca) 13 159 17 163 (fun w' hw' K hK=> ?_) ?_
   ·obtain ⟨hm,M0,C1,q1⟩:=d1.z w' (A0.z.trans hw');go_simp;exact hK _ rfl rfl
   refine yV (.pointer (some ⟨ga,oa+3,none⟩)) 13 159 18 164 ?_;refine YM (.slice A3 n3 c3) 13 159 19 165 (fun w' hw' K hK=> ?_) ?_
   ·obtain ⟨hm,M0,C1,q1⟩:=d1.z w' (A0.z.trans hw');go_simp;exact hK _ rfl rfl
   refine ZH (.pointer (some ⟨gp,1,none⟩)) 13 159 ?_;refine YM (.int .u64 11) 13 159 21 167 (fun w' hw' K hK=> ?_) ?_
   ·obtain ⟨hm,M0,C1,q1⟩:=d1.z w' (A0.z.trans hw');go_simp;exact hK _ rfl rfl
   refine LQ (Pv.sl zq (fun g=>w22.heap.size≤g) PT) 13 159 20 166 22 168 (fun w' hw' K hK=> ?_) ?_
   ·go_simp;refine (O2.z w' (A0.z.trans hw')).mono ?_;rintro e w3' ⟨v,rfl,hs3,hg3⟩;exact hK _ _ rfl (hs3.more fun g _ hg=>nLT (A0.z.trans hw').size hg) hg3
   refine mS (.bool true) [(13,159),(14,160),(23,169)] (fun w' hw'=>pQ (pQ (fun x169 n0=>kE fun K hK=> ?_))) ?_
   ·have n0:Sl zq (fun g=>w22.heap.size≤g) w' x169 PT:=n0;obtain ⟨A169,n169,c169,e169⟩:=n0.shape;subst e169;go_simp;refine (QL _ _ PT _ _ w' (F2.z.kept hw') n0 G2.z).mono ?_;rintro e w3' ⟨rfl,hg3⟩;exact hK _ _ rfl rfl hg3
   refine mP2 (.bool true) 13 159 24 170 ?_;refine mP1 (.bool true) 25 171 ?_;refine ZH (.pointer (some ⟨p0.1,0,none⟩)) 26 172 ?_;refine YM (.bool true) 26 172 27 173 (fun w' hw' K hK=> ?_) ?_
   ·go_simp;refine (b1.z w' (A0.z.trans hw')).mono ?_;rintro e w3' ⟨rfl,ew⟩;subst w3';exact hK _ rfl rfl
   refine mP2 (.bool true) 26 172 28 174 ?_;refine mP1 (.bool true) 29 175 ?_;intro w24 P0
   iterate 30 (refine pD ?_;intro _)
   intro y30 k30;have e30:y30= .bool true:=k30;subst e30;have N2:Hid (w.grownBy w24 none):=za (M2.z.trans (A0.z.trans P0));clear k30 P0;refine wpList_nil ?_;simp only [Act.put,sAa,sAb,sAc];go_wp2_with fail;go_ret;exact ⟨rfl,N2.z⟩
  ·have q2:i< 4:=by omega
   have o2:(i:Int)+1≤4:=by omega
   have P2:(0:Int)≤(i:Int):=iNn i;obtain ⟨S,L,hl,hm⟩:=HX.z;have HE:=za (Bu i q2);have d2:=za (RY (EW i) (.slice Ac nc cc) _ wr (Yl false) (show I64 2 from ⟨by decide,by decide⟩) (show I64 ((i:Int)+1) from ⟨by omega,by omega⟩) hm.f.cm (X1.z.kept hm.f.g));have hp:=hm.f.par.prule;have HL:=za hl;have HM:=za hm;clear HX hl hm;go_wp2_with fail;refine d2.z.mono ?_;rintro e w4 ⟨hg4,hnew⟩;rw [OE HE.z,if_pos rfl] at hnew;obtain ⟨gA,gM,he,hA,hM,Y1⟩:=hnew;subst he;have Z0:=za (HM.z.new hg4 hA hM (by rw [HL.z];exact HE.z) (by rw [HL.z];exact Y1) (by rw [HL.z];exact Nt i));have I0:Hid (Acc IN B 53 (fun _=>True) w4 u5 (L.map (·.1))):=za (Z0.z.a5.more fun _ _ _=>trivial);have y2:Hid (B≤w4.heap.size):=za Z0.z.f.sz;have O0:Hid (((L.map (·.1)).length+1)*8≤140737488355328):=za (by rw [lLm,HL.z];omega);obtain ⟨xs,i1⟩:=exq (L.map (·.1));have E1:=za i1;rw [←i1] at Z0 I0 O0;clear hp hg4 Y1 hA hM i1;go_wp2_with (at_builtin;refine zW rfl (.tmp 42) (.tmp 44) rfl (E:=IN) (y:=gA) DO I0.z rfl rfl rfl O0.z y2.z (fun _ _=>trivial) ?_);intro v5 w5 z0 U1 S1;obtain ⟨S5,Z1⟩:=Z0.z.push5 z0 U1 S1;have N0:=za Z1;clear z0 U1 S1 Z1 Z0 HM d2 I0 O0;have N1:=N0.z.f.par.prule;rcases Nat.lt_or_ge i 3 with hi3|hi3
   ·have r2:(i:Int)+1< 4:=by omega
    have f2:=za (Vh p4 7 0 1 (.slice none 0 0) (.slice Ad nd cd) [] [DL5] ((i:Int)+1) (fun _=>False) _ w5 (Yl false) ⟨by decide,by decide⟩ ⟨by decide,by decide⟩ ⟨by decide,by decide⟩ ⟨by decide,by decide⟩ (Sl.nil _ _ _) N0.z.f.ds (fun d hd=>by rw [List.mem_singleton.1 hd];exact Fw) (by decide) ⟨by omega,o2⟩);go_wp2_with fail;refine f2.z.mono ?_;rintro e w6 ⟨v6,rfl,hs6,hg6⟩;have P1:(nD ((i:Int)+1)).length≤100000:=CI i hi3;have S0:Sl ze (fun _=>True) w6 v6 (nD ((i:Int)+1)):=hs6.more fun _ _ _=>trivial
    have b0:=za ((N0.z.kept hg6).take (by rw [HL.z] at *;exact yX _ (by omega)) (show U8 7 from ⟨by decide,by decide⟩) (show I64 0 from ⟨by decide,by decide⟩) S0 P1 (st:=ASt.start) (by rw [HL.z];exact Nt i) (r:=tA ((i:Int)+1)) (by rw [HL.z];rfl));obtain ⟨A6,n6,c6,rfl⟩:=hs6.shape;clear hs6 S0 hg6 N1 N0 f2 P1;go_wp2_with fail;refine b0.z.mono ?_;rintro e w7 ⟨v7,rfl,hs7,hM7⟩;have U0:=DC i hi3;obtain ⟨r,hr⟩:=exq ((tA ((i:Int)+1)).2);rw [←hr] at hs7 U0;have D2:=za hr;have f0:=za hM7;have z2:=za hs7;have W1:=za (Xr v7 r 8 4 _ w7 hs7 (by rw [U0.1];decide));obtain ⟨A7,c7,e7,_,_⟩:=hs7.form;rw [U0.1] at e7;have H2:=za U0;subst e7;clear hs7 hM7 hr b0 U0;go_wp2_with fail;refine W1.z.mono ?_;rintro e w8 ⟨v8,rfl,ew,hs8⟩;subst w8;have B0:=List.length_pos_iff.2 H2.z.2;obtain ⟨g8,o8,c8,e8,_⟩:=hs8.atU B0;subst e8;clear hs8 W1;have C2:Hid ((zh xZ).rep (fun g=>((∀k (h:k< (L++ [(gA,gM)]).length),g≠(L++ [(gA,gM)])[k].1∧g≠(L++ [(gA,gM)])[k].2)∧v5.ownBlock≠some g)∧some g≠u6.ownBlock) w7 [.slice A7 3 c7] r):=za ⟨_,rfl,z2.z.more fun g _ hg=>⟨⟨fun k hk=>⟨fun e=>hg (by rw [e];exact (f0.z.rm.sub k hk).1),fun e=>hg (by rw [e];exact (f0.z.rm.sub k hk).2)⟩,fun e=>hg (f0.z.o5 g e)⟩,fun e=>hg (f0.z.o6 g e.symm)⟩⟩;have i2:=za f0.z.a6;have O0:Hid (((Fp i).length+1)*24≤140737488355328):=za (by unfold Fp;rw [lLm,List.length_range];omega);have G1:Hid (B≤w7.heap.size):=za f0.z.f.sz;have J2:Hid (∀g,w7.heap.size≤g→(∀k (h:k< (L++ [(gA,gM)]).length),g≠(L++ [(gA,gM)])[k].1∧g≠(L++ [(gA,gM)])[k].2)∧v5.ownBlock≠some g):=za (fun g hg=>by
     have hf:=f0.z.rm.free hg;exact ⟨fun k hk=>⟨fun e=>hf (by rw [e];exact (f0.z.rm.sub k hk).1),fun e=>hf (by rw [e];exact (f0.z.rm.sub k hk).2)⟩,fun e=>hf (f0.z.o5 g e)⟩)
    obtain ⟨oj,y1⟩:=exq (Fp i);have I2:=za y1;rw [←y1] at i2 O0 f0;clear y1;have s2:(binOp .eql 31 (.slice (some ⟨g8,o8,none⟩) (toI 8 4 r).length c8) (.slice none 0 0)).run prog w7= .ok (.bool false) w7:=NP w7 (some ⟨g8,o8,none⟩) _ _;go_wp2_with (at_builtin;refine zW rfl (.tmp 63) (.tmp 65) rfl (E:=zh xZ) (y:=r) EF i2.z rfl rfl C2.z O0.z G1.z J2.z ?_);intro v9 w9 y0 T1 R1;obtain ⟨S9,F1⟩:=f0.z.push6 (y0.more fun g _ hX=>⟨fun k hk=>hX.1 k (by simpa using hk),hX.2⟩) T1 R1;have G0:Hid (AwL w gp B (.slice Ad nd cd) (.slice Ac nc cc) (i+1) v5 v9 w9):=za (by
     refine ⟨S9,L++ [(gA,gM)],by rw [lLa,HL.z];rfl, ?_⟩;rw [KY i hi3, ←D2.z, ←I2.z,lMa, ←E1.z,Ho i hi3,show 3*(i+1)=3*i+3 from rfl, ←HL.z];rw [←HL.z] at F1;exact F1)
    clear y0 T1 R1 F1;go_wp2_with fail;go_roundg (gk - 1)
    case measure=>omega
    case rel=>exact ⟨i+1,by omega,by go_num,G0⟩
   ·obtain rfl:i=3:=by omega
    have G0:Hid (AwL w gp B (.slice Ad nd cd) (.slice Ac nc cc) 4 v5 u6 w5):=za (by
     refine ⟨S5,L++ [(gA,gM)],by rw [lLa,HL.z];rfl, ?_⟩;have h:=N0.z;rw [lMa, ←E1.z];have e1:stJ 4=stJ 3:=by
      funext k
      unfold stJ;by_cases hk:k< 3
      ·rw [if_pos ⟨by omega,hk⟩,if_pos ⟨hk,hk⟩]
      ·rw [if_neg (fun e=>hk e.2),if_neg (fun e=>hk e.2)]
     rw [e1];exact ⟨h.rm.up (by decide),h.f,h.bd,h.a5,h.o5,h.a6,h.o6⟩)
    clear N1 N0;go_wp2_with fail;go_roundg (gk - 1)
    case measure=>omega
    case rel=>exact ⟨4,by omega,by go_num,G0⟩
end
section
open Go Go.RowKit Go.Shelf Go.Maps
theorem XG{α:Type}{c:Nat}: ∀{l:List (List α)},(∀x∈l,x.length≤c)→l.flatten.length≤l.length*c
 | [],_=>by simp
 |x::l,h=>by
  have h1:=XG (l:=l) fun y hy=>h y (mCm _ hy)
  have h2:=h x mCs;rw [List.flatten_cons,lLa,List.length_cons,Nat.succ_mul];omega
theorem Ro{m:List (List (List Int))}{a b:List (List (Int×Int))}(hm:m.length≤10∧ ∀x∈m,x.length≤3∧ ∀y∈x,y.length≤3)(ha:a.length≤10∧ ∀c∈a,c.length≤3)(hb:b.length≤10∧ ∀c∈b,c.length≤3):(yz m a b).length≤300:=by
 have hm1:m.flatten.length≤m.length*3:=XG fun f hf=>(hm.2 f hf).1
 have hm2:m.flatten.flatten.length≤m.flatten.length*3:=XG fun r hr=>by
  obtain ⟨f,hf,hr⟩:=List.mem_flatten.1 hr;exact (hm.2 f hf).2 r hr
 have ha2:a.flatten.length≤a.length*3:=XG ha.2;have hb2:b.flatten.length≤b.length*3:=XG hb.2;have h1:=hm.1;have h2:=ha.1;have h3:=hb.1;simp only [yz,List.flatten_cons,List.flatten_nil,List.append_nil,List.length_append,YE];omega
theorem KW{x:zw}(h:yP x):(yz x.m x.a x.b).length≤300:=Ro ⟨h.m.1,fun f hf=>⟨(h.m.2 f hf).1,fun r hr=>((h.m.2 f hf).2 r hr).2⟩⟩ h.a h.b
theorem Mh{l:List (Int×Int)}(h:l.length≤10):(zB l).length≤10∧ ∀c∈zB l,c.length≤3:=by
 refine ⟨by simpa [zB] using h,fun c hc=> ?_⟩;obtain ⟨y,_,rfl⟩:=List.mem_map.1 hc;simp
theorem Em{p:Par}{kind f o me:Int}{ns:List Int}{ds:List Dl}{N:Nat}(hn:ns.length≤3000)(hd: ∀d∈ds,Cl N d):(VO p kind f o ns ds me).length≤100000:=by
 have hk:((OS ds o).m.length≤10∧ ∀x∈(OS ds o).m,x.length≤3∧ ∀y∈x,y.length≤3)∧(∀r∈(OS ds o).a,r.length≤10∧ ∀c∈r,c.length≤3)∧ ∀r∈(OS ds o).b,r.length≤10∧ ∀c∈r,c.length≤3:=by
  unfold OS;cases e:ds[((o - 1)%(ds.length:Int)).toNat]? with
  |none=>simp
  |some d=>
   have h:=hd d (List.mem_of_getElem? e);exact ⟨h.m,h.a.2,h.b.2⟩
 obtain ⟨hm,ha,hb⟩:=hk;have hg: ∀{l:List (List (List (Int×Int)))} (i:Nat),(∀r∈l,r.length≤10∧ ∀c∈r,c.length≤3)→(l[i]?.getD []).length≤10∧ ∀c∈l[i]?.getD [],c.length≤3:=fun {l} i h=>by
  cases e:l[i]? with
  |none=>simp
  |some r=>exact h r (List.mem_of_getElem? e)
 unfold VO;split
 ·omega
 ·split
  ·have:=Ro hm (hg (me - 1).toNat ha) (hg (me - 1).toNat hb)
   omega
  ·have h1:=(hg (YN p.N f - 1).toNat ha).1;have h2:=(hg (YN p.N f - 1).toNat hb).1
   have:=Ro hm (Mh (l:=((OS ds o).a[(YN p.N f - 1).toNat]?.getD []).map (atP p.Q me)) (by rw [lLm];exact h1)) (Mh (l:=((OS ds o).b[(YN p.N f - 1).toNat]?.getD []).map (atP p.Q me)) (by rw [lLm];exact h2))
   omega
theorem FT{E:zy}(hE:E.ok){st:ASt}(h:yI E st):(∀t∈(yS E st).echos,t.2.length≤100000)∧(∀t∈(yS E st).readies,t.2.length≤100000)∧(yS E st).deal.length≤100000∧(yS E st).own.length≤100000∧(yS E st).echos.length≤7∧(yS E st).readies.length≤7:=by
 have ht: ∀k, ∀t∈xE E st k,t.2.length≤100000:=fun k t ht=>by
  obtain ⟨i,_,hi⟩:=List.mem_filterMap.1 ht;obtain ⟨x,hx,rfl⟩:=Option.map_eq_some_iff.1 hi
  have:=KW (h.heard k i x hx).le
  show (yz x.m x.a x.b).length≤100000;omega
 have hl: ∀k,(xE E st k).length≤7:=fun k=>by
  obtain ⟨_,_,_,hN1,hN2,_⟩:=zx hE.may;refine nLT (List.length_filterMap_le _ _) ?_;simp only [Tf,List.length_map,List.length_range];omega
 have hp: ∀o:Option zw,(∀x,o=some x→yP x)→(zE o).length≤100000:=fun o ho=>by
  cases o with
  |none=>simp [zE]
  |some x=>
   have:=KW (ho x rfl)
   show (yz x.m x.a x.b).length≤100000;omega
 exact ⟨ht 8,ht 9,hp _ h.dealt,hp _ h.own,hl 8,hl 9⟩
theorem Sl.nn{X:Nat→Prop}{w:World}{v:Value}{xs:List Int}(h:Sl ze X w v xs): ∀y∈xs,0≤y:=fun y hy=>by
 obtain ⟨k,hk,rfl⟩:=List.mem_iff_getElem.1 hy;obtain ⟨_,_,_,_,_,_,_,hu⟩:=h.atU hk;exact hu.1
def Dm(two:Bool)(d seed:Int):List Dl:=(List.range 2).map (dlD (p19 two) seed d)
theorem JT(two:Bool)(d seed:Int): ∀x∈Dm two d seed,Cl (p19 two).N.toNat x:=fun x hx=>by
 obtain ⟨j,_,rfl⟩:=List.mem_map.1 hx;exact DR (Vf two) (Yl two).Q seed d j
def AI(gA gM g:Nat):Prop:=g≠gA∧g≠gM
theorem n19{two:Bool}{x:Int}(h:1≤x∧x≤(p19 two).N):I64 x:=by
 have:(p19 two).N≤7:=by cases two<;>decide
 exact ⟨by omega,by omega⟩
structure AnF (w:World) (two:Bool) (d seed:Int) (l:List IK) (gp B:Nat) (vl vd:Value) (W:World):Prop where
 g:w.grownBy W none
 b:w.heap.size≤B
 sz:B≤W.heap.size
 par:Bk W gp 39 (p19 two).cells
 gpl:gp< B
 ls:Sl UK (fun g=>g< B) W vl l
 ds:Sl UL (fun g=>g< B) W vd (Dm two d seed)
section
variable {w W W':World} {two:Bool} {d m seed:Int} {l:List IK} {gp B:Nat} {vl vd:Value}
theorem AnF.keep(h:AnF w two d seed l gp B vl vd W){row:Option Nat}(hg:W.grownBy W' row)(hr: ∀b,row=some b→B≤b):AnF w two d seed l gp B vl vd W' where
 g:=zP h.g hg (fun b e=>nLT h.b (hr b e))
 b:=h.b
 sz:=nLT h.sz hg.size
 par:=h.par.grown hg (fun e=>by have:=hr _ e.symm;have:=h.gpl;omega)
 gpl:=h.gpl
 ls:=h.ls.keep hg (fun g hg e=>by have:=hr _ e.symm;omega)
 ds:=h.ds.keep hg (fun g hg e=>by have:=hr _ e.symm;omega)
theorem AnF.kept(h:AnF w two d seed l gp B vl vd W)(hg:W.grownBy W' none):AnF w two d seed l gp B vl vd W':=h.keep hg (fun b e=>by cases e)
theorem AnF.keep2(h:AnF w two d seed l gp B vl vd W){gA gM:Nat}(hg:zk gA gM W W')(hA:B≤gA)(hM:B≤gM):AnF w two d seed l gp B vl vd W':=by
 obtain ⟨u,k1,k2⟩:=hg.split;exact (h.keep k1 (fun b e=>by injection e with e;omega)).keep k2 (fun b e=>by injection e with e;omega)
theorem AnF.nums(h:AnF w two d seed l gp B vl vd W){vn:Value}{kind f o me:Int}{ns:List Int}{Y:Nat→Prop}(hk:U8 kind)(hf:I64 f)(ho:U8 o)(hn:Sl ze Y W vn ns)(hme:1≤me∧me≤(p19 two).N):
  Calls prog 20 #[.agg #[.int .u8 kind, .int .i64 f, .int .u8 o,vn],(p19 two).v,vd, .int .i64 me] W (PW Y W (VO (p19 two) kind f o ns (Dm two d seed) me)):=
 Vh (p19 two) kind f o vn vd ns (Dm two d seed) me Y _ W (Yl two) (by cases two<;>exact ⟨by decide,by decide⟩) ho hk hf hn h.ds (JT two d seed) (by simp [Dm]) hme
end
structure AnW (w:World) (two:Bool) (d m seed:Int) (l:List IK) (gp B:Nat) (vl vd:Value) (gA gM nn:Nat) (st:ASt) (W:World):Prop where
 f:AnF w two d seed l gp B vl vd W
 dp:1≤d∧d≤(p19 two).N
 mp:1≤m∧m≤(p19 two).N
 bA:B≤gA
 bM:B≤gM
 av:AvW (AI gA gM) gA gM nn (anE two d m seed) st W
 ok:yI (anE two d m seed) st
 good:zK (anE two d m seed) st
section
variable {w W W':World} {two:Bool} {d m seed:Int} {l:List IK} {gp B:Nat} {vl vd:Value} {gA gM nn:Nat} {st:ASt}
theorem AnW.e(h:AnW w two d m seed l gp B vl vd gA gM nn st W):(anE two d m seed).ok:=FF h.dp h.mp
theorem AnW.kept(h:AnW w two d m seed l gp B vl vd gA gM nn st W)(hg:W.grownBy W' none):AnW w two d m seed l gp B vl vd gA gM nn st W':=⟨h.f.kept hg,h.dp,h.mp,h.bA,h.bM,h.av.kept hg,h.ok,h.good⟩
theorem AnW.state(h:AnW w two d m seed l gp B vl vd gA gM nn st W):Calls prog 30 #[.pointer (some ⟨gA,0,none⟩)] W fun e W'=> ∃v,e= .returned v∧Xj (fun g=>W.heap.size≤g) W' v (yS (anE two d m seed) st)∧W.grownBy W' none:=
 TW (anE two d m seed) st gA gM nn (AI gA gM) W h.e h.av h.ok
theorem AnW.load(h:AnW w two d m seed l gp B vl vd gA gM nn st W)(hT:ye W){v:Value}{X:Nat→Prop}(hs:Xj X W v (yS (anE two d m seed) st)):
  Calls prog 34 #[(p19 two).v,v] W fun e W'=> ∃gB gN,e= .returned (.tuple #[.pointer (some ⟨gB,0,none⟩), .int .i64 0])∧W.heap.size≤gB∧W.heap.size≤gN∧AvW (fun g=>W.heap.size≤g∧g≠gB∧g≠gN) gB gN 14 (anE two d m seed) st W'∧W.grownBy W' none:=by
 obtain ⟨h1,h2,h3,h4,h5,h6⟩:=FT h.e h.ok;refine (IB (anE two d m seed) (yS (anE two d m seed) st) v X W (Yl two) (n19 h.dp) (n19 h.mp) hs rfl rfl rfl hT h1 h2 h3 h4 (yX _ (by omega))).mono ?_;rintro e W' ⟨hg,k⟩;have hlb:yZ (anE two d m seed) (yS (anE two d m seed) st)=some st:=Jn (E:=anE two d m seed) (Vf two) h.good;rw [if_pos (OE h.e),hlb] at k;obtain ⟨gB,gN,rfl,k1,k2,k3,k4⟩:=k;exact ⟨gB,gN,rfl,k1,k2,k3.upN (by omega),hg⟩
theorem AnW.new(h:AnF w two d seed l gp B vl vd W)(hd:1≤d∧d≤(p19 two).N)(hm:1≤m∧m≤(p19 two).N)(hT:ye W){vc:Value}{X:Nat→Prop}(hc:Sl (zh ze) X W vc (GO (p19 two) [0] seed)):
  Calls prog 18 #[(p19 two).v, .int .i64 d, .int .i64 m,vc] W fun e W'=> ∃gA gM,e= .returned (.tuple #[.pointer (some ⟨gA,0,none⟩), .int .i64 0])∧AnW w two d m seed l gp B vl vd gA gM 0 ASt.start W'∧W.grownBy W' none:=by
 refine (RY (anE two d m seed) vc X W (Yl two) (n19 hd) (n19 hm) hc hT).mono ?_;rintro e W' ⟨hg,k⟩;rw [if_pos (OE (FF hd hm))] at k;obtain ⟨gA,gM,rfl,k1,k2,k3⟩:=k;exact ⟨gA,gM,rfl,⟨h.kept hg,hd,hm,nLT h.sz k1,nLT h.sz k2,k3.more fun g _ hg=>hg.2,yI.start _,zK.start _⟩,hg⟩
end
theorem Kk{E:zy}(hE:E.ok)(st:ASt)(k i:Int)(l:List Int):(zV E st k i l).2.length≤1000:=by
 obtain ⟨_,_,_,hN1,hN2,_⟩:=zx hE.may;unfold zV;split
 ·split
  ·simp
  ·unfold Za;dsimp only;rw [lLa];have h1:=Xg E XD (zu E l).1;have h2:=Xh hE {st with dealt:=some (zu E l).1} XD E.me (yl E (zu E l).1 E.me);omega
 ·split
  ·have:=Xh hE st k i l
   omega
  ·simp
def Nf(gA gM gB gN g:Nat):Prop:=(g≠gA∧g≠gM)∧g≠gB∧g≠gN
structure Ze (X:Nat→Prop) (W:World) (g:Nat) (s:SSt) (vc vd ve vr vo:Value):Prop where
 b:Bk W g 82 #[.int .i64 s.dealer, .int .i64 s.me,vc,vd,ve,vr,vo, .bool s.done]
 c:Sl (zh ze) X W vc s.coms
 d:Sl ze X W vd s.deal
 e:Sl Yg X W ve s.echos
 r:Sl Yg X W vr s.readies
 o:Sl ze X W vo s.own
section
variable {X Y:Nat→Prop} {W W':World} {g:Nat} {s:SSt} {vc vd ve vr vo:Value}
theorem Ze.keep(h:Ze X W g s vc vd ve vr vo){row:Option Nat}(hg:W.grownBy W' row)(hX: ∀g,X g→some g≠row)(hb:some g≠row):Ze X W' g s vc vd ve vr vo:=⟨h.b.grown hg hb,h.c.keep hg hX,h.d.keep hg hX,h.e.keep hg hX,h.r.keep hg hX,h.o.keep hg hX⟩
theorem Ze.kept(h:Ze X W g s vc vd ve vr vo)(hg:W.grownBy W' none):Ze X W' g s vc vd ve vr vo:=h.keep hg (fun _ _=>by simp) (by simp)
theorem Ze.more(h:Ze X W g s vc vd ve vr vo)(hX: ∀g,g< W.heap.size→X g→Y g):Ze Y W g s vc vd ve vr vo:=⟨h.b,h.c.more hX,h.d.more hX,h.e.more hX,h.r.more hX,h.o.more hX⟩
theorem Ze.at(h:Ze X W g s vc vd ve vr vo):Xj X W (.agg #[.int .i64 s.dealer, .int .i64 s.me,vc,vd,ve,vr,vo, .bool s.done]) s:=⟨vc,vd,ve,vr,vo,rfl,h.c,h.d,h.e,h.r,h.o⟩
theorem Ze.new{vc vd ve vr vo:Value}(h:Xj X W (.agg #[.int .i64 s.dealer, .int .i64 s.me,vc,vd,ve,vr,vo, .bool s.done]) s):Ze X (W.alloc (.cells #[.int .i64 s.dealer, .int .i64 s.me,vc,vd,ve,vr,vo, .bool s.done] 82)) W.heap.size s vc vd ve vr vo:=by
 obtain ⟨a1,a2,a3,a4,a5,e,h1,h2,h3,h4,h5⟩:=h;injection e with e
 injection e with e
 simp only [List.cons.injEq,and_true,true_and] at e;obtain ⟨rfl,rfl,rfl,rfl,rfl⟩:=e;have hg:=gAl W (.cells #[.int .i64 s.dealer, .int .i64 s.me,vc,vd,ve,vr,vo, .bool s.done] 82) none;exact ⟨Bk.new W _ _,h1.kept hg,h2.kept hg,h3.kept hg,h4.kept hg,h5.kept hg⟩
theorem Ze.keep2{gA gM:Nat}(h:Ze X W g s vc vd ve vr vo)(hg:zk gA gM W W')(hA: ¬X gA)(hM: ¬X gM)(h1:g≠gA)(h2:g≠gM):Ze X W' g s vc vd ve vr vo:=by
 obtain ⟨u,k1,k2⟩:=hg.split;exact (h.keep k1 (fun g hg e=>hM (by injection e with e;rwa [←e])) (fun e=>h2 (by injection e))).keep k2 (fun g hg e=>hA (by injection e with e;rwa [←e])) (fun e=>h1 (by injection e))
end
structure Tw where
 w:World
 two:Bool
 d:Int
 m:Int
 seed:Int
 l:List IK
 gp:Nat
 B:Nat
 vl:Value
 vd:Value
 gA:Nat
 gM:Nat
 gB:Nat
 gN:Nat
 na:Nat
 nb:Nat
 st:ASt
 gw:Nat
 s:SSt
 c1:Value
 c2:Value
 c3:Value
 c4:Value
 c5:Value
 vn:Value
 ns:List Int
 k:Int
 i:Int
namespace Tw
variable (t:Tw)
def E:zy:=anE t.two t.d t.m t.seed
def X:Nat→Prop:=Nf t.gA t.gM t.gB t.gN
noncomputable def r:ASt×List yE:=zV t.E t.st t.k t.i t.ns
structure Ok:Prop where
 e:t.E.ok
 st:yI t.E t.st
 apart:t.gA≠t.gB∧t.gA≠t.gN∧t.gM≠t.gB∧t.gM≠t.gN
 low:t.B≤t.gA∧t.B≤t.gM∧t.B≤t.gB∧t.B≤t.gN
 gw:t.X t.gw
 k:U8 t.k
 i:I64 t.i
 na:t.na+3< maxLen
 nb:t.nb+3< maxLen
 nl:t.ns.length≤100000
structure C (vs:List (Nat×Value)) (W:World):Prop where
 f:AnF t.w t.two t.d t.seed t.l t.gp t.B t.vl t.vd W
 n:Sl ze t.X W t.vn t.ns
 s:Ze t.X W t.gw t.s t.c1 t.c2 t.c3 t.c4 t.c5
 a0:0 ∉ vs.map (·.1)→AvW t.X t.gA t.gM t.na t.E t.st W
 a1:0∈vs.map (·.1)→AvW t.X t.gA t.gM (t.na+3) t.E t.r.1 W
 b0:1 ∉ vs.map (·.1)→AvW t.X t.gB t.gN t.nb t.E t.st W
 b1:1∈vs.map (·.1)→AvW t.X t.gB t.gN (t.nb+3) t.E t.r.1 W
 o: ∀q v,(q,v)∈vs→Sl xZ t.X W v t.r.2
variable {t} {vs:List (Nat×Value)} {W W':World}
theorem C.kept(h:t.C vs W)(hg:W.grownBy W' none):t.C vs W':=⟨h.f.kept hg,h.n.kept hg,h.s.kept hg,fun e=>(h.a0 e).kept hg,fun e=>(h.a1 e).kept hg,fun e=>(h.b0 e).kept hg,fun e=>(h.b1 e).kept hg,fun q v hv=>(h.o q v hv).kept hg⟩
theorem C.ltA(h:t.C vs W):t.gA< W.heap.size∧t.gM< W.heap.size:=by
 by_cases e:0∈vs.map (·.1)
 ·exact ⟨(h.a1 e).ltA,(h.a1 e).ltM⟩
 ·exact ⟨(h.a0 e).ltA,(h.a0 e).ltM⟩
theorem C.ltB(h:t.C vs W):t.gB< W.heap.size∧t.gN< W.heap.size:=by
 by_cases e:1∈vs.map (·.1)
 ·exact ⟨(h.b1 e).ltA,(h.b1 e).ltM⟩
 ·exact ⟨(h.b0 e).ltA,(h.b0 e).ltM⟩
theorem C.off(h:t.C vs W){g:Nat}(hg:W.heap.size≤g):t.X g:=by
 have h1:=h.ltA;have h2:=h.ltB;exact ⟨⟨by omega,by omega⟩,by omega,by omega⟩
def Lt(t:Tw):FR.Lt where
 C:=t.C
 R:=fun _ _ _ _=>True
 G:=fun w w'=>w.grownBy w' none
 g:=fun h hg=>h.kept hg
theorem C.takeA(ho:t.Ok)(h:t.C vs W)(hn:0 ∉ vs.map (·.1)):Calls prog 21 #[.pointer (some ⟨t.gA,0,none⟩), .int .u8 t.k, .int .i64 t.i,t.vn] W fun e W'=> ∃v,e= .returned v∧t.C (vs++ [(0,v)]) W':=by
 obtain ⟨p1,p2,p3,p4⟩:=ho.apart;obtain ⟨l1,l2,l3,l4⟩:=ho.low;obtain ⟨⟨w1,w2⟩,w3,w4⟩:=ho.gw;have nA: ¬t.X t.gA:=fun e=>e.1.1 rfl
 have nM: ¬t.X t.gM:=fun e=>e.1.2 rfl
 refine (UW t.E t.st t.gA t.gM t.na (t.na+3) t.k t.i t.vn t.ns t.X t.X W ho.e (h.a0 hn) ho.st ho.k ho.i nA nM (fun g hg=>h.off hg) ⟨nRf _,ho.na⟩ h.n ho.nl).mono ?_;rintro e W' ⟨v,Z,rfl,z1,z2,z3,z4⟩;refine ⟨v,rfl,h.f.keep2 z4 l1 l2,h.n.keep2 z4 nA nM,h.s.keep2 z4 nA nM w1 w2,fun e=> ?_,fun _=>z3.more fun g _ hg=>hg.1,fun e=> ?_,fun e=> ?_,fun q u hu=> ?_⟩
 ·exact absurd (by simp) e
 ·have e':1 ∉ vs.map (·.1):=fun e'=>e (by rw [lMa];exact mAl _ e')
  exact (h.b0 e').keep2 z4 nA nM ⟨Ne.symm p1,Ne.symm p3⟩ ⟨Ne.symm p2,Ne.symm p4⟩
 ·have e':1∈vs.map (·.1):=by simpa using e
  exact (h.b1 e').keep2 z4 nA nM ⟨Ne.symm p1,Ne.symm p3⟩ ⟨Ne.symm p2,Ne.symm p4⟩
 ·rcases List.mem_append.1 hu with hu|hu
  ·exact (h.o q u hu).keep2 z4 nA nM
  ·obtain ⟨rfl,rfl⟩:=Prod.mk.inj (List.mem_singleton.1 hu);exact z2.sl.more fun g _ hg=>h.off (z1 g hg)
theorem C.takeB(ho:t.Ok)(h:t.C vs W)(hn:1 ∉ vs.map (·.1)):Calls prog 21 #[.pointer (some ⟨t.gB,0,none⟩), .int .u8 t.k, .int .i64 t.i,t.vn] W fun e W'=> ∃v,e= .returned v∧t.C (vs++ [(1,v)]) W':=by
 obtain ⟨p1,p2,p3,p4⟩:=ho.apart;obtain ⟨l1,l2,l3,l4⟩:=ho.low;obtain ⟨⟨w1,w2⟩,w3,w4⟩:=ho.gw;have nB: ¬t.X t.gB:=fun e=>e.2.1 rfl
 have nN: ¬t.X t.gN:=fun e=>e.2.2 rfl
 refine (UW t.E t.st t.gB t.gN t.nb (t.nb+3) t.k t.i t.vn t.ns t.X t.X W ho.e (h.b0 hn) ho.st ho.k ho.i nB nN (fun g hg=>h.off hg) ⟨nRf _,ho.nb⟩ h.n ho.nl).mono ?_;rintro e W' ⟨v,Z,rfl,z1,z2,z3,z4⟩;refine ⟨v,rfl,h.f.keep2 z4 l3 l4,h.n.keep2 z4 nB nN,h.s.keep2 z4 nB nN w3 w4,fun e=> ?_,fun e=> ?_,fun e=> ?_,fun _=>z3.more fun g _ hg=>hg.1,fun q u hu=> ?_⟩
 ·have e':0 ∉ vs.map (·.1):=fun e'=>e (by rw [lMa];exact mAl _ e')
  exact (h.a0 e').keep2 z4 nB nN ⟨p1,p2⟩ ⟨p3,p4⟩
 ·have e':0∈vs.map (·.1):=by simpa using e
  exact (h.a1 e').keep2 z4 nB nN ⟨p1,p2⟩ ⟨p3,p4⟩
 ·exact absurd (by simp) e
 ·rcases List.mem_append.1 hu with hu|hu
  ·exact (h.o q u hu).keep2 z4 nB nN
  ·obtain ⟨rfl,rfl⟩:=Prod.mk.inj (List.mem_singleton.1 hu);exact z2.sl.more fun g _ hg=>h.off (z1 g hg)
end Tw
end
section
open Go Go.RowKit Go.Shelf Go.Maps
attribute [local go_sem] Oper.semAt_some
theorem PE(j0:Bool)(d0 m0 c0:Int)(vl:Value)(l:List IK)(X:Nat→Prop)(w:World)(hd:I64 d0)(hm:I64 m0)(K2:U64 c0)(hl:Sl UK X w vl l)(hT:ye w)(b1:l.length≤17592186044415)(b2: ∀x∈l,x.2.2.2.length≤17592186044415):
  Calls prog 8 #[.bool j0, .int .i64 d0, .int .i64 m0, .int .u64 c0,vl] w fun e w'=>e= .returned (.bool true)∧w.grownBy w' none:=by
 have T0:=za hT;have HD:=za (And.intro hd (And.intro hm K2));have B2:=za (fun W (hg:w.grownBy W none)=>MQ vl l X W (hl.kept hg) b1 b2);have HL:=za hl;obtain ⟨Al,cl,rfl,J3,V3⟩:=hl.form;obtain ⟨L,g2⟩:=exq (l.length);have O3:=za g2;rw [←g2] at HL B2 b1 J3 ⊢;obtain ⟨p,hp⟩:=exq (p19 j0);have HP:=za hp;clear hl hT hd hm K2 b2 g2;go_enter func8,ntmps8;go_wp2_with fail;refine (Uj j0 w).mono ?_;rintro e w1 ⟨rfl,A0⟩;rw [←hp];obtain ⟨w2,Y0⟩:=exq (w1.alloc (Obj.cells p.cells 39));obtain ⟨gp,K1⟩:=exq (w1.heap.size);have r3:Hid (Bk w2 gp 39 p.cells):=za (by rw [Y0,K1];exact Bk.new _ _ _);have H0:Hid (w.grownBy w2 none):=za (by rw [Y0];exact A0.trans (gAl _ _ none));clear A0 hp;go_upto_region 2 with (fail)
 first|rw [←Y0, ←K1]|(have J0:w1.alloc (Obj.cells p.cells 39)=w2:=Y0.symm;simp only [Par.cells] at J0;rw [J0, ←K1];clear J0)
 clear Y0 K1;go_wp2_with fail;refine (B2.z w2 H0.z).mono ?_;rintro e x ⟨B,rfl,hB,ew⟩;subst x;cases B with
 |true=>
  clear hB;go_wp2_with fail;refine (UT w2 (T0.z.kept H0.z)).mono ?_;rintro e w3 ⟨rfl,hg3⟩;have HF:=za (H0.z.trans hg3);clear hg3;go_wp2;go_ret;exact ⟨rfl,HF.z⟩
 |false=>
  have HB:=za (hB rfl);clear hB B2;by_cases Y3:20< (L:Int)
  ·go_wp2_with fail;refine (UT w2 (T0.z.kept H0.z)).mono ?_;rintro e w3 ⟨rfl,hg3⟩;have HF:=za (H0.z.trans hg3);clear hg3;go_wp2;go_ret;exact ⟨rfl,HF.z⟩
  ·go_wp2_with fail;refine (UT w2 (T0.z.kept H0.z)).mono ?_;rintro e w3 ⟨rfl,hg3⟩;have n3:=za (H0.z.trans hg3);have S1:=za (r3.z.grown hg3 (by simp));clear hg3 r3 H0;have hN:4≤p.N∧p.N≤7:=by rw [HP.z];cases j0<;>exact ⟨by decide,by decide⟩
   have p0:IntKind.u64.wrap p.N=p.N:=IntWalk.u64_in _ (by omega);have L3:p.N≠0:=by omega
   have hu: ∀x:Int, ∃y,(1≤y∧y≤p.N)∧IntKind.i64.wrap ((IntKind.u64.wrap x).tmod p.N)=y - 1∧IntKind.i64.wrap (1+(y - 1))=y:=fun x=>by
    have h0:0≤IntKind.u64.wrap x:=by rw [IntKind.wrap_u64];omega
    have r0:=Int.emod_nonneg (IntKind.u64.wrap x) L3;have r9:=Int.emod_lt_of_pos (IntKind.u64.wrap x) (show 0< p.N by omega);refine ⟨1+IntKind.u64.wrap x%p.N,by omega, ?_, ?_⟩
    ·rw [Int.tmod_eq_emod_of_nonneg h0];rw [i6n (IntKind.u64.wrap x%p.N) (by omega)];omega
    ·rw [i6n (1+(1+IntKind.u64.wrap x%p.N - 1)) (by omega)];omega
   obtain ⟨d,f0,b0,a0⟩:=hu d0;obtain ⟨m,G3,s0,q0⟩:=hu m0;have G2:=za (And.intro f0 G3);clear hu;go_upto_region 4 with (fail)
   have n0:Hid (w3.grownBy w3.drew none):=za (zb w3 1);refine ZF 18 ?_;refine mN0 (Pv.eq (.int .i64 d0)) (fun w' hw' K hK=> ?_) ?_
   ·go_simp;exact hK _ _ rfl (by first|rfl|simp [p0,b0,s0,a0,q0]) gRf
   refine mN1 (Pv.eq (.int .u64 (IntKind.u64.wrap d0))) 0 40 (fun w' hw' K hK=> ?_) ?_
   ·go_simp;exact hK _ _ rfl (by first|rfl|simp [p0,b0,s0,a0,q0]) gRf
   refine mN0 (Pv.eq (.pointer (some ⟨gp,5,none⟩))) (fun w' hw' K hK=> ?_) ?_
   ·go_simp;exact hK _ _ rfl (by first|rfl|simp [p0,b0,s0,a0,q0]) gRf
   refine mN1 (Pv.eq (.int .i64 p.N)) 2 42 (fun w' hw' K hK=> ?_) ?_
   ·have hc:=(S1.z.grown (n0.z.trans hw') (by simp)).prule;go_simp;exact hK _ _ rfl (by first|rfl|simp [p0,b0,s0,a0,q0]) gRf
   refine mN1 (Pv.eq (.int .u64 p.N)) 3 43 (fun w' hw' K hK=> ?_) ?_
   ·go_simp;exact hK _ _ rfl (by first|rfl|simp [p0,b0,s0,a0,q0]) gRf
   refine mN2 (Pv.eq (.int .u64 ((IntKind.u64.wrap d0).tmod p.N))) 1 41 4 44 (fun w' hw' K hK=> ?_) ?_
   ·go_simp;exact hK _ _ rfl (by first|rfl|simp [p0,b0,s0,a0,q0]) gRf
   refine mN1 (Pv.eq (.int .i64 (d - 1))) 5 45 (fun w' hw' K hK=> ?_) ?_
   ·go_simp;exact hK _ _ rfl (by first|rfl|simp [p0,b0,s0,a0,q0]) gRf
   refine mN1 (Pv.eq (.int .i64 d)) 6 46 (fun w' hw' K hK=> ?_) ?_
   ·go_simp;exact hK _ _ rfl (by first|rfl|simp [p0,b0,s0,a0,q0]) gRf
   refine mN0 (Pv.eq (.int .i64 m0)) (fun w' hw' K hK=> ?_) ?_
   ·go_simp;exact hK _ _ rfl (by first|rfl|simp [p0,b0,s0,a0,q0]) gRf
   refine mN1 (Pv.eq (.int .u64 (IntKind.u64.wrap m0))) 8 48 (fun w' hw' K hK=> ?_) ?_
   ·go_simp;exact hK _ _ rfl (by first|rfl|simp [p0,b0,s0,a0,q0]) gRf
   refine mN0 (Pv.eq (.pointer (some ⟨gp,5,none⟩))) (fun w' hw' K hK=> ?_) ?_
   ·go_simp;exact hK _ _ rfl (by first|rfl|simp [p0,b0,s0,a0,q0]) gRf
   refine mN1 (Pv.eq (.int .i64 p.N)) 10 50 (fun w' hw' K hK=> ?_) ?_
   ·have hc:=(S1.z.grown (n0.z.trans hw') (by simp)).prule;go_simp;exact hK _ _ rfl (by first|rfl|simp [p0,b0,s0,a0,q0]) gRf
   refine mN1 (Pv.eq (.int .u64 p.N)) 11 51 (fun w' hw' K hK=> ?_) ?_
   ·go_simp;exact hK _ _ rfl (by first|rfl|simp [p0,b0,s0,a0,q0]) gRf
   refine mN2 (Pv.eq (.int .u64 ((IntKind.u64.wrap m0).tmod p.N))) 9 49 12 52 (fun w' hw' K hK=> ?_) ?_
   ·go_simp;exact hK _ _ rfl (by first|rfl|simp [p0,b0,s0,a0,q0]) gRf
   refine mN1 (Pv.eq (.int .i64 (m - 1))) 13 53 (fun w' hw' K hK=> ?_) ?_
   ·go_simp;exact hK _ _ rfl (by first|rfl|simp [p0,b0,s0,a0,q0]) gRf
   refine mN1 (Pv.eq (.int .i64 m)) 14 54 (fun w' hw' K hK=> ?_) ?_
   ·go_simp;exact hK _ _ rfl (by first|rfl|simp [p0,b0,s0,a0,q0]) gRf
   refine mN1 (Pv.eq (.int .i64 d)) 7 47 (fun w' hw' K hK=> ?_) ?_
   ·go_simp;exact hK _ _ rfl (by first|rfl|simp [p0,b0,s0,a0,q0]) gRf
   refine mN1 (Pv.eq (.int .i64 m)) 15 55 (fun w' hw' K hK=> ?_) ?_
   ·go_simp;exact hK _ _ rfl (by first|rfl|simp [p0,b0,s0,a0,q0]) gRf
   intro w4 V1;intro y0 k0 y1 k1 y2 k2 y3 k3 y4 k4
   iterate 11 (refine pD ?_;intro _)
   intro y16 k16 y17 k17;have e16:y16= .int .i64 d:=k16;have e17:y17= .int .i64 m:=k17;subst e16 e17;have F2:=za (n3.z.trans (n0.z.trans V1));have F1:=za (S1.z.grown (n0.z.trans V1) (by simp));clear k0 k1 k2 k3 k4 k16 k17 V1 n3 S1 n0;refine wpList_nil ?_;simp only [Act.put,sAa,sAb,sAc];have hr:=F1.z.prule;go_wp2_with fail;refine (YT p d c0 2 w4 (by rw [HP.z];exact Yl j0) (by rw [HP.z];exact Vf j0) (by rw [HP.z];cases j0<;>exact ⟨rfl,rfl⟩) (T0.z.kept F2.z) HD.z.2.2 G2.z.1 (by decide)).mono ?_;rintro e w5 ⟨vd,vc,rfl,hds,hcm,hg5⟩;have z1:Hid (w.grownBy w5 none):=za (F2.z.trans hg5);obtain ⟨B,hB⟩:=exq (w5.heap.size);have o3:Hid (AnF w j0 d c0 l gp B (.slice Al L cl) vd w5):=za ⟨z1.z,by rw [hB];exact z1.z.size,nLe hB,by rw [←HP.z];exact F1.z.grown hg5 (by simp),by rw [hB];exact nLl F1.z.lt hg5.size,(HL.z.kept z1.z).more fun g h _=>by rw [hB];exact h,by rw [HP.z] at hds;exact hds.more fun g h _=>by rw [hB];exact h⟩;have E2:Hid (Calls prog 18 #[p.v, .int .i64 d, .int .i64 m,vc] w5 fun e W'=> ∃gA gM,e= .returned (.tuple #[.pointer (some ⟨gA,0,none⟩), .int .i64 0])∧AnW w j0 d m c0 l gp B (.slice Al L cl) vd gA gM 0 ASt.start W'∧w5.grownBy W' none):=za (by
    rw [HP.z] at hcm ⊢;exact AnW.new o3.z (by rw [←HP.z];exact G2.z.1) (by rw [←HP.z];exact G2.z.2) (T0.z.kept z1.z) hcm)
   have F3:=(F1.z.grown hg5 (by simp)).prule;obtain ⟨Ad,nd,cd,rfl⟩:=hds.shape;obtain ⟨Ac,nc,cc,rfl⟩:=hcm.shape;clear hr hds hcm hg5 F1 F2 hB;go_wp2_with fail;refine E2.z.mono ?_;rintro e w6 ⟨gA,gM,rfl,hA6,hg6⟩;have z3:=za hA6;clear hA6 hg6 F3 E2 o3 z1;go_wp2_with fail;go_loopg [17,18,19,20,21,22,23,24,25] L (fun g s17 s18 s19 s20 s21 s22 s23 s24 s25 wx=> ∃(j nn:Nat) (st:ASt),j+g=L∧s17= .int .i64 j∧Hid (nn≤3*j∧AnW w j0 d m c0 l gp B (.slice Al L cl) (.slice Ad nd cd) gA gM nn st wx))
   case atStart=>exact ⟨0,0,ASt.start,by omega,rfl,za ⟨by omega,z3.z⟩⟩
   case round=>
    obtain ⟨j,nn,st,hj,rfl,HX⟩:=hrel;rcases Nat.eq_zero_or_pos gk with hg0|hg0
    ·obtain rfl:j=L:=by omega
     have HR:Hid (w.grownBy wr none):=za HX.z.2.f.g;clear HX hg0;go_wp2;go_ret;exact ⟨rfl,HR.z⟩
    ·have R3:(j:Int)< (L:Int):=by omega
     have S3:(0:Int)≤(j:Int):=iNn j;have HA:=za HX.z.2;have N3:Hid (nn≤60):=za (by have:=HX.z.1;omega);have d3:Hid (nn≤3*j):=za HX.z.1;clear HX z3;go_wp2_with fail;refine HA.z.state.mono ?_;rintro e w7 ⟨va,rfl,hs7,hg7⟩;obtain ⟨S,hS⟩:=exq (yS (anE j0 d m c0) st);have L1:=za hS;rw [←hS] at hs7;have e0:=hs7;obtain ⟨v1,v2,v3,v4,v5,rfl,q1,q2,q3,q4,q5⟩:=hs7;obtain ⟨A1,n1,c1,rfl⟩:=q1.shape;obtain ⟨A2,c2,rfl, -, -⟩:=q2.form;obtain ⟨A3,c3,rfl, -, -⟩:=q3.form;obtain ⟨A4,c4,rfl, -, -⟩:=q4.form;obtain ⟨A5,n5,c5,rfl⟩:=q5.shape;clear q1 q2 q3 q4 q5;obtain ⟨w8,H1⟩:=exq (w7.alloc (Obj.cells #[.int .i64 S.dealer, .int .i64 S.me, .slice A1 n1 c1, .slice A2 S.deal.length c2, .slice A3 S.echos.length c3, .slice A4 S.readies.length c4, .slice A5 n5 c5, .bool S.done] 82));obtain ⟨gw,J1⟩:=exq (w7.heap.size);have U0:Hid (Ze (fun g=>wr.heap.size≤g) w8 gw S (.slice A1 n1 c1) (.slice A2 S.deal.length c2) (.slice A3 S.echos.length c3) (.slice A4 S.readies.length c4) (.slice A5 n5 c5)∧wr.heap.size≤gw):=za ⟨by rw [H1,J1];exact Ze.new e0,by rw [J1];exact hg7.size⟩;have R1:Hid (wr.grownBy w8 none):=za (by rw [H1];exact hg7.trans (gAl _ _ none));clear e0 hg7 hS;have S0:=za (HA.z.kept R1.z);have f3:=za (by
      have h:=S0.z.load (T0.z.kept S0.z.f.g) (X:=fun g=>wr.heap.size≤g) (v:= .agg #[.int .i64 S.dealer, .int .i64 S.me, .slice A1 n1 c1, .slice A2 S.deal.length c2, .slice A3 S.echos.length c3, .slice A4 S.readies.length c4, .slice A5 n5 c5, .bool S.done]) (by rw [←L1.z];exact U0.z.1.at);rw [←HP.z] at h;exact h)
     have hr:=S0.z.f.par.prule;rw [←HP.z] at hr;have K0:=U0.z.1.b.rule;go_upto_region 15 with (fail)
     rw [←H1, ←J1];clear H1 J1;go_wp2_with fail;refine f3.z.mono ?_;rintro e w9 ⟨gB,gN,rfl,kB,kN,hb9,hg9⟩;have P3:=za (R1.z.trans hg9);have l0:=za (S0.z.kept hg9);have R0:Hid (Ze (fun g=>wr.heap.size≤g∧g< w8.heap.size) w9 gw S (.slice A1 n1 c1) (.slice A2 S.deal.length c2) (.slice A3 S.echos.length c3) (.slice A4 S.readies.length c4) (.slice A5 n5 c5)∧wr.heap.size≤gw∧gw< w8.heap.size):=za ⟨(U0.z.1.more fun g h1 h2=>⟨h2,h1⟩).kept hg9,U0.z.2,U0.z.1.b.lt⟩;have I2:=za (And.intro hb9 (And.intro kB kN));have P1:=za hg9;have T1:Hid (AvW (Nf gA gM gB gN) gA gM nn (anE j0 d m c0) st w9∧(gA< wr.heap.size∧gM< wr.heap.size)∧B≤w8.heap.size∧wr.heap.size≤w8.heap.size):=za ⟨(S0.z.av.more fun g h1 h2=>⟨h2,by omega,by omega⟩).kept hg9,⟨HA.z.av.ltA,HA.z.av.ltM⟩,S0.z.f.sz,R1.z.size⟩;clear hb9 kB kN hg9 hr K0 f3 U0 HA S0 R1;have E1:j< l.length:=by rw [←O3.z];omega
     obtain ⟨ge,oe,ce,ue,ee,H3,T3,⟨x1,Z1,Y1,L2⟩,hU,I1⟩:=l0.z.f.ls.atStp E1;injection ee with ee1 ee2 ee3
     subst ee1 ee3;clear ee2;obtain ⟨y,hy⟩:=exq (l[j]);have M2:Hid (y.2.2.2.length< 3000):=za (by rw [hy];exact HB.z _ (lGm E1));rw [←hy] at x1 Z1 Y1 hU I1;have HU:=za hU;have O2:=za I1;have HJ:=za E1;have M3:=za hy;obtain ⟨An,mn,cn,rfl⟩:=I1.shape;have n0:Hid (w9.grownBy w9.drew none):=za (zb w9 1);have s3:=za (And.intro x1 (And.intro Z1 (And.intro Y1 L2)));have H2:Hid (∀W,w9.drew.grownBy W none→(W.cell? ⟨ge,oe+j*4,none⟩=some (.int .u8 y.1)∧W.cell? ⟨ge,oe+j*4+1,none⟩=some (.int .i64 y.2.1)∧W.cell? ⟨ge,oe+j*4+2,none⟩=some (.int .u8 y.2.2.1)∧W.cell? ⟨ge,oe+j*4+3,none⟩=some (.slice An mn cn))∧ ∀o,W.cell? ⟨gp,o,none⟩=(p.cells:Array Value)[o]?):=za (fun W hW=>by
      have hg:=n0.z.trans hW;obtain ⟨k1,k2,k3,k4⟩:=s3.z;refine ⟨⟨hg.cell k1 (by simp),hg.cell k2 (by simp),hg.cell k3 (by simp),hg.cell k4 (by simp)⟩, ?_⟩;rw [HP.z];exact (l0.z.f.par.grown hg (by simp)).prule)
     obtain ⟨NS,f2⟩:=exq (VO (p19 j0) y.1 y.2.1 y.2.2.1 y.2.2.2 (Dm j0 d c0) m);have W2:Hid (∀W,w9.drew.grownBy W none→Calls prog 20 #[.agg #[.int .u8 y.1, .int .i64 y.2.1, .int .u8 y.2.2.1, .slice An mn cn],p.v, .slice Ad nd cd, .int .i64 m] W fun e W'=> ∃v,e= .returned v∧Sl ze (fun g=>g< B∨w9.heap.size≤g) W' v NS∧W.grownBy W' none):=za (fun W hW=>by
      have hg:=n0.z.trans hW;rw [HP.z,f2];refine ((l0.z.f.kept hg).nums (Y:=fun g=>g< B) HU.z.1 HU.z.2.1 HU.z.2.2 (O2.z.kept hg) l0.z.mp).mono ?_;rintro e W' ⟨v,rfl,k1,k2⟩;exact ⟨v,rfl,k1.more fun g _ h=>h.imp id fun h=>nLT hg.size h,k2⟩)
     have X2:Hid (NS.length≤100000):=za (by rw [f2];exact Em (by have:=M2.z;omega) (JT j0 d c0));clear x1 Z1 Y1 L2 hU I1 H3 hy f2;go_upto_region 18 with (fail)
     refine ZF 9 ?_;refine mP0 (.slice (some ⟨ge,oe,none⟩) L cl) ?_;refine mP0 (.int .i64 j) ?_;refine mP2 (.pointer (some ⟨ge,oe+j*4,none⟩)) 0 92 1 93 ?_;refine mQ1 (.agg #[.int .u8 y.1, .int .i64 y.2.1, .int .u8 y.2.2.1, .slice An mn cn]) 2 94 (fun w' hw' K hK=> ?_) ?_
     ·obtain ⟨⟨c1,c2,c3,c4⟩,c5⟩:=H2.z w' hw';go_simp;exact hK _ rfl rfl
     refine mQ0 (p.v) (fun w' hw' K hK=> ?_) ?_
     ·obtain ⟨⟨c1,c2,c3,c4⟩,c5⟩:=H2.z w' hw';go_simp;exact hK _ rfl rfl
     refine mP0 (.slice Ad nd cd) ?_;refine mP0 (.int .i64 m) ?_;refine mN4 (Pv.sl ze (fun g=>g< B∨w9.heap.size≤g) NS) 3 95 4 96 5 97 6 98 (fun w' hw' K hK=> ?_) ?_
     ·go_simp;refine (W2.z w' hw').mono ?_;rintro e w3 ⟨v,rfl,hs3,hg3⟩;exact hK _ _ rfl hs3 hg3
     refine mV (Pv.sl ze (fun g=>g< B∨w9.heap.size≤g) NS) [(7,99)] (fun w' hw' x99 j2=>kD fun K hK=> ?_) ?_
     ·have j2:Sl ze (fun g=>g< B∨w9.heap.size≤g) w' x99 NS:=j2;go_simp;exact hK _ _ rfl j2 gRf
     intro w10 Z0;intro y0 k0 y1 k1 y2 k2
     iterate 5 (refine pD ?_;intro _)
     intro y8 k8;have e8:Sl ze (fun g=>g< B∨w9.heap.size≤g) w10 y8 NS:=k8;have N1:=za e8;have B1:Hid (w9.grownBy w10 none):=za (n0.z.trans Z0);obtain ⟨Av,mv,cv,rfl⟩:=e8.shape;clear k0 k1 k2 k8 e8 Z0 H2 W2 n0;refine wpList_nil ?_;simp only [Act.put,sAa,sAb,sAc];go_upto_region 19 with (fail)
     obtain ⟨T,C0⟩: ∃T:Tw,T=⟨w,j0,d,m,c0,l,gp,B, .slice (some ⟨ge,oe,none⟩) L cl, .slice Ad nd cd,gA,gM,gB,gN,nn,14,st,gw,S, .slice A1 n1 c1, .slice A2 S.deal.length c2, .slice A3 S.echos.length c3, .slice A4 S.readies.length c4, .slice A5 n5 c5, .slice Av mv cv,NS,y.1,y.2.1⟩:=⟨_,rfl⟩;have HT:=za C0;have z2:Hid T.Ok:=za (by
      subst C0;obtain ⟨hb,kB,kN⟩:=I2.z;obtain ⟨_,⟨a1,a2⟩,a3,a4⟩:=T1.z;obtain ⟨_,b1,b2⟩:=R0.z;have Q3:=N3.z;exact ⟨l0.z.e,l0.z.ok,⟨by show gA≠gB;omega,by show gA≠gN;omega,by show gM≠gB;omega,by show gM≠gN;omega⟩,⟨l0.z.bA,l0.z.bM,nLT a3 kB,nLT a3 kN⟩,⟨⟨by show gw≠gA;omega,by show gw≠gM;omega⟩,by show gw≠gB;omega,by show gw≠gN;omega⟩,HU.z.1,HU.z.2.1,yX (nn+3) (by omega),yX (14+3) (by decide),X2.z⟩)
     have p3:Hid (T.C [] w10.drew):=za (by
      subst C0;have hg:w9.grownBy w10.drew none:=B1.z.trans (zb w10 1);obtain ⟨hb,kB,kN⟩:=I2.z;obtain ⟨_,⟨a1,a2⟩,a3,a4⟩:=T1.z;have l1:=l0.z.av.ltA;have l2:=l0.z.av.ltM;have l3:=hb.ltA;have l4:=hb.ltM;have l5:=l0.z.bA;have l6:=l0.z.bM;refine ⟨l0.z.f.kept hg,(N1.z.kept (zb w10 1)).more fun g _ h=> ?_,(R0.z.1.kept hg).more fun g _ h=> ?_,fun _=>T1.z.1.kept hg,fun e=>absurd e (by simp),fun _=>(hb.kept hg).more fun g _ h=> ?_,fun e=>absurd e (by simp),fun q v hv=>absurd hv (by simp)⟩
      ·show Nf gA gM gB gN g;rcases h with h|h
       ·exact ⟨⟨by omega,by omega⟩,by omega,by omega⟩
       ·exact ⟨⟨by omega,by omega⟩,by omega,by omega⟩
      ·show Nf gA gM gB gN g;exact ⟨⟨by omega,by omega⟩,by omega,by omega⟩
      ·show Nf gA gM gB gN g;obtain ⟨h1,h2,h3⟩:=h;exact ⟨⟨by omega,by omega⟩,h2,h3⟩)
     have N2:Hid (∀vs W,T.C vs W→0 ∉ vs.map (·.1)→Calls prog 21 #[.pointer (some ⟨gA,0,none⟩), .int .u8 y.1, .int .i64 y.2.1, .slice Av mv cv] W fun e W'=> ∃v,e= .returned v∧T.C (vs++ [(0,v)]) W'):=za (fun vs W h hn=>by
      subst C0;exact h.takeA z2.z hn)
     have p1:Hid (∀vs W,T.C vs W→1 ∉ vs.map (·.1)→Calls prog 21 #[.pointer (some ⟨gB,0,none⟩), .int .u8 y.1, .int .i64 y.2.1, .slice Av mv cv] W fun e W'=> ∃v,e= .returned v∧T.C (vs++ [(1,v)]) W'):=za (fun vs W h hn=>by
      subst C0;exact h.takeB z2.z hn)
     have C1:Hid (∀vs W,T.C vs W→W.cell? ⟨ge,oe+j*4,none⟩=some (.int .u8 y.1)∧W.cell? ⟨ge,oe+j*4+1,none⟩=some (.int .i64 y.2.1)):=za (fun vs W h=>by
      subst C0;obtain ⟨g',o',c',u',e',_,_,⟨k1,k2,_,_⟩,_,_⟩:=h.f.ls.atStp HJ.z;injection e' with e1 e2 e3
      injection e1 with e1
      injection e1 with e1 e4 e5
      subst e1 e4;rw [←M3.z] at k1 k2;exact ⟨k1,k2⟩)
     clear C0;refine FR.wp_region_late (Tw.Lt T) [12,25] 28 (by kernel_rfl) (by kernel_rfl) (by kernel_rfl) p3.z ?_;refine FR.mS (.pointer (some ⟨gA,0,none⟩)) [] (fun vs w' hC=>FR.kD fun K hK=> ?_) ?_
     ·go_simp;exact hK _ _ rfl ⟨rfl,gRf⟩
     refine FR.mS (.slice (some ⟨ge,oe,none⟩) L cl) [] (fun vs w' hC=>FR.kD fun K hK=> ?_) ?_
     ·go_simp;exact hK _ _ rfl ⟨rfl,gRf⟩
     refine FR.mS (.int .i64 j) [] (fun vs w' hC=>FR.kD fun K hK=> ?_) ?_
     ·go_simp;exact hK _ _ rfl ⟨rfl,gRf⟩
     refine FR.mS (.pointer (some ⟨ge,oe+j*4,none⟩)) [(1,101),(2,102)] (fun vs w' hC=>FR.pQ (FR.pQ (FR.kD fun K hK=> ?_))) ?_
     ·go_simp;exact hK _ _ rfl ⟨rfl,gRf⟩
     refine FR.mS (.pointer (some ⟨ge,oe+j*4,none⟩)) [(3,103)] (fun vs w' hC=>FR.pQ (FR.kD fun K hK=> ?_)) ?_
     ·go_simp;exact hK _ _ rfl ⟨rfl,gRf⟩
     refine FR.mS (.int .u8 y.1) [(4,104)] (fun vs w' hC=>FR.pQ (FR.kD fun K hK=> ?_)) ?_
     ·have hC:T.C vs w':=hC;obtain ⟨l1,l2⟩:=C1.z vs w' hC;go_simp;exact hK _ _ rfl ⟨rfl,gRf⟩
     refine FR.mS (.slice (some ⟨ge,oe,none⟩) L cl) [] (fun vs w' hC=>FR.kD fun K hK=> ?_) ?_
     ·go_simp;exact hK _ _ rfl ⟨rfl,gRf⟩
     refine FR.mS (.int .i64 j) [] (fun vs w' hC=>FR.kD fun K hK=> ?_) ?_
     ·go_simp;exact hK _ _ rfl ⟨rfl,gRf⟩
     refine FR.mS (.pointer (some ⟨ge,oe+j*4,none⟩)) [(6,106),(7,107)] (fun vs w' hC=>FR.pQ (FR.pQ (FR.kD fun K hK=> ?_))) ?_
     ·go_simp;exact hK _ _ rfl ⟨rfl,gRf⟩
     refine FR.mS (.pointer (some ⟨ge,oe+j*4+1,none⟩)) [(8,108)] (fun vs w' hC=>FR.pQ (FR.kD fun K hK=> ?_)) ?_
     ·go_simp;exact hK _ _ rfl ⟨rfl,gRf⟩
     refine FR.mS (.int .i64 y.2.1) [(9,109)] (fun vs w' hC=>FR.pQ (FR.kD fun K hK=> ?_)) ?_
     ·have hC:T.C vs w':=hC;obtain ⟨l1,l2⟩:=C1.z vs w' hC;go_simp;exact hK _ _ rfl ⟨rfl,gRf⟩
     refine FR.mS (.slice Av mv cv) [] (fun vs w' hC=>FR.kD fun K hK=> ?_) ?_
     ·go_simp;exact hK _ _ rfl ⟨rfl,gRf⟩
     refine FR.LateR.turn 0 [(0,100),(5,105),(10,110),(11,111)] (by kernel_rfl) [] rfl (by kernel_rfl) (fun vs w' hn hr hC=> ?_) ?_
     ·intro x100 j1;intro x105 g1;intro x110 f1;intro x111 d1;have e100:x100= .pointer (some ⟨gA,0,none⟩):=j1;clear j1;subst e100;have e105:x105= .int .u8 y.1:=g1;clear g1;subst e105;have e110:x110= .int .i64 y.2.1:=f1;clear f1;subst e110;have e111:x111= .slice Av mv cv:=d1;clear d1;subst e111;refine FR.askl_do rfl fun K hK=> ?_
      have hC:T.C vs w':=hC;go_simp;refine (N2.z vs w' hC hn).mono ?_;rintro e w3 ⟨v,rfl,hc⟩;exact hK _ _ rfl ⟨trivial,hc⟩
     refine FR.mS (.pointer (some ⟨gB,0,none⟩)) [] (fun vs w' hC=>FR.kD fun K hK=> ?_) ?_
     ·go_simp;exact hK _ _ rfl ⟨rfl,gRf⟩
     refine FR.mS (.slice (some ⟨ge,oe,none⟩) L cl) [] (fun vs w' hC=>FR.kD fun K hK=> ?_) ?_
     ·go_simp;exact hK _ _ rfl ⟨rfl,gRf⟩
     refine FR.mS (.int .i64 j) [] (fun vs w' hC=>FR.kD fun K hK=> ?_) ?_
     ·go_simp;exact hK _ _ rfl ⟨rfl,gRf⟩
     refine FR.mS (.pointer (some ⟨ge,oe+j*4,none⟩)) [(14,114),(15,115)] (fun vs w' hC=>FR.pQ (FR.pQ (FR.kD fun K hK=> ?_))) ?_
     ·go_simp;exact hK _ _ rfl ⟨rfl,gRf⟩
     refine FR.mS (.pointer (some ⟨ge,oe+j*4,none⟩)) [(16,116)] (fun vs w' hC=>FR.pQ (FR.kD fun K hK=> ?_)) ?_
     ·go_simp;exact hK _ _ rfl ⟨rfl,gRf⟩
     refine FR.mS (.int .u8 y.1) [(17,117)] (fun vs w' hC=>FR.pQ (FR.kD fun K hK=> ?_)) ?_
     ·have hC:T.C vs w':=hC;obtain ⟨l1,l2⟩:=C1.z vs w' hC;go_simp;exact hK _ _ rfl ⟨rfl,gRf⟩
     refine FR.mS (.slice (some ⟨ge,oe,none⟩) L cl) [] (fun vs w' hC=>FR.kD fun K hK=> ?_) ?_
     ·go_simp;exact hK _ _ rfl ⟨rfl,gRf⟩
     refine FR.mS (.int .i64 j) [] (fun vs w' hC=>FR.kD fun K hK=> ?_) ?_
     ·go_simp;exact hK _ _ rfl ⟨rfl,gRf⟩
     refine FR.mS (.pointer (some ⟨ge,oe+j*4,none⟩)) [(19,119),(20,120)] (fun vs w' hC=>FR.pQ (FR.pQ (FR.kD fun K hK=> ?_))) ?_
     ·go_simp;exact hK _ _ rfl ⟨rfl,gRf⟩
     refine FR.mS (.pointer (some ⟨ge,oe+j*4+1,none⟩)) [(21,121)] (fun vs w' hC=>FR.pQ (FR.kD fun K hK=> ?_)) ?_
     ·go_simp;exact hK _ _ rfl ⟨rfl,gRf⟩
     refine FR.mS (.int .i64 y.2.1) [(22,122)] (fun vs w' hC=>FR.pQ (FR.kD fun K hK=> ?_)) ?_
     ·have hC:T.C vs w':=hC;obtain ⟨l1,l2⟩:=C1.z vs w' hC;go_simp;exact hK _ _ rfl ⟨rfl,gRf⟩
     refine FR.mS (.slice Av mv cv) [] (fun vs w' hC=>FR.kD fun K hK=> ?_) ?_
     ·go_simp;exact hK _ _ rfl ⟨rfl,gRf⟩
     refine FR.LateR.turn 1 [(13,113),(18,118),(23,123),(24,124)] (by kernel_rfl) [] rfl (by kernel_rfl) (fun vs w' hn hr hC=> ?_) ?_
     ·intro x113 X0;intro x118 W0;intro x123 E0;intro x124 x0;have e113:x113= .pointer (some ⟨gB,0,none⟩):=X0;clear X0;subst e113;have e118:x118= .int .u8 y.1:=W0;clear W0;subst e118;have e123:x123= .int .i64 y.2.1:=E0;clear E0;subst e123;have e124:x124= .slice Av mv cv:=x0;clear x0;subst e124;refine FR.askl_do rfl fun K hK=> ?_
      have hC:T.C vs w':=hC;go_simp;refine (p1.z vs w' hC hn).mono ?_;rintro e w3 ⟨v,rfl,hc⟩;exact hK _ _ rfl ⟨trivial,hc⟩
     refine FR.mV (FR.Qv.slot 0) [(12,112)] (fun vs w' hC x112 p2=>FR.kD fun K hK=> ?_) ?_
     ·go_simp;exact hK _ _ rfl ⟨p2,gRf⟩
     refine FR.mV (FR.Qv.slot 1) [(25,125)] (fun vs w' hC x125 n2=>FR.kD fun K hK=> ?_) ?_
     ·go_simp;exact hK _ _ rfl ⟨n2,gRf⟩
     intro vs w11 D3 o0;have o0:T.C vs w11:=o0
     iterate 26 (refine pD ?_;intro _)
     intro y26 k26 y27 k27;have e26:(0,y26)∈vs:=k26;have e27:(1,y27)∈vs:=k27;obtain ⟨R,hR⟩:=exq (zV (anE j0 d m c0) st y.1 y.2.1 NS);have G1:Hid (AnW w j0 d m c0 l gp B (.slice (some ⟨ge,oe,none⟩) L cl) (.slice Ad nd cd) gA gM (nn+3) R.1 w11∧AvW (Nf gA gM gB gN) gB gN 17 (anE j0 d m c0) R.1 w11∧Sl xZ (Nf gA gM gB gN) w11 y26 R.2∧Sl xZ (Nf gA gM gB gN) w11 y27 R.2∧Ze (Nf gA gM gB gN) w11 gw S (.slice A1 n1 c1) (.slice A2 S.deal.length c2) (.slice A3 S.echos.length c3) (.slice A4 S.readies.length c4) (.slice A5 n5 c5)):=za (by
      have C0:=HT.z;subst C0;have r:zV (anE j0 d m c0) st y.1 y.2.1 NS=R:=hR.symm;have a:AvW (Nf gA gM gB gN) gA gM (nn+3) (anE j0 d m c0) (zV (anE j0 d m c0) st y.1 y.2.1 NS).1 w11:=o0.a1 (List.mem_map.2 ⟨_,e26,rfl⟩);have b:AvW (Nf gA gM gB gN) gB gN 17 (anE j0 d m c0) (zV (anE j0 d m c0) st y.1 y.2.1 NS).1 w11:=o0.b1 (List.mem_map.2 ⟨_,e27,rfl⟩);have o1:Sl xZ (Nf gA gM gB gN) w11 y26 (zV (anE j0 d m c0) st y.1 y.2.1 NS).2:=o0.o _ _ e26;have o2:Sl xZ (Nf gA gM gB gN) w11 y27 (zV (anE j0 d m c0) st y.1 y.2.1 NS).2:=o0.o _ _ e27;rw [r] at a b o1 o2;refine ⟨⟨o0.f,l0.z.dp,l0.z.mp,l0.z.bA,l0.z.bM,a.more fun g _ h=>h.1, ?_, ?_⟩,b,o1,o2,o0.s⟩
      ·rw [hR];exact yI.take l0.z.e l0.z.ok _ _ _
      ·rw [hR];exact zK.take l0.z.e (IA j0 d m c0) l0.z.good _ _ N1.z.nn)
     have P2:Hid (PU (anE j0 d m c0) st y.1 y.2.1 NS R.1 R.2∧R.2.length≤1000):=za (by
      rw [hR];exact ⟨Mu l0.z.e (IA j0 d m c0) l0.z.good _ _ N1.z.nn,Kk l0.z.e _ _ _ _⟩)
     obtain ⟨Ax,cx,ex, -, -⟩:=G1.z.2.2.1.form;obtain ⟨Ay,ny,cy,ey⟩:=G1.z.2.2.2.1.shape;subst ex ey;clear k26 k27 e26 e27 o0 D3 hR N2 p1 C1 p3 z2;show wpList _ _ _ _ _ _;refine wpList_nil ?_;simp only [Act.put,sAa,sAb,sAc];go_wp2_with fail;refine G1.z.1.state.mono ?_;rintro e w12 ⟨va2,rfl,hs12,hg12⟩;obtain ⟨S2,d2⟩:=exq (yS (anE j0 d m c0) R.1);have M1:=za d2;rw [←d2] at hs12;have G0:=hs12;obtain ⟨u1,u2,u3,u4,u5,rfl,q1,q2,q3,q4,q5⟩:=hs12;obtain ⟨U1,o1,i1,rfl⟩:=q1.shape;obtain ⟨U2,i2,rfl, -, -⟩:=q2.form;obtain ⟨U3,i3,rfl, -, -⟩:=q3.form;obtain ⟨U4,i4,rfl, -, -⟩:=q4.form;obtain ⟨U5,o5,i5,rfl⟩:=q5.shape;clear q1 q2 q3 q4 q5;obtain ⟨w13,B0⟩:=exq (w12.alloc (Obj.cells #[.int .i64 S2.dealer, .int .i64 S2.me, .slice U1 o1 i1, .slice U2 S2.deal.length i2, .slice U3 S2.echos.length i3, .slice U4 S2.readies.length i4, .slice U5 o5 i5, .bool S2.done] 82));obtain ⟨gv,W1⟩:=exq (w12.heap.size);have u0:Hid (w11.grownBy w13 none):=za (by rw [B0];exact hg12.trans (gAl _ _ none));have I0:Hid (AnW w j0 d m c0 l gp B (.slice (some ⟨ge,oe,none⟩) L cl) (.slice Ad nd cd) gA gM (nn+3) R.1 w13∧AvW (Nf gA gM gB gN) gB gN 17 (anE j0 d m c0) R.1 w13∧Sl xZ (fun _=>True) w13 (.slice Ax R.2.length cx) R.2∧Sl xZ (fun _=>True) w13 (.slice Ay ny cy) R.2∧Ze (fun _=>True) w13 gw S (.slice A1 n1 c1) (.slice A2 S.deal.length c2) (.slice A3 S.echos.length c3) (.slice A4 S.readies.length c4) (.slice A5 n5 c5)∧Ze (fun _=>True) w13 gv S2 (.slice U1 o1 i1) (.slice U2 S2.deal.length i2) (.slice U3 S2.echos.length i3) (.slice U4 S2.readies.length i4) (.slice U5 o5 i5)):=za (by
      obtain ⟨t1,t2,t3,t4,t5⟩:=G1.z;exact ⟨t1.kept u0.z,t2.kept u0.z,(t3.kept u0.z).more fun _ _ _=>trivial,(t4.kept u0.z).more fun _ _ _=>trivial,(t5.kept u0.z).more fun _ _ _=>trivial,by rw [B0,W1];exact (Ze.new G0).more fun _ _ _=>trivial⟩)
     have O0:Hid ((S.echos.length≤7∧S.readies.length≤7)∧S2.echos.length≤7∧S2.readies.length≤7):=za (by
      obtain ⟨_,_,_,_,h5,h6⟩:=FT l0.z.e l0.z.ok;obtain ⟨_,_,_,_,h7,h8⟩:=FT l0.z.e I0.z.1.ok;rw [L1.z,M1.z];exact ⟨⟨h5,h6⟩,h7,h8⟩)
     have N0:Hid ((S.echos.length+S.readies.length=Qh (anE j0 d m c0) st∧S2.echos.length+S2.readies.length=Qh (anE j0 d m c0) R.1)∧S.deal.length=(zE st.dealt).length∧S2.deal.length=(zE R.1.dealt).length):=za (by
      rw [L1.z,M1.z];exact ⟨⟨rfl,rfl⟩,rfl,rfl⟩)
     have O1:=za (P2.z.1.grown l0.z.e (IA j0 d m c0) l0.z.good);clear G0 hg12 d2 G1 N1 T1 R0 I2 X2 s3 HU O2 u0 B1 P3 P1 HT M2;go_upto_region 21 with (fail)
     rw [←B0, ←W1];clear B0 W1;have n0:Hid (w13.grownBy w13.drew none):=za (zb w13 1);have s2:Hid (∀V v,Sl xZ (fun _=>True) V v R.2→Calls prog 24 #[v] V fun e W'=> ∃v',e= .returned v'∧Sl xZ (fun _=>True) W' v' R.2∧V.grownBy W' none):=za (fun V v hv=>by
      refine (Oq v R.2 _ V hv P2.z.2).mono ?_;rintro e W' ⟨v',rfl,h1,h2⟩;exact ⟨v',rfl,h1.more fun _ _ _=>trivial,h2⟩)
     have P0:Hid (∀V v,Xj (fun _=>True) V v S2→Calls prog 29 #[v] V fun e W'=> ∃v',e= .returned v'∧Xj (fun _=>True) W' v' S2∧V.grownBy W' none):=za (fun V v hv=>by
      refine (OO v S2 _ V hv (by have:=O0.z;omega) (by have:=O0.z;omega)).mono ?_;rintro e W' ⟨v',rfl,h1,h2⟩;exact ⟨v',rfl,h1.more fun _ _ _=>trivial,h2⟩)
     have Y2:Hid (∀V,w13.grownBy V none→Calls prog 30 #[.pointer (some ⟨gB,0,none⟩)] V fun e W'=> ∃v',e= .returned v'∧Xj (fun _=>True) W' v' S2∧V.grownBy W' none):=za (fun V hV=>by
      refine (TW (anE j0 d m c0) R.1 gB gN 17 (Nf gA gM gB gN) V l0.z.e (I0.z.2.1.kept hV) I0.z.1.ok).mono ?_;rintro e W' ⟨v',rfl,h1,h2⟩;rw [←M1.z] at h1;exact ⟨v',rfl,h1.more fun _ _ _=>trivial,h2⟩)
     have D1:Hid (∀V,w13.grownBy V none→((∀o,V.cell? ⟨gv,o,none⟩=(#[.int .i64 S2.dealer, .int .i64 S2.me, .slice U1 o1 i1, .slice U2 S2.deal.length i2, .slice U3 S2.echos.length i3, .slice U4 S2.readies.length i4, .slice U5 o5 i5, .bool S2.done]:Array Value)[o]?)∧ ∀o,V.cell? ⟨gw,o,none⟩=(#[.int .i64 S.dealer, .int .i64 S.me, .slice A1 n1 c1, .slice A2 S.deal.length c2, .slice A3 S.echos.length c3, .slice A4 S.readies.length c4, .slice A5 n5 c5, .bool S.done]:Array Value)[o]?)∧Xj (fun _=>True) V (.agg #[.int .i64 S2.dealer, .int .i64 S2.me, .slice U1 o1 i1, .slice U2 S2.deal.length i2, .slice U3 S2.echos.length i3, .slice U4 S2.readies.length i4, .slice U5 o5 i5, .bool S2.done]) S2∧Xj (fun _=>True) V (.agg #[.int .i64 S.dealer, .int .i64 S.me, .slice A1 n1 c1, .slice A2 S.deal.length c2, .slice A3 S.echos.length c3, .slice A4 S.readies.length c4, .slice A5 n5 c5, .bool S.done]) S):=za (fun V hV=>by
      obtain ⟨_,_,_,_,t5,t6⟩:=I0.z;exact ⟨⟨(t6.kept hV).b.rule,(t5.kept hV).b.rule⟩,(t6.kept hV).at,(t5.kept hV).at⟩)
     have r2:Hid (∀V,w13.grownBy V none→Sl xZ (fun _=>True) V (.slice Ax R.2.length cx) R.2∧Sl xZ (fun _=>True) V (.slice Ay ny cy) R.2):=za (fun V hV=>⟨I0.z.2.2.1.kept hV,I0.z.2.2.2.1.kept hV⟩);have x2:Hid (w13.grownBy w13 none):=za (gRr _ _);go_wp2_with fail;refine (s2.z w13 _ (r2.z w13 x2.z).1).mono ?_;rintro e wa ⟨va,rfl,sa,ga⟩;have Z2:=za sa;have D2:=za ga;clear sa ga;go_wp2_with fail;refine (s2.z wa _ (r2.z wa D2.z).2).mono ?_;rintro e wb ⟨vb,rfl,sb,gb⟩;have s1:=za (Ou va vb R.2 _ _ wb (Z2.z.kept gb) sb);have j3:=za (D2.z.trans gb);clear sb gb;go_wp2_with fail;refine s1.z.mono ?_;rintro e wc ⟨rfl,nq,ewc⟩;subst ewc;obtain ⟨wc,V0⟩:=exq (wb.drewN nq);rw [←V0];have Q1:Hid (w13.grownBy wc none):=za (by rw [V0];exact j3.z.trans (zb wb nq));have hr:=(D1.z wc Q1.z).1.1;clear V0 s1 Z2;go_wp2_with fail;refine (P0.z wc _ (D1.z wc Q1.z).2.1).mono ?_;rintro e wd ⟨vd',rfl,sd,gd⟩;have V2:=za sd;have C2:=za (Q1.z.trans gd);clear sd gd hr;go_wp2_with fail;refine (Y2.z wd C2.z).mono ?_;rintro e we ⟨ve,rfl,se,ge'⟩;have T2:=za (P0.z we ve se);have r1:=za (V2.z.kept ge');have P1:=za (C2.z.trans ge');clear se ge' V2;go_wp2_with fail;refine T2.z.mono ?_;rintro e wf ⟨vf,rfl,sf,gf⟩;have R2:=za (Un vd' vf S2 _ _ wf (r1.z.kept gf) sf);have g3:=za (P1.z.trans gf);clear sf gf T2 r1;go_wp2_with fail;refine R2.z.mono ?_;rintro e w14 ⟨rfl,gg⟩;have Q0:Hid (w13.grownBy w14 none):=za (g3.z.trans gg);clear gg R2 g3 P1 C2 Q1 j3 D2 x2 s2 Y2 r2 n0
     obtain ⟨⟨w0,K0⟩,_⟩:=D1.z w14 Q0.z;obtain ⟨⟨b1,b2⟩,b3,b4⟩:=O0.z;have C3:IntKind.i64.wrap ((S2.echos.length:Int)+(S2.readies.length:Int))=(S2.echos.length:Int)+(S2.readies.length:Int):=i6n _ (by omega);have B3:IntKind.i64.wrap ((S2.echos.length:Int)+(S2.readies.length:Int) - (S.echos.length:Int))=(S2.echos.length:Int)+(S2.readies.length:Int) - (S.echos.length:Int):=i6n _ (by omega);have V0:IntKind.i64.wrap ((S2.echos.length:Int)+(S2.readies.length:Int) - (S.echos.length:Int) - (S.readies.length:Int))=(S2.echos.length:Int)+(S2.readies.length:Int) - (S.echos.length:Int) - (S.readies.length:Int):=i6n _ (by omega);obtain ⟨gr,X1⟩:=exq ((S2.echos.length:Int)+(S2.readies.length:Int) - (S.echos.length:Int) - (S.readies.length:Int));have D0:=za X1;have J2:wrap64 ((S2.echos.length:Int)+(S2.readies.length:Int) - (S.echos.length:Int) - (S.readies.length:Int))=gr:=by rw [X1];exact IntWalk.wrap64_in _ (by omega)
     clear b1 b2 b3 b4 X1;have v0:Hid (∀V,w14.grownBy V none→nn+3≤3*(j+1)∧AnW w j0 d m c0 l gp B (.slice (some ⟨ge,oe,none⟩) L cl) (.slice Ad nd cd) gA gM (nn+3) R.1 V):=za (fun V hV=>⟨by have:=d3.z;omega,I0.z.1.kept (Q0.z.trans hV)⟩);have n0:Hid (w14.grownBy w14.drew none):=za (zb w14 1);have F0:=za (fun V (hV:w14.grownBy V none)=>D1.z V (Q0.z.trans hV));go_upto_region 24 with (fail)
     first|rw [←D0.z]|rw [J2]
     clear w0 K0 C3 B3 V0 J2 D1 I0 d3;rcases O1.z with hlt|⟨heq,⟨hst,hout⟩|⟨hdl,hout⟩⟩
     ·have A0:0< gr:=by rw [D0.z];have:=N0.z.1;omega
      have f0:decide (gr< 0)=false:=decide_eq_false (by omega);have b0:(gr==0)=false:=by simp;omega
      have a0:True:=trivial;have g0:True:=trivial;have i0:Hid True:=za trivial;clear hlt A0;refine ZF 28 ?_;refine mN0 (Pv.eq (.int .i64 gr)) (fun w' hw' K hK=> ?_) ?_
      ·go_simp;exact hK _ _ rfl (by first|rfl|(show _=Value.bool _;simp [f0,b0,a0,g0,i0.z])) gRf
      refine mN1 (Pv.eq (.bool false)) 0 158 (fun w' hw' K hK=> ?_) ?_
      ·go_simp;exact hK _ _ rfl (by first|rfl|(show _=Value.bool _;simp [f0,b0,a0,g0,i0.z])) gRf
      refine mN1 (Pv.eq (.bool false)) 1 159 (fun w' hw' K hK=> ?_) ?_
      ·go_simp;exact hK _ _ rfl (by first|rfl|(show _=Value.bool _;simp [f0,b0,a0,g0,i0.z])) gRf
      refine Gm (Pv.eq (.int .i64 gr)) 2 160 (fun w' hw' K hK=> ?_) ?_
      ·go_simp;exact hK _ _ rfl (by first|rfl|(show _=Value.bool _;simp [f0,b0,a0,g0,i0.z])) gRf
      refine VP (Pv.eq (.bool false)) 2 160 3 161 (fun w' hw' K hK=> ?_) ?_
      ·go_simp;exact hK _ _ rfl (by first|rfl|(show _=Value.bool _;simp [f0,b0,a0,g0,i0.z])) gRf
      refine VP (Pv.eq (.bool false)) 2 160 4 162 (fun w' hw' K hK=> ?_) ?_
      ·go_simp;exact hK _ _ rfl (by first|rfl|(show _=Value.bool _;simp [f0,b0,a0,g0,i0.z])) gRf
      refine mS (undef) [(5,163)] (fun w' hw'=>pQ (zc rfl rfl rfl)) ?_;refine mS (undef) [(5,163),(6,164)] (fun w' hw'=>pQ (pQ (zc rfl rfl rfl))) ?_;refine mS (undef) [(5,163),(7,165)] (fun w' hw'=>pQ (pQ (zc rfl rfl rfl))) ?_;refine mS (undef) [(5,163),(8,166)] (fun w' hw'=>pQ (pQ (zc rfl rfl rfl))) ?_;refine mS (undef) [(9,167)] (fun w' hw'=>pQ (zc rfl rfl rfl)) ?_;refine mS (undef) [(9,167),(10,168)] (fun w' hw'=>pQ (pQ (zc rfl rfl rfl))) ?_;refine mS (undef) [(9,167)] (fun w' hw'=>pQ (zc rfl rfl rfl)) ?_;refine mS (undef) [(9,167),(12,170)] (fun w' hw'=>pQ (pQ (zc rfl rfl rfl))) ?_;refine mS (undef) [(9,167),(11,169),(13,171)] (fun w' hw'=>pQ (pQ (pQ (zc rfl rfl rfl)))) ?_;refine mS (undef) [(9,167),(14,172)] (fun w' hw'=>pQ (pQ (zc rfl rfl rfl))) ?_;refine mS (undef) [(5,163),(9,167),(15,173)] (fun w' hw'=>pQ (pQ (pQ (zc rfl rfl rfl)))) ?_;refine LQ (Pv.eq (.bool false)) 2 160 5 163 16 174 (fun w' hw' K hK=> ?_) ?_
      ·go_simp;exact hK _ _ rfl (by first|rfl|(show _=Value.bool _;simp [f0,b0,a0,g0,i0.z])) gRf
      refine VP (Pv.eq (.bool false)) 2 160 17 175 (fun w' hw' K hK=> ?_) ?_
      ·go_simp;exact hK _ _ rfl (by first|rfl|(show _=Value.bool _;simp [f0,b0,a0,g0,i0.z])) gRf
      refine mS (undef) [(18,176)] (fun w' hw'=>pQ (zc rfl rfl rfl)) ?_;refine mS (undef) [(18,176),(19,177)] (fun w' hw'=>pQ (pQ (zc rfl rfl rfl))) ?_;refine mS (undef) [(18,176),(20,178)] (fun w' hw'=>pQ (pQ (zc rfl rfl rfl))) ?_;refine mS (undef) [(18,176)] (fun w' hw'=>pQ (zc rfl rfl rfl)) ?_;refine mS (undef) [(18,176),(22,180)] (fun w' hw'=>pQ (pQ (zc rfl rfl rfl))) ?_;refine mS (undef) [(18,176),(23,181)] (fun w' hw'=>pQ (pQ (zc rfl rfl rfl))) ?_;refine mS (undef) [(18,176),(21,179),(24,182)] (fun w' hw'=>pQ (pQ (pQ (zc rfl rfl rfl)))) ?_;refine LQ (Pv.eq (.bool false)) 2 160 18 176 25 183 (fun w' hw' K hK=> ?_) ?_
      ·go_simp;exact hK _ _ rfl (by first|rfl|(show _=Value.bool _;simp [f0,b0,a0,g0,i0.z])) gRf
      refine mN2 (Pv.eq (.bool false)) 2 160 26 184 (fun w' hw' K hK=> ?_) ?_
      ·go_simp;exact hK _ _ rfl (by first|rfl|(show _=Value.bool _;simp [f0,b0,a0,g0,i0.z])) gRf
      intro w15 t0
      iterate 27 (refine pD ?_;intro _)
      intro y27 k27;have e27:y27= .bool false:=k27;subst e27;have z0:=za (v0.z w15 (n0.z.trans t0));clear t0 v0 n0 F0 P0 N0 O1;refine wpList_nil ?_;simp only [Act.put,sAa,sAb,sAc];go_wp2_with fail;go_roundg (gk - 1)
      case measure=>omega
      case rel=>exact ⟨j+1,nn+3,R.1,by omega,by go_num,z0⟩
     ·have A0:gr=0:=by rw [D0.z];have:=N0.z.1;omega
      have f0:decide (gr< 0)=false:=decide_eq_false (by omega);have b0:(gr==0)=true:=by simp [A0]
      have a0:decide ((0:Int)< (R.2.length:Int))=false:=by rw [hout];rfl
      have I3:decide (0< R.2.length)=false:=by rw [hout];rfl
      have i0:Hid (R.2.length=0):=za (by rw [hout];rfl);have g0:True:=trivial;have Q2:Hid (S2=S):=za (by rw [M1.z,L1.z,hst]);have K3:=Q2.z;clear heq A0 hst hout K3;refine ZF 28 ?_;refine mN0 (Pv.eq (.int .i64 gr)) (fun w' hw' K hK=> ?_) ?_
      ·go_simp;exact hK _ _ rfl (by first|rfl|(show _=Value.bool _;simp [f0,b0,a0,g0,i0.z])) gRf
      refine mN1 (Pv.eq (.bool false)) 0 158 (fun w' hw' K hK=> ?_) ?_
      ·go_simp;exact hK _ _ rfl (by first|rfl|(show _=Value.bool _;simp [f0,b0,a0,g0,i0.z])) gRf
      refine mN1 (Pv.eq (.bool false)) 1 159 (fun w' hw' K hK=> ?_) ?_
      ·go_simp;exact hK _ _ rfl (by first|rfl|(show _=Value.bool _;simp [f0,b0,a0,g0,i0.z])) gRf
      refine Gm (Pv.eq (.int .i64 gr)) 2 160 (fun w' hw' K hK=> ?_) ?_
      ·go_simp;exact hK _ _ rfl (by first|rfl|(show _=Value.bool _;simp [f0,b0,a0,g0,i0.z])) gRf
      refine VP (Pv.eq (.bool true)) 2 160 3 161 (fun w' hw' K hK=> ?_) ?_
      ·go_simp;exact hK _ _ rfl (by first|rfl|(show _=Value.bool _;simp [f0,b0,a0,g0,i0.z])) gRf
      refine VP (Pv.eq (.bool true)) 2 160 4 162 (fun w' hw' K hK=> ?_) ?_
      ·go_simp;exact hK _ _ rfl (by first|rfl|(show _=Value.bool _;simp [f0,b0,a0,g0,i0.z])) gRf
      refine Gm (Pv.eq (.slice Ax R.2.length cx)) 5 163 (fun w' hw' K hK=> ?_) ?_
      ·go_simp;exact hK _ _ rfl (by first|rfl|(show _=Value.bool _;simp [f0,b0,a0,g0,i0.z])) gRf
      refine VP (Pv.eq (.int .i64 R.2.length)) 5 163 6 164 (fun w' hw' K hK=> ?_) ?_
      ·go_simp;exact hK _ _ rfl (by first|rfl|(show _=Value.bool _;simp [f0,b0,a0,g0,i0.z])) gRf
      refine VP (Pv.eq (.bool false)) 5 163 7 165 (fun w' hw' K hK=> ?_) ?_
      ·go_simp;exact hK _ _ rfl (by first|rfl|(show _=Value.bool _;simp [f0,b0,a0,g0,i0.z])) gRf
      refine VP (Pv.eq (.bool false)) 5 163 8 166 (fun w' hw' K hK=> ?_) ?_
      ·go_simp;exact hK _ _ rfl (by first|rfl|(show _=Value.bool _;simp [f0,b0,a0,g0,i0.z])) gRf
      refine Gm (Pv.eq (.agg #[.int .i64 S2.dealer, .int .i64 S2.me, .slice U1 o1 i1, .slice U2 S2.deal.length i2, .slice U3 S2.echos.length i3, .slice U4 S2.readies.length i4, .slice U5 o5 i5, .bool S2.done])) 9 167 (fun w' hw' K hK=> ?_) ?_
      ·obtain ⟨⟨w0,K0⟩,_⟩:=F0.z w' (n0.z.trans hw');go_simp;exact hK _ _ rfl (by first|rfl|(show _=Value.bool _;simp [f0,b0,a0,g0,i0.z])) gRf
      refine VP (CG (fun _=>True) S2) 9 167 10 168 (fun w' hw' K hK=> ?_) ?_
      ·go_simp;refine (P0.z w' _ (F0.z w' (n0.z.trans hw')).2.1).mono ?_;rintro e w3 ⟨v,rfl,hs,hg⟩;exact hK _ _ rfl hs hg
      refine Gm (Pv.eq (.agg #[.int .i64 S.dealer, .int .i64 S.me, .slice A1 n1 c1, .slice A2 S.deal.length c2, .slice A3 S.echos.length c3, .slice A4 S.readies.length c4, .slice A5 n5 c5, .bool S.done])) 9 167 (fun w' hw' K hK=> ?_) ?_
      ·obtain ⟨⟨w0,K0⟩,_⟩:=F0.z w' (n0.z.trans hw');go_simp;exact hK _ _ rfl (by first|rfl|(show _=Value.bool _;simp [f0,b0,a0,g0,i0.z])) gRf
      refine VP (CG (fun _=>True) S2) 9 167 12 170 (fun w' hw' K hK=> ?_) ?_
      ·go_simp;refine (P0.z w' _ (by rw [Q2.z];exact (F0.z w' (n0.z.trans hw')).2.2)).mono ?_;rintro e w3 ⟨v,rfl,hs,hg⟩;exact hK _ _ rfl hs hg
      refine mS (.bool true) [(9,167),(11,169),(13,171)] (fun w' hw'=>pQ (fun x169 M0 x171 L0=>kE fun K hK=> ?_)) ?_
      ·have M0:Xj (fun _=>True) w' x169 S2:=M0;have L0:Xj (fun _=>True) w' x171 S2:=L0;go_simp;refine (Un x169 x171 S2 _ _ w' M0 L0).mono ?_;rintro e w3 ⟨rfl,hg⟩;exact hK _ _ rfl rfl hg
      refine VP (Pv.eq (.bool false)) 9 167 14 172 (fun w' hw' K hK=> ?_) ?_
      ·go_simp;exact hK _ _ rfl (by first|rfl|(show _=Value.bool _;simp [f0,b0,a0,g0,i0.z])) gRf
      refine LQ (Pv.eq (.bool false)) 5 163 9 167 15 173 (fun w' hw' K hK=> ?_) ?_
      ·go_simp;exact hK _ _ rfl (by first|rfl|(show _=Value.bool _;simp [f0,b0,a0,g0,i0.z])) gRf
      refine LQ (Pv.eq (.bool false)) 2 160 5 163 16 174 (fun w' hw' K hK=> ?_) ?_
      ·go_simp;exact hK _ _ rfl (by first|rfl|(show _=Value.bool _;simp [f0,b0,a0,g0,i0.z])) gRf
      refine VP (Pv.eq (.bool false)) 2 160 17 175 (fun w' hw' K hK=> ?_) ?_
      ·go_simp;exact hK _ _ rfl (by first|rfl|(show _=Value.bool _;simp [f0,b0,a0,g0,i0.z])) gRf
      refine mS (undef) [(18,176)] (fun w' hw'=>pQ (zc rfl rfl rfl)) ?_;refine mS (undef) [(18,176),(19,177)] (fun w' hw'=>pQ (pQ (zc rfl rfl rfl))) ?_;refine mS (undef) [(18,176),(20,178)] (fun w' hw'=>pQ (pQ (zc rfl rfl rfl))) ?_;refine mS (undef) [(18,176)] (fun w' hw'=>pQ (zc rfl rfl rfl)) ?_;refine mS (undef) [(18,176),(22,180)] (fun w' hw'=>pQ (pQ (zc rfl rfl rfl))) ?_;refine mS (undef) [(18,176),(23,181)] (fun w' hw'=>pQ (pQ (zc rfl rfl rfl))) ?_;refine mS (undef) [(18,176),(21,179),(24,182)] (fun w' hw'=>pQ (pQ (pQ (zc rfl rfl rfl)))) ?_;refine LQ (Pv.eq (.bool false)) 2 160 18 176 25 183 (fun w' hw' K hK=> ?_) ?_
      ·go_simp;exact hK _ _ rfl (by first|rfl|(show _=Value.bool _;simp [f0,b0,a0,g0,i0.z])) gRf
      refine mN2 (Pv.eq (.bool false)) 2 160 26 184 (fun w' hw' K hK=> ?_) ?_
      ·go_simp;exact hK _ _ rfl (by first|rfl|(show _=Value.bool _;simp [f0,b0,a0,g0,i0.z])) gRf
      intro w15 t0
      iterate 27 (refine pD ?_;intro _)
      intro y27 k27;have e27:y27= .bool false:=k27;subst e27;have z0:=za (v0.z w15 (n0.z.trans t0));clear t0 v0 n0 F0 P0 N0 O1;refine wpList_nil ?_;simp only [Act.put,sAa,sAb,sAc];go_wp2_with fail;go_roundg (gk - 1)
      case measure=>omega
      case rel=>exact ⟨j+1,nn+3,R.1,by omega,by go_num,z0⟩
     ·have A0:gr=0:=by rw [D0.z];have:=N0.z.1;omega
      have f0:decide (gr< 0)=false:=decide_eq_false (by omega);have b0:(gr==0)=true:=by simp [A0]
      have a0:decide ((0:Int)< (R.2.length:Int))=true:=decide_eq_true (by have:=List.length_pos_iff.2 hout;omega);have I3:decide (0< R.2.length)=true:=decide_eq_true (List.length_pos_iff.2 hout);have i0:Hid (0< R.2.length):=za (List.length_pos_iff.2 hout);have g0:((S2.deal.length:Int)==(S.deal.length:Int))=false:=by
       obtain ⟨_,t1,t2⟩:=N0.z;rw [t1,t2];simp;omega
      clear heq A0 hdl hout;refine ZF 28 ?_;refine mN0 (Pv.eq (.int .i64 gr)) (fun w' hw' K hK=> ?_) ?_
      ·go_simp;exact hK _ _ rfl (by first|rfl|(show _=Value.bool _;simp [f0,b0,a0,g0,i0.z])) gRf
      refine mN1 (Pv.eq (.bool false)) 0 158 (fun w' hw' K hK=> ?_) ?_
      ·go_simp;exact hK _ _ rfl (by first|rfl|(show _=Value.bool _;simp [f0,b0,a0,g0,i0.z])) gRf
      refine mN1 (Pv.eq (.bool false)) 1 159 (fun w' hw' K hK=> ?_) ?_
      ·go_simp;exact hK _ _ rfl (by first|rfl|(show _=Value.bool _;simp [f0,b0,a0,g0,i0.z])) gRf
      refine Gm (Pv.eq (.int .i64 gr)) 2 160 (fun w' hw' K hK=> ?_) ?_
      ·go_simp;exact hK _ _ rfl (by first|rfl|(show _=Value.bool _;simp [f0,b0,a0,g0,i0.z])) gRf
      refine VP (Pv.eq (.bool true)) 2 160 3 161 (fun w' hw' K hK=> ?_) ?_
      ·go_simp;exact hK _ _ rfl (by first|rfl|(show _=Value.bool _;simp [f0,b0,a0,g0,i0.z])) gRf
      refine VP (Pv.eq (.bool true)) 2 160 4 162 (fun w' hw' K hK=> ?_) ?_
      ·go_simp;exact hK _ _ rfl (by first|rfl|(show _=Value.bool _;simp [f0,b0,a0,g0,i0.z])) gRf
      refine Gm (Pv.eq (.slice Ax R.2.length cx)) 5 163 (fun w' hw' K hK=> ?_) ?_
      ·go_simp;exact hK _ _ rfl (by first|rfl|(show _=Value.bool _;simp [f0,b0,a0,g0,i0.z])) gRf
      refine VP (Pv.eq (.int .i64 R.2.length)) 5 163 6 164 (fun w' hw' K hK=> ?_) ?_
      ·go_simp;exact hK _ _ rfl (by first|rfl|(show _=Value.bool _;simp [f0,b0,a0,g0,i0.z])) gRf
      refine VP (Pv.eq (.bool true)) 5 163 7 165 (fun w' hw' K hK=> ?_) ?_
      ·go_simp;exact hK _ _ rfl (by first|rfl|(show _=Value.bool _;simp [f0,b0,a0,g0,i0.z])) gRf
      refine VP (Pv.eq (.bool true)) 5 163 8 166 (fun w' hw' K hK=> ?_) ?_
      ·go_simp;exact hK _ _ rfl (by first|rfl|(show _=Value.bool _;simp [f0,b0,a0,g0,i0.z])) gRf
      refine mS (undef) [(9,167)] (fun w' hw'=>pQ (zc rfl rfl rfl)) ?_;refine mS (undef) [(9,167),(10,168)] (fun w' hw'=>pQ (pQ (zc rfl rfl rfl))) ?_;refine mS (undef) [(9,167)] (fun w' hw'=>pQ (zc rfl rfl rfl)) ?_;refine mS (undef) [(9,167),(12,170)] (fun w' hw'=>pQ (pQ (zc rfl rfl rfl))) ?_;refine mS (undef) [(9,167),(11,169),(13,171)] (fun w' hw'=>pQ (pQ (pQ (zc rfl rfl rfl)))) ?_;refine mS (undef) [(9,167),(14,172)] (fun w' hw'=>pQ (pQ (zc rfl rfl rfl))) ?_;refine LQ (Pv.eq (.bool true)) 5 163 9 167 15 173 (fun w' hw' K hK=> ?_) ?_
      ·go_simp;exact hK _ _ rfl (by first|rfl|(show _=Value.bool _;simp [f0,b0,a0,g0,i0.z])) gRf
      refine LQ (Pv.eq (.bool true)) 2 160 5 163 16 174 (fun w' hw' K hK=> ?_) ?_
      ·go_simp;exact hK _ _ rfl (by first|rfl|(show _=Value.bool _;simp [f0,b0,a0,g0,i0.z])) gRf
      refine VP (Pv.eq (.bool true)) 2 160 17 175 (fun w' hw' K hK=> ?_) ?_
      ·go_simp;exact hK _ _ rfl (by first|rfl|(show _=Value.bool _;simp [f0,b0,a0,g0,i0.z])) gRf
      refine Gm (Pv.eq (.pointer (some ⟨gv,3,none⟩))) 18 176 (fun w' hw' K hK=> ?_) ?_
      ·go_simp;exact hK _ _ rfl (by first|rfl|(show _=Value.bool _;simp [f0,b0,a0,g0,i0.z])) gRf
      refine VP (Pv.eq (.slice U2 S2.deal.length i2)) 18 176 19 177 (fun w' hw' K hK=> ?_) ?_
      ·obtain ⟨⟨w0,K0⟩,_⟩:=F0.z w' (n0.z.trans hw');go_simp;exact hK _ _ rfl (by first|rfl|(show _=Value.bool _;simp [f0,b0,a0,g0,i0.z])) gRf
      refine VP (Pv.eq (.int .i64 S2.deal.length)) 18 176 20 178 (fun w' hw' K hK=> ?_) ?_
      ·go_simp;exact hK _ _ rfl (by first|rfl|(show _=Value.bool _;simp [f0,b0,a0,g0,i0.z])) gRf
      refine Gm (Pv.eq (.pointer (some ⟨gw,3,none⟩))) 18 176 (fun w' hw' K hK=> ?_) ?_
      ·go_simp;exact hK _ _ rfl (by first|rfl|(show _=Value.bool _;simp [f0,b0,a0,g0,i0.z])) gRf
      refine VP (Pv.eq (.slice A2 S.deal.length c2)) 18 176 22 180 (fun w' hw' K hK=> ?_) ?_
      ·obtain ⟨⟨w0,K0⟩,_⟩:=F0.z w' (n0.z.trans hw');go_simp;exact hK _ _ rfl (by first|rfl|(show _=Value.bool _;simp [f0,b0,a0,g0,i0.z])) gRf
      refine VP (Pv.eq (.int .i64 S.deal.length)) 18 176 23 181 (fun w' hw' K hK=> ?_) ?_
      ·go_simp;exact hK _ _ rfl (by first|rfl|(show _=Value.bool _;simp [f0,b0,a0,g0,i0.z])) gRf
      refine LQ (Pv.eq (.bool false)) 18 176 21 179 24 182 (fun w' hw' K hK=> ?_) ?_
      ·go_simp;exact hK _ _ rfl (by first|rfl|(show _=Value.bool _;simp [f0,b0,a0,g0,i0.z])) gRf
      refine LQ (Pv.eq (.bool false)) 2 160 18 176 25 183 (fun w' hw' K hK=> ?_) ?_
      ·go_simp;exact hK _ _ rfl (by first|rfl|(show _=Value.bool _;simp [f0,b0,a0,g0,i0.z])) gRf
      refine mN2 (Pv.eq (.bool false)) 2 160 26 184 (fun w' hw' K hK=> ?_) ?_
      ·go_simp;exact hK _ _ rfl (by first|rfl|(show _=Value.bool _;simp [f0,b0,a0,g0,i0.z])) gRf
      intro w15 t0
      iterate 27 (refine pD ?_;intro _)
      intro y27 k27;have e27:y27= .bool false:=k27;subst e27;have z0:=za (v0.z w15 (n0.z.trans t0));clear t0 v0 n0 F0 P0 N0 O1;refine wpList_nil ?_;simp only [Act.put,sAa,sAb,sAc];go_wp2_with fail;go_roundg (gk - 1)
      case measure=>omega
      case rel=>exact ⟨j+1,nn+3,R.1,by omega,by go_num,z0⟩
end
section
open Go.ChangeShapes Go.WideShapes Go.RowKit
theorem TS:Tryz.prog.cellsOf 61=4:=by kernel_rfl
theorem OZ:Tryz.prog.cellsOf 31=1:=by kernel_rfl
theorem Lv:Tryz.prog.cellsOf 3=1:=by kernel_rfl
theorem Ii:Tryz.prog.cellsOf 5=1:=by kernel_rfl
theorem Pb{α:Type}: ∀{l:List α},l.length=4→ ∃a b c d,l= [a,b,c,d]
 | [a,b,c,d],_=>⟨a,b,c,d,rfl⟩
theorem Dp{a:Int}(h:(Lit.int .u8 a).wf=true):U8 a:=by
 have:=bounds_u8 h
 unfold U8;omega
theorem QB:Tc UK 61 (fun d=>d.2.2.2.length≤17592186044415):=by
 intro H enc w base spare held fuel cs x h hz;obtain ⟨xs,n,_,hx,hl,hlen,hf⟩:=DataW.trod_struct Tryz.underlying61 h;rw [TS] at hl;obtain ⟨y0,y1,y2,y3,rfl⟩:=Pb hlen;obtain ⟨c0,c1,c2,c3,rfl⟩:=Pb hl;have g0:=hf 0 _ rfl;have g1:=hf 1 _ rfl;have g2:=hf 2 _ rfl;have g3:=hf 3 _ rfl;simp [Ii,Lv,OZ] at g0 g1 g2 g3;obtain ⟨a0,e0,_,w0⟩:=DataW.trod_int Tryz.underlying5 g0;obtain ⟨a1,e1,_,w1⟩:=DataW.trod_int Tryz.underlying3 g1;obtain ⟨a2,e2,_,w2⟩:=DataW.trod_int Tryz.underlying5 g2;have hz3: ∀b∈y3.1.weights prog 31,b≤reachBytes:=fun b hb=>hz b (by
  rw [hx];show b∈DataW.weights prog 61 (.agg [y0.1,y1.1,y2.1,y3.1]);rw [DataW.weights,Tryz.underlying61];show b∈_++(_++(_++(_++_)));exact mAr _ (mAr _ (mAr _ (mAl _ hb))))
 obtain ⟨l,⟨v,e3,hs⟩,hG⟩:=Ow g3 hz3;simp at e0 e1 e2 e3;subst e0 e1 e2 e3;exact ⟨(a0,a1,a2,l),⟨_,rfl,Dp w0,JB w1,Dp w2,hs⟩,hG.1⟩
theorem QA:Tc (zh UK) 47 (LG fun d=>d.2.2.2.length≤17592186044415):=Qz Tryz.underlying47 QB TS (of_decide_eq_true (by kernel_rfl))
end
end Go.Proofs.YtkdfjkdphdfclaaGreatDoor

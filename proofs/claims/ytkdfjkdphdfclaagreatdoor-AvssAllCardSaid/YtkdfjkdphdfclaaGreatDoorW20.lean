/- Part 20 of the proof of a card of AvssOne, AvssAll. -/
import Derived.Test.YtkdfjkdphdfclaaGreatDoorW19
set_option maxRecDepth 100000
set_option maxHeartbeats 16000000
set_option linter.unusedVariables false
set_option linter.unusedSimpArgs false
namespace Go.Proofs.YtkdfjkdphdfclaaGreatDoor
open Tryz
section
open Go Go.RowKit Go.Shelf Go.Maps
def YD(two:Bool)(d seed:Int)(hon:Int→Bool):Rmm:=⟨p19 two,d,Kn (p19 two) [0] seed,hon⟩
theorem Jd{two:Bool}{d seed:Int}{hon:Int→Bool}(hd:1≤d∧d≤(p19 two).N)(hf:(((Vr (p19 two).N).filter fun j=> !hon j).length:Int)≤(p19 two).T):(YD two d seed hon).ok:=
 ⟨fun _ h1 h2=>Hj hd ⟨h1,h2⟩,CG two d 0 seed,hf,Xs two⟩
def FS(fr tq kd:Int)(X:Nat→Prop)(ns:List Int):Pv:=⟨fun v w=> ∃u,v= .agg #[.int .i64 fr, .int .i64 tq, .int .u8 kd,u]∧Sl ze X w u ns,fun ⟨u,h1,h2⟩ hg=>⟨u,h1,h2.kept hg⟩⟩
attribute [local go_sem] Oper.semAt_some
theorem Mo(b0:Bool)(d a0:Int)(W0:Int→Bool)(all lose:Bool)(w:World)(g0:List Ts)(vl va vd vc:Value)(g:Nat)(S:List Nat)(L:List (Nat×Nat))(nn:Nat)(sts:Int→ASt)(i0:List yB)(vw:Value)(W:World)(a:Ts)(L1:Value)(Y:Nat→Prop)
  (hR:(YD b0 d a0 W0).ok) (h:Rw w (YD b0 d a0 W0) (Xe b0 d a0) g0 vl va vd vc g S L nn sts i0 vw W) (V0:RGo (YD b0 d a0 W0) all sts i0) (S1:all=true→lose=false) (hn:nn+3< maxLen)
  (ha:U8 a.1∧I64 a.2.1∧I64 a.2.2.1∧I64 a.2.2.2.1∧U8 a.2.2.2.2.1∧U8 a.2.2.2.2.2.1) (hs:Sl ze Y W L1 a.2.2.2.2.2.2) (P1:a.2.2.2.2.2.2.length≤3000):
  Calls prog 12 #[.pointer (some ⟨g,0,none⟩), .agg #[.int .u8 a.1, .int .i64 a.2.1, .int .i64 a.2.2.1, .int .i64 a.2.2.2.1, .int .u8 a.2.2.2.2.1, .int .u8 a.2.2.2.2.2.1,L1], .bool lose, .bool true] W fun e W'=>e= .returned (.tuple #[])∧ ∃S' l0 c0 way',Rw w (YD b0 d a0 W0) (Xe b0 d a0) g0 vl va vd vc g S' L (nn+3) c0 way' l0 W'∧RGo (YD b0 d a0 W0) all c0 way':=by
 obtain ⟨An,mn,cn,rfl⟩:=hs.shape;obtain ⟨R,B1⟩:=exq (YD b0 d a0 W0);have g1:=za B1;rw [←B1] at hR h V0 ⊢;obtain ⟨p,hp⟩:=exq (p19 b0);have HP:=za hp;have d2:R.p=p:=by rw [B1,hp];rfl
 have U0:=za d2;obtain ⟨W1,A1⟩:=exq (W.alloc (Obj.cells #[.int .u8 a.1, .int .i64 a.2.1, .int .i64 a.2.2.1, .int .i64 a.2.2.2.1, .int .u8 a.2.2.2.2.1, .int .u8 a.2.2.2.2.2.1, .slice An mn cn] 33));obtain ⟨B,hB⟩:=exq (W.heap.size);have G1:W.grownBy W1 none:=by rw [A1];exact gAl _ _ none
 have HB:Hid (Bk W1 B 33 #[.int .u8 a.1, .int .i64 a.2.1, .int .i64 a.2.2.1, .int .i64 a.2.2.2.1, .int .u8 a.2.2.2.2.1, .int .u8 a.2.2.2.2.2.1, .slice An mn cn]∧zw S B):=za ⟨by rw [A1,hB];exact Bk.new _ _ _,h.free (by rw [hB];exact nRf _)⟩;have I0:Hid (Rw w R (Xe b0 d a0) g0 vl va vd vc g S L nn sts i0 vw W1):=za (h.kept G1);have L0:Hid (Sl ze Y W1 (.slice An mn cn) a.2.2.2.2.2.2):=za (hs.kept G1);have u0:=za V0;have q0:=za hR;have HI:=za (And.intro ha (And.intro P1 hn));have R0:=za S1;have K0:Hid (i0.length≤84):=za (V0.way_len hR);have hN:4≤p.N∧p.N≤7:=by rw [hp];cases b0<;>exact ⟨by decide,by decide⟩
 have C0:IntKind.u64.wrap p.N=p.N:=IntWalk.u64_in _ (by omega);have T1:p.N≠0:=by omega
 have hu: ∀x:Int, ∃y,(1≤y∧y≤p.N)∧(IntKind.i64.wrap ((IntKind.u64.wrap x).tmod p.N)=y - 1∧IntKind.i64.wrap (IntKind.u64.wrap x%p.N)=y - 1)∧IntKind.i64.wrap (1+(y - 1))=y:=fun x=>by
  have h0:0≤IntKind.u64.wrap x:=by rw [IntKind.wrap_u64];omega
  have r0:=Int.emod_nonneg (IntKind.u64.wrap x) T1;have r9:=Int.emod_lt_of_pos (IntKind.u64.wrap x) (show 0< p.N by omega);have e:IntKind.i64.wrap (IntKind.u64.wrap x%p.N)=1+IntKind.u64.wrap x%p.N - 1:=by rw [i6n _ (by omega)];omega
  refine ⟨1+IntKind.u64.wrap x%p.N,by omega,⟨?_,e⟩, ?_⟩
  ·rw [Int.tmod_eq_emod_of_nonneg h0];exact e
  ·rw [i6n (1+(1+IntKind.u64.wrap x%p.N - 1)) (by omega)];omega
 obtain ⟨tq,x1,⟨E0,w1⟩,x0⟩:=hu a.2.2.2.1;obtain ⟨fr,z1,⟨b1,a2⟩,a1⟩:=hu a.2.2.1;have p0:=za (And.intro x1 z1);have A0:=za hN;clear h hs V0 hR ha P1 hn S1 B1 hp G1 hu;go_enter func12,ntmps12;go_upto_region 1 with (fail)
 rw [←A1, ←hB];clear A1 hB;have B0:Hid (∀V,W1.grownBy V none→(∀o,V.cell? ⟨B,o,none⟩=(#[.int .u8 a.1, .int .i64 a.2.1, .int .i64 a.2.2.1, .int .i64 a.2.2.2.1, .int .u8 a.2.2.2.2.1, .int .u8 a.2.2.2.2.2.1, .slice An mn cn]:Array Value)[o]?)∧ ∀o,V.cell? ⟨g,o,none⟩=(zM p va vw vd vc)[o]?):=za (fun V hV=>by
  have h2:=(I0.z.kept hV).bk.rule;rw [U0.z] at h2;exact ⟨(HB.z.1.grown hV (by simp)).rule,h2⟩)
 have P0:Hid (W1.grownBy W1 none):=za (gRr _ _);have N0:Hid (W1.grownBy W1.drew none):=za (zb W1 1);refine ZR 13 ?_;refine mP0 (.pointer (some ⟨B,3,none⟩)) ?_;refine mQ1 (.int .i64 a.2.2.2.1) 0 11 (fun w' hw' K hK=> ?_) ?_
 ·obtain ⟨hb,v0⟩:=B0.z w' (P0.z.trans (N0.z.trans hw'));go_simp;exact hK _ rfl rfl
 refine mN1 (Pv.eq (.int .u64 (IntKind.u64.wrap a.2.2.2.1))) 1 12 (fun w' hw' K hK=> ?_) ?_
 ·go_simp;exact hK _ _ rfl (by first|rfl|simp [C0,E0,x0]) gRf
 refine mP0 (.pointer (some ⟨g,0,none⟩)) ?_;refine mP1 (.pointer (some ⟨g,0,none⟩)) 3 14 ?_;refine mP1 (.pointer (some ⟨g,0,none⟩)) 4 15 ?_;refine mP1 (.pointer (some ⟨g,5,none⟩)) 5 16 ?_;refine mQ1 (.int .i64 p.N) 6 17 (fun w' hw' K hK=> ?_) ?_
 ·obtain ⟨hb,v0⟩:=B0.z w' (P0.z.trans (N0.z.trans hw'));go_simp;exact hK _ rfl rfl
 refine mN1 (Pv.eq (.int .u64 p.N)) 7 18 (fun w' hw' K hK=> ?_) ?_
 ·go_simp;exact hK _ _ rfl (by first|rfl|simp [C0,E0,x0]) gRf
 refine mN2 (Pv.eq (.int .u64 ((IntKind.u64.wrap a.2.2.2.1).tmod p.N))) 2 13 8 19 (fun w' hw' K hK=> ?_) ?_
 ·go_simp;exact hK _ _ rfl (by first|rfl|simp [C0,E0,x0]) gRf
 refine mN1 (Pv.eq (.int .i64 (tq - 1))) 9 20 (fun w' hw' K hK=> ?_) ?_
 ·go_simp;exact hK _ _ rfl (by first|rfl|simp [C0,E0,x0]) gRf
 refine mN1 (Pv.eq (.int .i64 tq)) 10 21 (fun w' hw' K hK=> ?_) ?_
 ·go_simp;exact hK _ _ rfl (by first|rfl|simp [C0,E0,x0]) gRf
 refine mP1 (.int .i64 tq) 11 22 ?_;intro w2 l1
 iterate 12 (refine pD ?_;intro _)
 intro y12 k12;have e12:y12= .int .i64 tq:=k12;subst e12;have G0:Hid (W1.grownBy w2 none):=za (P0.z.trans (N0.z.trans l1));clear l1;refine wpList_nil ?_;simp only [Act.put,sAa,sAb,sAc];have O0:Hid (W1.grownBy w2 none):=G0;have M0:Hid (w2.grownBy w2.drew none):=za (zb w2 1);go_upto_region 2 with (fail)
 refine ZR 13 ?_;refine mP0 (.pointer (some ⟨B,2,none⟩)) ?_;refine mQ1 (.int .i64 a.2.2.1) 0 23 (fun w' hw' K hK=> ?_) ?_
 ·obtain ⟨hb,v0⟩:=B0.z w' (O0.z.trans (M0.z.trans hw'));go_simp;exact hK _ rfl rfl
 refine mN1 (Pv.eq (.int .u64 (IntKind.u64.wrap a.2.2.1))) 1 24 (fun w' hw' K hK=> ?_) ?_
 ·go_simp;exact hK _ _ rfl (by first|rfl|simp [C0,b1,a1]) gRf
 refine mP0 (.pointer (some ⟨g,0,none⟩)) ?_;refine mP1 (.pointer (some ⟨g,0,none⟩)) 3 26 ?_;refine mP1 (.pointer (some ⟨g,0,none⟩)) 4 27 ?_;refine mP1 (.pointer (some ⟨g,5,none⟩)) 5 28 ?_;refine mQ1 (.int .i64 p.N) 6 29 (fun w' hw' K hK=> ?_) ?_
 ·obtain ⟨hb,v0⟩:=B0.z w' (O0.z.trans (M0.z.trans hw'));go_simp;exact hK _ rfl rfl
 refine mN1 (Pv.eq (.int .u64 p.N)) 7 30 (fun w' hw' K hK=> ?_) ?_
 ·go_simp;exact hK _ _ rfl (by first|rfl|simp [C0,b1,a1]) gRf
 refine mN2 (Pv.eq (.int .u64 ((IntKind.u64.wrap a.2.2.1).tmod p.N))) 2 25 8 31 (fun w' hw' K hK=> ?_) ?_
 ·go_simp;exact hK _ _ rfl (by first|rfl|simp [C0,b1,a1]) gRf
 refine mN1 (Pv.eq (.int .i64 (fr - 1))) 9 32 (fun w' hw' K hK=> ?_) ?_
 ·go_simp;exact hK _ _ rfl (by first|rfl|simp [C0,b1,a1]) gRf
 refine mN1 (Pv.eq (.int .i64 fr)) 10 33 (fun w' hw' K hK=> ?_) ?_
 ·go_simp;exact hK _ _ rfl (by first|rfl|simp [C0,b1,a1]) gRf
 refine mP1 (.int .i64 fr) 11 34 ?_;intro w3 j1;intro y0 k0 y1 k1 y2 k2
 iterate 9 (refine pD ?_;intro _)
 intro y12 k12;have e12:y12= .int .i64 fr:=k12;subst e12;have j0:Hid (W1.grownBy w3 none):=za (O0.z.trans (M0.z.trans j1));clear k0 k1 k2 j1;refine wpList_nil ?_;simp only [Act.put,sAa,sAb,sAc];obtain ⟨s1,H0⟩:=B0.z w3 j0.z;have z0:Hid (Rw w R (Xe b0 d a0) g0 vl va vd vc g S L nn sts i0 vw w3):=za (I0.z.kept j0.z);have f0:Hid (∀V,w3.grownBy V none→ ∃S' l0 c0 way',Rw w R (Xe b0 d a0) g0 vl va vd vc g S' L (nn+3) c0 way' l0 V∧RGo R all c0 way'):=za (fun V hV=>⟨S,vw,sts,i0,(z0.z.kept hV).up (by omega),u0.z⟩);clear E0 w1 x0 b1 a2 a1 C0 T1 N0 M0 P0 O0;have r1:(a.1=0∨a.1=1)∨a.1=2∨(a.1≠0∧a.1≠1∧a.1≠2):=by omega
 rcases r1 with h01|h2|⟨h0,h1,h2⟩
 ·obtain ⟨Aw,cw,ew, -, -⟩:=z0.z.wy.sl.form;obtain ⟨NW,d1⟩:=exq (i0.length);rw [←d1] at ew;by_cases hz:NW=0
  ·have e1:decide ((0:Int)< (NW:Int))=false:=decide_eq_false (by omega);have Z1: ¬0< NW:=by omega
   subst ew;have HF:=f0;rcases h01 with h0|h1
   ·have p1:(a.1==0)=true:=by simp [h0]
    clear I0 HB L0 u0 q0 HI R0 p0 A0 d1 hz h0;go_wp2_with fail
    first|go_end0|refine bodyPost_ret (results_none rfl _ _ _) rfl ?_
    exact ⟨rfl,f0.z _ (gRr _ _)⟩
   ·have p1:(a.1==0)=false:=by simp [h1]
    have H1:(a.1==1)=true:=by simp [h1]
    clear I0 HB L0 u0 q0 HI R0 p0 A0 d1 hz h1;go_wp2_with fail
    first|go_end0|refine bodyPost_ret (results_none rfl _ _ _) rfl ?_
    exact ⟨rfl,f0.z _ (gRr _ _)⟩
  ·have e1:decide ((0:Int)< (NW:Int))=true:=decide_eq_true (by omega);have Z1:0< NW:=by omega
   have V1:Hid (0< i0.length∧i0.length≤1000):=za ⟨by rw [←d1];omega,by have:=K0.z;omega⟩;have f1:=za (TF w R (Xe b0 d a0) g0 vl va vd vc g S L nn sts i0 vw w3 a.2.1 z0.z V1.z);have d0:Hid (∀V (k:Nat) (hk:k< i0.length) v S' l0,Rw w R (Xe b0 d a0) g0 vl va vd vc g S' L nn sts (ZD i0 k) l0 V→Sl ze (fun _=>True) V v i0[k].2.2.2→(I64 i0[k].1∧I64 i0[k].2.1∧U8 i0[k].2.2.1)→Calls prog 40 #[.pointer (some ⟨g,0,none⟩), .agg #[.int .i64 i0[k].1, .int .i64 i0[k].2.1, .int .u8 i0[k].2.2.1,v]] V fun e W'=>e= .returned (.tuple #[])∧ ∃S' l0 c0 way',Rw w R (Xe b0 d a0) g0 vl va vd vc g S' L (nn+3) c0 way' l0 W'∧RGo R all c0 way'):=za (fun V k hk v S' l0 q1 q2 ⟨q3,q4,q5⟩=>by
    refine (YV w R q0.z (Xe b0 d a0) g0 vl va vd vc g S' L nn sts (ZD i0 k) l0 V _ _ _ _ v _ q1 q2 q3 q4 q5 (by have:=u0.z.inv.way_le q0.z _ (lGm hk);omega) HI.z.2.2 (by have:=Nh hk;have:=V1.z.2;omega)).mono ?_;rintro e W' ⟨rfl,S3,v3,q6⟩;exact ⟨rfl,S3,v3,_,_,q6,(u0.z.give q0.z hk).1⟩)
   have Q0:Hid (Bk w3 B 33 #[.int .u8 a.1, .int .i64 a.2.1, .int .i64 a.2.2.1, .int .i64 a.2.2.2.1, .int .u8 a.2.2.2.2.1, .int .u8 a.2.2.2.2.2.1, .slice An mn cn]∧zw S B):=za ⟨HB.z.1.grown j0.z (by simp),HB.z.2⟩;have m0:Hid (lose=true→ ∀V (k:Nat) (hk:k< i0.length) S' l0,Rw w R (Xe b0 d a0) g0 vl va vd vc g S' L nn sts (ZD i0 k) l0 V→ ∃S' l0 c0 way',Rw w R (Xe b0 d a0) g0 vl va vd vc g S' L (nn+3) c0 way' l0 V∧RGo R all c0 way'):=za (fun hl V k hk S' l0 q=>by
    have ha:all=false:=by
     cases e:all with
     |false=>rfl
     |true=>have:=R0.z e;rw [hl] at this;cases this
    have V0:=u0.z;rw [ha] at V0 ⊢;exact ⟨S',l0,sts,_,q.up (by omega),V0.lose hk⟩)
   subst ew;rcases h01 with h0|h1
   ·have p1:(a.1==0)=true:=by simp [h0]
    clear I0 HB L0 u0 q0 HI R0 p0 A0 d1 hz K0 g1 HP U0 f0 h0;go_wp2_with fail;refine f1.z.mono ?_;rintro e w4 ⟨k,hk,v,S4,v4,rfl,q1,q2,q3,q4⟩;obtain ⟨c1,c2⟩:=q4 B _ _ Q0.z.1 Q0.z.2;have o0:=za (fun V (hg:w4.grownBy V none)=>d0.z V k hk v S4 v4 (q3.kept hg) (q1.kept hg) q2);obtain ⟨Av,mv,cv,rfl⟩:=q1.shape;obtain ⟨ml,S0⟩:=exq (i0[k]);rw [←S0] at o0 ⊢;clear q1 q2 q3 q4 S0 hk;obtain ⟨w5,s0⟩:=exq (w4.alloc (Obj.cells #[.int .i64 ml.1, .int .i64 ml.2.1, .int .u8 ml.2.2.1, .slice Av mv cv] 109));obtain ⟨b5,F0⟩:=exq (w4.heap.size);have D0:w4.grownBy w5 none:=by rw [s0];exact gAl _ _ none
    have v1:=za D0;have N1: ∀o,w5.cell? ⟨b5,o,none⟩=(#[.int .i64 ml.1, .int .i64 ml.2.1, .int .u8 ml.2.2.1, .slice Av mv cv]:Array Value)[o]? :=by
     have h:Bk w5 b5 109 #[.int .i64 ml.1, .int .i64 ml.2.1, .int .u8 ml.2.2.1, .slice Av mv cv]:=by rw [s0,F0];exact Bk.new _ _ _
     exact h.rule
    have M1:=(c1.grown D0 (by simp)).rule;clear c1 c2 D0 f1 d0 m0 Q0 s1 H0;go_upto_region 10 with (fail)
    rw [←s0, ←F0];clear s0 F0;go_wp2_with fail;refine (o0.z w5 v1.z).mono ?_;rintro e w6 ⟨rfl,hx⟩;have HF:=za hx;clear hx o0;go_wp2_with fail
    first|go_end0|refine bodyPost_ret (results_none rfl _ _ _) rfl ?_
    exact ⟨rfl,HF.z⟩
   ·have p1:(a.1==0)=false:=by simp [h1]
    have H1:(a.1==1)=true:=by simp [h1]
    clear I0 HB L0 u0 q0 HI R0 p0 A0 d1 hz K0 g1 HP U0 f0 h1;cases o1:lose with
    |true=>
     rw [o1] at m0;clear o1;have o1:true=true:=rfl;go_wp2_with fail;refine f1.z.mono ?_;rintro e w4 ⟨k,hk,v,S4,v4,rfl,q1,q2,q3,q4⟩;obtain ⟨c1,c2⟩:=q4 B _ _ Q0.z.1 Q0.z.2;have o0:=za (fun V (hg:w4.grownBy V none)=>m0.z o1 V k hk S4 v4 (q3.kept hg));obtain ⟨Av,mv,cv,rfl⟩:=q1.shape;obtain ⟨ml,S0⟩:=exq (i0[k]);rw [←S0];clear q1 q2 q3 q4 S0 hk;obtain ⟨w5,s0⟩:=exq (w4.alloc (Obj.cells #[.int .i64 ml.1, .int .i64 ml.2.1, .int .u8 ml.2.2.1, .slice Av mv cv] 109));obtain ⟨b5,F0⟩:=exq (w4.heap.size);have D0:w4.grownBy w5 none:=by rw [s0];exact gAl _ _ none
     have v1:=za D0;have N1: ∀o,w5.cell? ⟨b5,o,none⟩=(#[.int .i64 ml.1, .int .i64 ml.2.1, .int .u8 ml.2.2.1, .slice Av mv cv]:Array Value)[o]? :=by
      have h:Bk w5 b5 109 #[.int .i64 ml.1, .int .i64 ml.2.1, .int .u8 ml.2.2.1, .slice Av mv cv]:=by rw [s0,F0];exact Bk.new _ _ _
      exact h.rule
     have M1:=(c1.grown D0 (by simp)).rule;clear c1 c2 D0 f1 d0 m0 Q0 s1 H0;go_upto_region 10 with (fail)
     rw [←s0, ←F0];clear s0 F0;go_wp2_with fail
     first|go_end0|refine bodyPost_ret (results_none rfl _ _ _) rfl ?_
     exact ⟨rfl,o0.z w5 v1.z⟩
    |false=>
     clear o1;go_wp2_with fail;refine f1.z.mono ?_;rintro e w4 ⟨k,hk,v,S4,v4,rfl,q1,q2,q3,q4⟩;obtain ⟨c1,c2⟩:=q4 B _ _ Q0.z.1 Q0.z.2;have o0:=za (fun V (hg:w4.grownBy V none)=>d0.z V k hk v S4 v4 (q3.kept hg) (q1.kept hg) q2);obtain ⟨Av,mv,cv,rfl⟩:=q1.shape;obtain ⟨ml,S0⟩:=exq (i0[k]);rw [←S0] at o0 ⊢;clear q1 q2 q3 q4 S0 hk;obtain ⟨w5,s0⟩:=exq (w4.alloc (Obj.cells #[.int .i64 ml.1, .int .i64 ml.2.1, .int .u8 ml.2.2.1, .slice Av mv cv] 109));obtain ⟨b5,F0⟩:=exq (w4.heap.size);have D0:w4.grownBy w5 none:=by rw [s0];exact gAl _ _ none
     have v1:=za D0;have N1: ∀o,w5.cell? ⟨b5,o,none⟩=(#[.int .i64 ml.1, .int .i64 ml.2.1, .int .u8 ml.2.2.1, .slice Av mv cv]:Array Value)[o]? :=by
      have h:Bk w5 b5 109 #[.int .i64 ml.1, .int .i64 ml.2.1, .int .u8 ml.2.2.1, .slice Av mv cv]:=by rw [s0,F0];exact Bk.new _ _ _
      exact h.rule
     have M1:=(c1.grown D0 (by simp)).rule;clear c1 c2 D0 f1 d0 m0 Q0 s1 H0;go_upto_region 10 with (fail)
     rw [←s0, ←F0];clear s0 F0;go_wp2_with fail;refine (o0.z w5 v1.z).mono ?_;rintro e w6 ⟨rfl,hx⟩;have HF:=za hx;clear hx o0;go_wp2_with fail
     first|go_end0|refine bodyPost_ret (results_none rfl _ _ _) rfl ?_
     exact ⟨rfl,HF.z⟩
 ·have p1:(a.1==0)=false:=by simp [h2]
  have H1:(a.1==1)=false:=by simp [h2]
  have b2:(a.1==2)=true:=by simp [h2]
  have T0:=z0.z;obtain ⟨Ad,nd,cd,ed⟩:=T0.ds.shape;subst ed;have t0:Hid (∀V,w3.grownBy V none→(∀o,V.cell? ⟨B,o,none⟩=(#[.int .u8 a.1, .int .i64 a.2.1, .int .i64 a.2.2.1, .int .i64 a.2.2.2.1, .int .u8 a.2.2.2.2.1, .int .u8 a.2.2.2.2.2.1, .slice An mn cn]:Array Value)[o]?)∧ ∀o,V.cell? ⟨g,o,none⟩=(zM p va vw (.slice Ad nd cd) vc)[o]?):=za (fun V hV=>B0.z V (j0.z.trans hV));have n0:Hid (w3.grownBy w3.drew none):=za (zb w3 1);obtain ⟨NS,Z0⟩:=exq (Uh (p19 b0) 7 0 a.2.2.2.2.2.1 [] (Xe b0 d a0) tq);have t1:Hid (∀V,w3.grownBy V none→Calls prog 20 #[.agg #[.int .u8 7, .int .i64 0, .int .u8 a.2.2.2.2.2.1, .slice none 0 0],p.v, .slice Ad nd cd, .int .i64 tq] V fun e W'=> ∃v,e= .returned v∧Sl ze (fun _=>True) W' v NS∧V.grownBy W' none):=za (fun V hV=>by
   obtain ⟨i1,i2,i3,i4,i5,i6⟩:=HI.z.1;rw [HP.z,Z0];refine (YY (p19 b0) 7 0 a.2.2.2.2.2.1 (.slice none 0 0) (.slice Ad nd cd) [] (Xe b0 d a0) tq (fun _=>False) _ V (ZY b0) (by cases b0<;>exact ⟨by decide,by decide⟩) i6 ⟨by decide,by decide⟩ ⟨by decide,by decide⟩ (Sl.nil _ _ _) (z0.z.ds.kept hV) (Qc b0 d a0) (by simp [Xe]) (by rw [←HP.z];exact p0.z.1)).mono ?_;rintro e W' ⟨v,rfl,k1,k2⟩;exact ⟨v,rfl,k1.more fun _ _ _=>trivial,k2⟩)
  have u1:Hid (NS.length≤100000):=za (by rw [Z0];exact JF (by simp) (Qc b0 d a0));have d0:Hid (∀V v,w3.grownBy V none→Sl ze (fun _=>True) V v NS→Calls prog 40 #[.pointer (some ⟨g,0,none⟩), .agg #[.int .i64 0, .int .i64 tq, .int .u8 7,v]] V fun e W'=>e= .returned (.tuple #[])∧ ∃S' l0 c0 way',Rw w R (Xe b0 d a0) g0 vl va (.slice Ad nd cd) vc g S' L (nn+3) c0 way' l0 W'∧RGo R all c0 way'):=za (fun V v hV hv=>by
   have ht:=p0.z.1;have O1:=A0.z;refine (YV w R q0.z (Xe b0 d a0) g0 vl va (.slice Ad nd cd) vc g S L nn sts i0 vw V 0 tq 7 NS v _ (z0.z.kept hV) hv ⟨by decide,by decide⟩ ⟨by omega,by omega⟩ ⟨by decide,by decide⟩ u1.z HI.z.2.2 (by have:=K0.z;omega)).mono ?_;rintro e W' ⟨rfl,S3,v3,q6⟩;exact ⟨rfl,S3,v3,_,_,q6,u0.z.tell q0.z (OV hv.nn)⟩)
  clear I0 HB L0 u0 q0 HI R0 p0 A0 K0 g1 HP U0 f0 B0 j0 G0 u1 Z0 h2 s1 T0;have F1:=(t0.z w3 (gRr _ _)).2;have J1:=(t0.z w3 (gRr _ _)).1;clear H0;go_upto_region 14 with (fail)
  clear F1 J1;refine ZR 16 ?_;refine mP0 (.pointer (some ⟨g,0,none⟩)) ?_;refine mP0 (.int .i64 tq) ?_;refine mP0 (.pointer (some ⟨B,5,none⟩)) ?_;refine mQ1 (.int .u8 a.2.2.2.2.2.1) 2 109 (fun w' hw' K hK=> ?_) ?_
  ·obtain ⟨hb,v0⟩:=t0.z w' (n0.z.trans hw');go_simp;exact hK _ rfl rfl
  refine mP1 (.agg #[.int .u8 7, .int .i64 0, .int .u8 a.2.2.2.2.2.1, .slice none 0 0]) 3 110 ?_;refine mP0 (.pointer (some ⟨g,0,none⟩)) ?_;refine mP1 (.pointer (some ⟨g,0,none⟩)) 5 112 ?_;refine mP1 (.pointer (some ⟨g,0,none⟩)) 6 113 ?_;refine mQ1 (p.v) 7 114 (fun w' hw' K hK=> ?_) ?_
  ·obtain ⟨hb,v0⟩:=t0.z w' (n0.z.trans hw');go_simp;exact hK _ rfl rfl
  refine mP0 (.pointer (some ⟨g,0,none⟩)) ?_;refine mP1 (.pointer (some ⟨g,0,none⟩)) 9 116 ?_;refine mP1 (.pointer (some ⟨g,14,none⟩)) 10 117 ?_;refine mQ1 (.slice Ad nd cd) 11 118 (fun w' hw' K hK=> ?_) ?_
  ·obtain ⟨hb,v0⟩:=t0.z w' (n0.z.trans hw');go_simp;exact hK _ rfl rfl
  refine mP0 (.int .i64 tq) ?_;refine mN4 (Pv.sl ze (fun _=>True) NS) 4 111 8 115 12 119 13 120 (fun w' hw' K hK=> ?_) ?_
  ·go_simp;refine (t1.z w' (n0.z.trans hw')).mono ?_;rintro e w5 ⟨v,rfl,hs3,H0⟩;exact hK _ _ rfl hs3 H0
  refine mV (FS 0 tq 7 (fun _=>True) NS) [(1,108),(14,121)] (fun w' hw'=>pQ (fun x121 J0=>kD fun K hK=> ?_)) ?_
  ·have J0:Sl ze (fun _=>True) w' x121 NS:=J0;obtain ⟨A121,n121,c121,e121⟩:=J0.shape;subst e121;go_simp;exact hK _ _ rfl ⟨_,rfl,J0⟩ gRf
  intro w4 n1;intro y0 k0 y1 k1 y2 k2
  iterate 12 (refine pD ?_;intro _)
  intro y15 k15;have e0:y0= .pointer (some ⟨g,0,none⟩):=k0;obtain ⟨u,e15,hu⟩:=k15;subst e0 e15;have o0:=za (d0.z w4 u (n0.z.trans n1) hu);obtain ⟨Au,nu,cu,eu⟩:=hu.shape;subst eu;clear k1 k2 n1 hu d0 t1 t0 n0;show wpList _ _ _ _ _ _;simp only [Act.put,sAa,sAb,sAc];go_wp2_with fail;refine o0.z.mono ?_;rintro e w6 ⟨rfl,hx⟩;have HF:=za hx;clear hx o0;go_wp2_with fail
  first|go_end0|refine bodyPost_ret (results_none rfl _ _ _) rfl ?_
  exact ⟨rfl,HF.z⟩
 ·have p1:(a.1==0)=false:=by simp [h0]
  have H1:(a.1==1)=false:=by simp [h1]
  have b2:(a.1==2)=false:=by simp [h2]
  clear h0 h1 h2;have T0:=z0.z;obtain ⟨Ad,nd,cd,ed⟩:=T0.ds.shape;subst ed;obtain ⟨Aa,ca,eal, -, -⟩:=T0.al.form;rw [yP] at eal;subst eal;obtain ⟨NL,K1⟩:=exq (L.length);have w0:=za K1;have U1:=T0.len;rw [U0.z] at U1;have z1:=p0.z.2;obtain ⟨kf,D1⟩: ∃z:Nat,(z:Int)+1=fr:=⟨(fr - 1).toNat,by omega⟩;have X0:kf< L.length:=by omega
  have j2:(kf:Int)< (NL:Int):=by omega
  have l2:(0:Int)≤(kf:Int):=iNn kf;have g2:IntKind.i64.wrap (fr - 1)=(kf:Int):=by rw [i6n _ (by have:=A0.z;omega)];omega
  obtain ⟨ga,oa,ca',ea, -, -,Y0⟩:=T0.al.atAO (k:=kf) (by rw [yP];exact X0);rw [xt R L X0,D1] at Y0;injection ea with ea1 ea2 ea3
  subst ea1;clear ea2 ea3;rw [←K1] at H0 f0 z0 B0;clear T0 U1 K1;cases hh:R.hon fr with
  |true=>
   rw [hh,if_pos rfl] at Y0;have I1:w3.cell? ⟨ga,oa+kf,none⟩=some (.pointer (some ⟨(L[kf]'X0).1,0,none⟩)):=Y0;obtain ⟨gL,R1⟩:=exq ((L[kf]'X0).1);rw [←R1] at I1;clear Y0 R1 X0 z1 D1 hh;clear I0 HB L0 u0 q0 HI R0 p0 A0 K0 g1 HP U0 B0 j0 G0 z0;go_wp2_with fail
   first|go_end0|refine bodyPost_ret (results_none rfl _ _ _) rfl ?_
   exact ⟨rfl,by rw [←w0.z];exact f0.z _ (gRr _ _)⟩
  |false=>
   rw [hh,if_neg (by simp)] at Y0;have I1:w3.cell? ⟨ga,oa+kf,none⟩=some (.pointer none):=Y0;have Y1:=za hh;clear Y0 X0 z1 D1 hh;by_cases hk:a.2.2.2.2.1=8∨a.2.2.2.2.1=9
   ·have t0:Hid (∀V,w3.grownBy V none→(∀o,V.cell? ⟨B,o,none⟩=(#[.int .u8 a.1, .int .i64 a.2.1, .int .i64 a.2.2.1, .int .i64 a.2.2.2.1, .int .u8 a.2.2.2.2.1, .int .u8 a.2.2.2.2.2.1, .slice An mn cn]:Array Value)[o]?)∧ ∀o,V.cell? ⟨g,o,none⟩=(zM p (.slice (some ⟨ga,oa,none⟩) NL ca) vw (.slice Ad nd cd) vc)[o]?):=za (fun V hV=>B0.z V (j0.z.trans hV));have n0:Hid (w3.grownBy w3.drew none):=za (zb w3 1);obtain ⟨NS,Z0⟩:=exq (Uh (p19 b0) a.2.2.2.2.1 fr a.2.2.2.2.2.1 a.2.2.2.2.2.2 (Xe b0 d a0) tq);have t1:Hid (∀V,w3.grownBy V none→Calls prog 20 #[.agg #[.int .u8 a.2.2.2.2.1, .int .i64 fr, .int .u8 a.2.2.2.2.2.1, .slice An mn cn],p.v, .slice Ad nd cd, .int .i64 tq] V fun e W'=> ∃v,e= .returned v∧Sl ze (fun _=>True) W' v NS∧V.grownBy W' none):=za (fun V hV=>by
     obtain ⟨i1,i2,i3,i4,i5,i6⟩:=HI.z.1;have O1:=A0.z;have X1:=p0.z.2;rw [HP.z,Z0];refine (YY (p19 b0) a.2.2.2.2.1 fr a.2.2.2.2.2.1 (.slice An mn cn) (.slice Ad nd cd) a.2.2.2.2.2.2 (Xe b0 d a0) tq Y _ V (ZY b0) (by cases b0<;>exact ⟨by decide,by decide⟩) i6 i5 ⟨by omega,by omega⟩ (L0.z.kept (j0.z.trans hV)) (z0.z.ds.kept hV) (Qc b0 d a0) (by simp [Xe]) (by rw [←HP.z];exact p0.z.1)).mono ?_;rintro e W' ⟨v,rfl,k1,k2⟩;exact ⟨v,rfl,k1.more fun _ _ _=>trivial,k2⟩)
    have u1:Hid (NS.length≤100000):=za (by rw [Z0];exact JF HI.z.2.1 (Qc b0 d a0));have d0:Hid (∀V v,w3.grownBy V none→Sl ze (fun _=>True) V v NS→Calls prog 40 #[.pointer (some ⟨g,0,none⟩), .agg #[.int .i64 fr, .int .i64 tq, .int .u8 a.2.2.2.2.1,v]] V fun e W'=>e= .returned (.tuple #[])∧ ∃S' l0 c0 way',Rw w R (Xe b0 d a0) g0 vl (.slice (some ⟨ga,oa,none⟩) NL ca) (.slice Ad nd cd) vc g S' L (nn+3) c0 way' l0 W'∧RGo R all c0 way'):=za (fun V v hV hv=>by
     have ht:=p0.z.1;have X1:=p0.z.2;have O1:=A0.z;refine (YV w R q0.z (Xe b0 d a0) g0 vl _ (.slice Ad nd cd) vc g S L nn sts i0 vw V fr tq a.2.2.2.2.1 NS v _ (z0.z.kept hV) hv ⟨by omega,by omega⟩ ⟨by omega,by omega⟩ HI.z.1.2.2.2.2.1 u1.z HI.z.2.2 (by have:=K0.z;omega)).mono ?_;rintro e W' ⟨rfl,S3,v3,q6⟩;exact ⟨rfl,S3,v3,_,_,q6,u0.z.tell q0.z (JQ Y1.z hv.nn)⟩)
    have f2:(a.2.2.2.2.1==8)=true∨((a.2.2.2.2.1==8)=false∧(a.2.2.2.2.1==9)=true):=by
     rcases hk with h|h
     ·exact .inl (by simp [h])
     ·exact .inr ⟨by simp [h],by simp [h]⟩
    clear hk I0 HB L0 u0 q0 HI R0 p0 A0 K0 g1 HP U0 f0 B0 j0 G0 u1 Z0 Y1;rcases f2 with Q1|⟨Q1,E1⟩
    all_goals
     go_upto_region 5 with (fail)
     clear s1 H0 I1;refine ZR 24 ?_;refine mP0 (.pointer (some ⟨g,0,none⟩)) ?_;refine mP0 (.int .i64 fr) ?_;refine mP0 (.int .i64 tq) ?_;refine mP0 (.pointer (some ⟨B,4,none⟩)) ?_;refine mQ1 (.int .u8 a.2.2.2.2.1) 3 59 (fun w' hw' K hK=> ?_) ?_
     ·obtain ⟨hb,v0⟩:=t0.z w' (n0.z.trans hw');go_simp;exact hK _ rfl rfl
     refine mP0 (.pointer (some ⟨B,4,none⟩)) ?_;refine mQ1 (.int .u8 a.2.2.2.2.1) 5 61 (fun w' hw' K hK=> ?_) ?_
     ·obtain ⟨hb,v0⟩:=t0.z w' (n0.z.trans hw');go_simp;exact hK _ rfl rfl
     refine mP0 (.int .i64 fr) ?_;refine mP0 (.pointer (some ⟨B,5,none⟩)) ?_;refine mQ1 (.int .u8 a.2.2.2.2.2.1) 8 64 (fun w' hw' K hK=> ?_) ?_
     ·obtain ⟨hb,v0⟩:=t0.z w' (n0.z.trans hw');go_simp;exact hK _ rfl rfl
     refine mP0 (.pointer (some ⟨B,6,none⟩)) ?_;refine mQ1 (.slice An mn cn) 10 66 (fun w' hw' K hK=> ?_) ?_
     ·obtain ⟨hb,v0⟩:=t0.z w' (n0.z.trans hw');go_simp;exact hK _ rfl rfl
     refine mP4 (.agg #[.int .u8 a.2.2.2.2.1, .int .i64 fr, .int .u8 a.2.2.2.2.2.1, .slice An mn cn]) 6 62 7 63 9 65 11 67 ?_;refine mP0 (.pointer (some ⟨g,0,none⟩)) ?_;refine mP1 (.pointer (some ⟨g,0,none⟩)) 13 69 ?_;refine mP1 (.pointer (some ⟨g,0,none⟩)) 14 70 ?_;refine mQ1 (p.v) 15 71 (fun w' hw' K hK=> ?_) ?_
     ·obtain ⟨hb,v0⟩:=t0.z w' (n0.z.trans hw');go_simp;exact hK _ rfl rfl
     refine mP0 (.pointer (some ⟨g,0,none⟩)) ?_;refine mP1 (.pointer (some ⟨g,0,none⟩)) 17 73 ?_;refine mP1 (.pointer (some ⟨g,14,none⟩)) 18 74 ?_;refine mQ1 (.slice Ad nd cd) 19 75 (fun w' hw' K hK=> ?_) ?_
     ·obtain ⟨hb,v0⟩:=t0.z w' (n0.z.trans hw');go_simp;exact hK _ rfl rfl
     refine mP0 (.int .i64 tq) ?_;refine mN4 (Pv.sl ze (fun _=>True) NS) 12 68 16 72 20 76 21 77 (fun w' hw' K hK=> ?_) ?_
     ·go_simp;refine (t1.z w' (n0.z.trans hw')).mono ?_;rintro e w5 ⟨v,rfl,hs3,H0⟩;exact hK _ _ rfl hs3 H0
     refine mV (FS fr tq a.2.2.2.2.1 (fun _=>True) NS) [(1,57),(2,58),(4,60),(22,78)] (fun w' hw'=>pQ (pQ (pQ (fun x78 C1=>kD fun K hK=> ?_)))) ?_
     ·have C1:Sl ze (fun _=>True) w' x78 NS:=C1;obtain ⟨A78,n78,c78,e78⟩:=C1.shape;subst e78;go_simp;exact hK _ _ rfl ⟨_,rfl,C1⟩ gRf
     intro w4 n1;intro y0 k0
     iterate 22 (refine pD ?_;intro _)
     intro y23 k23;have e0:y0= .pointer (some ⟨g,0,none⟩):=k0;obtain ⟨u,e23,hu⟩:=k23;subst e0 e23;have o0:=za (d0.z w4 u (n0.z.trans n1) hu);obtain ⟨Au,nu,cu,eu⟩:=hu.shape;subst eu;clear n1 hu d0 t1 t0 n0;show wpList _ _ _ _ _ _;simp only [Act.put,sAa,sAb,sAc];go_wp2_with fail;refine o0.z.mono ?_;rintro e w6 ⟨rfl,hx⟩;have HF:=za hx;clear hx o0;go_wp2_with fail
     first|go_end0|refine bodyPost_ret (results_none rfl _ _ _) rfl ?_
     exact ⟨rfl,by rw [←w0.z];exact HF.z⟩
   ·have Q1:(a.2.2.2.2.1==8)=false:=by simp;exact fun e=>hk (.inl e)
    have E1:(a.2.2.2.2.1==9)=false:=by simp;exact fun e=>hk (.inr e)
    clear hk;clear I0 HB L0 u0 q0 HI R0 p0 A0 K0 g1 HP U0 B0 j0 G0 z0;go_wp2_with fail
    first|go_end0|refine bodyPost_ret (results_none rfl _ _ _) rfl ?_
    exact ⟨rfl,by rw [←w0.z];exact f0.z _ (gRr _ _)⟩
end
section
open Go Go.RowKit Go.Shelf Go.Maps
def CO(xs:List Ts)(w:World)(e:Ending)(w':World):Prop:= ∃B:Bool,e= .returned (.bool B)∧(B=false→xs.length≤150∧ ∀x∈xs,x.2.2.2.2.2.2.length< 3000)∧w=w'
theorem Rk(v:Value)(xs:List Ts)(X:Nat→Prop)(w:World)(hs:Sl Yc X w v xs)(b1:xs.length≤17592186044415)(b2: ∀x∈xs,x.2.2.2.2.2.2.length≤17592186044415):
  Calls prog 9 #[v] w (CO xs w):=by
 have HS:=za hs;have s0:=za b2;obtain ⟨A,c,rfl,q0,D0⟩:=hs.form;obtain ⟨L,hL⟩:=exq (xs.length);have f0:=za hL;rw [←hL] at b1 q0 HS ⊢;clear hs b2 hL;go_enter func9,ntmps9;go_wp2_with fail;go_loopg [3,4] L (fun gk s3 s4 wx=> ∃i n:Nat,i+gk=L∧s4= .int .i64 i∧s3= .int .i64 n∧n≤20000000000000∧Hid (w=wx∧20*i≤n∧ ∀x∈xs.take i,x.2.2.2.2.2.2.length≤n))
 case atStart=>exact ⟨0,0,by omega,rfl,rfl,by omega,za ⟨rfl,by omega,by simp⟩⟩
 case round=>
  obtain ⟨i,n,k0,rfl,rfl,y0,HX⟩:=hrel;obtain rfl:w=wr:=HX.z.1;by_cases j0:i< L∧n< 3000
  case neg=>
   have HR:Hid (n< 3000→xs.length≤150∧ ∀x∈xs,x.2.2.2.2.2.2.length< 3000):=za (fun hn=>by
    obtain ⟨_,h2,h3⟩:=HX.z;have h4:i=L:=by omega
    rw [List.take_of_length_le (by rw [←f0.z];omega)] at h3;exact ⟨by rw [←f0.z];omega,fun x hx=>by have:=h3 x hx;omega⟩)
   have p0:((i:Int)< (L:Int)∧ ¬((n:Int)< 3000))∨ ¬((i:Int)< (L:Int)):=by omega
   clear k0 j0 HX;rcases p0 with ⟨hjL,hn1⟩|hjL
   all_goals
    go_wp2;go_ret;refine ⟨_,rfl,fun hB=>HR.z ?_,rfl⟩
    first|(exact Bool.noConfusion hB)|(have F0:=of_decide_eq_false hB;omega)
  obtain ⟨l0,z0⟩:=j0;have A0:(i:Int)< (L:Int):=by omega
  have v0:(n:Int)< 3000:=by omega
  have B0:(0:Int)≤(i:Int):=iNn i;have c0:i< xs.length:=by rw [←f0.z];omega
  obtain ⟨g,o,c2,cs,e,n0,m0,⟨u,rfl,r0,g0⟩,a0⟩:=HS.z.atAct c0;injection e with e1 e2 e3
  subst e1;clear e2 e3;have C0:w.cell? ⟨g,o+i*7+6,none⟩=some u:=a0 6 _ rfl;obtain ⟨Au,cu,eu,b0,o0⟩:=g0.form;have i0:=s0.z _ (lGm c0);obtain ⟨x,hx⟩:=exq (xs[i]);have d0:Hid (20*(i+1)≤n+20∧ ∀q:Nat,n≤q→x.2.2.2.2.2.2.length≤q→ ∀d∈xs.take (i+1),d.2.2.2.2.2.2.length≤q):=za ⟨by have:=HX.z.2.1;omega,fun q hq h=>Gt c0 (fun d hd=>by have:=HX.z.2.2 d hd;omega) (by rw [←hx];exact h)⟩;rw [←hx] at eu b0 i0;obtain ⟨M,hM⟩:=exq (x.2.2.2.2.2.2.length);rw [←hM] at eu b0 i0 d0;subst eu;clear g0 HX a0 n0 m0 hx hM r0 c0;have u0:IntKind.i64.wrap ((n:Int)+20)=(n:Int)+20:=i6n _ (by omega);have t0:IntKind.i64.wrap ((n:Int)+20+(M:Int))=(n:Int)+20+(M:Int):=i6n _ (by omega);go_wp2_with fail;go_roundg (gk - 1)
  case measure=>omega
  case rel=>exact ⟨i+1,n+20+M,by omega,by go_num,by go_num,by omega,za ⟨rfl,by have:=d0.z.1;omega,d0.z.2 _ (by omega) (by omega)⟩⟩
theorem Is(w:World)(R:Rmm)(hR:R.ok)(all:Bool)(ds:List Dl)(c0:List Ts)(vl va vd vc:Value)(g:Nat)(S:List Nat)(L:List (Nat×Nat))(nn:Nat)(sts:Int→ASt)(j0:List yB)(vw:Value)(W:World)(x:Int)(h:Rw w R ds c0 vl va vd vc g S L nn sts j0 vw W)(k0:RGo R all sts j0)(hn:nn< 100000):
  Calls prog 14 #[.pointer (some ⟨g,0,none⟩), .int .i64 x] W fun e W'=>e= .returned (.tuple #[])∧ ∃S' f0 a0,Rw w R ds c0 vl va vd vc g S' L (nn+300) a0 [] f0 W'∧RGo R all a0 []:=by
 have g0:=za hR;have p0:=za hn;have l0:Hid (∃S' f0 a0 way',Rw w R ds c0 vl va vd vc g S' L (nn+3*0) a0 way' f0 W∧RGo R all a0 way'∧R.mu a0 way'≤84 - 0):=za ⟨S,vw,sts,j0,h,k0,by have:=k0.mu;omega⟩;clear h k0 hR hn;go_enter func14,ntmps14;go_wp2_with fail;go_loopg [4] 84 (fun gk s4 wx=> ∃i:Nat,i+gk=84∧s4= .int .i64 i∧Hid (∃S' f0 a0 way',Rw w R ds c0 vl va vd vc g S' L (nn+3*i) a0 way' f0 wx∧RGo R all a0 way'∧R.mu a0 way'≤84 - (i:Int)))
 case atStart=>exact ⟨0,by omega,rfl,l0⟩
 case round=>
  obtain ⟨i,hi,rfl,HX⟩:=hrel;obtain ⟨S1,v1,d0,b0,h1,h2,h3⟩:=HX.z;have n0:=Rmm.mu_nonneg (R:=R) (by obtain ⟨_,_,_,u0,t0,_⟩:=zt g0.z.may;omega) d0 b0;have q0:(i:Int)< 1000:=by omega
  have r0:(0:Int)≤(i:Int):=iNn i;obtain ⟨Aw,cw,ew, -, -⟩:=h1.wy.sl.form;subst ew;obtain ⟨N,hN⟩:=exq (b0.length);have hr:=h1.bk.rule;rw [←hN] at hr h1;by_cases h0:N=0
  ·have e0:b0= []:=List.eq_nil_of_length_eq_zero (by rw [←hN];exact h0);subst e0 h0;have HF:Hid (∃S' f0 a0,Rw w R ds c0 vl va vd vc g S' L (nn+300) a0 [] f0 wr∧RGo R all a0 []):=za ⟨S1,_,d0,h1.up (by omega),h2⟩;clear HX l0 h1 h2 h3 n0 hN;go_wp2
   first|go_end0|refine bodyPost_ret (results_none rfl _ _ _) rfl ?_
   exact ⟨rfl,HF.z⟩
  ·have v0:(0:Int)< (N:Int):=by omega
   have s0:0< gk:=by omega
   have HW:Hid (0< b0.length∧b0.length≤1000):=za ⟨by rw [←hN];omega,by rw [←hN];omega⟩;have HT:=za (fun y:Int=>TF w R ds c0 vl va vd vc g S1 L (nn+3*i) d0 b0 _ wr y h1 HW.z);have i0:Hid (RGo R all d0 b0∧R.mu d0 b0≤84 - (i:Int)):=za ⟨h2,h3⟩;clear HX l0 h1 h2 h3 n0 hN h0;go_wp2_with fail;refine (HT.z _).mono ?_;rintro e w2 ⟨k,hk,v,S2,v2,rfl,q1,⟨q2,q3,q4⟩,q5,_⟩;have HG:Hid (RGo R all (R.tell d0 (ZD b0 k) (b0[k].1,b0[k].2.1,b0[k].2.2.1,b0[k].2.2.2)).1 (R.tell d0 (ZD b0 k) (b0[k].1,b0[k].2.1,b0[k].2.2.1,b0[k].2.2.2)).2∧R.mu (R.tell d0 (ZD b0 k) (b0[k].1,b0[k].2.1,b0[k].2.2.1,b0[k].2.2.2)).1 (R.tell d0 (ZD b0 k) (b0[k].1,b0[k].2.1,b0[k].2.2.1,b0[k].2.2.2)).2+1≤R.mu d0 b0):=za (i0.z.1.give g0.z hk);have o0:=za (YV w R g0.z ds c0 vl va vd vc g S2 L (nn+3*i) d0 (ZD b0 k) v2 w2 _ _ _ _ v _ q5 q1 q2 q3 q4 (by have:=i0.z.1.inv.way_le g0.z _ (lGm hk);omega) (xj _ (by have:=p0.z;omega)) (by have:=Nh hk;have:=HW.z.2;omega));obtain ⟨Av,mv,cv,rfl⟩:=q1.shape;clear q1 q2 q3 q4 q5 HT hr;go_wp2_with fail;refine o0.z.mono ?_;rintro e w3 ⟨rfl,S3,v3,q6⟩;have m0:Hid (∃S' f0 a0 way',Rw w R ds c0 vl va vd vc g S' L (nn+3*(i+1)) a0 way' f0 w3∧RGo R all a0 way'∧R.mu a0 way'≤84 - ((i+1:Nat):Int)):=za ⟨S3,v3,_,_,q6.up (by omega),HG.z.1,by have:=HG.z.2;have:=i0.z.2;omega⟩;clear q6 HG o0 i0 HW;go_wp2_with fail;go_roundg (gk - 1)
   case measure=>omega
   case rel=>exact ⟨i+1,by omega,by go_num,m0⟩
end
end Go.Proofs.YtkdfjkdphdfclaaGreatDoor

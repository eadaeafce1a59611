/- Part 16 of the proof of a card of AvssAnew. -/
import Derived.Test.YtkdfjkdphdfclaaGreatDoorV12
import Derived.Test.YtkdfjkdphdfclaaGreatDoorV13
import Derived.Test.YtkdfjkdphdfclaaGreatDoorV14
import Derived.Test.YtkdfjkdphdfclaaGreatDoorV15
set_option maxRecDepth 100000
set_option maxHeartbeats 16000000
set_option linter.unusedVariables false
set_option linter.unusedSimpArgs false
namespace Go.Proofs.YtkdfjkdphdfclaaGreatDoor
open Tryz
section
open Go Go.RowKit Go.Shelf Go.Maps
attribute [local go_sem] Oper.semAt_some
theorem UX(E:zy)(gA gM:Nat)(vc vd vo:Value)(dn:Bool)(i:Int)(v:Value)(l:List Int)(X Y:Nat→Prop)(w:World)(hE:E.ok)(hb:Bk w gA 125 (zz E vc vd vo gM dn))(hc:Sl (zh ze) X w vc E.coms)(h:Sl ze Y w v l)(hl:l.length≤100000)(hi:1≤i∧i≤E.p.N):
  Calls prog 119 #[.pointer (some ⟨gA,0,none⟩), .int .i64 i,v] w (XV w (zi E i l).1 (zi E i l).2):=by
 obtain ⟨Al,nl,cl,rfl⟩:=h.shape;have HE:=za hE;have HB:=za hb;obtain ⟨_,_,_,hN1,hN2,_,hT1,hT2,_⟩:=zx hE.may;have hde:=hE.me;have HO:=za (PN E gA gM vc vd vo dn (.slice Al nl cl) l 1 X Y w hE hb hc h hl ⟨by decide,by decide⟩);have hr:=hb.rule;have HD:Hid (U64 E.me∧U64 i):=za ⟨⟨by omega,by omega⟩,⟨by omega,by omega⟩⟩;have eD:IntKind.u64.wrap E.me=E.me:=IntWalk.u64_in _ (by omega);have eI:IntKind.u64.wrap i=i:=IntWalk.u64_in _ (by omega);have HW1:Hid ((zi E i l).1=(zA E l 1).1):=za rfl;have HSH:Hid ((zA E l 1).2=true→ZE (xY E.p).toNat (E.p.T+1).toNat 1 (zA E l 1).1∧(xY E.p).toNat≤10∧(E.p.T+1).toNat≤3):=za (fun h=>by
  have h0:Uy E.p l.length 1=0:=by
   simp only [zA,Bool.and_eq_true,decide_eq_true_eq] at h;exact h.1
  obtain ⟨a,_,_,b,c,_⟩:=Vg h0;exact ⟨a,b,c⟩)
 have HW2:Hid ((zi E i l).2=((zA E l 1).2 && Xa E.p (zD E.p (zA E l 1).1.m i) E.me (zv (zA E l 1).1.a) && Xa E.p (zD E.p (zA E l 1).1.m E.me) i (zv (zA E l 1).1.b))):=za rfl;rw [HW1.z,HW2.z];clear hE hc hb h hl hN1 hN2 hT1 hT2 hde HW1 HW2 hi;obtain ⟨x,hx⟩:=exq ((zA E l 1).1);obtain ⟨ok,hok⟩:=exq ((zA E l 1).2);rw [←hx, ←hok] at HO HSH;rw [←hx, ←hok];clear hx hok;cases ok with
 |false=>
  rw [Bool.false_and,Bool.false_and];exact Iy E gA gM vc vd vo dn i Al nl cl w x HE HB hr HD eD eI HO
 |true=>
  have HL:Hid (x.m.length≤100000∧(∀l∈x.m,l.length≤100000∧ ∀c∈l,c.length≤100000)∧(x.a.length≤100000∧x.b.length≤100000)∧(∀c∈x.a,c≠ [])∧ ∀c∈x.b,c≠ []):=za (by
   obtain ⟨⟨m,a,b⟩,h1,h2⟩:=HSH.z rfl;exact ⟨by rw [m.1];omega,fun f hf=>⟨by rw [(m.2 f hf).1];omega,fun r hr=>by rw [(m.2 f hf).2 r hr];omega⟩,⟨by rw [a.1];omega,by rw [b.1];omega⟩,(fun c hc e=>by have:=a.2 c hc;rw [e] at this;cases this),(fun c hc e=>by have:=b.2 c hc;rw [e] at this;cases this)⟩)
  rw [Bool.true_and];cases hrb:Xa E.p (zD E.p x.m i) E.me (zv x.a) with
  |false=>
   rw [Bool.false_and];exact Ix E gA gM vc vd vo dn i Al nl cl w x HE HB hr HD eD eI HO HL (za hrb)
  |true=>
   rw [Bool.true_and];exact Iz E gA gM vc vd vo dn i Al nl cl w x HE HB hr HD eD eI HO _ HL (za hrb) (za rfl)
end
section
open Go Go.RowKit Go.Shelf Go.Maps
theorem Ta(E:zy)(gA gM:Nat)(vc vd vo:Value)(dn:Bool)(w:World)(hb:Bk w gA 125 (zz E vc vd vo gM dn)):Calls prog 31 #[.pointer (some ⟨gA,0,none⟩)] w fun e w'=>e= .returned (.bool dn)∧w'=w:=by
 have hr:=hb.rule;clear hb;go_enter func31,ntmps31;go_wp2;go_ret;exact ⟨rfl,rfl⟩
def Ci(w:World)(l:List (Int×Int))(c:List (List Int))(e:Ending)(w':World):Prop:= ∃v1 v2,e= .returned (.tuple #[v1,v2, .bool true])∧Sl zq (fun g=>w.heap.size≤g) w' v1 l∧Sl (zh ze) (fun g=>w.heap.size≤g) w' v2 c∧w.grownBy w' none
attribute [local go_sem] Oper.semAt_some
theorem Mi(E:zy)(st:ASt)(gA gM nn:Nat)(o:zw)(X:Nat→Prop)(w:World)(hE:E.ok)(hA:AvW X gA gM nn E st w)(hd:st.done=true)(ho:st.own=some o)(m0:yP o):
  Calls prog 26 #[.pointer (some ⟨gA,0,none⟩)] w (Ci w (o.a.map (atP E.p.Q 0)) (Tl o.m)):=by
 obtain ⟨⟨vc,vd,vo,hb,_,_,J0⟩,_,_⟩:=hA;rw [hd] at hb;rw [ho] at J0;obtain ⟨b,rfl,vm,va,vb,_,B0,s1,s2,_⟩:=J0;have HD:=za (Ta E gA gM vc vd _ true w hb);have HB:=za hb;have T0:=za B0;have hr:=hb.rule;have y0:=B0.rule;have E0:=za m0;obtain ⟨m,hm⟩:=exq (o.m);have R0:Hid (m.length≤10∧ ∀f∈m,f.length≤3∧ ∀r∈f,1≤r.length∧r.length≤3):=za (by rw [hm];exact m0.m);obtain ⟨PT,C0⟩:=exq (o.a.map (atP E.p.Q 0));have b1:Hid (∀W,w.grownBy W none→Calls prog 38 #[va, .int .u64 0, .int .u64 E.p.Q] W (zN zq (fun g=>W.heap.size≤g) W PT)):=za (fun W hW=>by
  rw [C0];exact Vo va o.a 0 E.p.Q X W (s2.kept hW) ⟨by decide,by decide⟩ (by have:=m0.a.1;omega) (fun c hc=>by have:=m0.a.2 c hc;omega))
 obtain ⟨Aa,na,ca,rfl⟩:=s2.shape;rw [←hm] at s1 ⊢;rw [←C0];have HM:=za s1;obtain ⟨Am,cm,rfl,Z0,l1⟩:=s1.form;obtain ⟨N,hN⟩:=exq (m.length);have Q0:=za hN;have e0:N≤10:=by have:=R0.z.1;omega
 rw [←hN] at Z0 T0 y0 HM;clear hE hd ho m0 hb B0 s1 s2 hm C0 E0 hN;unfold Tl;go_enter func26,ntmps26;go_wp2_with (refine HD.z.mono ?_;rintro e w1 ⟨rfl,ew⟩;subst w1);go_loopg [5,22] N (fun g s5 s22 wx=> ∃j:Nat,j+g=N∧s22= .int .i64 j∧Hid (Acc (zh ze) w.heap.size 31 (fun g=>w.heap.size≤g) wx s5 ((m.take j).map fun f=>f.map fun a0=>a0.headD 0)∧w.grownBy wx none))
 case atStart=>exact ⟨0,by omega,rfl,za ⟨Acc.nil _ _ _ _ _,gRf⟩⟩
 case round=>
  rename World=>wr0
  obtain ⟨s,hs,rfl,HX⟩:=hrel;cases gk with
  |zero=>
   obtain rfl:s=N:=by omega
   have HR:Hid (Sl (zh ze) (fun g=>w.heap.size≤g) wr0 u5 (m.map fun f=>f.map fun a0=>a0.headD 0)∧w.grownBy wr0 none):=za ⟨by have:=HX.z.1.sl;rwa [List.take_of_length_le (by rw [←Q0.z];exact nRf _)] at this,HX.z.2⟩;clear HX hr y0;have F0:Hid (∀w',wr0.grownBy w' none→(∀o,w'.cell? ⟨gA,o,none⟩=(zz E vc vd (.pointer (some ⟨b,0,none⟩)) gM true)[o]?)∧ ∀o,w'.cell? ⟨b,o,none⟩=(#[.slice Am s cm, .slice Aa na ca,vb]:Array Value)[o]?):=za (fun w' hw'=>⟨(HB.z.grown (HR.z.2.trans hw') (by simp)).rule,(T0.z.grown (HR.z.2.trans hw') (by simp)).rule⟩);have j0:Hid (wr0.grownBy wr0.drew none):=za (zb wr0 1);obtain ⟨A5,n5,c5,e5⟩:=HR.z.1.shape;subst e5;go_upto_region 15 with (fail)
   refine ZF 17 ?_;refine mP0 (.pointer (some ⟨gA,0,none⟩)) ?_;refine mP1 (.pointer (some ⟨gA,0,none⟩)) 0 44 ?_;refine mP1 (.pointer (some ⟨gA,16,none⟩)) 1 45 ?_;refine mQ1 (.pointer (some ⟨b,0,none⟩)) 2 46 (fun w' hw' K hK=> ?_) ?_
   ·obtain ⟨hc,M0⟩:=F0.z w' (j0.z.trans hw');go_simp;exact hK _ rfl rfl
   refine mP1 (.pointer (some ⟨b,0,none⟩)) 3 47 ?_;refine mP1 (.pointer (some ⟨b,1,none⟩)) 4 48 ?_;refine mQ1 (.slice Aa na ca) 5 49 (fun w' hw' K hK=> ?_) ?_
   ·obtain ⟨hc,M0⟩:=F0.z w' (j0.z.trans hw');go_simp;exact hK _ rfl rfl
   refine mP0 (.pointer (some ⟨gA,0,none⟩)) ?_;refine mP1 (.pointer (some ⟨gA,0,none⟩)) 7 51 ?_;refine mP1 (.pointer (some ⟨gA,0,none⟩)) 8 52 ?_;refine mP1 (.pointer (some ⟨gA,1,none⟩)) 9 53 ?_;refine mQ1 (.int .u64 E.p.Q) 10 54 (fun w' hw' K hK=> ?_) ?_
   ·obtain ⟨hc,M0⟩:=F0.z w' (j0.z.trans hw');go_simp;exact hK _ rfl rfl
   refine mN2 (Pv.sl zq (fun g=>w.heap.size≤g) PT) 6 50 11 55 (fun w' hw' K hK=> ?_) ?_
   ·go_simp;refine (b1.z w' (HR.z.2.trans (j0.z.trans hw'))).mono ?_;rintro e w3 ⟨v,rfl,hs3,hg3⟩;exact hK _ _ rfl (hs3.more fun g _ hg=>nLT (HR.z.2.trans (j0.z.trans hw')).size hg) hg3
   refine mP0 (.slice A5 n5 c5) ?_;refine mV (Pv.sl zq (fun g=>w.heap.size≤g) PT) [(12,56)] (fun w' hw' x56 D0=>kD fun K hK=> ?_) ?_
   ·have D0:Sl zq (fun g=>w.heap.size≤g) w' x56 PT:=D0;go_simp;exact hK _ _ rfl D0 gRf
   refine mP1 (.slice A5 n5 c5) 13 57 ?_;refine mP0 (.bool true) ?_;intro w3 u0
   iterate 14 (refine pD ?_;intro _)
   intro y14 k14 y15 k15 y16 k16;have e14:Sl zq (fun g=>w.heap.size≤g) w3 y14 PT:=k14;have e15:y15= .slice A5 n5 c5:=k15;have e16:y16= .bool true:=k16;subst e15 e16;have HF:Hid (Sl zq (fun g=>w.heap.size≤g) w3 y14 PT∧Sl (zh ze) (fun g=>w.heap.size≤g) w3 (.slice A5 n5 c5) (m.map fun f=>f.map fun a0=>a0.headD 0)∧w.grownBy w3 none):=za ⟨e14,HR.z.1.kept (j0.z.trans u0),HR.z.2.trans (j0.z.trans u0)⟩;clear k14 k15 k16 e14 u0;refine wpList_nil ?_;simp only [Act.put,sAa,sAb,sAc];go_wp2_with fail;go_ret3;exact ⟨_,_,rfl,HF.z⟩
  |succ gm=>
   have d1:(s:Int)< (N:Int):=by omega
   have f1:(0:Int)≤(s:Int):=iNn s;have r0:s< m.length:=by rw [←Q0.z];omega
   have l0:=za HX.z.1;have t0:=za HX.z.2;obtain ⟨g,o',c',u,e,_,_,o0,q0⟩:=HM.z.atS r0;injection e with e1 e2 e3
   subst e1 e3;have Y0:wr0.cell? ⟨g,o'+s,none⟩=some u:=cell_kept o0 t0.z (by simp);have H0:Hid (m[s].length≤3∧ ∀r∈m[s],1≤r.length∧r.length≤3):=za (R0.z.2 _ (lGm r0));have c0:Hid ((m.take (s+1)).map (fun f=>f.map fun a0=>a0.headD 0)=(m.take s).map (fun f=>f.map fun a0=>a0.headD 0)++ [m[s].map fun a0=>a0.headD 0]):=za (by rw [tSg r0,lMa];rfl);have p0:Hid ((((m.take s).map fun f=>f.map fun a0=>a0.headD 0).length+1)*24≤140737488355328):=za (by rw [lLm,lLt];omega);obtain ⟨f,hf⟩:=exq (m[s]);rw [←hf] at q0 H0 c0;obtain ⟨RO,N0⟩:=exq ((m.take s).map (fun f=>f.map fun a0=>a0.headD 0));rw [←N0] at l0 c0 p0;obtain ⟨fr,z0⟩:=exq (f.map fun a0=>a0.headD 0);have a1:=za z0;rw [←z0] at c0;clear N0 z0;have HF:=za q0;obtain ⟨Af,cf,e4,V0,k1⟩:=q0.form;subst e4;obtain ⟨t,ht⟩:=exq (f.length);have P0:=za ht;have c1:t≤3:=by have:=H0.z.1;omega
   rw [←ht] at V0 Y0;clear HX q0 o0 e2 hf r0 ht hr y0;go_wp2_with fail;go_loopg [8,28] t (fun g s8 s28 wx=> ∃k:Nat,k+g=t∧s28= .int .i64 k∧Hid (Acc ze wr0.heap.size 22 (fun g=>wr0.heap.size≤g) wx s8 ((f.take k).map fun a0=>a0.headD 0)∧wr0.grownBy wx none))
   case atStart=>exact ⟨0,by omega,rfl,za ⟨Acc.nil _ _ _ _ _,gRf⟩⟩
   case round=>
    rename World=>wy
    obtain ⟨k,hk,rfl,HY⟩:=hrel;cases gk with
    |zero=>
     obtain rfl:k=t:=by omega
     have b0:=HY.z.1;rw [List.take_of_length_le (by rw [←P0.z];exact nRf _), ←a1.z] at b0;have x0:=za b0.sl;obtain ⟨A8,n8,c8,e8⟩:=b0.sl.shape;subst e8;have I0:=za (l0.z.kept HY.z.2);have W0:=za (t0.z.trans HY.z.2);have G0:Hid ((zh ze).rep (fun g=>w.heap.size≤g∧some g≠u5.ownBlock) wy [.slice A8 n8 c8] fr):=za ⟨_,rfl,x0.z.more fun g _ hx=>⟨nLT t0.z.size hx,fun e=>by
      have:=(l0.z.lt g e.symm).2
      omega⟩⟩
     clear HY b0;go_wp2_with (at_builtin;refine zF rfl (.tmp 39) (.tmp 41) rfl (E:=zh ze) Zo W0.z I0.z (fun _ h=>h) G0.z p0.z rfl rfl ?_);intro v2 w9 f0 n0 _;have k0:Hid (Acc (zh ze) w.heap.size 31 (fun g=>w.heap.size≤g) w9 v2 ((m.take (s+1)).map fun f=>f.map fun a0=>a0.headD 0)∧w.grownBy w9 none):=za ⟨by rw [c0.z];exact f0,n0⟩;clear f0 n0;go_wp2_with fail;go_roundg gm
     case measure=>omega
     case rel=>exact ⟨s+1,by omega,by go_num,k0⟩
    |succ m2=>
     have i1:(k:Int)< (t:Int):=by omega
     have j1:(0:Int)≤(k:Int):=iNn k;have s0:k< f.length:=by rw [←P0.z];omega
     have U0:=za HY.z.1;have X0:=za HY.z.2;obtain ⟨g2,o2,c2,u2,e2,_,_,A0,g0⟩:=(HF.z.kept (t0.z.trans HY.z.2)).atS s0;injection e2 with e1 e2 e3
     subst e1 e3;have hl:=H0.z.2 _ (lGm s0);have i0:Hid ((f.take (k+1)).map (fun a0=>a0.headD 0)=(f.take k).map (fun a0=>a0.headD 0)++ [f[k].headD 0]):=za (by rw [tSg s0,lMa];rfl);have S0:Hid ((((f.take k).map fun a0=>a0.headD 0).length+1)*8≤140737488355328):=za (by rw [lLm,lLt];omega);obtain ⟨RI,O0⟩:=exq ((f.take k).map (fun a0=>a0.headD 0));rw [←O0] at U0 i0 S0;clear O0;obtain ⟨r,hr⟩:=exq (f[k]);rw [←hr] at g0 hl i0;obtain ⟨g3,o3,c3,e3,_,_,L0,v0⟩:=g0.atU (k:=0) (by omega);subst e3;obtain ⟨x,hx⟩:=exq (r[0]);have h0:Hid (r.headD 0=x):=za (by
      cases r with
      |nil=>simp at hl
      |cons a l=>rw [hx];rfl)
     rw [←hx] at L0 v0;rw [Nat.add_zero] at L0;have w0:=za v0;obtain ⟨n3,K0⟩:=exq (r.length);rw [←K0] at A0 hl;have g1:(0:Int)< (n3:Int):=by omega
     clear HY g0 hx v0 s0 e2 hr K0;go_wp2_with (at_builtin;refine zF rfl (.tmp 32) (.tmp 36) rfl (E:=ze) (y:=x) xD X0.z U0.z (fun _ h=>h) ⟨rfl,w0.z⟩ S0.z rfl rfl ?_);intro v9 w9 d0 n0 _;have k0:Hid (Acc ze wr0.heap.size 22 (fun g=>wr0.heap.size≤g) w9 v9 ((f.take (k+1)).map fun a0=>a0.headD 0)∧wr0.grownBy w9 none):=za ⟨by rw [i0.z,h0.z];exact d0,n0⟩;clear d0 n0;go_wp2_with fail;go_roundg m2
     case measure=>omega
     case rel=>exact ⟨k+1,by omega,by go_num,k0⟩
end
section
open Go Go.RowKit Go.Shelf Go.Maps
theorem AvW.upN{X:Nat→Prop}{gA gM nn nn':Nat}{E:zy}{st:ASt}{W:World}(h:AvW X gA gM nn E st W)(hn:nn≤nn'):AvW X gA gM nn' E st W:=by
 obtain ⟨h1,⟨D,h2,h3⟩,h4⟩:=h;exact ⟨h1,⟨D,h2.mono hn,h3⟩,h4⟩
theorem xK.no{X:Nat→Prop}{gA gM nn nn':Nat}{E:zy}{st:ASt}{w w':World}(hA:AvW X gA gM nn E st w)(hg:w.grownBy w' none)(hn:nn≤nn'):xK X gA gM nn' E w (st, []) (.returned (.slice none 0 0)) w':=
 ⟨_,fun _=>False,rfl,fun _ h=>h.elim,Acc.nil _ _ _ _ _,((hA.kept hg).upN hn).more fun g _ h=>⟨h,fun e=>e⟩,zk.of hg (.inl rfl)⟩
theorem PH{E:zy}{tell:ASt→zw→ASt×List yE}{st:ASt}{kind i:Int}{l:List Int}(h:(st.heard kind i).isSome=true∨i< 1∨E.p.N< i∨(zi E i l).2=false):yL E tell st kind i l=(st, []):=by
 unfold yL;rw [if_pos h]
theorem LE{E:zy}{tell:ASt→zw→ASt×List yE}{st:ASt}{kind i:Int}{l:List Int}(h: ¬((st.heard kind i).isSome=true∨i< 1∨E.p.N< i∨(zi E i l).2=false)):yL E tell st kind i l=(if (st.put kind i (zi E i l).1).own=none∧zt E (st.put kind i (zi E i l).1) (zi E i l).1.m≠ [] then yg E (tell {(st.put kind i (zi E i l).1) with own:=some (yk E (st.put kind i (zi E i l).1) (zi E i l).1.m (zt E (st.put kind i (zi E i l).1) (zi E i l).1.m))} (yk E (st.put kind i (zi E i l).1) (zi E i l).1.m (zt E (st.put kind i (zi E i l).1) (zi E i l).1.m))).1 (tell {(st.put kind i (zi E i l).1) with own:=some (yk E (st.put kind i (zi E i l).1) (zi E i l).1.m (zt E (st.put kind i (zi E i l).1) (zi E i l).1.m))} (yk E (st.put kind i (zi E i l).1) (zi E i l).1.m (zt E (st.put kind i (zi E i l).1) (zi E i l).1.m))).2 else yg E (st.put kind i (zi E i l).1) []):=by
 unfold yL;rw [if_neg h]
def De(E:zy)(st:ASt)(gA gM:Nat)(vc vd vo:Value)(kind i:Int)(w w0:World)(had:Bool)(vl:Value):Prop:=w.grownBy w0 none∧Bk w0 gA 125 (zz E vc vd vo gM st.done)∧Bk w0 w.heap.size 133 #[.int .u8 kind, .int .i64 i]∧(∀n,(Instr.lookup 122 (.map (some gM)) (plV kind i) true).run prog (w0.drewN n)= .ok (.tuple #[vl, .bool had]) (w0.drewN n))
theorem DM(E:zy)(st:ASt)(gA gM nn:Nat)(vc vd vo:Value)(kind i:Int)(X:Nat→Prop)(w:World)(hb:Bk w gA 125 (zz E vc vd vo gM st.done))(hh:zT X w gM nn st.heard)(hk:U8 kind)(hi:I64 i): ∃vl,De E st gA gM vc vd vo kind i w (w.alloc (.cells #[.int .u8 kind, .int .i64 i] 133)) (st.heard kind i).isSome vl:=by
 have hg:=gAl w (.cells #[.int .u8 kind, .int .i64 i] 133) none;obtain ⟨v,h1,_⟩:=(hh.keep hg (by simp) (by simp)).lookA kind i hk hi;exact ⟨v,hg,hb.grown hg (by simp),Bk.new w _ _,fun n=>(h1 _ (zb _ n)).1⟩
attribute [local go_sem] Oper.semAt_some
theorem Fb(E:zy)(st:ASt)(gA gM nn nn':Nat)(kind i:Int)(Al:Option Addr)(nl cl:Nat)(X:Nat→Prop)(w:World)(hA:AvW X gA gM nn E st w)(hk:U8 kind)(hi:I64 i)(hn:nn≤nn')(hno:(st.heard kind i).isSome=true∨i< 1∨E.p.N< i):
  Calls prog 54 #[.pointer (some ⟨gA,0,none⟩), .agg #[.int .u8 kind, .int .i64 i], .slice Al nl cl] w (xK X gA gM nn' E w (st, [])):=by
 have HA:=za hA;have HN:=za hn;obtain ⟨⟨vc,vd,vo,hb,_⟩,hh,_⟩:=hA;obtain ⟨vl,hp⟩:=DM E st gA gM nn vc vd vo kind i X w hb hh hk hi;obtain ⟨had,hhad⟩:=exq ((st.heard kind i).isSome);rw [←hhad] at hp hno;have hcase:had=true∨(had=false∧(i< 1∨(¬i< 1∧E.p.N< i))):=by
  cases had with
  |true=>exact .inl rfl
  |false=>
   refine .inr ⟨rfl, ?_⟩;rcases hno with h|h|h
   ·cases h
   ·exact .inl h
   ·by_cases h1:i< 1
    ·exact .inl h1
    ·exact .inr ⟨h1,h⟩
 unfold De plV at hp;obtain ⟨hg,hb0,hbp,hlk⟩:=hp;have HG:=za hg;have hr:=hb0.rule;have hrp:=hbp.rule;clear hb hh hk hi hn hno hhad hg hb0 hbp;rcases hcase with rfl|⟨rfl,h1|⟨h1,h2⟩⟩
 ·go_enter func54,ntmps54;go_wp2_with fail;go_quiet (fail);go_wp2_with fail;go_quiet (fail);go_wp2_with fail;go_ret;exact xK.no HA.z (HG.z.trans ((zb _ _).trans (zb _ _))) HN.z
 ·have hd1:decide (i< 1)=true:=by simpa using h1
  go_enter func54,ntmps54;go_wp2_with fail;go_quiet (fail);go_wp2_with fail;go_quiet (fail);go_wp2_with fail;go_ret;exact xK.no HA.z (HG.z.trans ((zb _ _).trans (zb _ _))) HN.z
 ·have hd1:decide (i< 1)=false:=by simpa using h1
  have hd2:decide (i>E.p.N)=true:=by simpa using h2
  go_enter func54,ntmps54;go_wp2_with fail;go_quiet (fail);go_wp2_with fail;go_quiet (fail);go_wp2_with fail;go_ret;exact xK.no HA.z (HG.z.trans ((zb _ _).trans (zb _ _))) HN.z
end
section
open Go Go.RowKit Go.Shelf Go.Maps
attribute [local go_sem] Oper.semAt_some
theorem AvW.putHeard{X:Nat→Prop}{gA gM nn:Nat}{E:zy}{st:ASt}{w w':World}{kind i:Int}{x:zw}(h:AvW X gA gM nn E st w)(hM: ¬X gM)(hg:w.grownBy w' (some gM))(hh:zT X w' gM (nn+1) (fun k' i'=>if k'=kind∧i'=i then some x else st.heard k' i')):AvW X gA gM (nn+1) E (st.put kind i x) w':=by
 obtain ⟨⟨vc,vd,vo,h1,h2,h3,h4⟩,_,h6⟩:=h;have hX: ∀g,X g→some g≠some gM:=fun g hx e=>by injection e with e;rw [e] at hx;exact hM hx
 exact ⟨⟨vc,vd,vo,h1.grown hg (fun e=>by injection e with e;exact h6 e),h2.keep hg hX,h3.keep hg hX,h4.keep hg hX⟩,hh,h6⟩
theorem AvW.setDone{X:Nat→Prop}{gA gM nn:Nat}{E:zy}{st:ASt}{w:World}(h:AvW X gA gM nn E st w)(hX: ¬X gA):AvW X gA gM nn E {st with done:=true} (w.setCell ⟨gA,18,none⟩ (.bool true)):=by
 obtain ⟨⟨vc,vd,vo,h1,h2,h3,h4⟩,h5,h6⟩:=h;have hg:=zo w gA 18 (.bool true);have hne: ∀g,X g→some g≠some gA:=fun g hx e=>by injection e with e;rw [e] at hx;exact hX hx
 exact ⟨⟨vc,vd,vo,h1.set 18 _,h2.keep hg hne,h3.keep hg hne,h4.keep hg hne⟩,h5.keep hg hne (fun e=>by injection e with e;exact h6 e.symm),h6⟩
theorem AvW.setOwn{X:Nat→Prop}{gA gM nn:Nat}{E:zy}{st:ASt}{w:World}{b:Nat}{x:zw}(h:AvW X gA gM nn E st w)(hX: ¬X gA)(hp:zL X w b x):AvW X gA gM nn E {st with own:=some x} (w.setCell ⟨gA,16,none⟩ (.pointer (some ⟨b,0,none⟩))):=by
 obtain ⟨⟨vc,vd,vo,h1,h2,h3,h4⟩,h5,h6⟩:=h;have hg:=zo w gA 16 (.pointer (some ⟨b,0,none⟩));have hne: ∀g,X g→some g≠some gA:=fun g hx e=>by injection e with e;rw [e] at hx;exact hX hx
 exact ⟨⟨vc,vd, .pointer (some ⟨b,0,none⟩),h1.set 16 _,h2.keep hg hne,h3.keep hg hne,⟨b,rfl,hp.keep hg hne⟩⟩,h5.keep hg hne (fun e=>by injection e with e;exact h6 e.symm),h6⟩
theorem AvW.setDealt{X:Nat→Prop}{gA gM nn:Nat}{E:zy}{st:ASt}{w:World}{b:Nat}{x:zw}(h:AvW X gA gM nn E st w)(hX: ¬X gA)(hp:zL X w b x):AvW X gA gM nn E {st with dealt:=some x} (w.setCell ⟨gA,15,none⟩ (.pointer (some ⟨b,0,none⟩))):=by
 obtain ⟨⟨vc,vd,vo,h1,h2,h3,h4⟩,h5,h6⟩:=h;have hg:=zo w gA 15 (.pointer (some ⟨b,0,none⟩));have hne: ∀g,X g→some g≠some gA:=fun g hx e=>by injection e with e;rw [e] at hx;exact hX hx
 exact ⟨⟨vc, .pointer (some ⟨b,0,none⟩),vo,h1.set 15 _,h2.keep hg hne,⟨b,rfl,hp.keep hg hne⟩,h4.keep hg hne⟩,h5.keep hg hne (fun e=>by injection e with e;exact h6 e.symm),h6⟩
theorem Fc(E:zy)(st:ASt)(gA gM nn j0:Nat)(kind i:Int)(Al:Option Addr)(nl cl:Nat)(l:List Int)(X Y:Nat→Prop)(w:World)(hE:E.ok)(hA:AvW X gA gM nn E st w)(hS:yI E st)(hk:U8 kind)(hi:I64 i)(l2: ¬X gA)(j2: ¬X gM)(hN: ∀g,w.heap.size≤g→X g)(hn:nn+1≤j0∧j0< maxLen)(h:Sl ze Y w (.slice Al nl cl) l)(hl:l.length≤100000)
  (J1:(st.heard kind i).isSome=false) (U0:1≤i∧i≤E.p.N) (tell:ASt→zw→ASt×List yE) (X1: ∀s x,yI E s→yP x→yI E (tell s x).1∧(tell s x).2.length≤1000)
  (s0:st.own=none→ ∀b0 b x X' w',AvW X' gA gM (nn+1) E b0 w'→yI E b0→b0.own=some x→zL X' w' b x→yP x→ ¬X' gA→ ¬X' gM→(∀g,w'.heap.size≤g→X' g)→Calls prog 53 #[.pointer (some ⟨gA,0,none⟩), .int .u8 9, .pointer (some ⟨b,0,none⟩)] w' (xK X' gA gM j0 E w' (tell b0 x))):
  Calls prog 54 #[.pointer (some ⟨gA,0,none⟩), .agg #[.int .u8 kind, .int .i64 i], .slice Al nl cl] w (xK X gA gM j0 E w (yL E tell st kind i l)):=by
 have HE:=za hE;have HA:=za hA;have HS:=za hS;have HT:=za s0;have r2:=za X1;have HK:Hid (U8 kind∧I64 i):=za ⟨hk,hi⟩;have l0:Hid (¬X gA∧ ¬X gM∧ ∀g,w.heap.size≤g→X g):=za ⟨l2,j2,hN⟩;have l1:=za hn;have L2:Hid (gA< w.heap.size∧gM< w.heap.size):=za ⟨hA.ltA,hA.ltM⟩;have S1:=za J1;have HI:=za U0;obtain ⟨⟨vc,vd,vo,hb,hc,O2,N2⟩,hh,_⟩:=hA;obtain ⟨vl,hp⟩:=DM E st gA gM nn vc vd vo kind i X w hb hh hk hi;rw [J1] at hp;obtain ⟨w0,X0⟩:=exq (w.alloc (.cells #[.int .u8 kind, .int .i64 i] 133));rw [←X0] at hp;have h0:=za hp;unfold De plV at hp;obtain ⟨hg,I1,g2,d1⟩:=hp;have u2:=za (fun W (hW:w0.grownBy W none)=>UX E gA gM vc vd vo st.done i (.slice Al nl cl) l X Y W hE (I1.grown hW (by simp)) (hc.kept (hg.trans hW)) (h.kept (hg.trans hW)) hl U0);have hr:=I1.rule;have a1:=g2.rule;have V2:decide (i< 1)=false:=by simpa using U0.1
 have U2:decide (i>E.p.N)=false:=by simpa using U0.2
 have r1:=za hg;rw [X0] at hr a1 d1;clear hE hS hb hc O2 N2 hh hk hi hn l2 j2 hN h hl J1 U0 X1 s0 hg I1 g2;go_enter func54,ntmps54;go_wp2_with fail;go_quiet (fail);go_wp2_with fail;go_quiet (fail);rw [←X0] at hr a1 d1 ⊢;clear X0;go_wp2_with fail;refine (u2.z _ (zb _ _)).mono ?_;rintro e w3 ⟨b,rfl,hpt,hg3⟩;cases T0:(zi E i l).2 with
 |false=>
  have HR:=za (PH (E:=E) (tell:=tell) (st:=st) (kind:=kind) (i:=i) (l:=l) (.inr (.inr (.inr T0))));have f0:=za (r1.z.trans ((zb _ _).trans hg3));clear T0 hr a1 d1 hpt hg3;go_wp2_with fail;go_ret;rw [HR.z];exact xK.no HA.z f0.z (by have:=l1.z;omega)
 |true=>
  have HR:=za (LE (E:=E) (tell:=tell) (st:=st) (kind:=kind) (i:=i) (l:=l) (by rw [S1.z,T0];have:=HI.z;simp;omega));have o1:Hid (XU E.coms.length (zi E i l).1):=za (Ut HE.z T0);obtain ⟨x,hx⟩:=exq ((zi E i l).1);rw [←hx] at HR o1 hpt;rw [HR.z];clear T0 hr a1 d1 hx;have f0:=za (r1.z.trans ((zb _ _).trans hg3));go_wp2_with fail;have c0:Hid (∀w',w3.drew.grownBy w' none→(∀o,w'.cell? ⟨gA,o,none⟩=(zz E vc vd vo gM st.done)[o]?)∧ ∀o,w'.cell? ⟨w.heap.size,o,none⟩=(#[.int .u8 kind, .int .i64 i]:Array Value)[o]?):=za (fun w' hw'=>by
   obtain ⟨_,p1,p2,_⟩:=h0.z;have hg:=((zb w0 _).trans hg3).trans ((zb w3 1).trans hw');exact ⟨(p1.grown hg (by simp)).rule,(p2.grown hg (by simp)).rule⟩)
  have O1:Hid (zL X w3 b x):=za (hpt.more fun g _ hg=>l0.z.2.2 g (nLT (r1.z.trans (zb w0 _)).size hg));have d0:Hid (w3.grownBy w3.drew none):=za (zb w3 1);clear hpt hg3;refine ZF 6 ?_;refine mP0 (.pointer (some ⟨gA,0,none⟩)) ?_;refine mP1 (.pointer (some ⟨gA,0,none⟩)) 0 51 ?_;refine mP1 (.pointer (some ⟨gA,17,none⟩)) 1 52 ?_;refine mQ1 (.map (some gM)) 2 53 (fun w' hw' K hK=> ?_) ?_
  ·obtain ⟨hc,F0⟩:=c0.z w' hw';go_simp;exact hK _ rfl rfl
  refine mQ0 (.agg #[.int .u8 kind, .int .i64 i]) (fun w' hw' K hK=> ?_) ?_
  ·obtain ⟨hc,F0⟩:=c0.z w' hw';go_simp;exact hK _ rfl rfl
  refine mP0 (.pointer (some ⟨b,0,none⟩)) ?_;intro w4 E1;intro y0 k0 y1 k1 y2 k2 y3 k3 y4 k4 y5 k5;have e3:y3= .map (some gM):=k3;have e4:y4= .agg #[.int .u8 kind, .int .i64 i]:=k4;have e5:y5= .pointer (some ⟨b,0,none⟩):=k5;subst e3 e4 e5;have M0:=d0.z.trans E1;obtain ⟨w5,S0,a2,f1⟩:=((HA.z.kept (f0.z.trans M0)).heard).put (by have:=l1.z;omega) kind i HK.z.1 HK.z.2 (O1.z.keep M0 (by simp)) l0.z.2.1;have W0:=za ((HA.z.kept (f0.z.trans M0)).putHeard l0.z.2.1 f1 a2);have e0:Hid (zL X w5 b x):=za ((O1.z.keep M0 (by simp)).keep f1 (fun g hg e=>by injection e with e;rw [e] at hg;exact l0.z.2.1 hg));have G2:Hid (zk gA gM w w5):=za ((zk.of (f0.z.trans M0) (.inl rfl)).trans (zk.of f1 (.inr (.inr rfl))));have u0:=za (HS.z.put kind i o1.z);unfold plV at S0;show wpList prog _ _ _ _ w4;simp only [Act.put,sAa,sAb,sAc];clear k0 k1 k2 k3 k4 k5 a2 M0 f1 E1 c0 O1 d0 u2 h0 r1 f0 V2 U2;refine wpList_plain rfl fun K hK=> ?_
  go_simp;refine hK _ _ (wpList_nil ?_);clear S0 hK;have K1:=HR.z;obtain ⟨b0,z0⟩:=exq (st.put kind i x);have x0:Hid (b0.own=st.own):=za (by rw [z0];rfl);rw [←z0] at K1 W0 u0;have i1:=za K1;clear K1 HR z0;go_upto_region 9 with (fail)
  rename_i KT aT KV aV;have tail: ∀{t12 t13 t14 t15 t16 t17 t18 t19 t20 t21 t22 t23 t24 t25 t26 t27 t28 t29 t30 t31 t32 t33 t34 t35 t36 t37 t38 t39 t40 t41 t42 t43 t44 t45 t46 t47 t48 t49 t50 t51 t52 t53 t54 t55 t56 t57 t58 t59 t60 t61 t62 t63 t64 t65 t66 t67 t68 t69 t70 t71 t72 t73 t74 t75 t76 t77 t78 t79 t80 t81 t82 t83 t84 t85 t86 t87 t88 t89 t90 t91 t92 t93 t94 t95 t96 t97 t98 t99 t100 t101 t102 t103 t104 t105 t106 t107 t108 t109 t110 t111 t112 t113 t114 t115 t116 t117 t118 t119 t120 t121 t122 t123 t124 t125 t126 t127 t128 t129 t130 t131 t132 t133 t134 t135 t136 t137 t138 t139 t140:Value} (vO:Value) (w2:World) (s2:ASt) (Z:Nat→Prop) (out:List yE),zk gA gM w w2→(∀g,Z g→w.heap.size≤g)→Acc xZ w.heap.size 71 Z w2 vO out→AvW (fun g=>X g∧ ¬Z g) gA gM j0 E s2 w2→yI E s2→out.length≤1000→yL E tell st kind i l=yg E s2 out→
    KT {tmps:= #[.pointer (some ⟨gA,0,none⟩), .agg #[.int .u8 kind, .int .i64 i], .slice Al nl cl,undef, .pointer (some ⟨w.heap.size,0,none⟩),undef, .slice none 0 0,vl, .bool false, .pointer (some ⟨b,0,none⟩), .bool true,vO,t12,t13,t14,t15,t16,t17,t18,t19,t20,t21,t22,t23,t24,t25,t26,t27,t28,t29,t30,t31,t32,t33,t34,t35,t36,t37,t38,t39,t40,t41,t42,t43,t44,t45,t46,t47,t48,t49,t50,t51,t52,t53,t54,t55,t56,t57,t58,t59,t60,t61,t62,t63,t64,t65,t66,t67,t68,t69,t70,t71,t72,t73,t74,t75,t76,t77,t78,t79,t80,t81,t82,t83,t84,t85,t86,t87,t88,t89,t90,t91,t92,t93,t94,t95,t96,t97,t98,t99,t100,t101,t102,t103,t104,t105,t106,t107,t108,t109,t110,t111,t112,t113,t114,t115,t116,t117,t118,t119,t120,t121,t122,t123,t124,t125,t126,t127,t128,t129,t130,t131,t132,t133,t134,t135,t136,t137,t138,t139,t140],defers:= []} w2:=by
   intro t12 t13 t14 t15 t16 t17 t18 t19 t20 t21 t22 t23 t24 t25 t26 t27 t28 t29 t30 t31 t32 t33 t34 t35 t36 t37 t38 t39 t40 t41 t42 t43 t44 t45 t46 t47 t48 t49 t50 t51 t52 t53 t54 t55 t56 t57 t58 t59 t60 t61 t62 t63 t64 t65 t66 t67 t68 t69 t70 t71 t72 t73 t74 t75 t76 t77 t78 t79 t80 t81 t82 t83 t84 t85 t86 t87 t88 t89 t90 t91 t92 t93 t94 t95 t96 t97 t98 t99 t100 t101 t102 t103 t104 t105 t106 t107 t108 t109 t110 t111 t112 t113 t114 t115 t116 t117 t118 t119 t120 t121 t122 t123 t124 t125 t126 t127 t128 t129 t130 t131 t132 t133 t134 t135 t136 t137 t138 t139 t140 vO w2 s2 Z out q1 q2 q3 q4 q5 q6 q7;refine aT _ _ ?_;clear aT aV;rw [q7];have Q1:=za q1;have Q2:=za q2;have Q3:=za q3;have Q4:=za q4;have Q5:=za q5;have Q6:=za q6;have H2:Hid (∀w',w2.grownBy w' none→xK X gA gM j0 E w (s2,out) (.returned vO) w'):=za (fun w' hw=>⟨vO,Z,rfl,q2,q3.kept hw,q4.kept hw,q1.step hw⟩);have d0:Hid (w2.grownBy w2.drew none):=za (zb w2 1);obtain ⟨⟨vc2,vd2,vo2,P0,E2,C1,g0⟩,S2,H0⟩:=q4;have t1:=za P0;clear q1 q2 q3 q5 q6 q7 E2 C1 S2 i1 u0 W0 e0 G2 o1 x0 HS HA r2 HT;cases a0:s2.own with
   |none=>
    rw [a0] at g0;have g0:vo2= .pointer none:=g0;subst g0;have hr:=P0.rule;have Q0:Hid (yg E s2 out=(s2,out)):=za (by unfold yg;rw [a0]);rw [Q0.z];clear a0 P0 H0;have c0:Hid (∀w',w2.drew.grownBy w' none→ ∀o,w'.cell? ⟨gA,o,none⟩=(zz E vc2 vd2 (.pointer none) gM s2.done)[o]?):=za (fun w' hw'=>(t1.z.grown (d0.z.trans hw') (by simp)).rule);clear hr;go_upto_region 13 with (fail)
    refine ZF 36 ?_;refine mP0 (.pointer (some ⟨gA,0,none⟩)) ?_;refine mP1 (.pointer (some ⟨gA,0,none⟩)) 0 89 ?_;refine mP1 (.pointer (some ⟨gA,16,none⟩)) 1 90 ?_;refine mQ1 (.pointer none) 2 91 (fun w' hw' K hK=> ?_) ?_
    ·have hc:=c0.z w' hw';go_simp;exact hK _ rfl rfl
    refine mP1 (.bool false) 3 92 ?_;refine mP1 (.bool false) 4 93 ?_;refine mS (undef) [(5,94)] (fun w' hw'=>pQ (zc rfl rfl rfl)) ?_;refine mS (undef) [(5,94),(6,95)] (fun w' hw'=>pQ (pQ (zc rfl rfl rfl))) ?_;refine mS (undef) [(5,94),(7,96)] (fun w' hw'=>pQ (pQ (zc rfl rfl rfl))) ?_;refine mS (undef) [(5,94),(8,97)] (fun w' hw'=>pQ (pQ (zc rfl rfl rfl))) ?_;refine mS (undef) [(5,94),(9,98)] (fun w' hw'=>pQ (pQ (zc rfl rfl rfl))) ?_;refine mP2 (.bool false) 5 94 10 99 ?_;refine mP1 (.bool false) 11 100 ?_;refine mS (undef) [(12,101)] (fun w' hw'=>pQ (zc rfl rfl rfl)) ?_;refine mS (undef) [(12,101)] (fun w' hw'=>pQ (zc rfl rfl rfl)) ?_;refine mS (undef) [(12,101),(14,103)] (fun w' hw'=>pQ (pQ (zc rfl rfl rfl))) ?_;refine mS (undef) [(12,101),(15,104)] (fun w' hw'=>pQ (pQ (zc rfl rfl rfl))) ?_;refine mS (undef) [(12,101),(16,105)] (fun w' hw'=>pQ (pQ (zc rfl rfl rfl))) ?_;refine mS (undef) [(12,101),(17,106)] (fun w' hw'=>pQ (pQ (zc rfl rfl rfl))) ?_;refine mS (undef) [(12,101),(18,107)] (fun w' hw'=>pQ (pQ (zc rfl rfl rfl))) ?_;refine mS (undef) [(12,101),(19,108)] (fun w' hw'=>pQ (pQ (zc rfl rfl rfl))) ?_;refine mS (undef) [(12,101),(13,102),(20,109)] (fun w' hw'=>pQ (pQ (pQ (zc rfl rfl rfl)))) ?_;refine mS (undef) [(12,101),(21,110)] (fun w' hw'=>pQ (pQ (zc rfl rfl rfl))) ?_;refine mS (undef) [(12,101)] (fun w' hw'=>pQ (zc rfl rfl rfl)) ?_;refine mS (undef) [(12,101),(23,112)] (fun w' hw'=>pQ (pQ (zc rfl rfl rfl))) ?_;refine mS (undef) [(12,101),(24,113)] (fun w' hw'=>pQ (pQ (zc rfl rfl rfl))) ?_
    refine mS (undef) [(12,101),(25,114)] (fun w' hw'=>pQ (pQ (zc rfl rfl rfl))) ?_;refine mS (undef) [(12,101),(26,115)] (fun w' hw'=>pQ (pQ (zc rfl rfl rfl))) ?_;refine mS (undef) [(12,101)] (fun w' hw'=>pQ (zc rfl rfl rfl)) ?_;refine mS (undef) [(12,101),(28,117)] (fun w' hw'=>pQ (pQ (zc rfl rfl rfl))) ?_;refine mS (undef) [(12,101),(29,118)] (fun w' hw'=>pQ (pQ (zc rfl rfl rfl))) ?_;refine mS (undef) [(12,101),(30,119)] (fun w' hw'=>pQ (pQ (zc rfl rfl rfl))) ?_;refine mS (undef) [(12,101),(31,120)] (fun w' hw'=>pQ (pQ (zc rfl rfl rfl))) ?_;refine mS (undef) [(12,101),(27,116),(32,121)] (fun w' hw'=>pQ (pQ (pQ (zc rfl rfl rfl)))) ?_;refine mS (undef) [(12,101),(22,111),(33,122)] (fun w' hw'=>pQ (pQ (pQ (zc rfl rfl rfl)))) ?_;refine mP2 (.bool false) 12 101 34 123 ?_;intro w3 r0
    iterate 35 (refine pD ?_;intro _)
    intro y35 k35;have e35:y35= .bool false:=k35;subst e35;have U1:=za (H2.z w3 (d0.z.trans r0));clear k35 r0 c0 d0;refine wpList_nil ?_;simp only [Act.put,sAa,sAb,sAc];go_wp2_with fail;go_ret;exact U1.z
   |some o=>
    rw [a0] at g0;obtain ⟨b2,e2,A0⟩:=g0;subst e2;cases D0:s2.done with
    |true=>
     have hr:=P0.rule;have Q0:Hid (yg E s2 out=(s2,out)):=za (by unfold yg;rw [a0,D0];simp);have i3:=za D0;rw [Q0.z];clear a0 P0 H0 D0 A0;have c0:Hid (∀w',w2.drew.grownBy w' none→ ∀o,w'.cell? ⟨gA,o,none⟩=(zz E vc2 vd2 (.pointer (some ⟨b2,0,none⟩)) gM true)[o]?):=za (fun w' hw'=>by have:=(t1.z.grown (d0.z.trans hw') (by simp)).rule;rw [i3.z] at this;exact this);clear hr;go_upto_region 13 with (fail)
     refine ZF 36 ?_;refine mP0 (.pointer (some ⟨gA,0,none⟩)) ?_;refine mP1 (.pointer (some ⟨gA,0,none⟩)) 0 89 ?_;refine mP1 (.pointer (some ⟨gA,16,none⟩)) 1 90 ?_;refine mQ1 (.pointer (some ⟨b2,0,none⟩)) 2 91 (fun w' hw' K hK=> ?_) ?_
     ·have hc:=c0.z w' hw';go_simp;exact hK _ rfl rfl
     refine mP1 (.bool true) 3 92 ?_;refine mP1 (.bool true) 4 93 ?_;refine ZH (.pointer (some ⟨gA,0,none⟩)) 5 94 ?_;refine yV (.pointer (some ⟨gA,0,none⟩)) 5 94 6 95 ?_;refine yV (.pointer (some ⟨gA,18,none⟩)) 5 94 7 96 ?_;refine YM (.bool true) 5 94 8 97 (fun w' hw' K hK=> ?_) ?_
     ·have hc:=c0.z w' hw';go_simp;exact hK _ rfl rfl
     refine yV (.bool false) 5 94 9 98 ?_;refine mP2 (.bool false) 5 94 10 99 ?_;refine mP1 (.bool false) 11 100 ?_;refine mS (undef) [(12,101)] (fun w' hw'=>pQ (zc rfl rfl rfl)) ?_;refine mS (undef) [(12,101)] (fun w' hw'=>pQ (zc rfl rfl rfl)) ?_;refine mS (undef) [(12,101),(14,103)] (fun w' hw'=>pQ (pQ (zc rfl rfl rfl))) ?_;refine mS (undef) [(12,101),(15,104)] (fun w' hw'=>pQ (pQ (zc rfl rfl rfl))) ?_;refine mS (undef) [(12,101),(16,105)] (fun w' hw'=>pQ (pQ (zc rfl rfl rfl))) ?_;refine mS (undef) [(12,101),(17,106)] (fun w' hw'=>pQ (pQ (zc rfl rfl rfl))) ?_;refine mS (undef) [(12,101),(18,107)] (fun w' hw'=>pQ (pQ (zc rfl rfl rfl))) ?_;refine mS (undef) [(12,101),(19,108)] (fun w' hw'=>pQ (pQ (zc rfl rfl rfl))) ?_;refine mS (undef) [(12,101),(13,102),(20,109)] (fun w' hw'=>pQ (pQ (pQ (zc rfl rfl rfl)))) ?_;refine mS (undef) [(12,101),(21,110)] (fun w' hw'=>pQ (pQ (zc rfl rfl rfl))) ?_;refine mS (undef) [(12,101)] (fun w' hw'=>pQ (zc rfl rfl rfl)) ?_;refine mS (undef) [(12,101),(23,112)] (fun w' hw'=>pQ (pQ (zc rfl rfl rfl))) ?_;refine mS (undef) [(12,101),(24,113)] (fun w' hw'=>pQ (pQ (zc rfl rfl rfl))) ?_;refine mS (undef) [(12,101),(25,114)] (fun w' hw'=>pQ (pQ (zc rfl rfl rfl))) ?_;refine mS (undef) [(12,101),(26,115)] (fun w' hw'=>pQ (pQ (zc rfl rfl rfl))) ?_;refine mS (undef) [(12,101)] (fun w' hw'=>pQ (zc rfl rfl rfl)) ?_;refine mS (undef) [(12,101),(28,117)] (fun w' hw'=>pQ (pQ (zc rfl rfl rfl))) ?_;refine mS (undef) [(12,101),(29,118)] (fun w' hw'=>pQ (pQ (zc rfl rfl rfl))) ?_
     refine mS (undef) [(12,101),(30,119)] (fun w' hw'=>pQ (pQ (zc rfl rfl rfl))) ?_;refine mS (undef) [(12,101),(31,120)] (fun w' hw'=>pQ (pQ (zc rfl rfl rfl))) ?_;refine mS (undef) [(12,101),(27,116),(32,121)] (fun w' hw'=>pQ (pQ (pQ (zc rfl rfl rfl)))) ?_;refine mS (undef) [(12,101),(22,111),(33,122)] (fun w' hw'=>pQ (pQ (pQ (zc rfl rfl rfl)))) ?_;refine mP2 (.bool false) 12 101 34 123 ?_;intro w3 r0
     iterate 35 (refine pD ?_;intro _)
     intro y35 k35;have e35:y35= .bool false:=k35;subst e35;have U1:=za (H2.z w3 (d0.z.trans r0));clear k35 r0 c0 d0;refine wpList_nil ?_;simp only [Act.put,sAa,sAb,sAc];go_wp2_with fail;go_ret;exact U1.z
    |false=>
     have j1:Hid (s2.own=some o∧s2.done=false):=za ⟨a0,D0⟩;have p3:=za A0;have P1:=za (Q5.out.own o a0);obtain ⟨vm,va,vb,_,N0,s1,_,_⟩:=A0;have j3:=za N0;have g1:=za s1;obtain ⟨Am,nm,cm,rfl⟩:=s1.shape;obtain ⟨_,_,_,b3,a3,_,X2,W2,_⟩:=zx HE.z.may;have W1:IntKind.i64.wrap (E.p.N - E.p.T)=E.p.N - E.p.T:=i6n _ (by omega);have c0:Hid (∀w',w2.drew.grownBy w' none→(∀o,w'.cell? ⟨gA,o,none⟩=(zz E vc2 vd2 (.pointer (some ⟨b2,0,none⟩)) gM false)[o]?)∧w'.cell? ⟨b2,0,none⟩=some (.slice Am nm cm)):=za (fun w' hw'=>⟨by
      have:=(t1.z.grown (d0.z.trans hw') (by simp)).rule
      rw [D0] at this;exact this,(j3.z.grown (d0.z.trans hw') (by simp)).cell 0⟩)
     obtain ⟨L9,L1⟩:=exq ((ym E s2 9 o.m).map fun i=>((9:Int),i));have D2:Hid (∀w',w2.drew.grownBy w' none→Calls prog 122 #[.pointer (some ⟨gA,0,none⟩), .int .u8 9, .slice Am nm cm] w' (zN Oc (fun g=>w'.heap.size≤g) w' L9)):=za (fun w' hw'=>by
      rw [L1];exact RC E s2 gA gM j0 9 _ o.m _ _ w' HE.z (Q4.out.kept (d0.z.trans hw')) ⟨by decide,by decide⟩ (g1.z.kept (d0.z.trans hw')))
     obtain ⟨BB,M1⟩:=exq (decide (E.p.N - E.p.T≤(L9.length:Int)));have l3:=za M1;have Q0:Hid (yg E s2 out=if BB=true then ({s2 with done:=true},out++ [(QS,0,(Tl o.m).flatten)]) else (s2,out)):=za (by
      unfold yg;rw [a0,D0,M1,L1,lLm];simp [yY])
     rw [Q0.z];clear a0 P0 D0 N0 s1 b3 a3 X2 W2 L1 M1 H0;go_upto_region 13 with (fail)
     refine ZF 36 ?_;refine mP0 (.pointer (some ⟨gA,0,none⟩)) ?_;refine mP1 (.pointer (some ⟨gA,0,none⟩)) 0 89 ?_;refine mP1 (.pointer (some ⟨gA,16,none⟩)) 1 90 ?_;refine mQ1 (.pointer (some ⟨b2,0,none⟩)) 2 91 (fun w' hw' K hK=> ?_) ?_
     ·obtain ⟨hc,F0⟩:=c0.z w' hw';go_simp;exact hK _ rfl rfl
     refine mP1 (.bool true) 3 92 ?_;refine mP1 (.bool true) 4 93 ?_;refine ZH (.pointer (some ⟨gA,0,none⟩)) 5 94 ?_;refine yV (.pointer (some ⟨gA,0,none⟩)) 5 94 6 95 ?_;refine yV (.pointer (some ⟨gA,18,none⟩)) 5 94 7 96 ?_;refine YM (.bool false) 5 94 8 97 (fun w' hw' K hK=> ?_) ?_
     ·obtain ⟨hc,F0⟩:=c0.z w' hw';go_simp;exact hK _ rfl rfl
     refine yV (.bool true) 5 94 9 98 ?_;refine mP2 (.bool true) 5 94 10 99 ?_;refine mP1 (.bool true) 11 100 ?_;refine ZH (.pointer (some ⟨gA,0,none⟩)) 12 101 ?_;refine ZH (.pointer (some ⟨gA,0,none⟩)) 12 101 ?_;refine yV (.pointer (some ⟨gA,0,none⟩)) 12 101 14 103 ?_;refine yV (.pointer (some ⟨gA,16,none⟩)) 12 101 15 104 ?_;refine YM (.pointer (some ⟨b2,0,none⟩)) 12 101 16 105 (fun w' hw' K hK=> ?_) ?_
     ·obtain ⟨hc,F0⟩:=c0.z w' hw';go_simp;exact hK _ rfl rfl
     refine yV (.pointer (some ⟨b2,0,none⟩)) 12 101 17 106 ?_;refine yV (.pointer (some ⟨b2,0,none⟩)) 12 101 18 107 ?_;refine YM (.slice Am nm cm) 12 101 19 108 (fun w' hw' K hK=> ?_) ?_
     ·obtain ⟨hc,F0⟩:=c0.z w' hw';go_simp;exact hK _ rfl rfl
     refine LQ (Pv.sl Oc (fun g=>w2.drew.heap.size≤g) L9) 12 101 13 102 20 109 (fun w' hw' K hK=> ?_) ?_
     ·go_simp;refine (D2.z w' hw').mono ?_;rintro e w3 ⟨v,rfl,hs3,hg3⟩;exact hK _ _ rfl (hs3.more fun g _ hg=>nLT hw'.size hg) hg3
     refine mS (.int .i64 L9.length) [(12,101),(21,110)] (fun w' hw'=>pQ (fun x110 I0=>kR fun K hK=> ?_)) ?_
     ·have I0:Sl Oc (fun g=>w2.drew.heap.size≤g) w' x110 L9:=I0;obtain ⟨A110,c110,e110,k110,l110⟩:=I0.form;subst e110;go_simp;exact hK _ rfl rfl
     refine ZH (.pointer (some ⟨gA,0,none⟩)) 12 101 ?_;refine yV (.pointer (some ⟨gA,0,none⟩)) 12 101 23 112 ?_;refine yV (.pointer (some ⟨gA,0,none⟩)) 12 101 24 113 ?_;refine yV (.pointer (some ⟨gA,5,none⟩)) 12 101 25 114 ?_;refine YM (.int .i64 E.p.N) 12 101 26 115 (fun w' hw' K hK=> ?_) ?_
     ·obtain ⟨hc,F0⟩:=c0.z w' hw';go_simp;exact hK _ rfl rfl
     refine ZH (.pointer (some ⟨gA,0,none⟩)) 12 101 ?_;refine yV (.pointer (some ⟨gA,0,none⟩)) 12 101 28 117 ?_;refine yV (.pointer (some ⟨gA,0,none⟩)) 12 101 29 118 ?_;refine yV (.pointer (some ⟨gA,6,none⟩)) 12 101 30 119 ?_;refine YM (.int .i64 E.p.T) 12 101 31 120 (fun w' hw' K hK=> ?_) ?_
     ·obtain ⟨hc,F0⟩:=c0.z w' hw';go_simp;exact hK _ rfl rfl
     refine AW (.int .i64 (E.p.N - E.p.T)) 12 101 27 116 32 121 ?_;refine LQ (Pv.eq (.bool BB)) 12 101 22 111 33 122 (fun w' hw' K hK=> ?_) ?_
     ·go_simp;exact hK _ _ rfl (congrArg Value.bool l3.z.symm) gRf
     refine mP2 (.bool BB) 12 101 34 123 ?_;intro w3 r0
     iterate 35 (refine pD ?_;intro _)
     intro y35 k35;have e35:y35= .bool BB:=k35;subst e35;have f0:Hid (w2.grownBy w3 none):=za (d0.z.trans r0);clear k35 r0 c0 D2 d0;refine wpList_nil ?_;simp only [Act.put,sAa,sAb,sAc];have O0:=t1.z.grown f0.z (by simp);rw [j1.z.2] at O0;cases BB with
     |false=>
      have J0:Hid (xK X gA gM j0 E w (s2,out) (.returned vO) w3):=za ⟨vO,Z,rfl,Q2.out,Q3.out.kept f0.z,Q4.out.kept f0.z,Q1.out.step f0.z⟩;clear O0 W1;go_wp2_with fail;go_ret;exact J0.z
     |true=>
      have v0:=za ((Q4.out.kept f0.z).setDone (fun h=>l0.z.1 h.1));have n0:=za (zo w3 gA 18 (.bool true));have p0:Hid (zk gA gM w (w3.setCell ⟨gA,18,none⟩ (.bool true))):=za ((Q1.out.step f0.z).trans (zk.of n0.z (.inr (.inl rfl))));have q0:Hid (Acc xZ w.heap.size 71 Z (w3.setCell ⟨gA,18,none⟩ (.bool true)) vO out):=za ((Q3.out.kept f0.z).keep n0.z (fun g hg e=>by injection e with e;have:=Q2.out g hg;have:=L2.z;omega));have hr:=O0.rule;have hf:=O0.free;have Z2:=O0.cell 18;obtain ⟨w6,B1⟩:=exq (w3.setCell ⟨gA,18,none⟩ (.bool true));rw [←B1] at v0 n0 p0 q0;have T1:=za (Mi E _ gA gM j0 o _ w6 HE.z v0.z rfl j1.z.1 P1.z);have Y1:Hid ((Tl o.m).length≤10∧ ∀f∈Tl o.m,f.length≤3):=za (by
       unfold Tl;refine ⟨by rw [lLm];exact P1.z.m.1,fun f hf=> ?_⟩;obtain ⟨g,hg,rfl⟩:=List.mem_map.1 hf;rw [lLm];exact (P1.z.m.2 g hg).1)
      obtain ⟨col,G0⟩:=exq (Tl o.m);rw [←G0] at T1 Y1;have V1:=za G0;clear O0 G0 Q0;go_upto_region 15 with (fail)
      rw [←B1];clear B1 hr hf Z2 W1;go_wp2_with fail;refine T1.z.mono ?_;rintro e w7 ⟨v1,v2,rfl,hs1,hs2,hg7⟩;have E0:Hid (w6.grownBy w7 none):=za hg7;have I2:=za (JY v2 col _ w7 hs2 (by have:=Y1.z.1;omega) (fun f hf=>by have:=Y1.z.2 f hf;omega));obtain ⟨A2,n2,c2,e2⟩:=hs2.shape;subst e2;obtain ⟨A1,n1,c1,e1⟩:=hs1.shape;subst e1;clear hs1 hs2 hg7;go_wp2_with fail;refine I2.z.mono ?_;rintro e w8 ⟨v8,rfl,hs8,L0⟩;have m0:Hid (w6.grownBy w8 none):=za (E0.z.trans L0);obtain ⟨A8,n8,c8,e8⟩:=hs8.shape;subst e8;have c3:Hid (Acc xZ w.heap.size 71 (fun g=>Z g∨w6.heap.size≤g) w8 vO out):=za ((q0.z.kept m0.z).more fun g _ hg=> .inl hg);have N1:Hid (xZ.rep (fun g=>(Z g∨w6.heap.size≤g)∧some g≠vO.ownBlock) w8 [.int .u8 10, .int .i64 0, .slice A8 n8 c8] (QS,0,col.flatten)):=za ⟨_,rfl,(show U8 10 from ⟨by decide,by decide⟩),(show I64 0 from ⟨by decide,by decide⟩),hs8.more fun g _ hg=>⟨.inr (nLT E0.z.size hg),fun e=>by have:=(q0.z.lt g e.symm).2;have:=E0.z.size;omega⟩⟩;have g3:Hid ((out.length+1)*40≤140737488355328):=za (by have:=Q6.out;omega);have n3:Hid (w.heap.size≤w8.heap.size):=za (p0.z.step m0.z).size;have f3:Hid (∀g,w8.heap.size≤g→(Z g∨w6.heap.size≤g)):=za (fun g hg=> .inr (nLT m0.z.size hg));clear hs8 L0 I2 T1;go_wp2_with (at_builtin;refine zW rfl (.tmp 134) (.tmp 138) rfl (E:=xZ) (y:=(QS,0,col.flatten)) OQ c3.z rfl rfl N1.z g3.z n3.z f3.z ?_);intro v9 w9 t0 C0 R2;have J0:Hid (xK X gA gM j0 E w ({s2 with done:=true},out++ [(QS,0,col.flatten)]) (.returned v9) w9):=za (by
       obtain ⟨x1,_⟩:=q0.z;have o3:=L2.z;have hz: ∀g,vO.ownBlock=some g→w.heap.size≤g:=fun g hg=>Q2.out g (x1 g hg)
       have h1:AvW (fun g=>X g∧ ¬(Z g∨w6.heap.size≤g)) gA gM j0 E {s2 with done:=true} w6:=v0.z.more fun g hl hg=>⟨hg.1,fun e=>e.elim hg.2 (fun h=>by omega)⟩
       have h2:=p0.z.step m0.z;exact ⟨v9,fun g=>Z g∨w6.heap.size≤g,rfl,fun g hg=>hg.elim (Q2.out g) (fun h=>nLT p0.z.size h),t0,(h1.kept m0.z).keep C0 (fun g hg e=>hg.2 (.inl (x1 g e.symm))) (fun e=>by have:=hz gA e.symm;omega) (fun e=>by have:=hz gM e.symm;omega),
        ⟨C0.os.trans h2.os,C0.tape.trans h2.tape,C0.output.trans h2.output,nLT h2.size C0.size,fun i hi e1 e2=>(C0.block i (by have:=h2.size;omega) (fun e=>by have:=hz i e.symm;omega)).trans (h2.block i hi e1 e2)⟩⟩)
      clear t0 C0 R2;go_wp2_with fail;go_ret;have V0:=J0.z;rw [V1.z] at V0;exact V0
  clear aT;obtain ⟨vm,va,vb,_,N0,s1,_,_⟩:=e0.z;have g1:=za s1;obtain ⟨Am,nm,cm,rfl⟩:=s1.shape;have D1:=N0.rule;have Z1:=za N0;have J2:=za (Lj E b0 gA gM (nn+1) (.slice Am nm cm) x.m X X w5 HE.z W0.z g1.z);obtain ⟨bs,H1⟩:=exq (zt E b0 x.m);have R0:=za H1;rw [←H1] at J2;obtain ⟨⟨vc1,vd1,vo1,i2,_,_,i0⟩,_,_⟩:=W0.z;have w1:=za i2;clear H1 s1 N0 i2;go_wp2_with fail;refine J2.z.mono ?_;rintro e w6 ⟨v6,rfl,hs6,hg6⟩;have n0:=za hg6;obtain ⟨A6,c6,e6,_,_⟩:=hs6.form;obtain ⟨nb,G1⟩:=exq (bs.length);rw [←G1] at e6;have C2:=za G1;clear G1;subst e6;have d3:=za hs6;have hr:=(w1.z.grown hg6 (by simp)).rule;have v0:=za (W0.z.kept n0.z);have o0:Hid (zk gA gM w w6):=za (G2.z.step n0.z);clear D1 hg6 hs6;cases a0:b0.own with
  |some o=>
   rw [a0] at i0;obtain ⟨b1,e1,_⟩:=i0;subst e1;have Z0:Hid (yL E tell st kind i l=yg E b0 []):=za (by rw [i1.z,if_neg (by rw [a0];simp)]);clear a0;go_wp2_with fail;exact tail _ _ b0 (fun _=>False) [] o0.z (fun _ h=>h.elim) (Acc.nil _ _ _ _ _) ((v0.z.upN l1.z.1).more fun g _ h=>⟨h,fun e=>e⟩) u0.z (by simp) Z0.z
  |none=>
   rw [a0] at i0;have i0:vo1= .pointer none:=i0;subst i0;by_cases K0:bs= []
   ·have Z0:Hid (yL E tell st kind i l=yg E b0 []):=za (by rw [i1.z,if_neg (by rw [←R0.z,K0];simp)]);have F1:nb=0:=by rw [C2.z,K0];rfl
    subst F1;clear a0 K0;go_wp2_with fail;exact tail _ _ b0 (fun _=>False) [] o0.z (fun _ h=>h.elim) (Acc.nil _ _ _ _ _) ((v0.z.upN l1.z.1).more fun g _ h=>⟨h,fun e=>e⟩) u0.z (by simp) Z0.z
   ·have d2:(0:Int)< (nb:Int):=by
     have:=List.length_pos_iff.2 K0
     rw [C2.z];omega
    have hd:decide ((0:Int)< (nb:Int))=true:=by simpa using d2
    have B0:zt E b0 x.m≠ []:=by rw [←R0.z];exact K0
    obtain ⟨o,ho⟩:=exq (yk E b0 x.m bs);have Z0:Hid (yL E tell st kind i l=yg E (tell {b0 with own:=some o} o).1 (tell {b0 with own:=some o} o).2):=za (by rw [i1.z,if_pos ⟨a0,B0⟩, ←R0.z, ←ho]);have F2:=za (LJ E b0 gA gM (nn+1) (.slice Am nm cm) (.slice A6 nb c6) x.m bs X _ w6 HE.z v0.z u0.z (g1.z.kept n0.z) d3.z (fun h hh=>(UJ h (by rw [←R0.z];exact hh)).1) (fun h hh=>by have:=(UJ h (by rw [←R0.z];exact hh)).2;omega) (by have:=Vl HE.z B0;rw [←R0.z] at this;omega) (fun g hg=>l0.z.2.2 g (nLT o0.z.size hg)));rw [←ho] at F2;have R1:Hid (yP o):=za (by rw [ho];exact NL HE.z u0.z x.m o1.z.le.m bs);have j1:Hid (st.own=none):=za (by rw [←x0.z];exact a0);have D1:=((w1.z.grown n0.z (by simp))).rule;have Y2:=(Z1.z.grown n0.z (by simp)).rule;clear a0 K0 B0 ho;go_wp2_with fail;refine F2.z.mono ?_;rintro e w7 ⟨b2,rfl,A0,hg7⟩;have E0:Hid (zk gA gM w w7):=za (o0.z.step hg7);have Y0:=(w1.z.grown n0.z (by simp)).grown hg7 (by simp);have L0:=zo w7 gA 16 (.pointer (some ⟨b2,0,none⟩));have M2:=za ((v0.z.kept hg7).setOwn l0.z.1 A0);have B2:=za (A0.keep L0 (fun g hg e=>by injection e with e;rw [e] at hg;exact l0.z.1 hg));have m0:Hid (zk gA gM w (w7.setCell ⟨gA,16,none⟩ (.pointer (some ⟨b2,0,none⟩)))):=za (E0.z.trans (zk.of L0 (.inr (.inl rfl))));have K2:=za ((Y0.set 16 (.pointer (some ⟨b2,0,none⟩))).cell 16);have P2:=Y0.rule;have x2:=Y0.cell 16;have T2:=Y0.free;obtain ⟨w8,u1⟩:=exq (w7.setCell ⟨gA,16,none⟩ (.pointer (some ⟨b2,0,none⟩)))
    rw [←u1] at M2 B2 m0 K2;clear hr D1 Y2 A0 hg7 Y0 L0 hd d2;go_upto_region 12 with (fail)
    rw [←u1];clear u1 P2 x2 T2;have f2:=K2.z;simp at f2;have t2:Hid (yI E {b0 with own:=some o}):=za ⟨u0.z.heard,u0.z.dealt,fun y hy=>by injection hy with hy;subst hy;exact R1.z⟩;go_wp2_with fail;refine (HT.z j1.z _ b2 o X w8 M2.z t2.z rfl B2.z R1.z l0.z.1 l0.z.2.1 (fun g hg=>l0.z.2.2 g (nLT m0.z.size hg))).mono ?_;rintro e w9 ⟨v9,Z9,rfl,z1,z2,z3,z4⟩;have HZ:Hid ((∀g,Z9 g→w.heap.size≤g)∧Acc xZ w.heap.size 71 Z9 w9 v9 (tell {b0 with own:=some o} o).2∧AvW (fun g=>X g∧ ¬Z9 g) gA gM j0 E (tell {b0 with own:=some o} o).1 w9∧zk gA gM w w9):=za ⟨fun g hg=>nLT m0.z.size (z1 g hg),z2.low m0.z.size,z3,m0.z.trans z4⟩;have o2:=za (r2.z _ o t2.z R1.z);clear z1 z2 z3 z4 f2;go_wp2_with fail;exact tail v9 w9 _ Z9 _ HZ.z.2.2.2 HZ.z.1 HZ.z.2.1 HZ.z.2.2.1 o2.z.1 o2.z.2 Z0.z
end
section
open Go Go.RowKit Go.Shelf Go.Maps
theorem PJ(E:zy)(s:ASt)(out:List yE):(yg E s out).2.length≤out.length+1:=by
 unfold yg;split
 ·split
  ·simp
  ·simp
 ·simp
theorem TV{E:zy}{tell:ASt→zw→ASt×List yE}{n:Nat}(h: ∀s x,(tell s x).2.length≤n)(st:ASt)(k i:Int)(l:List Int):(yL E tell st k i l).2.length≤n+1:=by
 unfold yL;split
 ·simp
 ·dsimp only;split
  ·exact nLT (PJ _ _ _) (Nat.succ_le_succ (h _ _))
  ·exact nLT (PJ _ _ _) (by simp)
theorem Xi(E:zy)(st:ASt)(k i:Int)(l:List Int):(xX E st k i l).2.length≤1:=TV (n:=0) (fun _ _=>by simp) st k i l
theorem Xg(E:zy)(k:Int)(x:zw):(yA E k x).length≤E.p.N.toNat:=by
 unfold yA;rw [lLm];refine nLT (List.length_filter_le _ _) ?_;unfold Tf;simp
theorem Xh{E:zy}(hE:E.ok)(st:ASt)(k i:Int)(l:List Int):(yF E st k i l).2.length≤9:=TV (n:=8) (fun s x=>by
 obtain ⟨_,_,_,hN1,hN2,_⟩:=zx hE.may;unfold Za;rw [lLa]
 have:=Xg E yY x
 have:=Xi E s yY E.me (yl E x E.me)
 omega) st k i l
theorem PQ(E:zy)(st:ASt)(gA gM nn nn':Nat)(kind i:Int)(v:Value)(l:List Int)(X Y:Nat→Prop)(w:World)(hE:E.ok)(hA:AvW X gA gM nn E st w)(hS:yI E st)(hk:U8 kind)(hi:I64 i)(hXA: ¬X gA)(hXM: ¬X gM)(hN: ∀g,w.heap.size≤g→X g)(hn:nn+1≤nn'∧nn'< maxLen)(h:Sl ze Y w v l)(hl:l.length≤100000)
  (tell:ASt→zw→ASt×List yE) (htl: ∀s x,yI E s→yP x→yI E (tell s x).1∧(tell s x).2.length≤1000)
  (htell:st.own=none→ ∀st1 b x X' w',AvW X' gA gM (nn+1) E st1 w'→yI E st1→st1.own=some x→zL X' w' b x→yP x→ ¬X' gA→ ¬X' gM→(∀g,w'.heap.size≤g→X' g)→Calls prog 53 #[.pointer (some ⟨gA,0,none⟩), .int .u8 9, .pointer (some ⟨b,0,none⟩)] w' (xK X' gA gM nn' E w' (tell st1 x))):
  Calls prog 54 #[.pointer (some ⟨gA,0,none⟩),plV kind i,v] w (xK X gA gM nn' E w (yL E tell st kind i l)):=by
 obtain ⟨Al,nl,cl,rfl⟩:=h.shape;unfold plV;by_cases hno:(st.heard kind i).isSome=true∨i< 1∨E.p.N< i
 ·have e:yL E tell st kind i l=(st, []):=PH (by
   rcases hno with h|h|h
   ·exact .inl h
   ·exact .inr (.inl h)
   ·exact .inr (.inr (.inl h)))
  rw [e];exact Fb E st gA gM nn nn' kind i Al nl cl X w hA hk hi (by omega) hno
 ·simp only [not_or,Bool.not_eq_true] at hno;exact Fc E st gA gM nn nn' kind i Al nl cl l X Y w hE hA hS hk hi hXA hXM hN hn h hl hno.1 ⟨by omega,by omega⟩ tell htl htell
theorem LK(E:zy)(st:ASt)(gA gM nn nn':Nat)(kind i:Int)(v:Value)(l:List Int)(X Y:Nat→Prop)(w:World)(hE:E.ok)(hA:AvW X gA gM nn E st w)(hS:yI E st)(hown:st.own≠none)(hk:U8 kind)(hi:I64 i)(hXA: ¬X gA)(hXM: ¬X gM)(hN: ∀g,w.heap.size≤g→X g)(hn:nn+1≤nn'∧nn'< maxLen)(h:Sl ze Y w v l)(hl:l.length≤100000):
  Calls prog 54 #[.pointer (some ⟨gA,0,none⟩),plV kind i,v] w (xK X gA gM nn' E w (xX E st kind i l)):=
 PQ E st gA gM nn nn' kind i v l X Y w hE hA hS hk hi hXA hXM hN hn h hl (fun s _=>(s, [])) (fun s x hs _=>⟨hs,by simp⟩) (fun e=>absurd e hown)
theorem TX(E:zy)(st:ASt)(gA gM nn nn':Nat)(kind i:Int)(v:Value)(l:List Int)(X Y:Nat→Prop)(w:World)(hE:E.ok)(hA:AvW X gA gM nn E st w)(hS:yI E st)(hk:U8 kind)(hi:I64 i)(hXA: ¬X gA)(hXM: ¬X gM)(hN: ∀g,w.heap.size≤g→X g)(hn:nn+2≤nn'∧nn'< maxLen)(h:Sl ze Y w v l)(hl:l.length≤100000):
  Calls prog 54 #[.pointer (some ⟨gA,0,none⟩),plV kind i,v] w (xK X gA gM nn' E w (yF E st kind i l)):=by
 obtain ⟨_,_,_,hN1,hN2,_⟩:=zx hE.may;have hme:=hE.me;refine PQ E st gA gM nn nn' kind i v l X Y w hE hA hS hk hi hXA hXM hN ⟨by omega,hn.2⟩ h hl _ (fun s x hs hx=>⟨?_, ?_⟩) (fun _ st1 b x X' w' hA1 hS1 ho hp hle h1 h2 h3=> ?_)
 ·show yI E (xX E s yY E.me (yl E x E.me)).1;exact yI.hear1 hE hs _ _ _
 ·unfold Za;rw [lLa]
  have:=Xg E yY x
  have:=Xi E s yY E.me (yl E x E.me)
  omega
 ·exact PK E st1 gA gM (nn+1) nn' 9 b x X' w' hE hA1 ⟨by decide,by decide⟩ hp hle h1 h2 h3 (xX E) (nLT (Xi E st1 9 E.me _) (by decide)) (fun v' l' X'' Y' w'' k1 k2 k3 k4 k5 k6=>LK E st1 gA gM (nn+1) nn' 9 E.me v' l' X'' Y' w'' hE k1 hS1 (by rw [ho];simp) ⟨by decide,by decide⟩ ⟨by omega,by omega⟩ k2 k3 k4 ⟨by omega,hn.2⟩ k5 (by omega))
attribute [local go_sem] Oper.semAt_some
theorem UW(E:zy)(st:ASt)(gA gM nn a0:Nat)(kind i:Int)(v:Value)(l:List Int)(X Y:Nat→Prop)(w:World)(hE:E.ok)(hA:AvW X gA gM nn E st w)(hS:yI E st)(hk:U8 kind)(hi:I64 i)(d0: ¬X gA)(c0: ¬X gM)(hN: ∀g,w.heap.size≤g→X g)(hn:nn+3≤a0∧a0< maxLen)(h:Sl ze Y w v l)(hl:l.length≤100000):
  Calls prog 21 #[.pointer (some ⟨gA,0,none⟩), .int .u8 kind, .int .i64 i,v] w (xK X gA gM a0 E w (zV E st kind i l)):=by
 have HA:=za hA;have HE:=za hE;have p0:Hid (xK X gA gM a0 E w (st, []) (.returned (.slice none 0 0)) w):=za (xK.no hA (gRr _ _) (by omega));have HH:Hid (Calls prog 54 #[.pointer (some ⟨gA,0,none⟩), .agg #[.int .u8 kind, .int .i64 i],v] w (xK X gA gM a0 E w (yF E st kind i l))):=za (TX E st gA gM nn a0 kind i v l X Y w hE hA hS hk hi d0 c0 hN ⟨by omega,hn.2⟩ h hl);obtain ⟨⟨vc,vd,vo,hb,hc,b0,f0⟩,hh,g0⟩:=hA;have HB:=za hb;have hr:=hb.rule;by_cases h7:kind=7
 ·subst h7;by_cases h0:i=0
  ·subst h0;cases hd:st.dealt with
   |some d=>
    rw [hd] at b0;obtain ⟨b,rfl,_⟩:=b0;have HR:Hid (zV E st 7 0 l=(st, [])):=za (by unfold zV;rw [if_neg (fun e=>by rw [hd] at e;cases e.2.2),if_neg (by decide)]);rw [HR.z];clear hE hS hk hi d0 c0 hN hn h hl hb hc f0 hh g0 hd HH;go_enter func21,ntmps21;go_wp2_with fail;go_ret;exact p0.z
   |none=>
    rw [hd] at b0;have b0:vd= .pointer none:=b0;subst b0;have HW:=za (xJ E gA gM vc (.pointer none) vo st.done v l X Y w hE hb hc h hl);obtain ⟨Al,nl,cl,rfl⟩:=h.shape;have n0:Hid (zV E st 7 0 l=if (zu E l).2=false then (st, []) else Za E (yF E) {st with dealt:=some (zu E l).1} XD (zu E l).1):=za (by
     unfold zV;rw [if_pos ⟨rfl,rfl,hd⟩])
    have y0:Hid ((zu E l).2=true→yP (zu E l).1):=za Zx;obtain ⟨x,hx⟩:=exq ((zu E l).1);obtain ⟨ok,r0⟩:=exq ((zu E l).2);rw [←hx, ←r0] at n0 y0 HW;have HS:=za hS;have i0:Hid (¬X gA∧ ¬X gM∧ ∀g,w.heap.size≤g→X g):=za ⟨d0,c0,hN⟩;have v0:=za hn;clear hE hS hk hi d0 c0 hN hn h hl hb hc f0 hh g0 hd hx r0 HH;go_enter func21,ntmps21;go_wp2_with fail;refine HW.z.mono ?_;rintro e w1 ⟨b,rfl,hp,hg1⟩;have q0:=za hg1;have u0:Hid (zL X w1 b x):=za (hp.more fun g _ hg=>i0.z.2.2 g hg);have k0:=HB.z.grown hg1 (by simp);clear hr hg1 hp;cases ok with
    |false=>
     have o0:Hid (xK X gA gM a0 E w (st, []) (.returned (.slice none 0 0)) w1):=za (xK.no HA.z q0.z (by have:=v0.z;omega));clear k0;go_wp2_with fail;go_ret;rw [n0.z];simpa using o0.z
    |true=>
     have m0:=zo w1 gA 15 (.pointer (some ⟨b,0,none⟩));have A0:=za ((HA.z.kept q0.z).setDealt i0.z.1 u0.z);have t0:=za (u0.z.keep m0 (fun g hg e=>by injection e with e;rw [e] at hg;exact i0.z.1 hg));have j0:Hid (zk gA gM w (w1.setCell ⟨gA,15,none⟩ (.pointer (some ⟨b,0,none⟩)))):=za ((zk.of q0.z (.inl rfl)).trans (zk.of m0 (.inr (.inl rfl))));have F0:w1.cell? ⟨gA,15,none⟩=some (.pointer none):=k0.cell 15;have D0:=k0.free 15;obtain ⟨w2,l0⟩:=exq (w1.setCell ⟨gA,15,none⟩ (.pointer (some ⟨b,0,none⟩)));rw [←l0] at A0 t0 j0;have z0:=za (y0.z rfl);have I0:Hid (yI E {st with dealt:=some x}):=za ⟨HS.z.heard,fun y hy=>by injection hy with hy;subst hy;exact z0.z,HS.z.own⟩;clear m0 k0;go_upto_region 8 with (fail)
     rw [←l0];clear l0 F0 D0;go_wp2_with fail;obtain ⟨_,_,_,H0,G0,_⟩:=zx HE.z.may;have C0:=HE.z.me;have s0:=v0.z;refine (PK E {st with dealt:=some x} gA gM nn a0 8 b x X w2 HE.z A0.z ⟨by decide,by decide⟩ t0.z z0.z i0.z.1 i0.z.2.1 (fun g hg=>i0.z.2.2 g (nLT j0.z.size hg)) (yF E) (nLT (Xh HE.z _ _ _ _) (by decide)) (fun v' l' X'' Y' B0 k1 k2 k3 k4 k5 k6=>TX E _ gA gM nn a0 8 E.me v' l' X'' Y' B0 HE.z k1 I0.z ⟨by decide,by decide⟩ ⟨by omega,by omega⟩ k2 k3 k4 ⟨by omega,s0.2⟩ k5 (by omega))).mono ?_;rintro e w3 ⟨v3,Z,rfl,z1,z2,z3,z4⟩;have HF:Hid (xK X gA gM a0 E w (Za E (yF E) {st with dealt:=some x} XD x) (.returned v3) w3):=za ⟨v3,Z,rfl,fun g hg=>nLT j0.z.size (z1 g hg),z2.low j0.z.size,z3,j0.z.trans z4⟩;clear z1 z2 z3 z4 H0 G0 C0 s0;go_wp2_with fail;go_ret;rw [n0.z];simpa using HF.z
  ·have HR:Hid (zV E st 7 i l=(st, [])):=za (by unfold zV;rw [if_neg (fun e=>h0 e.2.1),if_neg (by decide)]);rw [HR.z];have M0:(i==0)=false:=by simpa using h0
   clear hE hS hk hi d0 c0 hN hn h hl hb hc f0 b0 hh g0 HH h0;go_enter func21,ntmps21;go_wp2_with fail;go_ret;exact p0.z
 ·have L0:(kind==7)=false:=by simpa using h7
  by_cases h8:kind=8
  ·subst h8;have HR:Hid (zV E st 8 i l=yF E st 8 i l):=za (by unfold zV;rw [if_neg (fun e=>by simp [Gt] at e),if_pos (.inl rfl)]);rw [HR.z];obtain ⟨Al,nl,cl,rfl⟩:=h.shape;clear hE hS hk hi d0 c0 hN hn h hl hb hc f0 b0 hh g0 h7 hr;go_enter func21,ntmps21;go_wp2_with fail;refine HH.z.mono ?_;rintro e w3 ⟨v3,Z,rfl,hz⟩;have HF:Hid (xK X gA gM a0 E w (yF E st 8 i l) (.returned v3) w3):=za ⟨v3,Z,rfl,hz⟩;clear hz;go_wp2_with fail;go_ret;exact HF.z
  ·by_cases h9:kind=9
   ·subst h9;have HR:Hid (zV E st 9 i l=yF E st 9 i l):=za (by unfold zV;rw [if_neg (fun e=>by simp [Gt] at e),if_pos (.inr rfl)]);rw [HR.z];obtain ⟨Al,nl,cl,rfl⟩:=h.shape;clear hE hS hk hi d0 c0 hN hn h hl hb hc f0 b0 hh g0 h7 h8 hr;go_enter func21,ntmps21;go_wp2_with fail;refine HH.z.mono ?_;rintro e w3 ⟨v3,Z,rfl,hz⟩;have HF:Hid (xK X gA gM a0 E w (yF E st 9 i l) (.returned v3) w3):=za ⟨v3,Z,rfl,hz⟩;clear hz;go_wp2_with fail;go_ret;exact HF.z
   ·have K0:(kind==8)=false:=by simpa using h8
    have J0:(kind==9)=false:=by simpa using h9
    have HR:Hid (zV E st kind i l=(st, [])):=za (by unfold zV;rw [if_neg (fun e=>h7 e.1),if_neg (fun e=>e.elim h8 h9)]);rw [HR.z];clear hE hS hk hi d0 c0 hN hn h hl hb hc f0 b0 hh g0 HH h7 h8 h9;go_enter func21,ntmps21;go_wp2_with fail;go_ret;exact p0.z
end
section
open Go Go.RowKit Go.Shelf Go.Maps
attribute [local go_sem] Oper.semAt_some
theorem Gi(w:World):Calls prog 66 #[.pointer none] w (zN ze (fun g=>w.heap.size≤g) w []):=by
 go_enter func66,ntmps66;go_wp2;go_ret;exact ⟨_,rfl,Sl.nil _ _ _,gRr _ _⟩
theorem QO(b:Nat)(x:zw)(X:Nat→Prop)(w:World)(hp:zL X w b x)(hle:yP x):Calls prog 66 #[.pointer (some ⟨b,0,none⟩)] w (zN ze (fun g=>w.heap.size≤g) w (yz x.m x.a x.b)):=by
 obtain ⟨vm,va,vb,_,hbk,s1,s2,s3⟩:=hp;have HBK:=za hbk;have HPK:=za (fun W (hW:w.grownBy W none)=>XL vm va vb x.m x.a x.b X X X W (s1.kept hW) (s2.kept hW) (s3.kept hW) ⟨hle.m.1,fun f hf=>⟨(hle.m.2 f hf).1,fun r hr=>((hle.m.2 f hf).2 r hr).2⟩⟩ hle.a hle.b);obtain ⟨Am,nm,cm,rfl⟩:=s1.shape;obtain ⟨Aa,na,ca,rfl⟩:=s2.shape;obtain ⟨Ab,nb,cb,rfl⟩:=s3.shape;have hr:=hbk.rule;obtain ⟨PL,hPL⟩:=exq (yz x.m x.a x.b);rw [←hPL] at HPK ⊢;have HRD:Hid (w.grownBy w.drew none):=za (zb w 1);clear s1 s2 s3 hbk hle hPL;go_enter func66,ntmps66;go_upto_region 3 with (fail)
 refine ZF 14 ?_;refine mP0 (.pointer (some ⟨b,0,none⟩)) ?_;refine mP1 (.pointer (some ⟨b,0,none⟩)) 0 5 ?_;refine mP1 (.pointer (some ⟨b,0,none⟩)) 1 6 ?_;refine mQ1 (.slice Am nm cm) 2 7 (fun w' hw' K hK=> ?_) ?_
 ·have hc:=(HBK.z.grown (HRD.z.trans hw') (by simp)).rule;go_simp;exact hK _ rfl rfl
 refine mP0 (.pointer (some ⟨b,0,none⟩)) ?_;refine mP1 (.pointer (some ⟨b,0,none⟩)) 4 9 ?_;refine mP1 (.pointer (some ⟨b,1,none⟩)) 5 10 ?_;refine mQ1 (.slice Aa na ca) 6 11 (fun w' hw' K hK=> ?_) ?_
 ·have hc:=(HBK.z.grown (HRD.z.trans hw') (by simp)).rule;go_simp;exact hK _ rfl rfl
 refine mP0 (.pointer (some ⟨b,0,none⟩)) ?_;refine mP1 (.pointer (some ⟨b,0,none⟩)) 8 13 ?_;refine mP1 (.pointer (some ⟨b,2,none⟩)) 9 14 ?_;refine mQ1 (.slice Ab nb cb) 10 15 (fun w' hw' K hK=> ?_) ?_
 ·have hc:=(HBK.z.grown (HRD.z.trans hw') (by simp)).rule;go_simp;exact hK _ rfl rfl
 refine mN3 (Pv.sl ze (fun g=>w.heap.size≤g) PL) 3 8 7 12 11 16 (fun w' hw' K hK=> ?_) ?_
 ·go_simp;refine (HPK.z w' (HRD.z.trans hw')).mono ?_;rintro e w3 ⟨v,rfl,hs3,hg3⟩;exact hK _ _ rfl (hs3.more fun g _ hg=>nLT (HRD.z.trans hw').size hg) hg3
 refine mV (Pv.sl ze (fun g=>w.heap.size≤g) PL) [(12,17)] (fun w' hw' x17 h17=>kD fun K hK=> ?_) ?_
 ·have h17:Sl ze (fun g=>w.heap.size≤g) w' x17 PL:=h17;go_simp;exact hK _ _ rfl h17 gRf
 intro w3 hw3
 iterate 13 (refine pD ?_;intro _)
 intro y13 k13;have e13:Sl ze (fun g=>w.heap.size≤g) w3 y13 PL:=k13;have HF:Hid (Sl ze (fun g=>w.heap.size≤g) w3 y13 PL∧w.grownBy w3 none):=za ⟨e13,HRD.z.trans hw3⟩;clear k13 e13 hw3;refine wpList_nil ?_;simp only [Act.put,sAa,sAb,sAc];go_wp2_with fail;go_ret;exact ⟨_,rfl,HF.z⟩
theorem NH(v:Value)(o:Option zw)(X:Nat→Prop)(w:World)(hp:Te X w v o)(hle: ∀x,o=some x→yP x):Calls prog 66 #[v] w (zN ze (fun g=>w.heap.size≤g) w (zE o)):=by
 cases o with
 |none=>
  obtain rfl:v= .pointer none:=hp;exact Gi w
 |some x=>
  obtain ⟨b,rfl,hp⟩:=hp;exact QO b x X w hp (hle x rfl)
def Yr(s:ASt)(k:Int)(j:Nat):List (Int×List Int):=((List.range j).map fun (i:Nat)=>(i:Int)+1).filterMap fun i=>(s.heard k i).map fun x=>(i,yz x.m x.a x.b)
theorem Oj(s:ASt)(k:Int)(j:Nat):Yr s k (j+1)=Yr s k j++match s.heard k ((j:Int)+1) with|some x=> [((j:Int)+1,yz x.m x.a x.b)]|none=> []:=by
 unfold Yr;rw [List.range_succ,lMa,List.filterMap_append]
 congr 1
 simp only [List.map_cons,List.map_nil,List.filterMap_cons,List.filterMap_nil];cases s.heard k ((j:Int)+1)<;>rfl
theorem Re(s:ASt)(k:Int)(j:Nat):(Yr s k j).length≤j:=by
 unfold Yr;exact nLT (List.length_filterMap_le _ _) (by simp)
theorem Mr(E:zy)(s:ASt)(k:Int):Yr s k E.p.N.toNat=xE E s k:=rfl
theorem He(E:zy)(st:ASt)(gA gM nn:Nat)(k:Int)(X:Nat→Prop)(w:World)(hE:E.ok)(hA:AvW X gA gM nn E st w)(hS:yI E st)(hk:U8 k):
  Calls prog 67 #[.pointer (some ⟨gA,0,none⟩), .int .u8 k] w (zN Yg (fun g=>w.heap.size≤g) w (xE E st k)):=by
 have HA:=za hA;have HS:=za hS;have HK:=za hk;obtain ⟨_,_,_,v0,u0,_⟩:=zx hE.may;obtain ⟨⟨vc,vd,vo,hb,_⟩,_,_⟩:=hA;have HB:=za hb;have hr:=hb.rule;rw [←Mr];clear hE hk hb hS;obtain ⟨N,hN⟩: ∃N:Nat,E.p.N=(N:Int):=⟨E.p.N.toNat,by omega⟩;have i0:Hid (E.p.N.toNat=N∧N≤7):=za ⟨by omega,by omega⟩;rw [i0.z.1];go_enter func67,ntmps67;go_wp2_with fail;go_loopg [5,14] N (fun g s5 s14 wx=> ∃j:Nat,j+g=N∧s14= .int .i64 j∧Hid (Acc Yg w.heap.size 96 (fun g=>w.heap.size≤g) wx s5 (Yr st k j)∧w.grownBy wx none))
 case atStart=>exact ⟨0,by omega,rfl,za ⟨Acc.nil _ _ _ _ _,gRf⟩⟩
 case round=>
  obtain ⟨j,hj,rfl,HX⟩:=hrel;rcases Nat.eq_zero_or_pos gk with hg0|hg0
  ·obtain rfl:j=N:=by omega
   have HR:Hid (Sl Yg (fun g=>w.heap.size≤g) wr u5 (Yr st k j)∧w.grownBy wr none):=za ⟨HX.z.1.sl,HX.z.2⟩;clear HX hr hg0;go_wp2;go_ret;exact ⟨_,rfl,HR.z.1,HR.z.2⟩
  ·have t0:(j:Int)< (N:Int):=by omega
   have r0:IntKind.i64.wrap ((j:Int)+1)=(j:Int)+1:=i6n _ (by omega);obtain ⟨c0,hg⟩:=HX.z;have n0:=za (HA.z.kept hg);have s0:=(HB.z.grown hg (by simp)).rule;have f0:=za c0;have HG:=za hg;have d0:=za (Oj st k j);have p0:Hid (((Yr st k j).length+1)*32≤140737488355328):=za (by have:=Re st k j;have:=i0.z;omega);have HI:Hid (I64 ((j:Int)+1)):=za ⟨by have:=i0.z;omega,by have:=i0.z;omega⟩;clear c0 hg HX hr;obtain ⟨v,j0,g0⟩:=zT.look n0.z.heard k ((j:Int)+1) HK.z HI.z;unfold plV at j0;cases hh:st.heard k ((j:Int)+1) with
   |none=>
    rw [hh] at j0 g0 d0;obtain rfl:v= .pointer none:=g0;have b0:Hid (Acc Yg w.heap.size 96 (fun g=>w.heap.size≤g) wr u5 (Yr st k (j+1))∧w.grownBy wr none):=za ⟨by rw [d0.z,List.append_nil];exact f0.z,HG.z⟩;clear hh d0 f0 HG;go_wp2_with fail;go_roundg (gk - 1)
    case measure=>omega
    case rel=>exact ⟨j+1,by omega,by go_num,b0⟩
   |some x=>
    rw [hh] at j0 g0 d0;obtain ⟨b,rfl,hp⟩:=g0;have o0:=za (QO b x X wr hp (HS.z.heard _ _ _ hh).le);clear hh hp;go_wp2_with fail;refine o0.z.mono ?_;rintro e w5 ⟨v5,rfl,hs5,hg5⟩;have q0:=za (HG.z.trans hg5);have l0:=za (f0.z.kept hg5);have k0:Hid (Yg.rep (fun g=>w.heap.size≤g∧some g≠u5.ownBlock) w5 [.int .i64 ((j:Int)+1),v5] ((j:Int)+1,yz x.m x.a x.b)):=za ⟨_,rfl,HI.z,hs5.more fun g _ hx=>⟨nLT HG.z.size hx,fun e=>by have:=(f0.z.lt g e.symm).2;omega⟩⟩;obtain ⟨A5,n5,c5,e5⟩:=hs5.shape;subst e5;clear hs5 hg5 f0 HG;go_wp2_with (at_builtin;refine zF rfl (.tmp 30) (.tmp 36) rfl (E:=Yg) ED q0.z l0.z (fun _ h=>h) k0.z p0.z rfl rfl ?_);intro v9 w9 a0 m0 _;have b0:Hid (Acc Yg w.heap.size 96 (fun g=>w.heap.size≤g) w9 v9 (Yr st k (j+1))∧w.grownBy w9 none):=za ⟨by rw [d0.z];exact a0,m0⟩;clear a0 m0;go_wp2_with fail;go_roundg (gk - 1)
    case measure=>omega
    case rel=>exact ⟨j+1,by omega,by go_num,b0⟩
end
section
open Go Go.RowKit Go.Shelf Go.Maps
structure SSt where
 dealer:Int
 me:Int
 coms:List (List Int)
 deal:List Int
 echos:List (Int×List Int)
 readies:List (Int×List Int)
 own:List Int
 done:Bool
 deriving DecidableEq
def yS(E:zy)(st:ASt):SSt:=⟨E.dealer,E.me,E.coms,zE st.dealt,xE E st 8,xE E st 9,zE st.own,st.done⟩
def Xj(X:Nat→Prop)(W:World)(v:Value)(s:SSt):Prop:= ∃vc vd ve vr vo,v= .agg #[.int .i64 s.dealer, .int .i64 s.me,vc,vd,ve,vr,vo, .bool s.done]∧Sl (zh ze) X W vc s.coms∧Sl ze X W vd s.deal∧Sl Yg X W ve s.echos∧Sl Yg X W vr s.readies∧Sl ze X W vo s.own
theorem Xj.keep{X:Nat→Prop}{W W':World}{v:Value}{s:SSt}(h:Xj X W v s){row:Option Nat}(hg:W.grownBy W' row)(hX: ∀g,X g→some g≠row):Xj X W' v s:=by
 obtain ⟨vc,vd,ve,vr,vo,e,h1,h2,h3,h4,h5⟩:=h;exact ⟨vc,vd,ve,vr,vo,e,h1.keep hg hX,h2.keep hg hX,h3.keep hg hX,h4.keep hg hX,h5.keep hg hX⟩
theorem Xj.kept{X:Nat→Prop}{W W':World}{v:Value}{s:SSt}(h:Xj X W v s)(hg:W.grownBy W' none):Xj X W' v s:=h.keep hg (by simp)
theorem Xj.more{X Y:Nat→Prop}{W:World}{v:Value}{s:SSt}(h:Xj X W v s)(hX: ∀g,g< W.heap.size→X g→Y g):Xj Y W v s:=by
 obtain ⟨vc,vd,ve,vr,vo,e,h1,h2,h3,h4,h5⟩:=h;exact ⟨vc,vd,ve,vr,vo,e,h1.more hX,h2.more hX,h3.more hX,h4.more hX,h5.more hX⟩
def CG(X:Nat→Prop)(s:SSt):Pv:=⟨fun v w=>Xj X w v s,fun h hg=>h.kept hg⟩
theorem Rk{fn:Func}{W:World}{B:Nat}{a b c d e f g h:Value}(hr:fn.results= #[.cell 2 82])(tmps:Array Value)(h2:tmps.getD 2 undef= .pointer (some ⟨B,0,none⟩))(hb:Bk W B 82 #[a,b,c,d,e,f,g,h]):(results fn tmps).run prog W= .ok (.agg #[a,b,c,d,e,f,g,h]) W:=by
 have r1:=run_loadVar_row (P:=prog) W B 82 82 #[a,b,c,d,e,f,g,h] (0,0) _ hb Tryz.underlying82 rfl (by kernel_rfl);have h2':tmps[2]?.getD undef= .pointer (some ⟨B,0,none⟩):=by simpa using h2
 simp [results,hr,h2',asAddr,r1]
attribute [local go_sem] Oper.semAt_some
abbrev Dw:Obj:= .cells #[.int .i64 0, .int .i64 0, .slice none 0 0, .slice none 0 0, .slice none 0 0, .slice none 0 0, .slice none 0 0, .bool false] 82
theorem TW(E:zy)(st:ASt)(gA gM nn:Nat)(X:Nat→Prop)(w:World)(hE:E.ok)(hA:AvW X gA gM nn E st w)(hS:yI E st):
  Calls prog 30 #[.pointer (some ⟨gA,0,none⟩)] w fun e w'=> ∃v,e= .returned v∧Xj (fun g=>w.heap.size≤g) w' v (yS E st)∧w.grownBy w' none:=by
 have HA:=za hA;have HE:=za hE;have HS:=za hS;obtain ⟨w0,l0⟩:=exq (w.alloc Dw);have c0:Hid (w.grownBy w0 none):=za (by rw [l0];exact gAl _ _ none);have M0:Hid (Bk w0 w.heap.size 82 #[.int .i64 0, .int .i64 0, .slice none 0 0, .slice none 0 0, .slice none 0 0, .slice none 0 0, .slice none 0 0, .bool false]):=za (by rw [l0];exact Bk.new _ _ _);have a0:Hid (w0.grownBy w0.drew none):=za (zb w0 1);obtain ⟨⟨vc,vd,vo,hb,hc,g0,f0⟩,_,_⟩:=hA;have HB:=za hb;have P0:Hid (∀W,w0.grownBy W none→Calls prog 47 #[vc] W (zN (zh ze) (fun g=>W.heap.size≤g) W E.coms)):=za (fun W hW=>TQ vc E.coms X W (hc.kept (c0.z.trans hW)) hE.few (fun x hx=>by have:=(Zh hE.may hE.formed).2.2 x hx;omega));have L0:Hid (∀W,w0.grownBy W none→Calls prog 66 #[vd] W (zN ze (fun g=>W.heap.size≤g) W (zE st.dealt))):=za (fun W hW=>NH vd st.dealt X W (g0.keep (c0.z.trans hW) (by simp)) hS.dealt);have K0:Hid (∀W,w0.grownBy W none→Calls prog 66 #[vo] W (zN ze (fun g=>W.heap.size≤g) W (zE st.own))):=za (fun W hW=>NH vo st.own X W (f0.keep (c0.z.trans hW) (by simp)) hS.own);have C0:Hid (∀W k,U8 k→w0.grownBy W none→Calls prog 67 #[.pointer (some ⟨gA,0,none⟩), .int .u8 k] W (zN Yg (fun g=>W.heap.size≤g) W (xE E st k))):=za (fun W k hk hW=>He E st gA gM nn k X W hE (HA.z.kept (c0.z.trans hW)) hS hk);obtain ⟨PD,B0⟩:=exq (zE st.dealt);obtain ⟨PO,A0⟩:=exq (zE st.own);obtain ⟨T8,z0⟩:=exq (xE E st 8);obtain ⟨T9,y0⟩:=exq (xE E st 9);have I0:Hid (yS E st=⟨E.dealer,E.me,E.coms,PD,T8,T9,PO,st.done⟩):=za (by rw [B0,A0,z0,y0];rfl)
 rw [←B0] at L0;rw [←A0] at K0;rw [I0.z];have H0:=za (fun W (hW:w0.grownBy W none)=>C0.z W 8 ⟨by decide,by decide⟩ hW);have G0:=za (fun W (hW:w0.grownBy W none)=>C0.z W 9 ⟨by decide,by decide⟩ hW);rw [←z0] at H0;rw [←y0] at G0;obtain ⟨dn,D0⟩:=exq (st.done);rw [←D0] at HB ⊢;obtain ⟨SS,F0⟩: ∃y:SSt,y=⟨E.dealer,E.me,E.coms,PD,T8,T9,PO,dn⟩:=⟨_,rfl⟩;have J0:=za F0;have k0:Hid (∀w',w0.grownBy w' none→ ∀o,w'.cell? ⟨gA,o,none⟩=(zz E vc vd vo gM dn)[o]?):=za (fun w' hw'=>(HB.z.grown (c0.z.trans hw') (by simp)).rule);obtain ⟨Ac,nc,cc,rfl⟩:=hc.shape;have v0: ∃a,vd= .pointer a:=by
  cases h:st.dealt with
  |none=>rw [h] at g0;exact ⟨_,g0⟩
  |some x=>rw [h] at g0;obtain ⟨b,e,_⟩:=g0;exact ⟨_,e⟩
 have u0: ∃a,vo= .pointer a:=by
  cases h:st.own with
  |none=>rw [h] at f0;exact ⟨_,f0⟩
  |some x=>rw [h] at f0;obtain ⟨b,e,_⟩:=f0;exact ⟨_,e⟩
 obtain ⟨pd,rfl⟩:=v0;obtain ⟨po,rfl⟩:=u0;clear hE hS hb hc g0 f0 B0 A0 z0 y0 D0 F0 I0 C0;go_enter func30,ntmps30;go_wp2_with fail;rw [←l0];clear l0;refine ZF 32 ?_;refine mP0 (.pointer (some ⟨gA,0,none⟩)) ?_;refine mP1 (.pointer (some ⟨gA,0,none⟩)) 0 6 ?_;refine mP1 (.pointer (some ⟨gA,12,none⟩)) 1 7 ?_;refine mQ1 (.int .i64 E.dealer) 2 8 (fun w' hw' K hK=> ?_) ?_
 ·have hc:=k0.z w' (a0.z.trans hw');go_simp;exact hK _ rfl rfl
 refine mP0 (.pointer (some ⟨gA,0,none⟩)) ?_;refine mP1 (.pointer (some ⟨gA,0,none⟩)) 4 10 ?_;refine mP1 (.pointer (some ⟨gA,13,none⟩)) 5 11 ?_;refine mQ1 (.int .i64 E.me) 6 12 (fun w' hw' K hK=> ?_) ?_
 ·have hc:=k0.z w' (a0.z.trans hw');go_simp;exact hK _ rfl rfl
 refine mP0 (.pointer (some ⟨gA,0,none⟩)) ?_;refine mP1 (.pointer (some ⟨gA,0,none⟩)) 8 14 ?_;refine mP1 (.pointer (some ⟨gA,14,none⟩)) 9 15 ?_;refine mQ1 (.slice Ac nc cc) 10 16 (fun w' hw' K hK=> ?_) ?_
 ·have hc:=k0.z w' (a0.z.trans hw');go_simp;exact hK _ rfl rfl
 refine mN1 (Pv.sl (zh ze) (fun g=>w0.heap.size≤g) E.coms) 11 17 (fun w' hw' K hK=> ?_) ?_
 ·go_simp;refine (P0.z w' (a0.z.trans hw')).mono ?_;rintro e w3 ⟨v,rfl,hs3,hg3⟩;exact hK _ _ rfl (hs3.more fun g _ hg=>nLT (a0.z.trans hw').size hg) hg3
 refine mP0 (.pointer (some ⟨gA,0,none⟩)) ?_;refine mP1 (.pointer (some ⟨gA,0,none⟩)) 13 19 ?_;refine mP1 (.pointer (some ⟨gA,15,none⟩)) 14 20 ?_;refine mQ1 (.pointer pd) 15 21 (fun w' hw' K hK=> ?_) ?_
 ·have hc:=k0.z w' (a0.z.trans hw');go_simp;exact hK _ rfl rfl
 refine mN1 (Pv.sl (ze) (fun g=>w0.heap.size≤g) PD) 16 22 (fun w' hw' K hK=> ?_) ?_
 ·go_simp;refine (L0.z w' (a0.z.trans hw')).mono ?_;rintro e w3 ⟨v,rfl,hs3,hg3⟩;exact hK _ _ rfl (hs3.more fun g _ hg=>nLT (a0.z.trans hw').size hg) hg3
 refine mP0 (.pointer (some ⟨gA,0,none⟩)) ?_;refine mN1 (Pv.sl (Yg) (fun g=>w0.heap.size≤g) T8) 18 24 (fun w' hw' K hK=> ?_) ?_
 ·go_simp;refine (H0.z w' (a0.z.trans hw')).mono ?_;rintro e w3 ⟨v,rfl,hs3,hg3⟩;exact hK _ _ rfl (hs3.more fun g _ hg=>nLT (a0.z.trans hw').size hg) hg3
 refine mP0 (.pointer (some ⟨gA,0,none⟩)) ?_;refine mN1 (Pv.sl (Yg) (fun g=>w0.heap.size≤g) T9) 20 26 (fun w' hw' K hK=> ?_) ?_
 ·go_simp;refine (G0.z w' (a0.z.trans hw')).mono ?_;rintro e w3 ⟨v,rfl,hs3,hg3⟩;exact hK _ _ rfl (hs3.more fun g _ hg=>nLT (a0.z.trans hw').size hg) hg3
 refine mP0 (.pointer (some ⟨gA,0,none⟩)) ?_;refine mP1 (.pointer (some ⟨gA,0,none⟩)) 22 28 ?_;refine mP1 (.pointer (some ⟨gA,16,none⟩)) 23 29 ?_;refine mQ1 (.pointer po) 24 30 (fun w' hw' K hK=> ?_) ?_
 ·have hc:=k0.z w' (a0.z.trans hw');go_simp;exact hK _ rfl rfl
 refine mN1 (Pv.sl (ze) (fun g=>w0.heap.size≤g) PO) 25 31 (fun w' hw' K hK=> ?_) ?_
 ·go_simp;refine (K0.z w' (a0.z.trans hw')).mono ?_;rintro e w3 ⟨v,rfl,hs3,hg3⟩;exact hK _ _ rfl (hs3.more fun g _ hg=>nLT (a0.z.trans hw').size hg) hg3
 refine mP0 (.pointer (some ⟨gA,0,none⟩)) ?_;refine mP1 (.pointer (some ⟨gA,0,none⟩)) 27 33 ?_;refine mP1 (.pointer (some ⟨gA,18,none⟩)) 28 34 ?_;refine mQ1 (.bool dn) 29 35 (fun w' hw' K hK=> ?_) ?_
 ·have hc:=k0.z w' (a0.z.trans hw');go_simp;exact hK _ rfl rfl
 refine mV (CG (fun g=>w0.heap.size≤g) SS) [(3,9),(7,13),(12,18),(17,23),(19,25),(21,27),(26,32),(30,36)] (fun w' hw'=>pQ (pQ (fun x18 r0 x23 q0 x25 p0 x27 o0 x32 n0=>pQ (kD fun K hK=> ?_)))) ?_
 ·have r0:Sl (zh ze) (fun g=>w0.heap.size≤g) w' x18 E.coms:=r0;obtain ⟨A18,n18,c18,e18⟩:=r0.shape;subst e18;have q0:Sl (ze) (fun g=>w0.heap.size≤g) w' x23 PD:=q0;obtain ⟨A23,n23,c23,e23⟩:=q0.shape;subst e23;have p0:Sl (Yg) (fun g=>w0.heap.size≤g) w' x25 T8:=p0;obtain ⟨A25,n25,c25,e25⟩:=p0.shape;subst e25;have o0:Sl (Yg) (fun g=>w0.heap.size≤g) w' x27 T9:=o0;obtain ⟨A27,n27,c27,e27⟩:=o0.shape;subst e27;have n0:Sl (ze) (fun g=>w0.heap.size≤g) w' x32 PO:=n0;obtain ⟨A32,n32,c32,e32⟩:=n0.shape;subst e32;go_simp;exact hK _ _ rfl (show Xj _ _ _ SS by rw [J0.z];exact ⟨_,_,_,_,_,rfl,r0,q0,p0,o0,n0⟩) gRf
 intro w3 t0
 iterate 31 (refine pD ?_;intro _)
 intro y31 k31;show wpList prog _ _ _ _ w3;simp only [Act.put,sAa,sAb,sAc];have e31:Xj (fun g=>w0.heap.size≤g) w3 y31 SS:=k31;rw [J0.z] at e31;obtain ⟨v1,v2,v3,v4,v5,e,s1,s2,s3,s4,s5⟩:=e31;dsimp only at e;obtain ⟨A1,n1,c1,rfl⟩:=s1.shape;obtain ⟨A2,n2,c2,rfl⟩:=s2.shape;obtain ⟨A3,n3,c3,rfl⟩:=s3.shape;obtain ⟨A4,n4,c4,rfl⟩:=s4.shape;obtain ⟨A5,n5,c5,rfl⟩:=s5.shape;subst e;have m0:=M0.z.grown (a0.z.trans t0) (by simp);have d0:=m0.rule;have f3:=m0.free;have R0:Hid (w.heap.size≤w.heap.size):=za (nRf _);obtain ⟨wF,s0⟩:=exq ((((((((w3.setCell ⟨w.heap.size,0,none⟩ (.int .i64 E.dealer)).setCell ⟨w.heap.size,1,none⟩ (.int .i64 E.me)).setCell ⟨w.heap.size,2,none⟩ (.slice A1 n1 c1)).setCell ⟨w.heap.size,3,none⟩ (.slice A2 n2 c2)).setCell ⟨w.heap.size,4,none⟩ (.slice A3 n3 c3)).setCell ⟨w.heap.size,5,none⟩ (.slice A4 n4 c4)).setCell ⟨w.heap.size,6,none⟩ (.slice A5 n5 c5)).setCell ⟨w.heap.size,7,none⟩ (.bool dn));have Q0:Hid (Bk wF w.heap.size 82 #[.int .i64 E.dealer, .int .i64 E.me, .slice A1 n1 c1, .slice A2 n2 c2, .slice A3 n3 c3, .slice A4 n4 c4, .slice A5 n5 c5, .bool dn]):=za (by rw [s0];exact ((((((((m0.set 0 _).set 1 _).set 2 _).set 3 _).set 4 _).set 5 _).set 6 _).set 7 _));have b0:w3.grownBy wF (some w.heap.size):=by
  rw [s0];exact (((((((zo _ _ 0 _).trans (zo _ _ 1 _)).trans (zo _ _ 2 _)).trans (zo _ _ 3 _)).trans (zo _ _ 4 _)).trans (zo _ _ 5 _)).trans (zo _ _ 6 _)).trans (zo _ _ 7 _)
 have N0:Hid (w.grownBy wF none):=za (zP (c0.z.trans (a0.z.trans t0)) b0 (fun b e=>by injection e with e;omega));have i0: ∀g,w0.heap.size≤g→some g≠some w.heap.size:=fun g hg e=>by
  injection e with e
  have:=M0.z.lt
  omega
 have j0: ∀g,g< wF.heap.size→w0.heap.size≤g→w.heap.size≤g:=fun g _ hg=>nLT c0.z.size hg
 have O0:Hid (Xj (fun g=>w.heap.size≤g) wF (.agg #[.int .i64 E.dealer, .int .i64 E.me, .slice A1 n1 c1, .slice A2 n2 c2, .slice A3 n3 c3, .slice A4 n4 c4, .slice A5 n5 c5, .bool dn]) ⟨E.dealer,E.me,E.coms,PD,T8,T9,PO,dn⟩):=za ⟨_,_,_,_,_,rfl,(s1.keep b0 i0).more j0,(s2.keep b0 i0).more j0,(s3.keep b0 i0).more j0,(s4.keep b0 i0).more j0,(s5.keep b0 i0).more j0⟩;clear k31 s1 s2 s3 s4 s5 t0 m0 b0 i0 j0;go_wp2_with fail;rw [←s0];exact ⟨rfl,_,Rk rfl _ rfl Q0.z,_,rfl,O0.z,N0.z⟩
end
section
open Go Go.RowKit Go.Shelf Go.Maps
def yT(E:zy)(k:Int):ASt→Int→List (Int×List Int)→ASt×Bool
 |s,_, []=>(s,true)
 |s,last,t::l=>if t.1≤last∨E.p.N< t.1∨(zi E t.1 t.2).2=false then (s,false) else yT E k (s.put k t.1 (zi E t.1 t.2).1) t.1 l
theorem Ma{E:zy}{k:Int}{s:ASt}{last:Int}{t:Int×List Int}{l:List (Int×List Int)}(h:t.1≤last∨E.p.N< t.1∨(zi E t.1 t.2).2=false):(yT E k s last (t::l)).2=false:=by
 unfold yT;rw [if_pos h]
theorem PG{E:zy}{k:Int}{s:ASt}{last:Int}{t:Int×List Int}{l:List (Int×List Int)}(h: ¬(t.1≤last∨E.p.N< t.1∨(zi E t.1 t.2).2=false)):yT E k s last (t::l)=yT E k (s.put k t.1 (zi E t.1 t.2).1) t.1 l:=by
 conv=>lhs;unfold yT
 rw [if_neg h]
def Fh(X:Nat→Prop)(gA gM nn:Nat)(E:zy)(w:World)(r:ASt×Bool)(e:Ending)(w':World):Prop:=e= .returned (.bool r.2)∧(r.2=true→AvW X gA gM nn E r.1 w'∧yI E r.1)∧zk gA gM w w'
attribute [local go_sem] Oper.semAt_some
theorem KJ(E:zy)(st:ASt)(gA gM nn:Nat)(k:Int)(v:Value)(l:List (Int×List Int))(X Y:Nat→Prop)(w:World)(hE:E.ok)(hA:AvW X gA gM nn E st w)(hS:yI E st)(hk:U8 k)(L0: ¬X gA)(K0: ¬X gM)(hN: ∀g,w.heap.size≤g→X g)(h:Sl Yg Y w v l)(J0: ¬Y gA)(I0: ¬Y gM)(hl: ∀t∈l,t.2.length≤100000)(hn:nn+l.length< maxLen):
  Calls prog 69 #[.pointer (some ⟨gA,0,none⟩), .int .u8 k,v] w (Fh X gA gM (nn+l.length) E w (yT E k st 0 l)):=by
 have HA:=za hA;have HE:=za hE;have HS:=za hS;have HK:=za hk;have H:=za h;have HL:=za hl;have Q0:=za hn;have j0:Hid (¬X gA∧ ¬X gM∧(∀g,w.heap.size≤g→X g)∧ ¬Y gA∧ ¬Y gM):=za ⟨L0,K0,hN,J0,I0⟩;have l1:Hid (gA< w.heap.size∧gM< w.heap.size):=za ⟨hA.ltA,hA.ltM⟩;obtain ⟨A,c,rfl,w0,g1⟩:=h.form;obtain ⟨N,A0⟩:=exq (l.length);have R0:=za A0;rw [←A0] at w0 H Q0 ⊢;obtain ⟨_,_,_,j1,i1,_⟩:=zx hE.may;obtain ⟨rr,q0⟩:=exq (yT E k st 0 l);have W0:=za q0;rw [←q0];clear hE hS hk L0 K0 hN h J0 I0 hl hn A0 hA q0;go_enter func69,ntmps69;go_wp2_with fail;go_loopg [7,14] N (fun g s7 s14 wx=> ∃(j:Nat) (last:Int),j+g=N∧s14= .int .i64 j∧s7= .int .i64 last∧0≤last∧Hid (∃sj,rr=yT E k sj last (l.drop j)∧AvW X gA gM (nn+j) E sj wx∧yI E sj∧zk gA gM w wx))
 case atStart=>exact ⟨0,0,by omega,rfl,rfl,by omega,za ⟨st,by rw [List.drop_zero];exact W0.z,HA.z,HS.z,zk.refl _ _ _⟩⟩
 case round=>
  obtain ⟨j,last,hj,rfl,rfl,c1,HX⟩:=hrel;cases gk with
  |zero=>
   obtain rfl:j=N:=by omega
   have HR:Hid (Fh X gA gM (nn+j) E w rr (.returned (.bool true)) wr):=za (by
    obtain ⟨sj,h1,h2,h3,h4⟩:=HX.z;rw [List.drop_of_length_le (by rw [←R0.z];exact nRf _)] at h1;have h1:rr=(sj,true):=h1;rw [h1];exact ⟨rfl,fun _=>⟨h2,h3⟩,h4⟩)
   clear HX;go_wp2;go_ret;exact HR.z
  |succ m=>
   have d1:(j:Int)< (N:Int):=by omega
   have l0:j< l.length:=by rw [←R0.z];omega
   obtain ⟨sj,h1,h2,h3,h4⟩:=HX.z;rw [List.drop_eq_getElem_cons l0] at h1;have D0:=HL.z _ (lGm l0);obtain ⟨g,o,c',u,e,V0,Y0,z0,f1,XX,c0⟩:=(H.out.keep2 h4 j0.z.2.2.2.1 j0.z.2.2.2.2).atT l0;injection e with e1 e2 e3
   subst e1 e3;obtain ⟨t,ht⟩:=exq (l[j]);rw [←ht] at h1 z0 XX c0 D0;obtain ⟨f,nums⟩:=t;have z0:wr.cell? ⟨g,o+j*2,none⟩=some (.int .i64 f):=z0;have XX:I64 f:=XX;have c0:Sl ze Y wr u nums:=c0;have x0:=za c0;obtain ⟨Au,nu,cu,rfl⟩:=c0.shape;have H1:Hid (rr=yT E k sj last ((f,nums)::l.drop (j+1))):=za h1;have H2:=za h2;have H3:=za h3;have H4:=za h4;have HI:=za XX;have X0:=za D0;obtain ⟨⟨vc,vd,vo,hb,hc,_⟩,_,_⟩:=H2.z;have b0:Hid (wr.grownBy (wr.alloc (.cells #[.int .i64 f, .slice Au nu cu] 96)) none):=za (gAl wr _ none);have n0:Hid (Bk (wr.alloc (.cells #[.int .i64 f, .slice Au nu cu] 96)) wr.heap.size 96 #[.int .i64 f, .slice Au nu cu]):=za (Bk.new wr _ _);have HB:=za hb;have HC:=za hc;have hr:=(hb.grown b0.z (by simp)).rule;have s0:=n0.z.rule;obtain ⟨wa,o0⟩:=exq (wr.alloc (.cells #[.int .i64 f, .slice Au nu cu] 96));have N0:=za o0;rw [←o0] at b0 n0;clear o0 h1 h2 h3 h4 XX D0 ht c0 hb hc HX e2 V0 Y0 l0;by_cases a0:f≤last∨E.p.N< f
   ·have HR:Hid (∀n,Fh X gA gM (nn+N) E w rr (.returned (.bool false)) (wa.drewN n)):=za (fun n=>by
     have e:=Ma (E:=E) (k:=k) (s:=sj) (last:=last) (t:=(f,nums)) (l:=l.drop (j+1)) (by rcases a0 with h|h;exact .inl h;exact .inr (.inl h));rw [←H1.z] at e;exact ⟨by rw [e],(fun h=>absurd (e.symm.trans h) (by decide)),H4.z.step (b0.z.trans (zb wa n))⟩)
    rw [N0.z] at HR;clear H1 H2 H3 H4;rcases Classical.em (f≤last) with hf|hf
    ·have v0:decide (f≤last)=true:=by simpa using hf
     clear a0;go_wp2_with fail;go_quiet (fail);go_wp2_with fail;go_ret;exact HR.z _
    ·have u0:E.p.N< f:=a0.resolve_left hf;have v0:decide (f≤last)=false:=by simpa using hf
     have H0:decide (f>E.p.N)=true:=by simpa using u0
     clear a0;go_wp2_with fail;go_quiet (fail);go_wp2_with fail;go_ret;exact HR.z _
   ·have Z0: ¬f≤last:=fun h=>a0 (.inl h)
    have u0: ¬E.p.N< f:=fun h=>a0 (.inr h)
    have v0:decide (f≤last)=false:=by simpa using Z0
    have H0:decide (f>E.p.N)=false:=by simpa using u0
    have T0:Hid (1≤f∧f≤E.p.N):=za ⟨by omega,by omega⟩;have P0:=za (fun W (hW:wa.grownBy W none)=>UX E gA gM vc vd vo sj.done f (.slice Au nu cu) nums X Y W HE.z (HB.z.grown (b0.z.trans hW) (by simp)) (HC.z.kept (b0.z.trans hW)) (x0.z.kept (b0.z.trans hW)) X0.z T0.z);go_wp2_with fail;go_quiet (fail);rw [←N0.z] at hr s0 ⊢;go_wp2_with fail;refine (P0.z _ (zb _ _)).mono ?_;rintro e w3 ⟨b,rfl,hpt,hg3⟩;have d0:=za ((zb wa _).trans hg3);cases g0:(zi E f nums).2 with
    |false=>
     have HR:Hid (Fh X gA gM (nn+N) E w rr (.returned (.bool false)) w3):=za (by
      have e:=Ma (E:=E) (k:=k) (s:=sj) (last:=last) (t:=(f,nums)) (l:=l.drop (j+1)) (.inr (.inr g0));rw [←H1.z] at e;exact ⟨by rw [e],(fun h=>absurd (e.symm.trans h) (by decide)),H4.z.step (b0.z.trans d0.z)⟩)
     clear hr s0 hpt hg3 g0;go_wp2_with fail;go_ret;exact HR.z
    |true=>
     have S0:Hid (XU E.coms.length (zi E f nums).1):=za (Ut HE.z g0);have M0:Hid (rr=yT E k (sj.put k f (zi E f nums).1) f (l.drop (j+1))):=za (by
      rw [H1.z];exact PG (t:=(f,nums)) (by rw [show (zi E (f,nums).1 (f,nums).2).2=true from g0];have:=T0.z;simp;omega))
     obtain ⟨x,hx⟩:=exq ((zi E f nums).1);rw [←hx] at S0 M0 hpt;have O0:Hid (zL X w3 b x):=za (hpt.more fun g _ hg=>j0.z.2.2.1 g (by have:=H4.z.size;have:=b0.z.size;have:=(zb wa nq).size;omega));have B0:Hid (∀w',w3.drew.grownBy w' none→(∀o,w'.cell? ⟨gA,o,none⟩=(zz E vc vd vo gM sj.done)[o]?)∧ ∀o,w'.cell? ⟨wr.heap.size,o,none⟩=(#[.int .i64 f, .slice Au nu cu]:Array Value)[o]?):=za (fun w' hw'=>by
      have hg:=d0.z.trans ((zb w3 1).trans hw');exact ⟨(HB.z.grown (b0.z.trans hg) (by simp)).rule,(n0.z.grown hg (by simp)).rule⟩)
     have C0:Hid (w3.grownBy w3.drew none):=za (zb w3 1);have U0:=(HB.z.grown (b0.z.trans d0.z) (by simp)).rule;have r0:=(n0.z.grown d0.z (by simp)).rule;clear hr s0 hpt hg3 g0 hx v0 H0;go_upto_region 11 with (fail)
     clear U0 r0;refine ZF 9 ?_;refine mP0 (.pointer (some ⟨gA,0,none⟩)) ?_;refine mP1 (.pointer (some ⟨gA,0,none⟩)) 0 45 ?_;refine mP1 (.pointer (some ⟨gA,17,none⟩)) 1 46 ?_;refine mQ1 (.map (some gM)) 2 47 (fun w' hw' K hK=> ?_) ?_
     ·obtain ⟨hc,h0⟩:=B0.z w' hw';go_simp;exact hK _ rfl rfl
     refine mP0 (.int .u8 k) ?_;refine mP0 (.pointer (some ⟨wr.heap.size,0,none⟩)) ?_;refine mQ1 (.int .i64 f) 5 50 (fun w' hw' K hK=> ?_) ?_
     ·obtain ⟨hc,h0⟩:=B0.z w' hw';go_simp;exact hK _ rfl rfl
     refine mP2 (.agg #[.int .u8 k, .int .i64 f]) 4 49 6 51 ?_;refine mP0 (.pointer (some ⟨b,0,none⟩)) ?_;intro w4 p0;intro y0 k0 y1 k1 y2 k2 y3 k3 y4 k4 y5 k5 y6 k6 y7 k7 y8 k8;have e3:y3= .map (some gM):=k3;have e7:y7= .agg #[.int .u8 k, .int .i64 f]:=k7;have e8:y8= .pointer (some ⟨b,0,none⟩):=k8;subst e3 e7 e8;have m0:=b0.z.trans (d0.z.trans (C0.z.trans p0));have i0:=C0.z.trans p0;obtain ⟨w5,f0,G0,t0⟩:=((H2.z.kept m0).heard).put (by have:=Q0.z;omega) k f HK.z HI.z (O0.z.keep i0 (by simp)) j0.z.2.1;have b1:=za ((H2.z.kept m0).putHeard j0.z.2.1 t0 G0);have a1:Hid (zk gA gM w w5):=za ((H4.z.step m0).trans (zk.of t0 (.inr (.inr rfl))));have E0:=za (H3.z.put k f S0.z);unfold plV at f0;show wpList prog _ _ _ _ w4;simp only [Act.put,sAa,sAb,sAc];clear k0 k1 k2 k3 k4 k5 k6 k7 k8 G0 m0 i0 t0 p0 B0 O0 C0 P0 d0 H1 H2 H3 H4;refine wpList_plain rfl fun K hK=> ?_
     go_simp;refine hK _ _ (wpList_nil ?_);clear f0 hK;have F0:Hid (∃sj',rr=yT E k sj' f (l.drop (j+1))∧AvW X gA gM (nn+(j+1)) E sj' w5∧yI E sj'∧zk gA gM w w5):=za ⟨_,M0.z,b1.z,E0.z,a1.z⟩;have e0:0≤f:=by omega
     clear a0;go_wp2_with fail;go_roundg m
     case measure=>omega
     case rel=>exact ⟨j+1,f,by omega,by go_num,rfl,e0,F0⟩
end
end Go.Proofs.YtkdfjkdphdfclaaGreatDoor

/- Part 17 of the proof of a card of AvssAnew. -/
import Derived.Test.YtkdfjkdphdfclaaGreatDoorV16
set_option maxRecDepth 100000
set_option maxHeartbeats 16000000
set_option linter.unusedVariables false
set_option linter.unusedSimpArgs false
namespace Go.Proofs.YtkdfjkdphdfclaaGreatDoor
open Tryz
section
open Go Go.RowKit Go.Shelf Go.Maps
def yZ(E:zy)(s:SSt):Option ASt:=
 if (yT E 8 ASt.start 0 s.echos).2=true∧(yT E 9 (yT E 8 ASt.start 0 s.echos).1 0 s.readies).2=true∧(s.done=false∨s.own≠ [])∧(s.deal= []∨(zu E s.deal).2=true)∧(s.own= []∨(zu E s.own).2=true) then
  some {(yT E 9 (yT E 8 ASt.start 0 s.echos).1 0 s.readies).1 with dealt:=if s.deal= [] then none else some (zu E s.deal).1,own:=if s.own= [] then none else some (zu E s.own).1,done:=s.done}
 else none
theorem Vt{E:zy}{k:Int}: ∀(l:List (Int×List Int)) (s:ASt) (last:Int),(yT E k s last l).1.dealt=s.dealt∧(yT E k s last l).1.own=s.own∧(yT E k s last l).1.done=s.done
 | [],s,last=>⟨rfl,rfl,rfl⟩
 |t::l,s,last=>by
  unfold yT;split
  ·exact ⟨rfl,rfl,rfl⟩
  ·exact Vt l _ _
def Ml(E:zy)(s:SSt)(w:World)(e:Ending)(w':World):Prop:=w.grownBy w' none∧(if Ob E=true then match yZ E s with
 |some st=> ∃gA gM,e= .returned (.tuple #[.pointer (some ⟨gA,0,none⟩), .int .i64 0])∧w.heap.size≤gA∧w.heap.size≤gM∧AvW (fun g=>w.heap.size≤g∧g≠gA∧g≠gM) gA gM (s.echos.length+s.readies.length) E st w'∧yI E st
 |none=>e= .returned (.tuple #[.pointer none, .int .i64 4])
 else e= .returned (.tuple #[.pointer none, .int .i64 1]))
theorem UH{gA gM:Nat}{w w1 w2:World}(h1:w.grownBy w1 none)(h2:zk gA gM w1 w2)(hA:w.heap.size≤gA)(hM:w.heap.size≤gM):w.grownBy w2 none:=
 ⟨h2.os.trans h1.os,h2.tape.trans h1.tape,h2.output.trans h1.output,nLT h1.size h2.size,fun i hi _=>(h2.block i (nLl hi h1.size) (by omega) (by omega)).trans (h1.block i hi (by simp))⟩
theorem CW(E:zy)(w:World)(cs:Array Value):Bk ((w.alloc (.cells E.p.cells 39)).alloc (.cells cs 82)) w.heap.size 39 E.p.cells∧Bk ((w.alloc (.cells E.p.cells 39)).alloc (.cells cs 82)) (w.heap.size+1) 82 cs∧w.grownBy ((w.alloc (.cells E.p.cells 39)).alloc (.cells cs 82)) none:=by
 refine ⟨(Bk.new w _ _).alloc _, ?_,(gAl w _ none).trans (gAl _ _ none)⟩;have h:=Bk.new (w.alloc (.cells E.p.cells 39)) 82 cs;rw [World.size_alloc] at h;exact h
theorem AvW.setFlag{X:Nat→Prop}{gA gM nn:Nat}{E:zy}{st:ASt}{w:World}(h:AvW X gA gM nn E st w)(dn:Bool)(hX: ¬X gA):AvW X gA gM nn E {st with done:=dn} (w.setCell ⟨gA,18,none⟩ (.bool dn)):=by
 obtain ⟨⟨vc,vd,vo,h1,h2,h3,h4⟩,h5,h6⟩:=h;have hg:=zo w gA 18 (.bool dn);have hne: ∀g,X g→some g≠some gA:=fun g hx e=>by injection e with e;rw [e] at hx;exact hX hx
 exact ⟨⟨vc,vd,vo,h1.set 18 _,h2.keep hg hne,h3.keep hg hne,h4.keep hg hne⟩,h5.keep hg hne (fun e=>by injection e with e;exact h6 e.symm),h6⟩
theorem Bk.keep2{w w':World}{b gA gM:Nat}{t:TypeId}{cs:Array Value}(h:Bk w b t cs)(hg:zk gA gM w w')(hA:b≠gA)(hM:b≠gM):Bk w' b t cs:=by
 obtain ⟨u,k1,k2⟩:=hg.split;exact (h.grown k1 (fun e=>by injection e with e;exact hM e)).grown k2 (fun e=>by injection e with e;exact hA e)
attribute [local go_sem] Oper.semAt_some
theorem IB(E:zy)(s:SSt)(v:Value)(X:Nat→Prop)(w:World)(hp:E.p.ok)(hd:I64 E.dealer)(hm:I64 E.me)(hs:Xj X w v s)(X1:s.dealer=E.dealer)(W1:s.me=E.me)(b2:s.coms=E.coms)(hT:ye w)
  (f2: ∀t∈s.echos,t.2.length≤100000) (c2: ∀t∈s.readies,t.2.length≤100000) (g2:s.deal.length≤100000) (d2:s.own.length≤100000) (hn:s.echos.length+s.readies.length< maxLen):
  Calls prog 34 #[E.p.v,v] w (Ml E s w):=by
 obtain ⟨vc,vd,ve,vr,vo,rfl,s1,s2,s3,s4,s5⟩:=hs;obtain ⟨w0,F1⟩:=exq ((w.alloc (.cells E.p.cells 39)).alloc (.cells #[.int .i64 s.dealer, .int .i64 s.me,vc,vd,ve,vr,vo, .bool s.done] 82));obtain ⟨T1,v1,p1⟩:=CW E w #[.int .i64 s.dealer, .int .i64 s.me,vc,vd,ve,vr,vo, .bool s.done];rw [←F1] at T1 v1 p1;rw [X1,W1] at F1 v1 ⊢;rw [b2] at s1;have v2:=za p1;have p2:=za v1;have q2:=za F1;have u2:=za (RY E vc X w0 hp hd hm (s1.kept p1) (hT.kept p1));have HP:=za hp;have k2:Hid (Sl ze X w vd s.deal∧Sl Yg X w ve s.echos∧Sl Yg X w vr s.readies∧Sl ze X w vo s.own):=za ⟨s2,s3,s4,s5⟩;have O0:Hid ((∀t∈s.echos,t.2.length≤100000)∧(∀t∈s.readies,t.2.length≤100000)∧s.deal.length≤100000∧s.own.length≤100000∧s.echos.length+s.readies.length< maxLen):=za ⟨f2,c2,g2,d2,hn⟩;obtain ⟨Ac,nc,cc,rfl⟩:=s1.shape;obtain ⟨Ad,cd,rfl,_,_⟩:=s2.form;obtain ⟨Ae,ne,ce,rfl⟩:=s3.shape;obtain ⟨Ar,nr,cr,rfl⟩:=s4.shape;obtain ⟨Ao,co,rfl,_,_⟩:=s5.form;have M1:=T1.prule;have L1:=v1.rule;rw [F1] at M1 L1;clear hp hd hm hT f2 c2 g2 d2 hn s1 s2 s3 s4 s5 T1 v1 p1 X1 W1 b2;go_enter func34,ntmps34;go_wp2_with fail;rw [←q2.z];refine u2.z.mono ?_;rintro e w1 ⟨hg1,F0⟩;have f1:Hid (w.grownBy w1 none):=za (v2.z.trans hg1);cases e0:Ob E with
 |false=>
  rw [e0] at F0;have F0:e= .returned (.tuple #[.pointer none, .int .i64 1]):=F0;subst F0;have HR:Hid (Ml E s w (.returned (.tuple #[.pointer none, .int .i64 1])) w1):=za ⟨f1.z,by rw [e0];rfl⟩;clear hg1 e0 M1 L1;go_wp2_with fail;go_ret2;exact HR.z
 |true=>
  rw [e0,if_pos rfl] at F0;obtain ⟨gA,gM,he,hA,hM,i2⟩:=F0;subst he;have HE:Hid E.ok:=za (Eo HP.z e0);have o2:=za e0;have I1:=za i2;have I0:Hid (w0.heap.size≤gA∧w0.heap.size≤gM∧w.heap.size+2≤w0.heap.size):=za ⟨hA,hM,by have:=p2.z.lt;omega⟩;have x1:=za (p2.z.grown hg1 (by simp));have a0:Hid (∀w',zk gA gM w1 w'→(∀o,w'.cell? ⟨w.heap.size+1,o,none⟩=(#[.int .i64 E.dealer, .int .i64 E.me, .slice Ac nc cc, .slice Ad s.deal.length cd, .slice Ae ne ce, .slice Ar nr cr, .slice Ao s.own.length co, .bool s.done]:Array Value)[o]?)∧Sl ze (fun g=>g< w.heap.size) w' (.slice Ad s.deal.length cd) s.deal∧Sl Yg (fun g=>g< w.heap.size) w' (.slice Ae ne ce) s.echos∧Sl Yg (fun g=>g< w.heap.size) w' (.slice Ar nr cr) s.readies∧Sl ze (fun g=>g< w.heap.size) w' (.slice Ao s.own.length co) s.own):=za (fun w' hw'=>by
   obtain ⟨a1,a2,a3⟩:=I0.z;have nA: ¬gA< w.heap.size:=by omega
   have nM: ¬gM< w.heap.size:=by omega
   obtain ⟨t1,t2,t3,t4⟩:=k2.z;refine ⟨(x1.z.keep2 hw' (by omega) (by omega)).rule,((t1.more (Y:=fun g=>g< w.heap.size) fun g h _=>h).kept f1.z).keep2 hw' nA nM,((t2.more (Y:=fun g=>g< w.heap.size) fun g h _=>h).kept f1.z).keep2 hw' nA nM,((t3.more (Y:=fun g=>g< w.heap.size) fun g h _=>h).kept f1.z).keep2 hw' nA nM,((t4.more (Y:=fun g=>g< w.heap.size) fun g h _=>h).kept f1.z).keep2 hw' nA nM⟩)
  have p0:Hid (∀w',yZ E s=none→zk gA gM w1 w'→Ml E s w (.returned (.tuple #[.pointer none, .int .i64 4])) w'):=za (fun w' hl hw'=>⟨UH f1.z hw' (by have:=I0.z;omega) (by have:=I0.z;omega),by rw [o2.z,if_pos rfl,hl]⟩);have m0:Hid (∀w' st,yZ E s=some st→zk gA gM w1 w'→AvW (fun g=>w0.heap.size≤g∧g≠gA∧g≠gM) gA gM (s.echos.length+s.readies.length) E st w'→yI E st→Ml E s w (.returned (.tuple #[.pointer (some ⟨gA,0,none⟩), .int .i64 0])) w'):=za (fun w' st hl hw' h1 h2=>⟨UH f1.z hw' (by have:=I0.z;omega) (by have:=I0.z;omega),by
   rw [o2.z,if_pos rfl,hl];exact ⟨gA,gM,rfl,by have:=I0.z;omega,by have:=I0.z;omega,h1.more fun g _ hg=>⟨by have:=I0.z;omega,hg.2⟩,h2⟩⟩)
  have S0:Hid (∀w',zk gA gM w1 w'→ ∀g,w'.heap.size≤g→(w0.heap.size≤g∧g≠gA∧g≠gM)):=za (fun w' hw' g hg=>by have h1:=hw'.size;have h2:=I1.z.ltA;have h3:=I1.z.ltM;have h4:=hg1.size;exact ⟨by omega,by omega,by omega⟩);obtain ⟨r1,O1⟩:=exq (yT E 8 ASt.start 0 s.echos);have G1:=za O1;have Y1:=za (KJ E ASt.start gA gM 0 8 (.slice Ae ne ce) s.echos _ (fun g=>g< w.heap.size) w1 HE.z I1.z (yI.start E) ⟨by decide,by decide⟩ (fun h=>h.2.1 rfl) (fun h=>h.2.2 rfl) (S0.z w1 (zk.refl _ _ _)) (a0.z w1 (zk.refl _ _ _)).2.2.1 (by have:=I0.z;omega) (by have:=I0.z;omega) O0.z.1 (by have:=O0.z.2.2.2.2;omega));rw [←O1] at Y1;have K1:=(a0.z w1 (zk.refl _ _ _)).1;clear hg1 e0 M1 L1 hA hM i2 O1;go_wp2_with fail;refine Y1.z.mono ?_;rintro e w2 ⟨rfl,hok1,hg2⟩;have C1:=za hg2;have n2:=za hok1;clear hok1 hg2 K1;have J1:=(a0.z w2 C1.z).1;cases h1:r1.2 with
  |false=>
   have HB:=za (p0.z w2 (by unfold yZ;rw [if_neg (fun h=>by rw [←G1.z,h1] at h;cases h.1)]) C1.z);clear h1;go_wp2_with fail;go_ret2;exact HB.z
  |true=>
   obtain ⟨y1,n1⟩:=n2.z h1;have D1:=za y1;have z1:=za n1;have j2:=za h1;obtain ⟨r2,N1⟩:=exq (yT E 9 r1.1 0 s.readies);have A1:Hid (r2=yT E 9 (yT E 8 ASt.start 0 s.echos).1 0 s.readies):=za (by rw [N1,G1.z]);have V1:=za (KJ E r1.1 gA gM (0+s.echos.length) 9 (.slice Ar nr cr) s.readies _ (fun g=>g< w.heap.size) w2 HE.z D1.z z1.z ⟨by decide,by decide⟩ (fun h=>h.2.1 rfl) (fun h=>h.2.2 rfl) (S0.z w2 C1.z) (a0.z w2 C1.z).2.2.2.1 (by have:=I0.z;omega) (by have:=I0.z;omega) O0.z.2.1 (by have:=O0.z.2.2.2.2;omega));rw [←N1] at V1;clear y1 n1 h1 N1;go_wp2_with fail;refine V1.z.mono ?_;rintro e w3 ⟨rfl,hok2,hg3⟩;have r0:=za (C1.z.trans hg3);have l2:=za hok2;clear hok2 hg3 J1;have Z0:=(a0.z w3 r0.z).1;cases h2:r2.2 with
   |false=>
    have HB:=za (p0.z w3 (by unfold yZ;rw [if_neg (fun h=>by rw [←A1.z,h2] at h;cases h.2.1)]) r0.z);clear h2;go_wp2_with fail;go_ret2;exact HB.z
   |true=>
    obtain ⟨X0,l1⟩:=l2.z h2;rw [Nat.zero_add] at X0;have l0:=za X0;have f0:=za l1;have k1:Hid (r2.1.dealt=none∧r2.1.own=none∧r2.1.done=false):=za (by
     have e1:=Vt (E:=E) (k:=8) s.echos ASt.start 0;have e2:=Vt (E:=E) (k:=9) s.readies (yT E 8 ASt.start 0 s.echos).1 0;rw [←A1.z,e1.1,e1.2.1,e1.2.2] at e2;exact e2)
    have g0:Hid ((yT E 8 ASt.start 0 s.echos).2=true∧(yT E 9 (yT E 8 ASt.start 0 s.echos).1 0 s.readies).2=true):=za ⟨by rw [←G1.z];exact j2.z,by rw [←A1.z];exact h2⟩;obtain ⟨st3,Y0⟩:=exq (r2.1);have G0:Hid (st3=(yT E 9 (yT E 8 ASt.start 0 s.echos).1 0 s.readies).1):=za (by rw [Y0,A1.z]);rw [←Y0] at l0 f0 k1;obtain ⟨dn,S1⟩:=exq (s.done);have U0:=za S1;obtain ⟨nO,P1⟩:=exq (s.own.length);have T0:=za P1;obtain ⟨nD,Q1⟩:=exq (s.deal.length);have H1:=za Q1;rw [←S1, ←P1, ←Q1] at a0 Z0;clear X0 l1 h2 Y0 S1 P1 Q1 n2 l2 Y1 V1 D1 z1 I1 k2 j2 G1 A1;cases dn with
    |true=>
     rcases Nat.eq_zero_or_pos nO with hno0|hno1
     ·subst hno0;have HB:=za (p0.z w3 (by
       unfold yZ;rw [if_neg (fun h=> ?_)];rcases h.2.2.1 with h|h
       ·rw [←U0.z] at h;cases h
       ·exact h (List.eq_nil_of_length_eq_zero T0.z.symm)) r0.z)
      go_wp2_with fail;go_ret2;exact HB.z
     ·have R0:(0:Int)< (nO:Int):=by omega
      have g1:Hid (s.done=false∨s.own≠ []):=za (.inr (fun e=>by rw [T0.z,e] at hno1;cases hno1));rcases Nat.eq_zero_or_pos nD with hnd0|hnd1
      ·have i1:Hid (s.deal= []):=za (List.eq_nil_of_length_eq_zero (by rw [←H1.z];exact hnd0));subst hnd0;have i0:=(a0.z w3 r0.z).1;have k0:Hid (s.own≠ []):=za (fun e=>by rw [T0.z,e] at hno1;cases hno1);obtain ⟨⟨vc9,vd9,vo9,A0,K0,_⟩,_,_⟩:=l0.z;have b1:=za (xJ E gA gM vc9 vd9 vo9 _ _ s.own _ _ w3 HE.z A0 K0 (a0.z w3 r0.z).2.2.2.2 O0.z.2.2.2.1);have j1:=za A0;clear A0 K0;go_wp2_with fail;refine b1.z.mono ?_;rintro e w7 ⟨b7,rfl,hp7,hg7⟩;have d1:Hid (zk gA gM w1 w7):=za (r0.z.step hg7);have n0:=j1.z.grown hg7 (by simp);have z0:w7.cell? ⟨gA,16,none⟩=some vo9:=n0.cell 16;have x0:=n0.free 16;have y0:=zo w7 gA 16 (.pointer (some ⟨b7,0,none⟩));have o0:Hid (zk gA gM w1 (w7.setCell ⟨gA,16,none⟩ (.pointer (some ⟨b7,0,none⟩)))):=za (d1.z.trans (zk.of y0 (.inr (.inl rfl))));cases b0:(zu E s.own).2 with
       |false=>
        have HB:=za (p0.z _ (by
         unfold yZ;rw [if_neg (fun h=> ?_)];rcases h.2.2.2.2 with h|h
         ·exact k0.z h
         ·rw [b0] at h;cases h) o0.z)
        clear b0 hp7 hg7 n0 y0;go_wp2_with fail;go_ret2;exact HB.z
       |true=>
        have s0:=hp7.more (Y:=fun g=>w0.heap.size≤g∧g≠gA∧g≠gM) fun g _ hg=>S0.z w3 r0.z g hg
        have d0:=za ((l0.z.kept hg7).setOwn (fun h=>h.2.1 rfl) s0);have C0:=za (Zx b0);have c0:Hid (yI E {st3 with own:=some (zu E s.own).1}):=za ⟨f0.z.heard,f0.z.dealt,fun y hy=>by injection hy with hy;subst hy;exact C0.z⟩;have B0:=za b0;obtain ⟨w8,v0⟩:=exq (w7.setCell ⟨gA,16,none⟩ (.pointer (some ⟨b7,0,none⟩)));rw [←v0] at d0 o0;clear b0 hp7 hg7 n0 y0 s0 i0;go_upto_region 9 with (fail)
        rw [←v0];clear v0 z0 x0;have i0:=(a0.z w8 o0.z).1;obtain ⟨⟨vcF,vdF,voF,j0,_⟩,_,_⟩:=d0.z;have J0:=j0.cell 18;have q1:=j0.free 18;have t0:=zo w8 gA 18 (.bool true);have L0:Hid (zk gA gM w1 (w8.setCell ⟨gA,18,none⟩ (.bool true))):=za (o0.z.trans (zk.of t0 (.inr (.inl rfl))));have N0:=za (d0.z.setFlag true (fun h=>h.2.1 rfl));have M0:=za (m0.z _ _ (by
         unfold yZ;rw [if_pos ⟨g0.z.1,g0.z.2,g1.z, .inl i1.z, .inr B0.z⟩, ←G0.z, ←U0.z,if_pos i1.z,if_neg k0.z];dsimp only;rw [k1.z.1]) L0.z N0.z ⟨c0.z.heard,c0.z.dealt,c0.z.own⟩)
        clear j0 t0;simp at J0;go_wp2_with fail;go_ret2;exact M0.z
      ·have o1:(0:Int)< (nD:Int):=by omega
       have H0:Hid (s.deal≠ []):=za (fun e=>by rw [H1.z,e] at hnd1;cases hnd1);obtain ⟨⟨vc4,vd4,vo4,W0,u1,_⟩,_,_⟩:=l0.z;have U1:=za (xJ E gA gM vc4 vd4 vo4 _ _ s.deal _ _ w3 HE.z W0 u1 (a0.z w3 r0.z).2.1 O0.z.2.2.1);have E1:=za W0;clear W0 u1;go_wp2_with fail;refine U1.z.mono ?_;rintro e w5 ⟨b5,rfl,hp5,hg5⟩;have Z1:Hid (zk gA gM w1 w5):=za (r0.z.step hg5);have P0:=E1.z.grown hg5 (by simp);have E0:w5.cell? ⟨gA,15,none⟩=some vd4:=P0.cell 15;have R1:=P0.free 15;have h0:=zo w5 gA 15 (.pointer (some ⟨b5,0,none⟩));have D0:Hid (zk gA gM w1 (w5.setCell ⟨gA,15,none⟩ (.pointer (some ⟨b5,0,none⟩)))):=za (Z1.z.trans (zk.of h0 (.inr (.inl rfl))));cases b0:(zu E s.deal).2 with
       |false=>
        have HB:=za (p0.z _ (by
         unfold yZ;rw [if_neg (fun h=> ?_)];rcases h.2.2.2.1 with h|h
         ·exact H0.z h
         ·rw [b0] at h;cases h) D0.z)
        clear b0 hp5 hg5 P0 h0;go_wp2_with fail;go_ret2;exact HB.z
       |true=>
        have s0:=hp5.more (Y:=fun g=>w0.heap.size≤g∧g≠gA∧g≠gM) fun g _ hg=>S0.z w3 r0.z g hg
        have q0:=za ((l0.z.kept hg5).setDealt (fun h=>h.2.1 rfl) s0);have c1:=za (Zx b0);have u0:Hid (yI E {st3 with dealt:=some (zu E s.deal).1}):=za ⟨f0.z.heard,fun y hy=>by injection hy with hy;subst hy;exact c1.z,f0.z.own⟩;have Q0:=za b0;obtain ⟨w6,V0⟩:=exq (w5.setCell ⟨gA,15,none⟩ (.pointer (some ⟨b5,0,none⟩)));rw [←V0] at q0 D0;clear b0 hp5 hg5 P0 h0 s0 Z0;go_upto_region 7 with (fail)
        rw [←V0];clear V0 E0 R1;have i0:=(a0.z w6 D0.z).1;have k0:Hid (s.own≠ []):=za (fun e=>by rw [T0.z,e] at hno1;cases hno1);obtain ⟨⟨vc9,vd9,vo9,A0,K0,_⟩,_,_⟩:=q0.z;have b1:=za (xJ E gA gM vc9 vd9 vo9 _ _ s.own _ _ w6 HE.z A0 K0 (a0.z w6 D0.z).2.2.2.2 O0.z.2.2.2.1);have j1:=za A0;clear A0 K0;go_wp2_with fail;refine b1.z.mono ?_;rintro e w7 ⟨b7,rfl,hp7,hg7⟩;have d1:Hid (zk gA gM w1 w7):=za (D0.z.step hg7);have n0:=j1.z.grown hg7 (by simp);have z0:w7.cell? ⟨gA,16,none⟩=some vo9:=n0.cell 16;have x0:=n0.free 16;have y0:=zo w7 gA 16 (.pointer (some ⟨b7,0,none⟩));have o0:Hid (zk gA gM w1 (w7.setCell ⟨gA,16,none⟩ (.pointer (some ⟨b7,0,none⟩)))):=za (d1.z.trans (zk.of y0 (.inr (.inl rfl))));cases b0:(zu E s.own).2 with
        |false=>
         have HB:=za (p0.z _ (by
          unfold yZ;rw [if_neg (fun h=> ?_)];rcases h.2.2.2.2 with h|h
          ·exact k0.z h
          ·rw [b0] at h;cases h) o0.z)
         clear b0 hp7 hg7 n0 y0;go_wp2_with fail;go_ret2;exact HB.z
        |true=>
         have s0:=hp7.more (Y:=fun g=>w0.heap.size≤g∧g≠gA∧g≠gM) fun g _ hg=>S0.z w6 D0.z g hg
         have d0:=za ((q0.z.kept hg7).setOwn (fun h=>h.2.1 rfl) s0);have C0:=za (Zx b0);have c0:Hid (yI E {{st3 with dealt:=some (zu E s.deal).1} with own:=some (zu E s.own).1}):=za ⟨u0.z.heard,u0.z.dealt,fun y hy=>by injection hy with hy;subst hy;exact C0.z⟩;have B0:=za b0;obtain ⟨w8,v0⟩:=exq (w7.setCell ⟨gA,16,none⟩ (.pointer (some ⟨b7,0,none⟩)));rw [←v0] at d0 o0;clear b0 hp7 hg7 n0 y0 s0 i0;go_upto_region 9 with (fail)
         rw [←v0];clear v0 z0 x0;have i0:=(a0.z w8 o0.z).1;obtain ⟨⟨vcF,vdF,voF,j0,_⟩,_,_⟩:=d0.z;have J0:=j0.cell 18;have q1:=j0.free 18;have t0:=zo w8 gA 18 (.bool true);have L0:Hid (zk gA gM w1 (w8.setCell ⟨gA,18,none⟩ (.bool true))):=za (o0.z.trans (zk.of t0 (.inr (.inl rfl))));have N0:=za (d0.z.setFlag true (fun h=>h.2.1 rfl));have M0:=za (m0.z _ _ (by
          unfold yZ;rw [if_pos ⟨g0.z.1,g0.z.2,g1.z, .inr Q0.z, .inr B0.z⟩, ←G0.z, ←U0.z,if_neg H0.z,if_neg k0.z]) L0.z N0.z ⟨c0.z.heard,c0.z.dealt,c0.z.own⟩)
         clear j0 t0;simp at J0;go_wp2_with fail;go_ret2;exact M0.z
    |false=>
     have g1:Hid (s.done=false∨s.own≠ []):=za (.inl U0.z.symm);rcases Nat.eq_zero_or_pos nD with hnd0|hnd1
     ·have i1:Hid (s.deal= []):=za (List.eq_nil_of_length_eq_zero (by rw [←H1.z];exact hnd0));subst hnd0;have i0:=(a0.z w3 r0.z).1;rcases Nat.eq_zero_or_pos nO with hno0|hno1
      ·have B1:Hid (s.own= []):=za (List.eq_nil_of_length_eq_zero (by rw [←T0.z];exact hno0));subst hno0;obtain ⟨⟨vcF,vdF,voF,j0,_⟩,_,_⟩:=l0.z;have J0:=j0.cell 18;have q1:=j0.free 18;have t0:=zo w3 gA 18 (.bool false);have L0:Hid (zk gA gM w1 (w3.setCell ⟨gA,18,none⟩ (.bool false))):=za (r0.z.trans (zk.of t0 (.inr (.inl rfl))));have N0:=za (l0.z.setFlag false (fun h=>h.2.1 rfl));have M0:=za (m0.z _ _ (by
        unfold yZ;rw [if_pos ⟨g0.z.1,g0.z.2,g1.z, .inl i1.z, .inl B1.z⟩, ←G0.z, ←U0.z,if_pos i1.z,if_pos B1.z];dsimp only;rw [k1.z.1,k1.z.2.1]) L0.z N0.z ⟨f0.z.heard,f0.z.dealt,f0.z.own⟩)
       clear j0 t0;simp at J0;go_wp2_with fail;go_ret2;exact M0.z
      ·have R0:(0:Int)< (nO:Int):=by omega
       have k0:Hid (s.own≠ []):=za (fun e=>by rw [T0.z,e] at hno1;cases hno1);obtain ⟨⟨vc9,vd9,vo9,A0,K0,_⟩,_,_⟩:=l0.z;have b1:=za (xJ E gA gM vc9 vd9 vo9 _ _ s.own _ _ w3 HE.z A0 K0 (a0.z w3 r0.z).2.2.2.2 O0.z.2.2.2.1);have j1:=za A0;clear A0 K0;go_wp2_with fail;refine b1.z.mono ?_;rintro e w7 ⟨b7,rfl,hp7,hg7⟩;have d1:Hid (zk gA gM w1 w7):=za (r0.z.step hg7);have n0:=j1.z.grown hg7 (by simp);have z0:w7.cell? ⟨gA,16,none⟩=some vo9:=n0.cell 16;have x0:=n0.free 16;have y0:=zo w7 gA 16 (.pointer (some ⟨b7,0,none⟩));have o0:Hid (zk gA gM w1 (w7.setCell ⟨gA,16,none⟩ (.pointer (some ⟨b7,0,none⟩)))):=za (d1.z.trans (zk.of y0 (.inr (.inl rfl))));cases b0:(zu E s.own).2 with
       |false=>
        have HB:=za (p0.z _ (by
         unfold yZ;rw [if_neg (fun h=> ?_)];rcases h.2.2.2.2 with h|h
         ·exact k0.z h
         ·rw [b0] at h;cases h) o0.z)
        clear b0 hp7 hg7 n0 y0;go_wp2_with fail;go_ret2;exact HB.z
       |true=>
        have s0:=hp7.more (Y:=fun g=>w0.heap.size≤g∧g≠gA∧g≠gM) fun g _ hg=>S0.z w3 r0.z g hg
        have d0:=za ((l0.z.kept hg7).setOwn (fun h=>h.2.1 rfl) s0);have C0:=za (Zx b0);have c0:Hid (yI E {st3 with own:=some (zu E s.own).1}):=za ⟨f0.z.heard,f0.z.dealt,fun y hy=>by injection hy with hy;subst hy;exact C0.z⟩;have B0:=za b0;obtain ⟨w8,v0⟩:=exq (w7.setCell ⟨gA,16,none⟩ (.pointer (some ⟨b7,0,none⟩)));rw [←v0] at d0 o0;clear b0 hp7 hg7 n0 y0 s0 i0;go_upto_region 9 with (fail)
        rw [←v0];clear v0 z0 x0;have i0:=(a0.z w8 o0.z).1;obtain ⟨⟨vcF,vdF,voF,j0,_⟩,_,_⟩:=d0.z;have J0:=j0.cell 18;have q1:=j0.free 18;have t0:=zo w8 gA 18 (.bool false);have L0:Hid (zk gA gM w1 (w8.setCell ⟨gA,18,none⟩ (.bool false))):=za (o0.z.trans (zk.of t0 (.inr (.inl rfl))));have N0:=za (d0.z.setFlag false (fun h=>h.2.1 rfl));have M0:=za (m0.z _ _ (by
         unfold yZ;rw [if_pos ⟨g0.z.1,g0.z.2,g1.z, .inl i1.z, .inr B0.z⟩, ←G0.z, ←U0.z,if_pos i1.z,if_neg k0.z];dsimp only;rw [k1.z.1]) L0.z N0.z ⟨c0.z.heard,c0.z.dealt,c0.z.own⟩)
        clear j0 t0;simp at J0;go_wp2_with fail;go_ret2;exact M0.z
     ·have o1:(0:Int)< (nD:Int):=by omega
      have H0:Hid (s.deal≠ []):=za (fun e=>by rw [H1.z,e] at hnd1;cases hnd1);obtain ⟨⟨vc4,vd4,vo4,W0,u1,_⟩,_,_⟩:=l0.z;have U1:=za (xJ E gA gM vc4 vd4 vo4 _ _ s.deal _ _ w3 HE.z W0 u1 (a0.z w3 r0.z).2.1 O0.z.2.2.1);have E1:=za W0;clear W0 u1;go_wp2_with fail;refine U1.z.mono ?_;rintro e w5 ⟨b5,rfl,hp5,hg5⟩;have Z1:Hid (zk gA gM w1 w5):=za (r0.z.step hg5);have P0:=E1.z.grown hg5 (by simp);have E0:w5.cell? ⟨gA,15,none⟩=some vd4:=P0.cell 15;have R1:=P0.free 15;have h0:=zo w5 gA 15 (.pointer (some ⟨b5,0,none⟩));have D0:Hid (zk gA gM w1 (w5.setCell ⟨gA,15,none⟩ (.pointer (some ⟨b5,0,none⟩)))):=za (Z1.z.trans (zk.of h0 (.inr (.inl rfl))));cases b0:(zu E s.deal).2 with
      |false=>
       have HB:=za (p0.z _ (by
        unfold yZ;rw [if_neg (fun h=> ?_)];rcases h.2.2.2.1 with h|h
        ·exact H0.z h
        ·rw [b0] at h;cases h) D0.z)
       clear b0 hp5 hg5 P0 h0;go_wp2_with fail;go_ret2;exact HB.z
      |true=>
       have s0:=hp5.more (Y:=fun g=>w0.heap.size≤g∧g≠gA∧g≠gM) fun g _ hg=>S0.z w3 r0.z g hg
       have q0:=za ((l0.z.kept hg5).setDealt (fun h=>h.2.1 rfl) s0);have c1:=za (Zx b0);have u0:Hid (yI E {st3 with dealt:=some (zu E s.deal).1}):=za ⟨f0.z.heard,fun y hy=>by injection hy with hy;subst hy;exact c1.z,f0.z.own⟩;have Q0:=za b0;obtain ⟨w6,V0⟩:=exq (w5.setCell ⟨gA,15,none⟩ (.pointer (some ⟨b5,0,none⟩)));rw [←V0] at q0 D0;clear b0 hp5 hg5 P0 h0 s0 Z0;go_upto_region 7 with (fail)
       rw [←V0];clear V0 E0 R1;have i0:=(a0.z w6 D0.z).1;rcases Nat.eq_zero_or_pos nO with hno0|hno1
       ·have B1:Hid (s.own= []):=za (List.eq_nil_of_length_eq_zero (by rw [←T0.z];exact hno0));subst hno0;obtain ⟨⟨vcF,vdF,voF,j0,_⟩,_,_⟩:=q0.z;have J0:=j0.cell 18;have q1:=j0.free 18;have t0:=zo w6 gA 18 (.bool false);have L0:Hid (zk gA gM w1 (w6.setCell ⟨gA,18,none⟩ (.bool false))):=za (D0.z.trans (zk.of t0 (.inr (.inl rfl))));have N0:=za (q0.z.setFlag false (fun h=>h.2.1 rfl));have M0:=za (m0.z _ _ (by
         unfold yZ;rw [if_pos ⟨g0.z.1,g0.z.2,g1.z, .inr Q0.z, .inl B1.z⟩, ←G0.z, ←U0.z,if_neg H0.z,if_pos B1.z];dsimp only;rw [k1.z.2.1]) L0.z N0.z ⟨u0.z.heard,u0.z.dealt,u0.z.own⟩)
        clear j0 t0;simp at J0;go_wp2_with fail;go_ret2;exact M0.z
       ·have R0:(0:Int)< (nO:Int):=by omega
        have k0:Hid (s.own≠ []):=za (fun e=>by rw [T0.z,e] at hno1;cases hno1);obtain ⟨⟨vc9,vd9,vo9,A0,K0,_⟩,_,_⟩:=q0.z;have b1:=za (xJ E gA gM vc9 vd9 vo9 _ _ s.own _ _ w6 HE.z A0 K0 (a0.z w6 D0.z).2.2.2.2 O0.z.2.2.2.1);have j1:=za A0;clear A0 K0;go_wp2_with fail;refine b1.z.mono ?_;rintro e w7 ⟨b7,rfl,hp7,hg7⟩;have d1:Hid (zk gA gM w1 w7):=za (D0.z.step hg7);have n0:=j1.z.grown hg7 (by simp);have z0:w7.cell? ⟨gA,16,none⟩=some vo9:=n0.cell 16;have x0:=n0.free 16;have y0:=zo w7 gA 16 (.pointer (some ⟨b7,0,none⟩));have o0:Hid (zk gA gM w1 (w7.setCell ⟨gA,16,none⟩ (.pointer (some ⟨b7,0,none⟩)))):=za (d1.z.trans (zk.of y0 (.inr (.inl rfl))));cases b0:(zu E s.own).2 with
        |false=>
         have HB:=za (p0.z _ (by
          unfold yZ;rw [if_neg (fun h=> ?_)];rcases h.2.2.2.2 with h|h
          ·exact k0.z h
          ·rw [b0] at h;cases h) o0.z)
         clear b0 hp7 hg7 n0 y0;go_wp2_with fail;go_ret2;exact HB.z
        |true=>
         have s0:=hp7.more (Y:=fun g=>w0.heap.size≤g∧g≠gA∧g≠gM) fun g _ hg=>S0.z w6 D0.z g hg
         have d0:=za ((q0.z.kept hg7).setOwn (fun h=>h.2.1 rfl) s0);have C0:=za (Zx b0);have c0:Hid (yI E {{st3 with dealt:=some (zu E s.deal).1} with own:=some (zu E s.own).1}):=za ⟨u0.z.heard,u0.z.dealt,fun y hy=>by injection hy with hy;subst hy;exact C0.z⟩;have B0:=za b0;obtain ⟨w8,v0⟩:=exq (w7.setCell ⟨gA,16,none⟩ (.pointer (some ⟨b7,0,none⟩)));rw [←v0] at d0 o0;clear b0 hp7 hg7 n0 y0 s0 i0;go_upto_region 9 with (fail)
         rw [←v0];clear v0 z0 x0;have i0:=(a0.z w8 o0.z).1;obtain ⟨⟨vcF,vdF,voF,j0,_⟩,_,_⟩:=d0.z;have J0:=j0.cell 18;have q1:=j0.free 18;have t0:=zo w8 gA 18 (.bool false);have L0:Hid (zk gA gM w1 (w8.setCell ⟨gA,18,none⟩ (.bool false))):=za (o0.z.trans (zk.of t0 (.inr (.inl rfl))));have N0:=za (d0.z.setFlag false (fun h=>h.2.1 rfl));have M0:=za (m0.z _ _ (by
          unfold yZ;rw [if_pos ⟨g0.z.1,g0.z.2,g1.z, .inr Q0.z, .inr B0.z⟩, ←G0.z, ←U0.z,if_neg H0.z,if_neg k0.z]) L0.z N0.z ⟨c0.z.heard,c0.z.dealt,c0.z.own⟩)
         clear j0 t0;simp at J0;go_wp2_with fail;go_ret2;exact M0.z
end
section
open Go Go.RowKit Go.Shelf Go.Maps
def p19:Bool→Par
 |false=>⟨23,11,4,9,4,4,1,1,1,1,1,1⟩
 |true=>⟨23,11,4,9,7,7,2,1,1,1,1,1⟩
theorem Yl: ∀two,(p19 two).ok
 |false=>⟨⟨by decide,by decide⟩,⟨by decide,by decide⟩,⟨by decide,by decide⟩,⟨by decide,by decide⟩,⟨by decide,by decide⟩,⟨by decide,by decide⟩,⟨by decide,by decide⟩,⟨by decide,by decide⟩,⟨by decide,by decide⟩,⟨by decide,by decide⟩,⟨by decide,by decide⟩,⟨by decide,by decide⟩⟩
 |true=>⟨⟨by decide,by decide⟩,⟨by decide,by decide⟩,⟨by decide,by decide⟩,⟨by decide,by decide⟩,⟨by decide,by decide⟩,⟨by decide,by decide⟩,⟨by decide,by decide⟩,⟨by decide,by decide⟩,⟨by decide,by decide⟩,⟨by decide,by decide⟩,⟨by decide,by decide⟩,⟨by decide,by decide⟩⟩
theorem Vf: ∀two,Zv (p19 two)=true:=by decide+kernel
attribute [local go_sem] Oper.semAt_some
theorem Uj(two:Bool)(w:World):Calls prog 15 #[.bool two] w fun e w'=>e= .returned (p19 two).v∧w.grownBy w' none:=by
 have HB:=za (Bk.new w 39 #[.int .u64 0, .int .u64 0, .int .u64 0, .int .u64 0, .int .i64 0, .int .i64 0, .int .i64 0, .int .i64 0, .int .i64 0, .int .i64 0, .int .i64 0, .int .i64 0]);cases two
 ·go_enter func15,ntmps15;go_wp2
  first
   |(go_ret;exact ⟨rfl,gRf⟩)
   |exact bodyPost_ret (v:=(p19 false).v) (by simp [results,Tryz.results15,go_sem,p19]) rfl ⟨rfl,(gAl w _ none).trans (gAl _ _ none)⟩
 ·go_enter func15,ntmps15;go_wp2
  first
   |(go_ret;exact ⟨rfl,gRf⟩)
   |exact bodyPost_ret (v:=(p19 true).v) (by simp [results,Tryz.results15,go_sem,p19]) rfl ⟨rfl,(gAl w _ none).trans (gAl _ _ none)⟩
end
section
open Go Go.RowKit Go.Shelf Go.Maps
attribute [local go_sem] Oper.semAt_some
theorem UY(v:Value)(l:List (Int×Int))(X:Nat→Prop)(w:World)(h:Sl zq X w v l)(hb:l.length≤100000):
  Calls prog 51 #[v] w (zN (zh zq) (fun g=>w.heap.size≤g) w (zB l)):=by
 have H:=za h;have HB:=za hb;obtain ⟨A,c,rfl,A0,z0⟩:=h.form;clear h hb;unfold zB;go_enter func51,ntmps51;go_wp2_with fail;go_loopg [3,4] l.length (fun g s3 s4 wx=> ∃j:Nat,j+g=l.length∧s4= .int .i64 j∧Hid (Acc (zh zq) w.heap.size 72 (fun g=>w.heap.size≤g) wx s3 ((l.take j).map fun x=> [x])∧w.grownBy wx none))
 case atStart=>exact ⟨0,by omega,rfl,za ⟨Acc.nil _ _ _ _ _,gRf⟩⟩
 case round=>
  obtain ⟨j,hj,rfl,HX⟩:=hrel;cases gk with
  |zero=>
   obtain rfl:j=l.length:=by omega
   have HR:Hid (Sl (zh zq) (fun g=>w.heap.size≤g) wr u3 (l.map fun x=> [x])∧w.grownBy wr none):=za ⟨by have:=HX.z.1.sl;rwa [List.take_length] at this,HX.z.2⟩;clear HX;go_wp2;go_ret;exact ⟨_,rfl,HR.z.1,HR.z.2⟩
  |succ m=>
   have v0:(j:Int)< (l.length:Int):=by omega
   have n0:j< l.length:=by omega
   obtain ⟨a0,hg⟩:=HX.z;obtain ⟨g,o,c',e,_,_,g0,b0,m0⟩:=H.out.atP n0;injection e with e1 e2 e3
   subst e1 e3;have y0:wr.cell? ⟨g,o+j*2,none⟩=some (.int .u64 l[j].1):=cell_kept g0 hg (by simp);have s0:wr.cell? ⟨g,o+j*2+1,none⟩=some (.int .u64 l[j].2):=cell_kept b0 hg (by simp);have t0:Hid ((l.take (j+1)).map (fun x=> [x])=(l.take j).map (fun x=> [x])++ [[l[j]]]):=za (by
    rw [tSg n0,lMa];rfl)
   have u0:Hid ((((l.take j).map fun x=> [x]).length+1)*24≤140737488355328):=za (by have:=HB.z;simp;omega);have HU:=za m0;clear HX g0 b0 m0 e2;generalize l[j]=y at *;obtain ⟨W,hW⟩:=exq (wr.alloc (.cells #[.int .u64 y.1, .int .u64 y.2] 153));have p0:W.heap.size=wr.heap.size+1:=by rw [hW];simp
   obtain ⟨W3,f0⟩:=exq (W.alloc (.cells #[.slice (some ⟨wr.heap.size,0,none⟩) 1 1] 72));have i0:Hid (wr.grownBy W3 none):=za (by rw [f0,hW];exact (gAl wr _ none).trans (gAl _ _ none));have l0:=za (a0.kept i0.z);have HG:=za (hg.trans i0.z);have k0:Hid (Bk W3 (wr.heap.size+1) 72 #[.slice (some ⟨wr.heap.size,0,none⟩) 1 1]):=za (by rw [f0, ←p0];exact Bk.new W _ _);have d0:Hid ((zh zq).rep (fun g=>(fun g=>w.heap.size≤g) g∧some g≠u3.ownBlock) W3 [.slice (some ⟨wr.heap.size,0,none⟩) 1 1] [y]):=za ⟨_,rfl,(Ag (X:=fun g=>w.heap.size≤g∧some g≠u3.ownBlock) (t:=153) (w:=W) (by rw [hW];exact Bk.new wr _ _) ⟨hg.size,fun e=>by have:=(a0.lt _ e.symm).2;omega⟩ HU.z).kept (by rw [f0];exact gAl _ _ none)⟩;have q0:Hid (∀g,u3.ownBlock=some g→w.heap.size≤g):=za fun g e=>(a0.lt g e).1
   clear a0 hg p0 i0;rw [hW] at f0;rw [f0] at HG l0 d0 k0;clear hW f0;go_wp2_with (at_builtin;refine wpList_plain rfl fun K hK=> ?_;refine yu (E:=zh zq) (y:= [y]) YJ l0.z d0.z (Bk.one k0.z) u0.z HG.z.size (fun g hg=>nLT HG.z.size hg) (.tmp 11) (.tmp 17) rfl rfl rfl ?_;intro v2 w2 c0 o0 r0;refine hK _ _ ?_);have j0:Hid (Acc (zh zq) w.heap.size 72 (fun g=>w.heap.size≤g) w2 v2 ((l.take (j+1)).map fun x=> [x])∧w.grownBy w2 none):=za ⟨by rw [t0.z];simpa using c0,HG.z.andThen o0 (fun g e=> .inl (q0.z g e))⟩;clear c0 o0 r0 HG l0 d0 k0 q0 hK;go_wp2_with fail;go_roundg m
   case measure=>omega
   case rel=>exact ⟨j+1,by omega,by go_num,j0⟩
theorem QL(v1 v2:Value)(l:List (Int×Int))(X Y:Nat→Prop)(w:World)(h:Sl zq X w v1 l)(h2:Sl zq Y w v2 l)(hb:l.length≤100000):
  Calls prog 32 #[v1,v2] w fun e w'=>e= .returned (.bool true)∧w.grownBy w' none:=by
 have H1:=za h;have H2:=za h2;obtain ⟨A,c,rfl,_,_⟩:=h.form;obtain ⟨A',c',rfl,_,_⟩:=h2.form;clear h h2;go_enter func32,ntmps32;go_wp2_with fail;go_loopg [5] l.length (fun g s5 wx=> ∃j:Nat,j+g=l.length∧s5= .int .i64 j∧Hid (w.grownBy wx none))
 case atStart=>exact ⟨0,by omega,rfl,za gRf⟩
 case round=>
  obtain ⟨j,hj,rfl,HX⟩:=hrel;cases gk with
  |zero=>
   obtain rfl:j=l.length:=by omega
   go_wp2;go_ret;exact ⟨rfl,HX.z⟩
  |succ m=>
   have hjn:(j:Int)< (l.length:Int):=by omega
   have hjN:j< l.length:=by omega
   obtain ⟨g,o,_,e,_,_,hcx,hcx2,hux⟩:=(H1.z.kept HX.z).atP hjN;injection e with e1 e2 e3
   subst e1 e3;obtain ⟨g',o',_,e',_,_,hdx,hdx2,_⟩:=(H2.z.kept HX.z).atP hjN;injection e' with e1' e2' e3'
   subst e1' e3';have HFIN:Hid (∀n,w.grownBy (wr.drewN n) none):=za (fun n=>HX.z.trans (zb wr n));clear HX e2 e2' hux;generalize l[j]=y at *;go_wp2_with fail;go_quiet (fail);go_wp2_with fail;go_roundg m
   case measure=>omega
   case rel=>exact ⟨j+1,by omega,by go_num,za (HFIN.z _)⟩
def Ol(k who:Int)(l:List yE):List Int×Nat:=l.foldl (fun s x=>if x.1=k∧x.2.1=who then (x.2.2,s.2+1) else s) ([],0)
def toI(k who:Int)(l:List yE):List Int:=if (Ol k who l).2=1 then (Ol k who l).1 else []
theorem Qi(k who:Int)(l:List yE){i:Nat}(hi:i< l.length):Ol k who (l.take (i+1))=if l[i].1=k∧l[i].2.1=who then (l[i].2.2,(Ol k who (l.take i)).2+1) else Ol k who (l.take i):=by
 unfold Ol;rw [tSg hi,List.foldl_append];rfl
theorem Ki(k who:Int)(l:List yE): ∀i,i≤l.length→(Ol k who (l.take i)).2≤i
 |0,_=>nRf _
 |i+1,h=>by
  rw [Qi k who l (by omega)]
  have:=Ki k who l i (by omega)
  split
  ·dsimp only;omega
  ·omega
theorem Xr(v:Value)(l:List yE)(k who:Int)(X:Nat→Prop)(w:World)(h:Sl xZ X w v l)(hb:l.length≤100000):
  Calls prog 37 #[v, .int .u8 k, .int .i64 who] w fun e w'=> ∃v',e= .returned v'∧w'=w∧Sl ze X w v' (toI k who l):=by
 have H:=za h;obtain ⟨A,c,rfl,_,_⟩:=h.form;clear h;go_enter func37,ntmps37;go_wp2_with fail;go_loopg [7,8,9] l.length (fun g s7 s8 s9 wx=> ∃i n:Nat,i+g=l.length∧s9= .int .i64 i∧s8= .int .i64 n∧Hid (wx=w∧n=(Ol k who (l.take i)).2∧Sl ze X w s7 (Ol k who (l.take i)).1))
 case atStart=>exact ⟨0,0,by omega,rfl,rfl,za ⟨rfl,rfl,Sl.nil _ _ _⟩⟩
 case round=>
  obtain ⟨i,n,hi,rfl,rfl,HX⟩:=hrel;obtain rfl:w=wr:=HX.z.1.symm;cases gk with
  |zero=>
   obtain rfl:i=l.length:=by omega
   have h2:=HX.z.2;rw [List.take_length] at h2;by_cases hn:n=1
   ·have HR:Hid (Sl ze X w u7 (toI k who l)):=za (by unfold toI;rw [if_pos (by rw [←h2.1];exact hn)];exact h2.2);subst hn;clear HX h2;go_wp2;go_ret;exact ⟨_,rfl,rfl,HR.z⟩
   ·have HR:Hid (Sl ze X w (.slice none 0 0) (toI k who l)):=za (by unfold toI;rw [if_neg (by rw [←h2.1];exact hn)];exact Sl.nil _ _ _);have hd:((n:Int)==1)=false:=by
     have: ¬(n:Int)=1:=by omega
     simpa using this
    clear HX h2;go_wp2;go_ret;exact ⟨_,rfl,rfl,HR.z⟩
  |succ m=>
   have hjn:(i:Int)< (l.length:Int):=by omega
   have hjN:i< l.length:=by omega
   obtain ⟨g,o,_,u,e,_,_,⟨hc0,hc1,hc2⟩,hu8,XX,hsu⟩:=H.out.atO hjN;injection e with e1 e2 e3
   subst e1 e3;have HN:=za (Qi k who l hjN);have HLE:=za (Ki k who l i (by omega));have hn9:(n:Int)+1≤9223372036854775807:=by have:=HX.z.2.1;have:=HLE.z;omega
   have HSU:=za hsu;obtain ⟨Au,nu,cu,rfl⟩:=hsu.shape;obtain ⟨y,hy⟩:=exq (l[i]);rw [←hy] at hc0 hc1 HN HSU;clear hsu hu8 XX e2 hy;by_cases hk:y.1=k
   ·by_cases hw:y.2.1=who
    ·have HFIN:Hid (w=w∧n+1=(Ol k who (l.take (i+1))).2∧Sl ze X w (.slice Au nu cu) (Ol k who (l.take (i+1))).1):=za (by
      rw [HN.z,if_pos ⟨hk,hw⟩];exact ⟨rfl,by rw [HX.z.2.1],HSU.z⟩)
     have hd1:(y.1==k)=true:=by simpa using hk
     have hd2:(y.2.1==who)=true:=by simpa using hw
     clear HX;go_wp2_with fail;go_roundg m
     case measure=>omega
     case rel=>exact ⟨i+1,n+1,by omega,by go_num,by go_num,za ⟨rfl,HFIN.z.2⟩⟩
    ·have HFIN:Hid (w=w∧n=(Ol k who (l.take (i+1))).2∧Sl ze X w u7 (Ol k who (l.take (i+1))).1):=za (by
      rw [HN.z,if_neg (fun h=>hw h.2)];exact HX.z)
     have hd1:(y.1==k)=true:=by simpa using hk
     have hd2:(y.2.1==who)=false:=by simpa using hw
     clear HX;go_wp2_with fail;go_roundg m
     case measure=>omega
     case rel=>exact ⟨i+1,n,by omega,by go_num,rfl,za ⟨rfl,HFIN.z.2⟩⟩
   ·have HFIN:Hid (w=w∧n=(Ol k who (l.take (i+1))).2∧Sl ze X w u7 (Ol k who (l.take (i+1))).1):=za (by
     rw [HN.z,if_neg (fun h=>hk h.1)];exact HX.z)
    have hd1:(y.1==k)=false:=by simpa using hk
    clear HX;go_wp2_with fail;go_roundg m
    case measure=>omega
    case rel=>exact ⟨i+1,n,by omega,by go_num,rfl,za ⟨rfl,HFIN.z.2⟩⟩
end
section
open Go Go.RowKit Go.Shelf Go.Maps
structure Dl where
 m:List (List (List Int))
 a:List (List (List (Int×Int)))
 b:List (List (List (Int×Int)))
def UL:Enc Dl where
 size:=3
 pos:=by decide
 rep:=fun X w cs d=> ∃vm va vb,cs= [vm,va,vb]∧Sl (zh (zh ze)) X w vm d.m∧Sl (zh (zh zq)) X w va d.a∧Sl (zh (zh zq)) X w vb d.b
 len:=fun h=>by obtain ⟨_,_,_,rfl,_⟩:=h;rfl
 ones:=fun h u hu=>by
  obtain ⟨vm,va,vb,rfl,h1,h2,h3⟩:=h;obtain ⟨A1,n1,c1,rfl⟩:=h1.shape;obtain ⟨A2,n2,c2,rfl⟩:=h2.shape;obtain ⟨A3,n3,c3,rfl⟩:=h3.shape;simp at hu;rcases hu with rfl|rfl|rfl<;>rfl
 keep:=fun h hg hX=>by obtain ⟨vm,va,vb,e,h1,h2,h3⟩:=h;exact ⟨vm,va,vb,e,h1.keep hg hX,h2.keep hg hX,h3.keep hg hX⟩
 more:=fun h hX=>by obtain ⟨vm,va,vb,e,h1,h2,h3⟩:=h;exact ⟨vm,va,vb,e,h1.more hX,h2.more hX,h3.more hX⟩
 keepc:=fun h hg hr=>by obtain ⟨vm,va,vb,e,h1,h2,h3⟩:=h;exact ⟨vm,va,vb,e,h1.keepc hg hr,h2.keepc hg hr,h3.keepc hg hr⟩
theorem Sl.atDl{X:Nat→Prop}{w:World}{v:Value}{xs:List Dl}(h:Sl UL X w v xs){k:Nat}(hk:k< xs.length):
  ∃g o c vm va vb,v= .slice (some ⟨g,o,none⟩) xs.length c∧g< w.heap.size∧X g∧(w.cell? ⟨g,o+k*3,none⟩=some vm∧w.cell? ⟨g,o+k*3+1,none⟩=some va∧w.cell? ⟨g,o+k*3+2,none⟩=some vb)∧Sl (zh (zh ze)) X w vm xs[k].m∧Sl (zh (zh zq)) X w va xs[k].a∧Sl (zh (zh zq)) X w vb xs[k].b:=by
 obtain ⟨g,o,c,cs,e,hg,hX,⟨vm,va,vb,rfl,h1,h2,h3⟩,hc⟩:=h.at hk;exact ⟨g,o,c,vm,va,vb,e,hg,hX,⟨hc 0 _ rfl,hc 1 _ rfl,hc 2 _ rfl⟩,h1,h2,h3⟩
structure Cl (N:Nat) (d:Dl):Prop where
 m:d.m.length≤10∧ ∀x∈d.m,x.length≤3∧ ∀y∈x,y.length≤3
 a:d.a.length=N∧ ∀r∈d.a,r.length≤10∧ ∀c∈r,c.length≤3
 b:d.b.length=N∧ ∀r∈d.b,r.length≤10∧ ∀c∈r,c.length≤3
def YN(N:Int)(f:Int):Int:=1+IntKind.u64.wrap (IntKind.i64.wrap (f - 1))%N
def OS(l:List Dl)(of_:Int):Dl:=l[((of_ - 1)%(l.length:Int)).toNat]?.getD ⟨[], [], []⟩
def VO(p:Par)(kind f of_:Int)(nums:List Int)(l:List Dl)(me:Int):List Int:=
 if of_=0∨l= [] then nums
 else if kind=7 then yz (OS l of_).m ((OS l of_).a[(me - 1).toNat]?.getD []) ((OS l of_).b[(me - 1).toNat]?.getD [])
 else yz (OS l of_).m (zB (((OS l of_).a[(YN p.N f - 1).toNat]?.getD []).map (atP p.Q me))) (zB (((OS l of_).b[(YN p.N f - 1).toNat]?.getD []).map (atP p.Q me)))
def PW(Y:Nat→Prop)(w:World)(l:List Int)(e:Ending)(w':World):Prop:= ∃v,e= .returned v∧Sl ze (fun g=>Y g∨w.heap.size≤g) w' v l∧w.grownBy w' none
attribute [local go_sem] Oper.semAt_some
theorem Vh(p:Par)(kind f of_:Int)(vn vl:Value)(nums:List Int)(l:List Dl)(me:Int)(Y Z:Nat→Prop)(w:World)(hp:p.ok)(hN:1≤p.N∧p.N≤7)(ho:U8 of_)(hk:U8 kind)(hf:I64 f)(hn:Sl ze Y w vn nums)(hl:Sl UL Z w vl l)(hd: ∀d∈l,Cl p.N.toNat d)(S0:l.length≤100)(p0:1≤me∧me≤p.N):
  Calls prog 20 #[.agg #[.int .u8 kind, .int .i64 f, .int .u8 of_,vn],p.v,vl, .int .i64 me] w (PW Y w (VO p kind f of_ nums l me)):=by
 obtain ⟨An,nn,cn,rfl⟩:=hn.shape;obtain ⟨Al,cl,rfl,_,_⟩:=hl.form;obtain ⟨w0,o0⟩:=exq ((w.alloc (.cells #[.int .u8 kind, .int .i64 f, .int .u8 of_, .slice An nn cn] 61)).alloc (.cells p.cells 39));have l0:Hid (w.grownBy w0 none):=za (by rw [o0];exact (gAl w _ none).trans (gAl _ _ none));have J1:Hid (Bk w0 w.heap.size 61 #[.int .u8 kind, .int .i64 f, .int .u8 of_, .slice An nn cn]):=za (by rw [o0];exact (Bk.new w _ _).alloc _);have u1:Hid (Bk w0 (w.heap.size+1) 39 p.cells):=za (by
  rw [o0];have h:=Bk.new (w.alloc (.cells #[.int .u8 kind, .int .i64 f, .int .u8 of_, .slice An nn cn] 61)) 39 p.cells;rw [World.size_alloc] at h;exact h)
 have Q0:=J1.z.rule;have P0:=u1.z.prule;have t0:=za o0;have HN:=za hn;have HL:=za hl;rw [o0] at Q0 P0;clear o0;by_cases hz:of_=0∨l= []
 ·have HR:Hid (PW Y w (VO p kind f of_ nums l me) (.returned (.slice An nn cn)) w0):=za (by
   unfold VO;rw [if_pos hz];exact ⟨_,rfl,(hn.kept l0.z).more fun g _ h=> .inl h,l0.z⟩)
  rw [t0.z] at HR;clear hp hN ho hk hf hn hl hd S0 p0;by_cases h0:of_=0
  ·subst h0;clear hz;go_enter func20,ntmps20;go_wp2_with fail;go_ret;exact HR.z
  ·obtain rfl:=hz.resolve_left h0;have D1:(of_==0)=false:=by simpa using h0
   clear hz;go_enter func20,ntmps20;go_wp2_with fail;go_ret;exact HR.z
 ·have h0: ¬of_=0:=fun e=>hz (.inl e)
  have c1:0< l.length:=List.length_pos_iff.2 fun e=>hz (.inr e)
  have D1:(of_==0)=false:=by simpa using h0
  obtain ⟨L,hL⟩:=exq (l.length);rw [←hL];have S1:((L:Int)==0)=false:=by
   have: ¬(L:Int)=0:=by omega
   simpa using this
  obtain ⟨j,hj⟩: ∃j:Nat,j=((of_ - 1)%(l.length:Int)).toNat:=⟨_,rfl⟩;have b1:=Int.emod_nonneg (of_ - 1) (show (l.length:Int)≠0 by omega);have a1:=Int.emod_lt_of_pos (of_ - 1) (show (0:Int)< (l.length:Int) by omega);have r0:j< l.length:=by omega
  have x0:Hid (OS l of_=l[j]):=za (by unfold OS;rw [←hj,List.getElem?_eq_getElem r0];rfl);have N1:IntKind.u8.wrap (of_ - 1)=of_ - 1:=IntWalk.u8_in _ (by have:=ho.1;have:=ho.2;omega);have M1:IntKind.i64.wrap (of_ - 1)=of_ - 1:=i6n _ (by have:=ho.1;have:=ho.2;omega);have n0:(of_ - 1).tmod (L:Int)=(j:Int):=by rw [hL,Int.tmod_eq_emod_of_nonneg (by have:=ho.1;omega)];omega
  obtain ⟨g,o,c',vm,va,vb,e,d1,_,⟨F1,g1,f1⟩,s1,s2,s3⟩:=(hl.kept l0.z).atDl r0;injection e with e1 e2 e3
  have M0:Hid (VO p kind f of_ nums l me=if kind=7 then yz l[j].m (l[j].a[(me - 1).toNat]?.getD []) (l[j].b[(me - 1).toNat]?.getD []) else yz l[j].m (zB ((l[j].a[(YN p.N f - 1).toNat]?.getD []).map (atP p.Q me))) (zB ((l[j].b[(YN p.N f - 1).toNat]?.getD []).map (atP p.Q me)))):=za (by
   unfold VO;rw [if_neg hz,x0.z])
  have b0:=hd _ (lGm r0);obtain ⟨d,U0⟩:=exq (l[j]);rw [←U0] at s1 s2 s3 M0 b0;have P1:(j:Int)< (L:Int):=by omega
  have R1:(0:Int)≤(j:Int):=iNn j;subst e1 e3;rw [M0.z];rw [t0.z] at F1 g1 f1;have V1:=za b0;have l1:=za s1;obtain ⟨jm,A0⟩: ∃x:Nat,x=(if kind=7 then me - 1 else YN p.N f - 1).toNat:=⟨_,rfl⟩;have Y0:0≤IntKind.u64.wrap (IntKind.i64.wrap (f - 1)):=by rw [IntKind.wrap_u64];omega
  have X0:=Int.emod_nonneg (IntKind.u64.wrap (IntKind.i64.wrap (f - 1))) (show p.N≠0 by omega);have W0:=Int.emod_lt_of_pos (IntKind.u64.wrap (IntKind.i64.wrap (f - 1))) (show 0< p.N by omega);have q0:Hid ((IntKind.u64.wrap (IntKind.i64.wrap (f - 1))).tmod p.N=YN p.N f - 1):=za (by rw [Int.tmod_eq_emod_of_nonneg Y0];unfold YN;omega);have G0:1≤YN p.N f∧YN p.N f≤p.N:=by unfold YN;omega
  have a0:jm< p.N.toNat:=by
   rw [A0];split<;>omega
  obtain ⟨ga,oa,ca,ua,ea,_,_,f0,sa⟩:=s2.atS (k:=jm) (by rw [b0.a.1];exact a0);obtain ⟨gb,ob,cb,ub,eb,_,_,d0,sb⟩:=s3.atS (k:=jm) (by rw [b0.b.1];exact a0);have z0:=b0.a.2 _ (lGm (show jm< d.a.length by rw [b0.a.1];exact a0));have y0:=b0.b.2 _ (lGm (show jm< d.b.length by rw [b0.b.1];exact a0));have v0:Hid ((d.a[jm]?.getD []=d.a[jm]'(by rw [b0.a.1];exact a0))∧d.b[jm]?.getD []=d.b[jm]'(by rw [b0.b.1];exact a0)):=za ⟨by rw [List.getElem?_eq_getElem (by rw [b0.a.1];exact a0)];rfl,by rw [List.getElem?_eq_getElem (by rw [b0.b.1];exact a0)];rfl⟩;obtain ⟨RA,C0⟩:=exq (d.a[jm]'(by rw [b0.a.1];exact a0));obtain ⟨RB,B0⟩:=exq (d.b[jm]'(by rw [b0.b.1];exact a0));rw [←C0, ←B0] at v0;rw [←C0] at sa z0;rw [←B0] at sb y0;rw [b0.a.1] at ea;rw [b0.b.1] at eb;subst ea eb;have k1:=za sa;have j1:=za sb;have O0:=za z0;have N0:=za y0;obtain ⟨Am,nm,cm,rfl⟩:=s1.shape;obtain ⟨Aa,na,ca',rfl⟩:=sa.shape;obtain ⟨Ab,nb,cb',rfl⟩:=sb.shape;obtain ⟨NN,V0⟩: ∃y:Nat,y=p.N.toNat:=⟨_,rfl⟩;rw [←V0] at a0 g1 f1;have Q1:(jm:Int)< (NN:Int):=by omega
  have C1:(0:Int)≤(jm:Int):=iNn jm;obtain ⟨w1,i0⟩:=exq (w0.alloc (.cells #[.slice Am nm cm, .slice (some ⟨ga,oa,none⟩) NN ca, .slice (some ⟨gb,ob,none⟩) NN cb] 107));have I1:Hid (w0.grownBy w1 none):=za (by rw [i0];exact gAl _ _ none);have t1:Hid (Bk w1 w0.heap.size 107 #[.slice Am nm cm, .slice (some ⟨ga,oa,none⟩) NN ca, .slice (some ⟨gb,ob,none⟩) NN cb]):=za (by rw [i0];exact Bk.new _ _ _);have n1:Hid (w1.grownBy w1.drew none):=za (zb w1 1);have g0:Hid (w0.grownBy w1.drew none):=za (I1.z.trans n1.z);have j0:Hid (∀w',w1.drew.grownBy w' none→(∀o,w'.cell? ⟨w0.heap.size,o,none⟩=(#[.slice Am nm cm, .slice (some ⟨ga,oa,none⟩) NN ca, .slice (some ⟨gb,ob,none⟩) NN cb]:Array Value)[o]?)∧(w'.cell? ⟨ga,oa+jm,none⟩=some (.slice Aa na ca')∧w'.cell? ⟨gb,ob+jm,none⟩=some (.slice Ab nb cb'))∧ ∀o,w'.cell? ⟨w.heap.size+1,o,none⟩=(#[.int .u64 p.P, .int .u64 p.Q, .int .u64 p.G, .int .u64 p.H, .int .i64 p.Nodes, .int .i64 p.N, .int .i64 p.T, .int .i64 p.K, .int .i64 p.D, .int .i64 p.R, .int .i64 p.M, .int .i64 p.X]:Array Value)[o]?):=za (fun w' hw'=>⟨(t1.z.grown (n1.z.trans hw') (by simp)).rule,⟨cell_kept f0 (g0.z.trans hw') (by simp),cell_kept d0 (g0.z.trans hw') (by simp)⟩,(u1.z.grown (g0.z.trans hw') (by simp)).prule⟩);have m0:=za b0.m;have R0:w0.heap.size=w.heap.size+1+1:=by rw [t0.z];simp
  rw [R0] at t1 j0;have m0:=za b0.m;have x1:=za G0;have Z1:=za p0;have U1:=za hp;have Y1:=za hN;have p1:=za A0;by_cases h7:kind=7
  ·subst h7;rw [if_pos rfl];have c0:jm=(me - 1).toNat:=by rw [p1.z,if_pos rfl]
   have K1:IntKind.i64.wrap (me - 1)=(jm:Int):=by rw [c0];have:=p0.1;have:=p0.2;have:=hN.2;rw [i6n _ (by omega)];omega
   rw [←c0,v0.z.1,v0.z.2];have u0:=za (fun W (hW:w0.grownBy W none)=>XL (.slice Am nm cm) (.slice Aa na ca') (.slice Ab nb cb') d.m RA RB Z Z Z W (l1.z.kept hW) (k1.z.kept hW) (j1.z.kept hW) m0.z O0.z N0.z);obtain ⟨PL,s0⟩:=exq (yz d.m RA RB);rw [←s0] at u0 ⊢;clear b0 U0 s1 s2 s3 sa sb C0 B0 z0 y0 f0 d0 A0 Y0 X0 W0 G0 hz h0 b1 a1 hj r0 HL hL hl c1 hp hN ho hk hf hn hd S0 p0 M0 x0 HN d1 V0 R0 a0 c0 s0 q0;go_enter func20,ntmps20;go_wp2_with fail;rw [←t0.z, ←i0];clear Q0 P0 i0;refine ZF 16 ?_;refine mP0 (.pointer (some ⟨w.heap.size+1+1,0,none⟩)) ?_;refine mQ1 (.slice Am nm cm) 0 34 (fun w' hw' K hK=> ?_) ?_
   ·obtain ⟨hc,⟨f0,d0⟩,k0⟩:=j0.z w' hw';go_simp;exact hK _ rfl rfl
   refine mP0 (.pointer (some ⟨w.heap.size+1+1,1,none⟩)) ?_;refine mQ1 (.slice (some ⟨ga,oa,none⟩) NN ca) 2 36 (fun w' hw' K hK=> ?_) ?_
   ·obtain ⟨hc,⟨f0,d0⟩,k0⟩:=j0.z w' hw';go_simp;exact hK _ rfl rfl
   refine mP0 (.int .i64 me) ?_;refine mP1 (.int .i64 jm) 4 38 ?_;refine mP2 (.pointer (some ⟨ga,oa+jm,none⟩)) 3 37 5 39 ?_;refine mQ1 (.slice Aa na ca') 6 40 (fun w' hw' K hK=> ?_) ?_
   ·obtain ⟨hc,⟨f0,d0⟩,k0⟩:=j0.z w' hw';go_simp;exact hK _ rfl rfl
   refine mP0 (.pointer (some ⟨w.heap.size+1+1,2,none⟩)) ?_;refine mQ1 (.slice (some ⟨gb,ob,none⟩) NN cb) 8 42 (fun w' hw' K hK=> ?_) ?_
   ·obtain ⟨hc,⟨f0,d0⟩,k0⟩:=j0.z w' hw';go_simp;exact hK _ rfl rfl
   refine mP0 (.int .i64 me) ?_;refine mP1 (.int .i64 jm) 10 44 ?_;refine mP2 (.pointer (some ⟨gb,ob+jm,none⟩)) 9 43 11 45 ?_;refine mQ1 (.slice Ab nb cb') 12 46 (fun w' hw' K hK=> ?_) ?_
   ·obtain ⟨hc,⟨f0,d0⟩,k0⟩:=j0.z w' hw';go_simp;exact hK _ rfl rfl
   refine mN3 (Pv.sl ze (fun g=>w.heap.size≤g) PL) 1 35 7 41 13 47 (fun w' hw' K hK=> ?_) ?_
   ·go_simp;refine (u0.z w' (g0.z.trans hw')).mono ?_;rintro e w3 ⟨v,rfl,hs3,hg3⟩;exact hK _ _ rfl (hs3.more fun g _ hg=>nLT (l0.z.trans (g0.z.trans hw')).size hg) hg3
   refine mV (Pv.sl ze (fun g=>w.heap.size≤g) PL) [(14,48)] (fun w' hw' x48 e0=>kD fun K hK=> ?_) ?_
   ·have e0:Sl ze (fun g=>w.heap.size≤g) w' x48 PL:=e0;go_simp;exact hK _ _ rfl e0 gRf
   intro w3 n0
   iterate 15 (refine pD ?_;intro _)
   intro y15 k15;have e15:Sl ze (fun g=>w.heap.size≤g) w3 y15 PL:=k15;have HF:Hid (PW Y w PL (.returned y15) w3):=za ⟨_,rfl,e15.more fun g _ h=> .inr h,l0.z.trans (g0.z.trans n0)⟩;clear k15 e15 n0;refine wpList_nil ?_;simp only [Act.put,sAa,sAb,sAc];go_wp2_with fail;go_ret;exact HF.z
  ·rw [if_neg h7];have T1:(kind==7)=false:=by simpa using h7
   have c0:jm=(YN p.N f - 1).toNat:=by rw [p1.z,if_neg h7]
   obtain ⟨F,hF⟩:=exq (YN p.N f);rw [←hF] at c0 q0 G0;have T0:F - 1=(jm:Int):=by omega
   rw [T0] at q0;have O1:=q0.z;have L1:IntKind.u64.wrap p.N=p.N:=IntWalk.u64_in _ (by omega);have E0:IntKind.i64.wrap (jm:Int)=(jm:Int):=i6n _ (by omega);have z1:IntKind.u64.wrap (jm:Int)=(jm:Int):=IntWalk.u64_in _ (by omega);have B1:IntKind.i64.wrap (1+(jm:Int))=F:=by rw [i6n _ (by omega)];omega
   have H1:Hid (wrap64 (1+wrap64 ((IntKind.u64.wrap (wrap64 (f - 1))).tmod p.N))=F):=za (by
    have e1:=IntWalk.i64_left (f - 1);have e2:=IntWalk.i64_left (jm:Int);have e3:=IntWalk.i64_left (1+(jm:Int));rw [←e1,q0.z, ←e2,E0, ←e3,B1])
   have A1:IntKind.i64.wrap (F - 1)=(jm:Int):=by rw [T0];exact E0
   have y1:IntKind.u64.wrap me=me:=IntWalk.u64_in _ (by omega);have i1: ¬p.N=0:=by omega
   have G1:(p.N==0)=false:=by simpa using i1
   have o1:Hid (U64 me):=za ⟨by omega,by omega⟩;rw [←hF, ←c0,v0.z.1,v0.z.2];have r1:=za (fun W (hW:w0.grownBy W none)=>Vo (.slice Aa na ca') RA me p.Q Z W (k1.z.kept hW) o1.z (by have:=O0.z.1;omega) (fun c hc=>by have:=O0.z.2 c hc;omega));have q1:=za (fun W (hW:w0.grownBy W none)=>Vo (.slice Ab nb cb') RB me p.Q Z W (j1.z.kept hW) o1.z (by have:=N0.z.1;omega) (fun c hc=>by have:=N0.z.2 c hc;omega));obtain ⟨PA,F0⟩:=exq (RA.map (atP p.Q me));obtain ⟨PB,D0⟩:=exq (RB.map (atP p.Q me));have L0:Hid (PA.length≤10∧PB.length≤10):=za (by rw [F0,D0,lLm,lLm];exact ⟨O0.z.1,N0.z.1⟩);rw [←F0] at r1;rw [←D0] at q1;rw [←F0, ←D0];have u0:=za (fun W (hW:w0.grownBy W none) v1 v2 X1 X2 (h1:Sl (zh zq) X1 W v1 (zB PA)) (h2:Sl (zh zq) X2 W v2 (zB PB))=>XL (.slice Am nm cm) v1 v2 d.m (zB PA) (zB PB) Z X1 X2 W (l1.z.kept hW) h1 h2 m0.z ⟨by unfold zB;rw [lLm];exact L0.z.1,fun c hc=>by unfold zB at hc;obtain ⟨y,_,rfl⟩:=List.mem_map.1 hc;simp⟩ ⟨by unfold zB;rw [lLm];exact L0.z.2,fun c hc=>by unfold zB at hc;obtain ⟨y,_,rfl⟩:=List.mem_map.1 hc;simp⟩);obtain ⟨PL,s0⟩:=exq (yz d.m (zB PA) (zB PB));rw [←s0] at u0 ⊢;clear b0 U0 s1 s2 s3 sa sb C0 B0 z0 y0 f0 d0 A0 Y0 X0 W0 G0 hz h0 b1 a1 hj r0 HL hL hl c1 hp hN ho hk hf hn hd S0 p0 M0 x0 HN d1 V0 R0 a0 c0 s0 F0 D0 q0 hF T0 h7 i1;go_enter func20,ntmps20;go_wp2_with fail;rw [←t0.z, ←i0,H1.z];clear Q0 P0 i0;refine ZF 28 ?_;refine mP0 (.pointer (some ⟨w.heap.size+1+1,0,none⟩)) ?_
   refine mQ1 (.slice Am nm cm) 0 59 (fun w' hw' K hK=> ?_) ?_
   ·obtain ⟨hc,⟨f0,d0⟩,k0⟩:=j0.z w' hw';go_simp;exact hK _ rfl rfl
   refine mP0 (.pointer (some ⟨w.heap.size+1+1,1,none⟩)) ?_;refine mQ1 (.slice (some ⟨ga,oa,none⟩) NN ca) 2 61 (fun w' hw' K hK=> ?_) ?_
   ·obtain ⟨hc,⟨f0,d0⟩,k0⟩:=j0.z w' hw';go_simp;exact hK _ rfl rfl
   refine mP0 (.int .i64 F) ?_;refine mP1 (.int .i64 jm) 4 63 ?_;refine mP2 (.pointer (some ⟨ga,oa+jm,none⟩)) 3 62 5 64 ?_;refine mQ1 (.slice Aa na ca') 6 65 (fun w' hw' K hK=> ?_) ?_
   ·obtain ⟨hc,⟨f0,d0⟩,k0⟩:=j0.z w' hw';go_simp;exact hK _ rfl rfl
   refine mP0 (.int .i64 me) ?_;refine mP1 (.int .u64 me) 8 67 ?_;refine mP0 (.pointer (some ⟨w.heap.size+1,1,none⟩)) ?_;refine mQ1 (.int .u64 p.Q) 10 69 (fun w' hw' K hK=> ?_) ?_
   ·obtain ⟨hc,⟨f0,d0⟩,k0⟩:=j0.z w' hw';go_simp;exact hK _ rfl rfl
   refine mN3 (Pv.sl (zq) (fun g=>w.heap.size≤g) PA) 7 66 9 68 11 70 (fun w' hw' K hK=> ?_) ?_
   ·go_simp;refine (r1.z w' (g0.z.trans hw')).mono ?_;rintro e w3 ⟨v,rfl,hs3,hg3⟩;exact hK _ _ rfl (hs3.more fun g _ hg=>nLT (l0.z.trans (g0.z.trans hw')).size hg) hg3
   refine mV (Pv.sl (zh zq) (fun g=>w.heap.size≤g) (zB PA)) [(12,71)] (fun w' hw' x71 K0=>kD fun K hK=> ?_) ?_
   ·have K0:Sl (zq) (fun g=>w.heap.size≤g) w' x71 PA:=K0;obtain ⟨A71,n71,c71,e71⟩:=K0.shape;subst e71;go_simp;refine (UY _ PA _ w' K0 (by have:=L0.z.1;omega)).mono ?_;rintro e w3 ⟨v,rfl,hs3,hg3⟩;exact hK _ _ rfl (hs3.more fun g _ hg=>nLT (l0.z.trans (g0.z.trans hw')).size hg) hg3
   refine mP0 (.pointer (some ⟨w.heap.size+1+1,2,none⟩)) ?_;refine mQ1 (.slice (some ⟨gb,ob,none⟩) NN cb) 14 73 (fun w' hw' K hK=> ?_) ?_
   ·obtain ⟨hc,⟨f0,d0⟩,k0⟩:=j0.z w' hw';go_simp;exact hK _ rfl rfl
   refine mP0 (.int .i64 F) ?_;refine mP1 (.int .i64 jm) 16 75 ?_;refine mP2 (.pointer (some ⟨gb,ob+jm,none⟩)) 15 74 17 76 ?_;refine mQ1 (.slice Ab nb cb') 18 77 (fun w' hw' K hK=> ?_) ?_
   ·obtain ⟨hc,⟨f0,d0⟩,k0⟩:=j0.z w' hw';go_simp;exact hK _ rfl rfl
   refine mP0 (.int .i64 me) ?_;refine mP1 (.int .u64 me) 20 79 ?_;refine mP0 (.pointer (some ⟨w.heap.size+1,1,none⟩)) ?_;refine mQ1 (.int .u64 p.Q) 22 81 (fun w' hw' K hK=> ?_) ?_
   ·obtain ⟨hc,⟨f0,d0⟩,k0⟩:=j0.z w' hw';go_simp;exact hK _ rfl rfl
   refine mN3 (Pv.sl (zq) (fun g=>w.heap.size≤g) PB) 19 78 21 80 23 82 (fun w' hw' K hK=> ?_) ?_
   ·go_simp;refine (q1.z w' (g0.z.trans hw')).mono ?_;rintro e w3 ⟨v,rfl,hs3,hg3⟩;exact hK _ _ rfl (hs3.more fun g _ hg=>nLT (l0.z.trans (g0.z.trans hw')).size hg) hg3
   refine mV (Pv.sl (zh zq) (fun g=>w.heap.size≤g) (zB PB)) [(24,83)] (fun w' hw' x83 I0=>kD fun K hK=> ?_) ?_
   ·have I0:Sl (zq) (fun g=>w.heap.size≤g) w' x83 PB:=I0;obtain ⟨A83,n83,c83,e83⟩:=I0.shape;subst e83;go_simp;refine (UY _ PB _ w' I0 (by have:=L0.z.2;omega)).mono ?_;rintro e w3 ⟨v,rfl,hs3,hg3⟩;exact hK _ _ rfl (hs3.more fun g _ hg=>nLT (l0.z.trans (g0.z.trans hw')).size hg) hg3
   refine mV (Pv.sl ze (fun g=>w.heap.size≤g) PL) [(1,60),(13,72),(25,84)] (fun w' hw'=>pQ (fun x72 J0 x84 H0=>kD fun K hK=> ?_)) ?_
   ·have J0:Sl (zh zq) (fun g=>w.heap.size≤g) w' x72 (zB PA):=J0;obtain ⟨A72,n72,c72,e72⟩:=J0.shape;subst e72;have H0:Sl (zh zq) (fun g=>w.heap.size≤g) w' x84 (zB PB):=H0;obtain ⟨A84,n84,c84,e84⟩:=H0.shape;subst e84;go_simp;refine (u0.z w' (g0.z.trans hw') _ _ _ _ J0 H0).mono ?_;rintro e w3 ⟨v,rfl,hs3,hg3⟩;exact hK _ _ rfl (hs3.more fun g _ hg=>nLT (l0.z.trans (g0.z.trans hw')).size hg) hg3
   refine mV (Pv.sl ze (fun g=>w.heap.size≤g) PL) [(26,85)] (fun w' hw' x85 Z0=>kD fun K hK=> ?_) ?_
   ·have Z0:Sl ze (fun g=>w.heap.size≤g) w' x85 PL:=Z0;go_simp;exact hK _ _ rfl Z0 gRf
   intro w3 n0
   iterate 27 (refine pD ?_;intro _)
   intro y27 k27;have e27:Sl ze (fun g=>w.heap.size≤g) w3 y27 PL:=k27;have HF:Hid (PW Y w PL (.returned y27) w3):=za ⟨_,rfl,e27.more fun g _ h=> .inr h,l0.z.trans (g0.z.trans n0)⟩;clear k27 e27 n0;refine wpList_nil ?_;simp only [Act.put,sAa,sAb,sAc];go_wp2_with fail;go_ret;exact HF.z
end
section
open Go Go.RowKit Go.Shelf
def dlK(p:Par)(j:Nat):Nat:=DQ p+j*(ZK p*(2*((Yh p+1)*(Yh p+1) - 1)))
def Cq(p:Par)(seed i:Int)(j:Nat):List (List (List Int)):=xA (EJ p [0] seed i) p.Q (Dk p seed) (Yh p+1) (dlK p j) (ZK p)
def Cr(p:Par)(seed i:Int)(j:Nat):List (List (List Int)):=xB (EJ p [0] seed i) p.Q (Dk p seed) (Yh p+1) (dlK p j) (ZK p)
def dlD(p:Par)(seed i:Int)(j:Nat):Dl:=⟨Ep p (Cq p seed i j) (Cr p seed i j),(List.range p.N.toNat).map fun x:Nat=>Uo p.Q (Cq p seed i j) (Cr p seed i j) (Yh p+1) ((x:Int)+1),(List.range p.N.toNat).map fun x:Nat=>UR p.Q (Cq p seed i j) (Cr p seed i j) (Yh p+1) ((x:Int)+1)⟩
section
variable {p:Par} (hm:Zv p=true) (hq:U64 p.Q) (seed i:Int) (j:Nat)
include hm hq
theorem YK:Vu p.Q (Yh p+1) (ZK p) (Cq p seed i j) (Cr p seed i j):=QQ (by omega) (EI hm) (fun k=>(RK hq seed k).1)
theorem EM:(dlD p seed i j).m.length=ZK p:=by
 have h:=YK hm hq seed i j;simp [dlD,Ep,Zs,h.f.1,h.b.1]
theorem NT: ∀M∈(dlD p seed i j).m,M.length=Yh p+1∧ ∀r∈M,r.length=Yh p+1:=fun M hM=>by
 have h:=YK hm hq seed i j;simp only [dlD,Ep,Zs,List.map_map,h.f.1,h.b.1,Nat.max_self,List.mem_map,List.mem_range,Function.comp] at hM;obtain ⟨s,hs,rfl⟩:=hM;obtain ⟨a,e1,s1⟩:=h.atF hs;obtain ⟨b,e2,s2⟩:=h.atB hs;simp only [e1,e2,Option.getD_some];exact JZ s1 s2
theorem Pn: ∀r∈(dlD p seed i j).a,r.length=ZK p∧ ∀c∈r,c.length=Yh p+1:=fun r hr=>by
 have h:=YK hm hq seed i j;obtain ⟨x,_,rfl⟩:=List.mem_map.1 hr;refine ⟨by simp [Uo,h.f.1],fun c hc=> ?_⟩;obtain ⟨s,_,rfl⟩:=List.mem_map.1 hc;simp [Hs,LS]
theorem Po: ∀r∈(dlD p seed i j).b,r.length=ZK p∧ ∀c∈r,c.length=Yh p+1:=fun r hr=>by
 have h:=YK hm hq seed i j;obtain ⟨x,_,rfl⟩:=List.mem_map.1 hr;refine ⟨by simp [UR,h.f.1],fun c hc=> ?_⟩;obtain ⟨s,_,rfl⟩:=List.mem_map.1 hc;simp [GS,LS]
theorem DR:Cl p.N.toNat (dlD p seed i j):=by
 obtain ⟨h1,h2,h3,h4,h5,h6,h7,h8,h9⟩:=Zq hm;refine ⟨⟨by rw [EM hm hq];exact h4,fun M hM=> ?_⟩,⟨by simp [dlD],fun r hr=> ?_⟩,⟨by simp [dlD],fun r hr=> ?_⟩⟩
 ·obtain ⟨a,b⟩:=NT hm hq seed i j M hM;exact ⟨by omega,fun y hy=>by rw [b y hy];omega⟩
 ·obtain ⟨a,b⟩:=Pn hm hq seed i j r hr;exact ⟨by omega,fun y hy=>by rw [b y hy];omega⟩
 ·obtain ⟨a,b⟩:=Po hm hq seed i j r hr;exact ⟨by omega,fun y hy=>by rw [b y hy];omega⟩
theorem EL:Cm (dlD p seed i j).m (dlD p seed i j).a (dlD p seed i j).b:=by
 obtain ⟨h1,h2,h3,h4,_⟩:=Zq hm;refine ⟨fun M hM=> ?_,fun M hM=> ?_,fun M hM=> ?_⟩
 ·obtain ⟨a,b⟩:=NT hm hq seed i j M hM;exact ⟨fun e=>by subst e;simp at a,fun y hy=>⟨fun e=>by subst e;have:=b _ hy;simp at this,fun _ _=>trivial⟩⟩
 ·obtain ⟨a,b⟩:=Pn hm hq seed i j M hM;exact ⟨fun e=>by subst e;simp at a;omega,fun y hy=>⟨fun e=>by subst e;have:=b _ hy;simp at this,fun _ _=>trivial⟩⟩
 ·obtain ⟨a,b⟩:=Po hm hq seed i j M hM;exact ⟨fun e=>by subst e;simp at a;omega,fun y hy=>⟨fun e=>by subst e;have:=b _ hy;simp at this,fun _ _=>trivial⟩⟩
end
theorem JQ(p:Par):EK p [0]=List.replicate (ZK p) 0:=by
 unfold EK FX;rw [List.eq_replicate_iff];refine ⟨by simp,fun b hb=> ?_⟩;obtain ⟨a,_,rfl⟩:=List.mem_map.1 hb;simp [DA,Nat.mod_one]
end
section
open Go Go.RowKit Go.Shelf
theorem Ey:(Tryz.prog.info? 107).map (fun i=>(i.zero,i.size,i.bytes))=some (some (.agg #[.slice none 0 0, .slice none 0 0, .slice none 0 0]),3,72):=by kernel_rfl
theorem Bv:zM prog 42 107 3 72:=zM.mk' (by decide) Tryz.underlying42 Ey rfl
def DLn(B:Nat)(W:World)(a b c:Value)(d:Dl):Prop:=Sl (zh (zh ze)) (fun g=>B≤g) W a d.m∧Sl (zh (zh zq)) (fun g=>B≤g) W b d.a∧Sl (zh (zh zq)) (fun g=>B≤g) W c d.b
def DS(p:Par)(seed:Int)(gt k B:Nat)(d:Dl)(x:Value)(cs:Array Value)(W:World):Prop:= ∃a b c,x= .tuple #[.agg #[a,b,c], .int .i64 0]∧cs= #[a,b,c]∧DLn B W a b c d∧ZV p seed gt k W
theorem zaf(p:Par)(D:World)(gt:Nat)(hgt:gt< D.heap.size)(seed:Int)(k k':Nat){d:Dl}(hd:Cm d.m d.a d.b):PY D (some gt) 107 #[.slice none 0 0, .slice none 0 0, .slice none 0 0] (ZV p seed gt k) (DS p seed gt k' D.heap.size d) where
 row:=fun r e=>by injection e with e;omega
 pre:=fun h hg=>h.grown hg (by simp)
 told:=fun ⟨a,b,c,e,e2,h,ht⟩ hg=>⟨a,b,c,e,e2,⟨h.1.kept hg,h.2.1.kept hg,h.2.2.kept hg⟩,ht.grown hg (by simp)⟩
 store:=fun ⟨a,b,c,e,e2,h,ht⟩ hb hgd hg=>⟨a,b,c,e,e2,⟨Uk (Dh (Dh (AZ none 0 0))) h.1 hd.m hb hg,Uk (Dh (Dh (As none 0 0))) h.2.1 hd.r hb hg,Uk (Dh (Dh (As none 0 0))) h.2.2 hd.c hb hg⟩,ht.grown hg (fun e=>by injection e with e;omega)⟩
theorem AO(w:World)(N:Nat)(hN:N≤w.heap.size):Sl ze (fun k=>N≤k) (w.alloc (.cells (madeCells #[.int .u64 0] 2) 22)) (.slice (some ⟨w.heap.size,0,none⟩) 2 2) [0,0]:=
 Sl.block (E:=ze) (X:=fun k=>N≤k) (xs:= [0,0]) (c:=2) (Bk.new w _ _) hN [[.int .u64 0], [.int .u64 0]] rfl (fun i hi hi'=>by
  have h:i=0∨i=1:=by simp at hi;omega
  rcases h with rfl|rfl
  ·exact ⟨rfl,(show U64 0 from ⟨by decide,by decide⟩)⟩
  ·exact ⟨rfl,(show U64 0 from ⟨by decide,by decide⟩)⟩) (by rw [toList_madeCells_one];rfl) (by decide) (by decide)
attribute [local go_sem] Oper.semAt_some
def Df(w:World)(ds:List Dl)(cm:List (List Int))(e:Ending)(w':World):Prop:= ∃vd vc,e= .returned (.tuple #[vd,vc, .bool true])∧Sl UL (fun _=>True) w' vd ds∧Sl (zh ze) (fun _=>True) w' vc cm∧w.grownBy w' none
theorem YT(p:Par)(dl a0:Int)(n:Nat)(w:World)(hp:p.ok)(hm:Zv p=true)(I0:p.K=1∧p.D=1)(hT:ye w)(H1:U64 a0)(r2:1≤dl∧dl≤p.N)(hn:n≤2):
  Calls prog 17 #[p.v, .int .i64 dl, .int .u64 a0, .int .i64 n] w (Df w ((List.range n).map (dlD p a0 dl)) (GO p [0] a0)):=by
 have HP:=za hp;have s0:=za hm;have V1:=za hT;have I2:=za H1;have HQ:Hid (U64 p.Q):=za hp.Q;have d0:=za (Zq hm);have d1:ZK p=2:=by unfold ZK;rw [I0.1,I0.2];rfl
 have K2:=za d1;obtain ⟨i0,rfl⟩: ∃k:Nat,dl=(k:Int)+1:=⟨(dl - 1).toNat,by omega⟩;obtain ⟨NN,u2⟩: ∃k:Nat,k=p.N.toNat:=⟨_,rfl⟩;have j0:Hid (p.N.toNat=NN∧i0< NN∧NN≤7∧p.N=(NN:Int)):=za (by have:=d0.z;omega);have W2:(i0:Int)< (NN:Int):=by have:=j0.z;omega
 have X2:(0:Int)≤(i0:Int):=iNn i0;have U2:IntKind.i64.wrap (i0:Int)=(i0:Int):=i6n _ (by have:=j0.z;omega);have Y2:IntKind.i64.wrap (p.D+1)=2:=by rw [I0.2];decide
 have V2:IntKind.i64.wrap (p.K*2)=2:=by rw [I0.1];decide
 have b3: ¬((i0:Int)+1< 1):=by omega
 have a3: ¬((NN:Int)< (i0:Int)+1):=by omega
 obtain ⟨S,hS⟩:=exq (EK p [0]);have o0:Hid (S=EK p [0]∧S.length=ZK p∧S= [0,0]):=za ⟨hS,by rw [hS];exact GM p _,by rw [hS,JQ,d1];rfl⟩;obtain ⟨SH,K1⟩:=exq ((List.range NN).map fun i:Nat=>EJ p [0] a0 ((i:Int)+1));have s1:=za K1;obtain ⟨CM,g1⟩:=exq (GO p [0] a0);have N2:=za g1;rw [←g1];obtain ⟨X,hX⟩:=exq (EJ p [0] a0 ((i0:Int)+1));have HX:Hid (X=EJ p [0] a0 ((i0:Int)+1)∧X.length=ZK p):=za ⟨hX,by rw [hX];exact GL _ _ _ _⟩;obtain ⟨w0,D0⟩:=exq (w.alloc (Obj.cells p.cells 39));have L2:Hid (w.grownBy w0 none):=za (by rw [D0];exact gAl _ _ none);have R2:Hid (Bk w0 w.heap.size 39 p.cells):=za (by rw [D0];exact Bk.new w _ _);have T1:Hid (w0.heap.size=w.heap.size+1):=za (by rw [D0,World.size_alloc]);have Z1:=za hn;clear hp hm hT H1 r2 hn u2 hS K1 g1 hX I0 d1;go_enter func17,ntmps17;go_wp2_with fail;rw [←D0];clear D0;obtain ⟨gt,Q0⟩:=exq (w0.heap.size);refine (Jd a0 w0).mono ?_;rintro e w1 ⟨rfl,hw1⟩;rw [←Q0];have O2:Hid (ZV p a0 gt 0 w1):=za (by rw [hw1,Q0];exact Bk.new w0 _ _);have b2:Hid (w0.grownBy w1 none):=za (by rw [hw1];exact gAl _ _ none);have b0:Hid (gt=w.heap.size+1∧w1.heap.size=w.heap.size+2):=za ⟨by rw [Q0,T1.z],by rw [hw1,World.size_alloc,T1.z]⟩;clear hw1 Q0;go_upto_region 2 with (fail)
 have u0:Hid (w.grownBy w1.drew none):=za ((L2.z.trans b2.z).trans (zb w1 1));have q0:Hid (w1.drew.heap.size=w.heap.size+2):=za b0.z.2;have p0:=za (zag p w1.drew gt (by rw [q0.z,b0.z.1];omega) a0 (DQ p) SH CM);have g2:Hid (Bk w1.drew w.heap.size 39 p.cells):=za (R2.z.grown (b2.z.trans (zb w1 1)) (by simp));have l0:Hid (∀vs W,(Py p0.z).C vs W→ ∀o,W.cell? ⟨w.heap.size,o,none⟩=(#[.int .u64 p.P, .int .u64 p.Q, .int .u64 p.G, .int .u64 p.H, .int .i64 p.Nodes, .int .i64 p.N, .int .i64 p.T, .int .i64 p.K, .int .i64 p.D, .int .i64 p.R, .int .i64 p.M, .int .i64 p.X]:Array Value)[o]?):=za (fun vs W hC=>by
  have hC:Xm _ _ _ _ vs W:=hC;exact (g2.z.grown hC.g (fun e=>by injection e with e;have:=b0.z.1;omega)).prule)
 have U1:Hid (Tp gt p.Q (Dk p a0) (fun k=>ZV p a0 gt k) (fun b=>b=gt) 1000000):=za (Dr gt p.Q a0 I2.z HQ.z);have d2:Hid (∀v W,w1.drew.grownBy W (some gt)→ZV p a0 gt 0 W→Sl ze (fun k=>w1.drew.heap.size≤k) W v S→Calls prog 45 #[p.v,v, .pointer (some ⟨gt,0,none⟩)] W fun e w'=> ∃a b,e= .returned (.tuple #[a,b, .int .i64 0])∧Sl (zh zq) (fun k=>w1.drew.heap.size≤k) w' a SH∧Sl (zh ze) (fun k=>w1.drew.heap.size≤k) w' b CM∧ZV p a0 gt (DQ p) w'∧W.grownBy w' (some gt)):=za (fun v W hg hb hs=>by
  refine (Ln p v S _ W U1.z HP.z s0.z (V1.z.kept (zP u0.z hg (fun r e=>by injection e with e;have:=b0.z.1;omega))) hs (fun b hb=>by have:=b0.z.1;have:=q0.z;omega) (by rw [o0.z.2.1,d0.z.2.2.2.2.1]) 0 (Yh p) d0.z.2.2.2.2.2.1 hb (by
   have h1:=d0.z.2.2.2.1;have h2:=d0.z.2.1;have h3:S.length*(2*Yh p+1)≤10*5:=Nat.mul_le_mul (by rw [o0.z.2.1];exact h1) (by omega);omega)).mono ?_
  rintro e w' ⟨vs,vc,rfl,k1,k2,k3,k4⟩;refine ⟨vs,vc,rfl, ?_, ?_, ?_,k4⟩
  ·rw [s1.z, ←j0.z.1];rw [o0.z.2.1,o0.z.1] at k1;exact k1.more fun k _ hk=>nLT hg.size hk
  ·rw [N2.z];rw [o0.z.2.1,o0.z.1] at k2;exact k2.more fun k _ hk=>nLT hg.size hk
  ·rw [o0.z.2.1] at k3;unfold DQ;simpa using k3)
 have H2:Hid (S= [0,0]):=za o0.z.2.2;refine FR.wp_region_late (Py p0.z) [9] 17 (by kernel_rfl) (by kernel_rfl) (by kernel_rfl) (Xm.start O2.z) ?_;refine FR.mS (p.v) [] (fun vs w' hC=>FR.kD fun K hK=> ?_) ?_
 ·have hp:=l0.z vs w' hC;go_simp;exact hK _ _ rfl ⟨rfl,gRf⟩
 refine FR.mS (.pointer (some ⟨w.heap.size,7,none⟩)) [] (fun vs w' hC=>FR.kD fun K hK=> ?_) ?_
 ·go_simp;exact hK _ _ rfl ⟨rfl,gRf⟩
 refine FR.mS (.int .i64 p.K) [(1,23)] (fun vs w' hC=>FR.pQ (FR.kD fun K hK=> ?_)) ?_
 ·have hp:=l0.z vs w' hC;go_simp;exact hK _ _ rfl ⟨rfl,gRf⟩
 refine FR.mS (.pointer (some ⟨w.heap.size,8,none⟩)) [] (fun vs w' hC=>FR.kD fun K hK=> ?_) ?_
 ·go_simp;exact hK _ _ rfl ⟨rfl,gRf⟩
 refine FR.mS (.int .i64 p.D) [(3,25)] (fun vs w' hC=>FR.pQ (FR.kD fun K hK=> ?_)) ?_
 ·have hp:=l0.z vs w' hC;go_simp;exact hK _ _ rfl ⟨rfl,gRf⟩
 refine FR.mS (.int .i64 2) [(4,26)] (fun vs w' hC=>FR.pQ (FR.kD fun K hK=> ?_)) ?_
 ·go_simp;exact hK _ _ rfl ⟨rfl,gRf⟩
 refine FR.mS (.int .i64 2) [(2,24),(5,27)] (fun vs w' hC=>FR.pQ (FR.pQ (FR.kD fun K hK=> ?_))) ?_
 ·go_simp;exact hK _ _ rfl ⟨rfl,gRf⟩
 refine FR.mV (BI ze S) [(6,28)] (fun vs w' hC=>FR.pQ (FR.kD fun K hK=> ?_)) ?_
 ·have hC:Xm _ _ _ _ vs w':=hC;have i2:=hC.g.size;go_simp;exact hK _ _ rfl ⟨show Sl ze (fun k=>w1.drew.heap.size≤k) _ _ S from H2.z ▸ AO w' _ i2,gAl w' _ none⟩
 refine FR.mS (.pointer (some ⟨gt,0,none⟩)) [] (fun vs w' hC=>FR.kD fun K hK=> ?_) ?_
 ·go_simp;exact hK _ _ rfl ⟨rfl,gRf⟩
 refine FR.LateR.turn 0 [(0,22),(7,29),(8,30)] (by kernel_rfl) [] rfl (by kernel_rfl) (fun vs w' hn hr hC=> ?_) ?_
 ·intro x22 R1;intro x29 U0;have U0:Sl ze (fun k=>w1.drew.heap.size≤k) w' x29 S:=U0;intro x30 Q1;have e22:x22=p.v:=R1;clear R1;subst e22;have e30:x30= .pointer (some ⟨gt,0,none⟩):=Q1;clear Q1;subst e30;refine FR.askl_do rfl fun K hK=> ?_
  have hC:Xm _ _ _ _ vs w':=hC;obtain ⟨A29,n29,c29,e29⟩:=U0.shape;subst e29;go_simp;refine (d2.z _ w' hC.g (hC.pre hn) U0).mono ?_;rintro e w3 ⟨va,vb,rfl,k1,k2,k3,k4⟩;exact hK _ _ rfl ⟨k4,Xm.call hC hn ⟨va,vb,rfl,k1,k2,k3⟩ k4⟩
 refine FR.mV (BH) [(9,31)] (fun vs w' hC x31 z2=>FR.kD fun K hK=> ?_) ?_
 ·go_simp;exact hK _ _ rfl ⟨z2,gRf⟩
 refine FR.mV (GW dE0) [(10,21)] (fun vs w' hC x21 c0=>FR.kD fun K hK=> ?_) ?_
 ·have c0:(0,x21)∈vs:=c0;have hC:Xm _ _ _ _ vs w':=hC;obtain ⟨va,vb,rfl,F1,D1,O0⟩:=hC.told _ c0;go_simp;exact hK _ _ rfl ⟨⟨_,c0,vb,rfl⟩,gRf⟩
 refine FR.mV (GW dE1) [(10,21)] (fun vs w' hC x21 c0=>FR.kD fun K hK=> ?_) ?_
 ·have c0:(0,x21)∈vs:=c0;have hC:Xm _ _ _ _ vs w':=hC;obtain ⟨va,vb,rfl,F1,D1,O0⟩:=hC.told _ c0;go_simp;exact hK _ _ rfl ⟨⟨_,c0,va,rfl⟩,gRf⟩
 refine FR.mS (.int .i64 0) [(10,21)] (fun vs w' hC x21 c0=>FR.kD fun K hK=> ?_) ?_
 ·have c0:(0,x21)∈vs:=c0;have hC:Xm _ _ _ _ vs w':=hC;obtain ⟨va,vb,rfl,F1,D1,O0⟩:=hC.told _ c0;go_simp;exact hK _ _ rfl ⟨rfl,gRf⟩
 refine FR.mV (GW dE0) [(11,32)] (fun vs w' hC x32 l1=>FR.kD fun K hK=> ?_) ?_
 ·have l1: ∃x,(0,x)∈vs∧dE0 x32 x:=l1;go_simp;exact hK _ _ rfl ⟨l1,gRf⟩
 refine FR.mV (GW dE1) [(12,33)] (fun vs w' hC x33 j1=>FR.kD fun K hK=> ?_) ?_
 ·have j1: ∃x,(0,x)∈vs∧dE1 x33 x:=j1;go_simp;exact hK _ _ rfl ⟨j1,gRf⟩
 refine FR.mS (.int .i64 0) [(13,34)] (fun vs w' hC=>FR.pQ (FR.kD fun K hK=> ?_)) ?_
 ·go_simp;exact hK _ _ rfl ⟨rfl,gRf⟩
 intro vs w2 N0 z0;have z0:Xm _ _ _ _ vs w2:=z0;intro y0 k0 y1 k1 y2 k2 y3 k3 y4 k4 y5 k5
 iterate 8 (refine pD ?_;intro _)
 intro y14 k14 y15 k15 y16 k16;show wpList prog _ _ _ _ w2;simp only [Act.put,sAa,sAb,sAc];have e16:y16= .int .i64 0:=k16;subst e16;obtain ⟨x10,C0,b10,e10⟩: ∃x,(0,x)∈vs∧dE0 y14 x:=k14;obtain ⟨x11,B0,a11,e11⟩: ∃x,(0,x)∈vs∧dE1 y15 x:=k15;obtain ⟨va,vb,eab,x0,s2,C1⟩:=z0.told _ C0;obtain ⟨T2,S2,eab',h0,r0,Z0⟩:=z0.told _ B0;obtain ⟨q1,_,_⟩:=BW (e10.symm.trans eab);obtain ⟨_,q2,_⟩:=BW (e11.symm.trans eab');subst q1 q2;have u1:=za z0.g;have D2:=za C1;clear k0 k1 k2 k3 k4 k5 k16 N0 z0 e10 e11 eab eab' h0 s2 Z0 C0 B0 l0 d2 C1;have K0:Hid (SH.length=NN):=za (by rw [s1.z];simp);obtain ⟨AS,cS,eS,_,_⟩:=x0.form;rw [K0.z] at eS;subst eS;obtain ⟨Ak,nk,ck,rfl⟩:=r0.shape;have G2:=za x0;have B1:=za r0;clear x0 r0;have g0:Hid (w.heap.size+2≤w2.heap.size):=za (by have:=u1.z.size;rw [q0.z] at this;exact this);have r1:Hid (∃g o,AS=some ⟨g,o,none⟩∧w1.drew.heap.size≤g∧ ∀W,w2.grownBy W (some gt)→ ∃u,W.cell? ⟨g,o+i0,none⟩=some u∧Sl zq (fun k=>w1.drew.heap.size≤k) W u X):=za (by
  have p2:i0< SH.length:=by rw [K0.z];exact j0.z.2.1
  obtain ⟨gS,oS,cS',uS,eS,_,S0,R0,v0⟩:=G2.z.atS p2;injection eS with e1 _ _
  have a1:SH[i0]=X:=by
   rw [HX.z.1];simp [s1.z]
  rw [a1] at v0;exact ⟨gS,oS,e1,S0,fun W hW=>⟨uS,XS R0 hW (fun e=>by injection e with e;have:=b0.z.1;have:=q0.z;omega),v0.keep hW (fun b hb e=>by injection e with e;have:=b0.z.1;have:=q0.z;omega)⟩⟩)
 go_wp2_with fail;go_loopg [15,16,17,18] n (fun g s15 s16 s17 s18 wx=> ∃j:Nat,j+g=n∧s16= .int .i64 j∧Hid (Acc UL w2.heap.size 107 (fun g=>w2.heap.size≤g) wx s15 ((List.range j).map (dlD p a0 ((i0:Int)+1)))∧ZV p a0 gt (dlK p j) wx∧w2.grownBy wx (some gt)))
 case atStart=>exact ⟨0,by omega,rfl,za ⟨Acc.nil _ _ _ _ _,by unfold dlK;rw [Nat.zero_mul,Nat.add_zero];exact D2.z,gRr _ _⟩⟩
 case round=>
  rename World=>wr
  obtain ⟨j,hj,rfl,HL⟩:=hrel;rcases Nat.eq_zero_or_pos gk with hg0|hg0
  ·obtain rfl:j=n:=by omega
   have HR:Hid (Sl UL (fun _=>True) wr u15 ((List.range j).map (dlD p a0 ((i0:Int)+1)))∧Sl (zh ze) (fun _=>True) wr (.slice Ak nk ck) CM∧w.grownBy wr none):=za ⟨HL.z.1.sl.more fun _ _ _=>trivial,(B1.z.keep HL.z.2.2 (fun b hb e=>by injection e with e;have:=b0.z.1;have:=q0.z;omega)).more fun _ _ _=>trivial,zP (u0.z) (u1.z.trans HL.z.2.2) (fun r e=>by injection e with e;have:=b0.z.1;omega)⟩;obtain ⟨A15,n15,c15,e15⟩:=HR.z.1.shape;subst e15;clear HL hg0;go_wp2_with fail;go_ret3;exact ⟨_,_,rfl,HR.z⟩
  ·have x2:(j:Int)< (n:Int):=by omega
   have Z2:(n:Int)≤2:=by have:=Z1.z;omega
   have E2:(0:Int)≤(j:Int):=iNn j;have W1:Hid (j< 2):=za (by have:=Z1.z;omega);have V0:=za HL.z.1;have C2:=za HL.z.2.1;have L0:=za HL.z.2.2;obtain ⟨gS,oS,eS,S0,b1⟩:=r1.z;have d3:=za b1;have F2:=za S0;obtain ⟨uS,R0,v0⟩:=b1 wr HL.z.2.2;subst eS;obtain ⟨Ax,nx,cx,rfl⟩:=v0.shape;have M2:=za R0;have p1:=za v0;clear b1 S0 R0 v0 HL;go_upto_region 9 with (fail)
   have A0:Hid (wr.grownBy wr.drew none):=za (zb wr 1);have B2:Hid (w.heap.size+2≤wr.drew.heap.size):=za (by have:=L0.z.size;have:=g0.z;exact nLT g0.z L0.z.size);have p0:=za (zaf p wr.drew gt (by have:=b0.z.1;have:=B2.z;omega) a0 (dlK p j) (dlK p (j+1)) (EL s0.z HQ.z a0 ((i0:Int)+1) j));have J0:Hid (ZV p a0 gt (dlK p j) wr.drew):=za (C2.z.grown A0.z (by simp));have X1:Hid (w1.drew.grownBy wr.drew (some gt)):=za ((u1.z.trans L0.z).trans (A0.z.but _));have Q2:Hid (Bk wr.drew w.heap.size 39 p.cells):=za (g2.z.grown X1.z (fun e=>by injection e with e;have:=b0.z.1;omega));have l0:Hid (∀vs W,(GY p0.z).C vs W→(∀o,W.cell? ⟨w.heap.size,o,none⟩=(#[.int .u64 p.P, .int .u64 p.Q, .int .u64 p.G, .int .u64 p.H, .int .i64 p.Nodes, .int .i64 p.N, .int .i64 p.T, .int .i64 p.K, .int .i64 p.D, .int .i64 p.R, .int .i64 p.M, .int .i64 p.X]:Array Value)[o]?)∧W.cell? ⟨gS,oS+i0,none⟩=some (.slice Ax nx cx)):=za (fun vs W hC=>by
    have hC:XY _ _ _ _ _ _ vs W:=hC;exact ⟨(Q2.z.grown hC.g (fun e=>by injection e with e;have:=b0.z.1;omega)).prule,XS (XS M2.z A0.z (by simp)) hC.g (fun e=>by injection e with e;have:=b0.z.1;have:=F2.z;have:=q0.z;omega)⟩)
   have x1:Hid (∀W,wr.drew.grownBy W (some gt)→ZV p a0 gt (dlK p j) W→Calls prog 46 #[p.v, .slice Ax nx cx, .int .i64 p.N, .pointer (some ⟨gt,0,none⟩)] W fun e w'=> ∃a b c,e= .returned (.tuple #[.agg #[a,b,c], .int .i64 0])∧DLn wr.drew.heap.size w' a b c (dlD p a0 ((i0:Int)+1) j)∧ZV p a0 gt (dlK p (j+1)) w'∧W.grownBy w' (some gt)):=za (fun W hg hb=>by
    have I1: ∀b,w1.drew.heap.size≤b→some b≠some gt:=fun b hb e=>by injection e with e;have:=b0.z.1;have:=q0.z;omega
    have t2:p.N=((NN:Nat):Int):=j0.z.2.2.2;rw [t2];refine (JP p (.slice Ax nx cx) X NN _ W U1.z HP.z s0.z (V1.z.kept (zP u0.z (X1.z.trans hg) (fun r e=>by injection e with e;have:=b0.z.1;omega))) ((p1.z.kept A0.z).keep hg I1) (fun b hb e=>I1 b hb (by rw [e])) (by rw [HX.z.2,d0.z.2.2.2.2.1]) ⟨by have:=j0.z;omega,by have:=j0.z;omega⟩ (dlK p j) (Yh p+1) (by have:=d0.z.2.2.2.2.2.1;omega) hb (by
     have h1:=d0.z.2.2.2.1;have h2:=d0.z.1;have h3:=d0.z.2.1;have h4:=W1.z;rw [HX.z.2];unfold dlK DQ;rw [K2.z];have ht:Yh p=1∨Yh p=2:=by omega
     have P0:j=0∨j=1:=by omega
     rcases ht with ht|ht<;>rcases P0 with P0|P0<;>rw [ht,P0]<;>omega)).mono ?_
    rintro e w' ⟨vm,vr,vc,rfl,k1,k2,k3,k4,k5⟩;rw [HX.z.2,HX.z.1] at k1 k2 k3;rw [HX.z.2] at k4;have hk:dlK p (j+1)=dlK p j+ZK p*(2*((Yh p+1)*(Yh p+1) - 1)):=by unfold dlK;rw [Nat.add_mul,Nat.one_mul,Nat.add_assoc]
    refine ⟨vm,vr,vc,rfl,⟨?_, ?_, ?_⟩, ?_,k5⟩
    ·exact k1.more fun k _ hk=>nLT hg.size hk
    ·have h:=k2.more (Y:=fun g=>wr.drew.heap.size≤g) fun k _ hk=>nLT hg.size hk
     unfold dlD;rw [j0.z.1];exact h
    ·have h:=k3.more (Y:=fun g=>wr.drew.heap.size≤g) fun k _ hk=>nLT hg.size hk
     unfold dlD;rw [j0.z.1];exact h
    ·rw [hk];exact k4)
   refine FR.wp_region_late (GY p0.z) [9,13,14] 16 (by kernel_rfl) (by kernel_rfl) (by kernel_rfl) (XY.start J0.z) ?_;refine FR.mS (p.v) [] (fun vs w' hC=>FR.kD fun K hK=> ?_) ?_
   ·have qq:=l0.z vs w' hC;have hp:=qq.1;have hs:=qq.2;clear qq;go_simp;exact hK _ _ rfl ⟨rfl,gRf⟩
   refine FR.mS (.slice (some ⟨gS,oS,none⟩) NN cS) [] (fun vs w' hC=>FR.kD fun K hK=> ?_) ?_
   ·go_simp;exact hK _ _ rfl ⟨rfl,gRf⟩
   refine FR.mS (.int .i64 ((i0:Int)+1)) [] (fun vs w' hC=>FR.kD fun K hK=> ?_) ?_
   ·go_simp;exact hK _ _ rfl ⟨rfl,gRf⟩
   refine FR.mS (.int .i64 (i0:Int)) [(2,55)] (fun vs w' hC=>FR.pQ (FR.kD fun K hK=> ?_)) ?_
   ·go_simp;exact hK _ _ rfl ⟨rfl,gRf⟩
   refine FR.mS (.pointer (some ⟨gS,oS+i0,none⟩)) [(1,54),(3,56)] (fun vs w' hC=>FR.pQ (FR.pQ (FR.kD fun K hK=> ?_))) ?_
   ·go_simp;exact hK _ _ rfl ⟨rfl,gRf⟩
   refine FR.mS (.slice Ax nx cx) [(4,57)] (fun vs w' hC=>FR.pQ (FR.kD fun K hK=> ?_)) ?_
   ·have qq:=l0.z vs w' hC;have hp:=qq.1;have hs:=qq.2;clear qq;go_simp;exact hK _ _ rfl ⟨rfl,gRf⟩
   refine FR.mS (.pointer (some ⟨w.heap.size,5,none⟩)) [] (fun vs w' hC=>FR.kD fun K hK=> ?_) ?_
   ·go_simp;exact hK _ _ rfl ⟨rfl,gRf⟩
   refine FR.mS (.int .i64 p.N) [(6,59)] (fun vs w' hC=>FR.pQ (FR.kD fun K hK=> ?_)) ?_
   ·have qq:=l0.z vs w' hC;have hp:=qq.1;have hs:=qq.2;clear qq;go_simp;exact hK _ _ rfl ⟨rfl,gRf⟩
   refine FR.mS (.pointer (some ⟨gt,0,none⟩)) [] (fun vs w' hC=>FR.kD fun K hK=> ?_) ?_
   ·go_simp;exact hK _ _ rfl ⟨rfl,gRf⟩
   refine FR.LateR.turn 0 [(0,53),(5,58),(7,60),(8,61)] (by kernel_rfl) [] rfl (by kernel_rfl) (fun vs w' hn hr hC=> ?_) ?_
   ·intro x53 P1;intro x58 O1;intro x60 N1;intro x61 M1;have e53:x53=p.v:=P1;clear P1;subst e53;have e58:x58= .slice Ax nx cx:=O1;clear O1;subst e58;have e60:x60= .int .i64 p.N:=N1;clear N1;subst e60;have e61:x61= .pointer (some ⟨gt,0,none⟩):=M1;clear M1;subst e61;refine FR.askl_do rfl fun K hK=> ?_
    have hC:XY _ _ _ _ _ _ vs w':=hC;go_simp;refine (x1.z w' hC.g (hC.pre hn)).mono ?_;rintro e w3 ⟨va,vb,vc,rfl,k1,k2,k3⟩;exact hK _ _ rfl ⟨trivial,XY.call p0.z hC hn (cs:= #[va,vb,vc]) ⟨va,vb,vc,rfl,rfl,k1,k2⟩ k3⟩
   refine FR.mV (zah) [(9,62)] (fun vs w' hC x62 v2=>FR.kD fun K hK=> ?_) ?_
   ·go_simp;exact hK _ _ rfl ⟨v2,gRf⟩
   refine FR.mV (zai dF0) [(10,52)] (fun vs w' hC x52 n0=>FR.kD fun K hK=> ?_) ?_
   ·have n0:(0,x52)∈vs:=n0;have hC:XY _ _ _ _ _ _ vs w':=hC;obtain ⟨cs,va,vb,vc,rfl,O0⟩:=hC.told _ n0;go_simp;exact hK _ _ rfl ⟨⟨_,n0,rfl⟩,gRf⟩
   refine FR.mS (.int .i64 0) [(10,52)] (fun vs w' hC x52 n0=>FR.kD fun K hK=> ?_) ?_
   ·have n0:(0,x52)∈vs:=n0;have hC:XY _ _ _ _ _ _ vs w':=hC;obtain ⟨cs,va,vb,vc,rfl,O0⟩:=hC.told _ n0;go_simp;exact hK _ _ rfl ⟨rfl,gRf⟩
   refine FR.LateR.turn 1 [] (by kernel_rfl) [] rfl (by kernel_rfl) (fun vs w' hn hr hC=> ?_) ?_
   ·refine FR.askl_do rfl fun K hK=> ?_
    have hC:XY _ _ _ _ _ _ vs w':=hC;go_simp;exact hK _ _ rfl ⟨trivial,XY.alloc p0.z hC hn⟩
   refine FR.LateR.turn 2 [(13,17),(11,63)] (by kernel_rfl) [0,1] rfl (by kernel_rfl) (fun vs w' hn hr hC=> ?_) ?_
   ·intro x17 S1;intro x63 i1;have i1: ∃x,(0,x)∈vs∧dF0 x63 x:=i1;refine FR.askl_do rfl fun K hK=> ?_
    have hC:XY _ _ _ _ _ _ vs w':=hC;obtain ⟨x,hx,J1⟩:=i1;obtain ⟨cs,ht⟩:=hC.told _ hx;have G1:=ht;obtain ⟨va,vb,vc,e1,e2,hd,_⟩:=ht;subst e1;obtain rfl:x63= .agg #[va,vb,vc]:=DU J1;obtain ⟨g,eg,hl,hz,_⟩:=hC.box _ S1;subst eg;have hb:=hz hn;have f0:=hb.cell 0;have f1:=hb.cell 1;have f2:=hb.cell 2;have ff:=hb.free;simp at f0 f1 f2;have j2:=XY.stored p0.z hC hn (u:=undef) hx G1 S1 (e2 ▸ ((hb.set 0 va).set 1 vb).set 2 vc) (((zo w' g 0 va).trans (zo _ g 1 vb)).trans (zo _ g 2 vc));obtain ⟨A1,n1,c1,rfl⟩:=hd.1.shape;obtain ⟨A2,n2,c2,rfl⟩:=hd.2.1.shape;obtain ⟨A3,n3,c3,rfl⟩:=hd.2.2.shape;clear G1 J1 hx hd;go_simp;exact hK _ _ rfl ⟨trivial,j2⟩
   refine FR.mS (.int .i64 0) [(12,64)] (fun vs w' hC=>FR.pQ (FR.kD fun K hK=> ?_)) ?_
   ·go_simp;exact hK _ _ rfl ⟨rfl,gRf⟩
   intro vs w5 N0 T0;have T0:XY _ _ _ _ _ _ vs w5:=T0
   iterate 13 (refine pD ?_;intro _)
   intro y13 k13 y14 k14 y15 k15;show wpList prog _ _ _ _ w5;simp only [Act.put,sAa,sAb,sAc];have e15:y15= .int .i64 0:=k15;subst e15;obtain ⟨g17,x17,cs17,e17,W0,Y0,e0,H0,G0⟩:=T0.fin N0.2 k13;subst e17;obtain ⟨va,vb,vc,_,ec,hd,F0⟩:=e0;subst ec;have z1:=za hd;obtain ⟨Am,nm,cm,rfl⟩:=hd.1.shape;obtain ⟨Ar,nr,cr,rfl⟩:=hd.2.1.shape;obtain ⟨Ac,nc,cc,rfl⟩:=hd.2.2.shape;have l2:=H0.rule;have a2:Hid (wr.grownBy w5 (some gt)):=za ((A0.z.but _).trans G0);have o1:=za F0;have M0:=za (V0.z.keep a2.z (fun b hb e=>by injection e with e;have:=b0.z.1;have:=g0.z;omega));have t0:=za (L0.z.trans a2.z);have t1:Hid (UL.rep (fun g=>w2.heap.size≤g∧some g≠u15.ownBlock) w5 [.slice Am nm cm, .slice Ar nr cr, .slice Ac nc cc] (dlD p a0 ((i0:Int)+1) j)):=za (by
    have E0: ∀g,g< w5.heap.size→wr.drew.heap.size≤g→w2.heap.size≤g∧some g≠u15.ownBlock:=fun g _ hg=>⟨nLT (nLT L0.z.size A0.z.size) hg,fun e=>by have:=(V0.z.lt g e.symm).2;have:wr.heap.size≤g:=hg;omega⟩
    exact ⟨_,_,_,rfl,z1.z.1.more E0,z1.z.2.1.more E0,z1.z.2.2.more E0⟩)
   have E1:Hid ((((List.range j).map (dlD p a0 ((i0:Int)+1))).length+1)*72≤140737488355328):=za (by rw [lLm,List.length_range];have:=W1.z;omega);have Y1:Hid ((List.range (j+1)).map (dlD p a0 ((i0:Int)+1))=(List.range j).map (dlD p a0 ((i0:Int)+1))++ [dlD p a0 ((i0:Int)+1) j]):=za (by rw [List.range_succ,lMa];rfl);obtain ⟨PR,L1⟩:=exq ((List.range j).map (dlD p a0 ((i0:Int)+1)));rw [←L1] at M0 E1 Y1;have P2:Hid (w2.heap.size≤w5.heap.size):=za t0.z.size;have J2:Hid (∀g,w5.heap.size≤g→w2.heap.size≤g):=za (fun g hg=>nLT t0.z.size hg);clear k13 k14 k15 N0 T0 W0 Y0 hd H0 G0 F0 l0 x1 J0 L1;go_wp2_with (at_builtin;refine zW rfl (.tmp 67) (.tmp 69) rfl (E:=UL) (y:=dlD p a0 ((i0:Int)+1) j) Bv M0.z rfl rfl t1.z E1.z P2.z J2.z ?_);intro v9 w9 m0 X0 o2;have v1:Hid (Acc UL w2.heap.size 107 (fun g=>w2.heap.size≤g) w9 v9 ((List.range (j+1)).map (dlD p a0 ((i0:Int)+1)))∧ZV p a0 gt (dlK p (j+1)) w9∧w2.grownBy w9 (some gt)):=za ⟨by rw [Y1.z];exact m0,o1.z.grown X0 (fun e=>by have:=(V0.z.lt gt e.symm).1;have:=b0.z.1;have:=g0.z;omega),t0.z.andThen X0 (fun g e=> .inl (V0.z.lt g e).1)⟩;clear m0 X0 o2;go_wp2_with fail;go_roundg (gk - 1)
   case measure=>omega
   case rel=>exact ⟨j+1,by omega,by go_num,v1⟩
end
section
open Go
structure zK (E:zy) (st:ASt):Prop where
 heard: ∀k i x,st.heard k i=some x→(k=8∨k=9)∧(1≤i∧i≤E.p.N)∧ZD E i x
 dealt: ∀x,st.dealt=some x→Xk E x
 own: ∀x,st.own=some x→Xk E x
 done:st.done=true→st.own≠none
theorem zK.start(E:zy):zK E ASt.start:=⟨fun _ _ _ h=>by simp [ASt.start] at h,fun _ h=>by simp [ASt.start] at h,fun _ h=>by simp [ASt.start] at h,fun h=>by simp [ASt.start] at h⟩
theorem Ea{p:Par}(hs:Sm p)(hm:Zv p=true){m:List (List (List Int))}{t:Nat}(ht:1≤t)(h: ∀M∈m,M.length=t∧ ∀r∈M,r.length=t∧ ∀y∈r,isB p y=true){i:Int}(hi:0≤i):(zD p m i).length=m.length∧ ∀c∈zD p m i,c.length=t∧ ∀y∈c,isB p y=true:=by
 refine ⟨by simp [zD],fun c hc=> ?_⟩;obtain ⟨M,hM,rfl⟩:=List.mem_map.1 hc;obtain ⟨h1,h2⟩:=h M hM;have hne:M≠ []:=by rintro rfl;simp at h1;omega
 have hw:yH M=t:=Oh M 0 (fun r hr=>(h2 r hr).1) (Nat.zero_le _) hne;refine ⟨by simp [zC,yj,hw],fun y hy=> ?_⟩;obtain ⟨c,hc,rfl⟩:=List.mem_map.1 hy;obtain ⟨j,hj,rfl⟩:=List.mem_map.1 hc;rw [hw] at hj;have hj:=List.mem_range.1 hj;refine Cb hs hm (fun y hy=> ?_) hi;obtain ⟨r,hr,rfl⟩:=List.mem_map.1 hy;obtain ⟨h3,h4⟩:=h2 r hr;rw [List.getElem?_eq_getElem (by omega)];exact h4 _ (lGm _)
theorem EN{p:Par}(hs:Sm p)(hm:Zv p=true){m:List (List (List Int))}{t:Nat}(h: ∀M∈m,M.length=t∧ ∀r∈M,r.length=t∧ ∀y∈r,isB p y=true){i:Int}(hi:0≤i):(yq p m i).length=m.length∧ ∀c∈yq p m i,c.length=t∧ ∀y∈c,isB p y=true:=by
 refine ⟨by simp [yq],fun c hc=> ?_⟩;obtain ⟨M,hM,rfl⟩:=List.mem_map.1 hc;obtain ⟨h1,h2⟩:=h M hM;refine ⟨by simp [zC,h1],fun y hy=> ?_⟩;obtain ⟨r,hr,rfl⟩:=List.mem_map.1 hy;exact Cb hs hm (h2 r hr).2 hi
theorem Ek{p:Par}{s t k:Nat}{x:zw}{coms:List (List Int)}{d:Int}(ho:ZE s t k x)(hb:yx p x.m coms d=true): ∀M∈x.m,M.length=t∧ ∀r∈M,r.length=t∧ ∀y∈r,isB p y=true:=fun M hM=>
 ⟨(ho.m.2 M hM).1,fun r hr=>⟨(ho.m.2 M hM).2 r hr,(((CB (ER hb)).2 M hM).2 r hr).2⟩⟩
theorem Jo{E:zy}{st:ASt}{k i:Int}{m:List (List (List Int))}(h:i∈ym E st k m): ∃x,st.heard k i=some x∧x.m=m:=by
 unfold ym at h;obtain ⟨_,h2⟩:=List.mem_filter.1 h;unfold UD at h2
 revert h2
 cases st.heard k i with
 |none=>intro h;cases h
 |some x=>intro h;exact ⟨x,rfl,of_decide_eq_true h⟩
theorem Pd{l:List (List (Int×Int))}(h: ∀c∈l, ∀y∈c,0≤y.1∧0≤y.2): ∀y∈zv l,0≤y.1∧0≤y.2:=fun y hy=>by
 obtain ⟨c,hc,rfl⟩:=List.mem_map.1 hy;cases c with
 |nil=>exact ⟨Int.le_refl 0,Int.le_refl 0⟩
 |cons z c=>exact h _ hc z mCs
theorem Pq{p:Par}{l:List (List (Int×Int))}{cs:List (List Int)}{t:Nat}(h:xu p l cs=true)(hc: ∀c∈cs,c.length=t):l.length=cs.length∧ ∀c∈l,c.length=t:=by
 have h:=of_decide_eq_true h;refine ⟨by rw [←h,lLm],fun c hm=> ?_⟩
 have:=hc _ (h ▸ List.mem_map.2 ⟨c,hm,rfl⟩)
 rwa [lLm] at this
theorem YF{E:zy}(hE:E.ok)(hs:Sm E.p){st:ASt}(g0:zK E st){m:List (List (List Int))}(d0:zt E st m≠ []):Xk E (yk E st m (zt E st m))∧(yk E st m (zt E st m)).m=m:=by
 have hm:=hE.may;have ht:=Qq hm;have f0: ∀h∈zt E st m, ∃x,st.heard h.1 h.2=some x∧x.m=m∧ZD E h.2 x:=fun h hh=>by
  obtain ⟨k,_,e,_⟩:=Yi E st m d0;rw [e] at hh;obtain ⟨i,hi,rfl⟩:=List.mem_map.1 hh;obtain ⟨x,h1,h2⟩:=Jo hi;exact ⟨x,h1,h2,(g0.heard _ _ _ h1).2.2⟩
 obtain ⟨h0,o0⟩:=List.exists_mem_of_ne_nil _ d0;obtain ⟨x0,_,rfl,a0⟩:=f0 h0 o0;have n0:=Vl hE d0;have m0:((zt E st x0.m).take (E.p.T+1).toNat).length=(E.p.T+1).toNat:=by rw [lLt];omega
 have c0:=TM hE d0;have i0:=Ek a0.ok a0.bond;have j0:0≤E.me:=by have:=hE.me;omega
 have hr:=Ea hs hm (by omega) i0 j0;have hc:=EN hs hm i0 j0;have k0:x0.m.length=E.coms.length:=by rw [(VU hE).1,a0.ok.m.1]
 have ha:=Uf hm hs c0 (one:=fun x=>zv x.b) (cs:=zD E.p x0.m E.me) (hr.1.trans k0) (fun c hc=>⟨by rw [m0];exact (hr.2 c hc).1,(hr.2 c hc).2⟩) (st:=st) (fun h hh=>by
  obtain ⟨x,h1,h2,h3⟩:=f0 h (mMt hh);refine ⟨x,h1,Pd h3.nn.b, ?_⟩
  have:=h3.b
  rwa [h2] at this)
 have hb:=Uf hm hs c0 (one:=fun x=>zv x.a) (cs:=yq E.p x0.m E.me) (hc.1.trans k0) (fun c l0=>⟨by rw [m0];exact (hc.2 c l0).1,(hc.2 c l0).2⟩) (st:=st) (fun h hh=>by
  obtain ⟨x,h1,h2,h3⟩:=f0 h (mMt hh);refine ⟨x,h1,Pd h3.nn.a, ?_⟩;have h4:=of_decide_eq_true h3.a;rw [h2,TN (Vi hm).P x0.m _ (KG (by omega) a0.ok) h.2 E.me] at h4;exact decide_eq_true h4)
 have b0:Xk E ⟨x0.m,zS E st ((zt E st x0.m).take (E.p.T+1).toNat) (fun x=>zv x.b),zS E st ((zt E st x0.m).take (E.p.T+1).toNat) (fun x=>zv x.a)⟩:=by
  have la:=Pq ha.1 fun c h=>(hr.2 c h).1
  have lb:=Pq hb.1 fun c h=>(hc.2 c h).1
  exact ⟨⟨a0.ok.m,⟨by rw [la.1,hr.1,a0.ok.m.1],la.2⟩,⟨by rw [lb.1,hc.1,a0.ok.m.1],lb.2⟩⟩,a0.bond,ha.1,hb.1,⟨ha.2,hb.2⟩⟩
 unfold yk;cases hd:st.dealt with
 |none=>exact ⟨b0,rfl⟩
 |some d=>
  dsimp only;split
  ·rename_i e;exact ⟨g0.dealt d hd,e⟩
  ·exact ⟨b0,rfl⟩
section
variable {E:zy} {s:ASt}
theorem zK.put(h:zK E s){k i:Int}{x:zw}(hk:k=8∨k=9)(hi:1≤i∧i≤E.p.N)(hx:ZD E i x):zK E (s.put k i x):=⟨fun k' i' y hy=>by
 unfold ASt.put at hy;dsimp only at hy;split at hy
 ·rename_i e;obtain ⟨rfl,rfl⟩:=e;injection hy with hy
  subst hy;exact ⟨hk,hi,hx⟩
 ·exact h.heard k' i' y hy,h.dealt,h.own,h.done⟩
theorem zK.ofEnd(h:zK E s)(out:List yE):zK E (yg E s out).1:=by
 unfold yg;split
 ·rename_i o ho;split
  ·exact ⟨h.heard,h.dealt,h.own,fun _ e=>by rw [ho] at e;cases e⟩
  ·exact h
 ·exact h
theorem zK.setOwn(h:zK E s){o:zw}(ho:Xk E o):zK E {s with own:=some o}:=⟨h.heard,h.dealt,fun x hx=>by injection hx with hx;subst hx;exact ho,fun _ e=>by cases e⟩
theorem zK.setDealt(h:zK E s){o:zw}(ho:Xk E o):zK E {s with dealt:=some o}:=⟨h.heard,fun x hx=>by injection hx with hx;subst hx;exact ho,h.own,h.done⟩
def Ym(E:zy)(x:zw)(i:Int):zw:=⟨x.m,zB (x.a.map (atP E.p.Q i)),zB (x.b.map (atP E.p.Q i))⟩
theorem OK{F:zy}(hm:Zv E.p=true)(ep:F.p=E.p)(ec:F.coms=E.coms)(ed:F.dealer=E.dealer)(hF:0≤F.me)(hE:0≤E.me){x:zw}(h:Xk E x):zi F E.me (yl E x F.me)=(Ym E x F.me,true)∧ZD F E.me (Ym E x F.me):=by
 have h1:=JD hm ep ec ed hF hE h;exact ⟨UI (by rw [ep];exact hm) h1,h1⟩
theorem xH(hE:E.ok){x:zw}(h:Xk E x):zi E E.me (yl E x E.me)=(Ym E x E.me,true)∧ZD E E.me (Ym E x E.me):=by
 have:=hE.me
 exact OK hE.may rfl rfl rfl (by omega) (by omega) h
theorem zK.hear(hE:E.ok)(hs:Sm E.p){tell:ASt→zw→ASt×List yE}(ht: ∀s o,zK E s→Xk E o→zK E (tell s o).1)(h:zK E s){k i:Int}{l:List Int}(hk:k=8∨k=9)(hp:(zi E i l).2=true→ZD E i (zi E i l).1):zK E (yL E tell s k i l).1:=by
 unfold yL;split
 ·exact h
 ·rename_i hn;simp only [not_or,Bool.not_eq_false] at hn;have hx:=hp hn.2.2.2;have h1:=h.put hk ⟨by omega,by omega⟩ hx;dsimp only;split
  ·rename_i hc;have hk:=(YF hE hs h1 hc.2).1;exact (ht _ _ (h1.setOwn hk) hk).ofEnd _
  ·exact h1.ofEnd _
theorem zK.hear1(hE:E.ok)(hs:Sm E.p)(h:zK E s){k i:Int}{l:List Int}(hk:k=8∨k=9)(hp:(zi E i l).2=true→ZD E i (zi E i l).1):zK E (xX E s k i l).1:=zK.hear hE hs (fun _ _ h _=>h) h hk hp
theorem zK.hear2(hE:E.ok)(hs:Sm E.p)(h:zK E s){k i:Int}{l:List Int}(hk:k=8∨k=9)(hp:(zi E i l).2=true→ZD E i (zi E i l).1):zK E (yF E s k i l).1:=zK.hear hE hs (fun s o h ho=>by
 show zK E (xX E s yY E.me (yl E o E.me)).1;exact zK.hear1 hE hs h (.inr rfl) fun _=>by rw [(xH hE ho).1];exact (xH hE ho).2) h hk hp
theorem zK.take(hE:E.ok)(hs:Sm E.p)(h:zK E s)(k i:Int){l:List Int}(hl: ∀y∈l,0≤y):zK E (zV E s k i l).1:=by
 unfold zV;split
 ·split
  ·exact h
  ·rename_i hn;have hw:=Tn hl (by simpa using hn:(zu E l).2=true);exact zK.hear2 hE hs (h.setDealt hw) (.inl rfl) fun _=>by rw [(xH hE hw).1];exact (xH hE hw).2
 ·split
  ·rename_i hk;exact zK.hear2 hE hs h hk (YX hl)
  ·exact h
end
theorem Zc{N i:Int}:i∈Tf N↔1≤i∧i≤N:=by
 unfold Tf;rw [lMM];constructor
 ·rintro ⟨j,hj,rfl⟩
  have:=List.mem_range.1 hj
  omega
 ·rintro ⟨h1,h2⟩;exact ⟨(i - 1).toNat,List.mem_range.2 (by omega),by omega⟩
theorem VV{E:zy}(hm:Zv E.p=true){st:ASt}(hst:zK E st)(k:Int): ∀(is:List Int) (s:ASt) (last:Int),is.Pairwise (· < ·)→(∀i∈is,last< i∧i≤E.p.N)→
  yT E k s last (is.filterMap fun i=>(st.heard k i).map fun x=>(i,yz x.m x.a x.b))=({s with heard:=fun k' i'=>if k'=k∧i'∈is∧(st.heard k i').isSome=true then st.heard k i' else s.heard k' i'},true)
 | [],s,last,_,_=>by simp [yT]
 |i::is,s,last,hp,hb=>by
  obtain ⟨h1,h2⟩:=List.pairwise_cons.1 hp;have hi:=hb i mCs;cases e:st.heard k i with
  |none=>
   rw [List.filterMap_cons_none (by rw [e];rfl),VV hm hst k is s last h2 fun j hj=>hb j (mCm _ hj)]
   congr 2
   funext k' i'
   by_cases hi':i'=i
   ·subst hi';simp [e]
   ·simp [hi']
  |some x=>
   have hx:=(hst.heard k i x e).2.2;have hpt:=UI hm hx;rw [List.filterMap_cons_some (b:=(i,yz x.m x.a x.b)) (by rw [e];rfl),PG (by rw [hpt];simp only [not_or];exact ⟨by omega,by omega,by simp⟩)];dsimp only;rw [hpt,VV hm hst k is _ i h2 fun j hj=>⟨h1 j hj,(hb j (mCm _ hj)).2⟩]
   congr 2
   funext k' i'
   unfold ASt.put;by_cases hi':i'=i
   ·subst hi';by_cases hk':k'=k
    ·simp [hk',e]
    ·simp [hk']
   ·simp [hi']
theorem FV{p:Par}(hm:Zv p=true):1≤xY p:=by
 obtain ⟨_,_,_,_,_,_,_,_,_,_,hK,hD⟩:=zx hm;unfold xY
 have:(1:Int)*1≤p.K*(p.D+1):=Int.mul_le_mul (by omega) (by omega) (by omega) (by omega)
 omega
theorem OF{E:zy}(hm:Zv E.p=true){x:zw}{k:Nat}(hk:k≤3)(ho:ZE (xY E.p).toNat (E.p.T+1).toNat k x):yz x.m x.a x.b≠ []:=fun e=>by
 obtain ⟨e1,e2,e3,e4⟩:=RQ hm;rw [e2,e4] at ho;obtain ⟨h1,_⟩:=PC hm hk ho.m ho.a ho.b;rw [e] at h1;unfold Uy at h1;split at h1
 ·split at h1
  ·rename_i h0;have hs:=FV hm;obtain ⟨_,_,_,_,_,_,hT,_⟩:=zx hm;have h2:0< xY E.p*(E.p.T+1)*(E.p.T+1):=Int.mul_pos (Int.mul_pos (by omega) (by omega)) (by omega);have h3:0≤xY E.p*(k:Int):=Int.mul_nonneg (by omega) (iNn _);rw [Int.mul_assoc 2 (xY E.p)] at h0;simp only [List.length_nil,Int.natCast_zero] at h0;omega
  ·omega
 ·omega
theorem Jn{E:zy}(hm:Zv E.p=true){st:ASt}(hst:zK E st):yZ E (yS E st)=some st:=by
 have ht:=Qq hm;have h8:=VV hm hst 8 (Tf E.p.N) ASt.start 0 (Nc _) fun i hi=>⟨by have:=Zc.1 hi;omega,(Zc.1 hi).2⟩
 have h9:=VV hm hst 9 (Tf E.p.N) {ASt.start with heard:=fun k' i'=>if k'=8∧i'∈Tf E.p.N∧(st.heard 8 i').isSome=true then st.heard 8 i' else ASt.start.heard k' i'} 0 (Nc _) fun i hi=>⟨by have:=Zc.1 hi;omega,(Zc.1 hi).2⟩
 have hd:(zE st.dealt= []↔st.dealt=none)∧ ∀x,st.dealt=some x→zu E (zE st.dealt)=(x,true):=by
  cases e:st.dealt with
  |none=>simp [zE]
  |some x=>
   have hx:=hst.dealt x e;refine ⟨by simpa [zE] using OF hm ht.2.1 hx.ok,fun y hy=> ?_⟩;injection hy with hy
   subst hy;exact TF hm hx
 have ho:(zE st.own= []↔st.own=none)∧ ∀x,st.own=some x→zu E (zE st.own)=(x,true):=by
  cases e:st.own with
  |none=>simp [zE]
  |some x=>
   have hx:=hst.own x e;refine ⟨by simpa [zE] using OF hm ht.2.1 hx.ok,fun y hy=> ?_⟩;injection hy with hy
   subst hy;exact TF hm hx
 unfold yZ yS xE;dsimp only;rw [h8];dsimp only;rw [h9];refine (if_pos ⟨rfl,rfl, ?_, ?_, ?_⟩).trans ?_
 ·congr 1
  have e1:(if zE st.dealt= [] then none else some (zu E (zE st.dealt)).1)=st.dealt:=by
   cases e:st.dealt with
   |none=>simp [zE]
   |some x=>
    have h2:=hd.2 x e;have h1:zE st.dealt≠ []:=fun h=>by rw [hd.1.1 h] at e;cases e
    rw [e] at h1 h2;rw [if_neg h1,h2]
  have e2:(if zE st.own= [] then none else some (zu E (zE st.own)).1)=st.own:=by
   cases e:st.own with
   |none=>simp [zE]
   |some x=>
    have h2:=ho.2 x e;have h1:zE st.own≠ []:=fun h=>by rw [ho.1.1 h] at e;cases e
    rw [e] at h1 h2;rw [if_neg h1,h2]
  rw [e1,e2];have e3:(fun k' i'=>if k'=(9:Int)∧i'∈Tf E.p.N∧(st.heard 9 i').isSome=true then st.heard 9 i' else if k'=8∧i'∈Tf E.p.N∧(st.heard 8 i').isSome=true then st.heard 8 i' else ASt.start.heard k' i')=st.heard:=by
   funext k' i'
   cases e:st.heard k' i' with
   |none=>
    by_cases h9:k'=9
    ·subst h9;simp [e,ASt.start]
    ·by_cases h8:k'=8
     ·subst h8;simp [e,ASt.start]
     ·simp [h8,h9,ASt.start]
   |some x=>
    obtain ⟨hk,hi,_⟩:=hst.heard k' i' x e;have hm:=Zc.2 hi;rcases hk with rfl|rfl
    ·simp [e,hm]
    ·simp [e,hm]
  rw [e3]
 ·cases h:st.done with
  |false=>exact .inl rfl
  |true=>exact .inr fun e=>hst.done h (ho.1.1 e)
 ·cases e:st.dealt with
  |none=>exact .inl rfl
  |some x=>
   have:=hd.2 x e
   rw [e] at this;exact .inr (by rw [this])
 ·cases e:st.own with
  |none=>exact .inl rfl
  |some x=>
   have:=ho.2 x e
   rw [e] at this;exact .inr (by rw [this])
def Gd(E:zy)(s:ASt)(o:zw):ASt:=if (s.heard 9 E.me).isSome=true then s else s.put 9 E.me (Ym E o E.me)
noncomputable def yM(E:zy)(s:ASt)(m:List (List (List Int))):ASt×List yE:=
 if s.own=none∧zt E s m≠ [] then yg E (Gd E {s with own:=some (yk E s m (zt E s m))} (yk E s m (zt E s m))) (yA E 9 (yk E s m (zt E s m)))
 else yg E s []
theorem XK{E:zy}{s:ASt}(h:s.own=none)(out:List yE):yg E s out=(s,out):=by
 unfold yg;rw [h]
theorem EC(E:zy)(s:ASt)(b:List yE):yg E (yg E s []).1 (b++(yg E s []).2)=yg E s b:=by
 cases ho:s.own with
 |none=>rw [XK ho,XK ho,XK ho,List.append_nil]
 |some o=>
  by_cases hc:s.done=false∧((ym E s yY o.m).length:Int)≥E.p.N - E.p.T
  ·have e1: ∀out,yg E s out=({s with done:=true},out++ [(QS,0,(Tl o.m).flatten)]):=fun out=>by
    unfold yg;rw [ho];dsimp only;rw [if_pos hc]
   rw [e1,e1];unfold yg;dsimp only;rw [ho];dsimp only;rw [if_neg (fun h=>by cases h.1)];simp
  ·have e1: ∀out,yg E s out=(s,out):=fun out=>by
    unfold yg;rw [ho];dsimp only;rw [if_neg hc]
   rw [e1,e1,e1,List.append_nil]
section
variable {E:zy} {s:ASt}
theorem JC(hE:E.ok){o:zw}(ho:Xk E o)(hown:s.own≠none):xX E s yY E.me (yl E o E.me)=if (s.heard 9 E.me).isSome=true then (s, []) else yg E (s.put 9 E.me (Ym E o E.me)) []:=by
 have hp:=(xH hE ho).1;have hme:=hE.me;unfold xX yL;rw [hp];by_cases h:(s.heard 9 E.me).isSome=true
 ·rw [if_pos (.inl h),if_pos h]
 ·rw [if_neg (by simp only [not_or];exact ⟨h,by omega,by omega,by simp⟩),if_neg h];dsimp only;rw [if_neg (fun hc=>hown hc.1)];rfl
theorem Gx(hE:E.ok)(hs:Sm E.p)(hst:zK E s){k i:Int}{l:List Int}(hk:k=8∨k=9)(hp:(zi E i l).2=true→ZD E i (zi E i l).1):
  yF E s k i l=if (s.heard k i).isSome=true∨i< 1∨E.p.N< i∨(zi E i l).2=false then (s, []) else yM E (s.put k i (zi E i l).1) (zi E i l).1.m:=by
 unfold yF yL;split
 ·rfl
 ·rename_i hn;simp only [not_or,Bool.not_eq_false] at hn;have h1:=hst.put hk ⟨by omega,by omega⟩ (hp hn.2.2.2);dsimp only;unfold yM;split
  ·rename_i hc;have hkn:=(YF hE hs h1 hc.2).1;unfold Za;rw [JC hE hkn (by simp)];unfold Gd;dsimp only;split
   ·rw [List.append_nil];rfl
   ·exact EC E _ _
  ·rfl
end
theorem JK(E:zy)(s:ASt)(out:List yE):((yg E s out).1=s∨(yg E s out).1={s with done:=true})∧(∀y∈(yg E s out).2,y∈out∨y.1=10)∧(∀y∈out,y∈(yg E s out).2)∧
  ((yg E s out).1.done=true→s.done=true∨ ∃o,s.own=some o∧((ym E s 9 o.m).length:Int)≥E.p.N - E.p.T)∧
  (∀o,s.own=some o→((ym E s 9 o.m).length:Int)≥E.p.N - E.p.T→(yg E s out).1.done=true)∧((yg E s out).2.filter fun y=>decide (y.1≠10))=out.filter fun y=>decide (y.1≠10):=by
 rcases (show s.own=none∨ ∃o,s.own=some o by cases s.own<;>simp) with ho|⟨o,ho⟩
 ·rw [XK ho];exact ⟨.inl rfl,fun y h=> .inl h,fun y h=>h,fun h=> .inl h,fun o h=>(by rw [ho] at h;cases h),rfl⟩
 ·by_cases hc:s.done=false∧((ym E s yY o.m).length:Int)≥E.p.N - E.p.T
  ·have e1:yg E s out=({s with done:=true},out++ [(QS,0,(Tl o.m).flatten)]):=by
    unfold yg;rw [ho];dsimp only;rw [if_pos hc]
   rw [e1];refine ⟨.inr rfl,fun y h=> ?_,fun y h=>mAl _ h,fun _=> .inr ⟨o,ho,hc.2⟩,fun _ _ _=>rfl,by simp [QS]⟩;rcases List.mem_append.1 h with h|h
   ·exact .inl h
   ·rw [List.mem_singleton.1 h];exact .inr rfl
  ·have e1:yg E s out=(s,out):=by
    unfold yg;rw [ho];dsimp only;rw [if_neg hc]
   rw [e1];refine ⟨.inl rfl,fun y h=> .inl h,fun y h=>h,fun h=> .inl h,fun o' h1 h2=> ?_,rfl⟩;rw [ho] at h1;injection h1 with h1
   subst h1;cases hd:s.done with
   |true=>rfl
   |false=>exact absurd ⟨hd,h2⟩ hc
structure zaj (E:zy) (s s':ASt) (out:List yE):Prop where
 own: ∀o,s.own=some o→s'.own=some o
 heard: ∀k j x,s.heard k j=some x→s'.heard k j=some x
 done:s.done=true→s'.done=true
 fresh: ∀k j x,s'.heard k j=some x→s.heard k j=some x∨(k=9∧j=E.me∧ ∃o,s'.own=some o∧x.m=o.m)
 outs: ∀y∈out,y.1=10∨(s.own=none∧ ∃o,s'.own=some o∧ ∃k,(1≤k∧k≤E.p.N)∧k≠E.me∧y=(9,k,yl E o k))
 sent:s.own=none→ ∀o,s'.own=some o→(∀k,1≤k→k≤E.p.N→k≠E.me→(9,k,yl E o k)∈out)∧(s'.heard 9 E.me).isSome=true∧zt E s o.m≠ []
 full: ∀o,s'.own=some o→((ym E s' 9 o.m).length:Int)≥E.p.N - E.p.T→s'.done=true
 doneq:s'.done=true→s.done=true∨ ∃o,s'.own=some o∧((ym E s' 9 o.m).length:Int)≥E.p.N - E.p.T
 cnt:((out.filter fun y=>decide (y.1≠10)).length:Int)≤if s.own=none∧s'.own≠none then E.p.N - 1 else 0
theorem XB{E:zy}{k:Int}{x:zw}{y:yE}:y∈yA E k x↔ ∃i,(1≤i∧i≤E.p.N)∧i≠E.me∧y=(k,i,yl E x i):=by
 unfold yA;rw [lMM];constructor
 ·rintro ⟨i,hi,rfl⟩;obtain ⟨h1,h2⟩:=List.mem_filter.1 hi;exact ⟨i,Zc.1 h1,by simpa using h2,rfl⟩
 ·rintro ⟨i,h1,h2,rfl⟩;exact ⟨i,List.mem_filter.2 ⟨Zc.2 h1,by simpa using h2⟩,rfl⟩
theorem Fa{N:Int}(h:0≤N):((Tf N).length:Int)=N:=by
 unfold Tf;simp;omega
theorem XI{a:Int}: ∀{l:List Int},a∈l→(l.filter fun i=>decide (i≠a)).length+1≤l.length
 |x::l,h=>by
  by_cases e:x=a
  ·subst e
   have:=List.length_filter_le (fun i=>decide (i≠x)) l
   simp;simpa using this
  ·have hm:a∈l:=by
    rcases List.mem_cons.1 h with h|h
    ·exact absurd h.symm e
    ·exact h
   have:=XI hm
   simp only [List.filter_cons,e,ne_eq,not_false_eq_true,decide_true,if_true,List.length_cons];simp only [ne_eq] at this;omega
theorem Jl{E:zy}(hme:1≤E.me∧E.me≤E.p.N)(k:Int)(x:zw):((yA E k x).length:Int)≤E.p.N - 1:=by
 unfold yA;rw [lLm];have h1:=XI (Zc.2 hme);have h2:=Fa (N:=E.p.N) (by omega);omega
theorem TY{E:zy}(hE:E.ok){s:ASt}(m:List (List (List Int)))(hkm:zt E s m≠ []→(yk E s m (zt E s m)).m=m):zaj E s (yM E s m).1 (yM E s m).2∧(yM E s m).1.dealt=s.dealt∧((yM E s m).1.own=none→(yM E s m).1=s∧zt E s m= []):=by
 unfold yM;split
 ·rename_i hc;obtain ⟨o,ho⟩:=exq (yk E s m (zt E s m));have hom:=hkm hc.2;rw [←ho] at hom ⊢;obtain ⟨s2,hs2⟩: ∃y,y=Gd E {s with own:=some o} o:=⟨_,rfl⟩;rw [←hs2];have f_own:s2.own=some o:=by rw [hs2];unfold Gd;split<;>rfl
  have f_dealt:s2.dealt=s.dealt:=by rw [hs2];unfold Gd;split<;>rfl
  have f_done:s2.done=s.done:=by rw [hs2];unfold Gd;split<;>rfl
  have f_heard: ∀k j x,s.heard k j=some x→s2.heard k j=some x:=fun k j x h=>by
   rw [hs2];unfold Gd;split
   ·exact h
   ·rename_i hn;unfold ASt.put;dsimp only;split
    ·rename_i e;obtain ⟨rfl,rfl⟩:=e;exact absurd (by rw [show ({s with own:=some o}:ASt).heard 9 E.me=s.heard 9 E.me from rfl,h];rfl) hn
    ·exact h
  have f_me:(s2.heard 9 E.me).isSome=true:=by
   rw [hs2];unfold Gd;split
   ·assumption
   ·unfold ASt.put;simp
  have f_fresh: ∀k j x,s2.heard k j=some x→s.heard k j=some x∨(k=9∧j=E.me∧x.m=o.m):=fun k j x h=>by
   rw [hs2] at h;unfold Gd at h;split at h
   ·exact .inl h
   ·unfold ASt.put at h;dsimp only at h;split at h
    ·rename_i e;injection h with h
     subst h;exact .inr ⟨e.1,e.2,rfl⟩
    ·exact .inl h
  obtain ⟨h1,h2,h3,h4,h5,h6⟩:=JK E s2 (yA E 9 o);obtain ⟨s',hs'⟩:=exq ((yg E s2 (yA E 9 o)).1);obtain ⟨out,hout⟩:=exq ((yg E s2 (yA E 9 o)).2);rw [←hs'] at h1 h4 h5 ⊢;rw [←hout] at h2 h3 h6 ⊢;have g_own:s'.own=some o:=by rcases h1 with h|h<;>rw [h]<;>exact f_own
  have g_heard:s'.heard=s2.heard:=by rcases h1 with h|h<;>rw [h]
  have g_dealt:s'.dealt=s2.dealt:=by rcases h1 with h|h<;>rw [h]
  have g_like: ∀k m,ym E s' k m=ym E s2 k m:=fun k m=>by unfold ym UD;rw [g_heard]
  refine ⟨⟨fun o' h=>(by rw [hc.1] at h;cases h),fun k j x h=>(by rw [g_heard];exact f_heard k j x h),fun h=> ?_,fun k j x h=> ?_,fun y hy=> ?_,fun _ o' h=> ?_,fun o' h hl=> ?_,fun h=> ?_, ?_⟩,g_dealt.trans f_dealt,fun h=>(by rw [g_own] at h;cases h)⟩
  ·rcases h1 with e|e<;>rw [e]
   rw [f_done];exact h
  ·rw [g_heard] at h;rcases f_fresh k j x h with h|⟨e1,e2,e3⟩
   ·exact .inl h
   ·exact .inr ⟨e1,e2,o,g_own,e3⟩
  ·rcases h2 y hy with h|h
   ·obtain ⟨k,k1,k2,rfl⟩:=XB.1 h;exact .inr ⟨hc.1,o,g_own,k,k1,k2,rfl⟩
   ·exact .inl h
  ·rw [g_own] at h;injection h with h
   subst h;refine ⟨fun k k1 k2 k3=>h3 _ (XB.2 ⟨k,⟨k1,k2⟩,k3,rfl⟩),by rw [g_heard];exact f_me,by rw [hom];exact hc.2⟩
  ·rw [g_own] at h;injection h with h
   subst h;rw [g_like] at hl;exact h5 o f_own hl
  ·rcases h4 h with h|⟨o',e1,e2⟩
   ·exact .inl (by rw [←f_done];exact h)
   ·rw [f_own] at e1;injection e1 with e1
    subst e1;exact .inr ⟨o,g_own,by rw [g_like];exact e2⟩
  ·rw [h6,if_pos ⟨hc.1,by rw [g_own];simp⟩];have a1:=List.length_filter_le (fun y:yE=>decide (y.1≠10)) (yA E 9 o);have a2:=Jl hE.me 9 o;omega
 ·rename_i hc;obtain ⟨h1,h2,h3,h4,h5,h6⟩:=JK E s [];obtain ⟨s',hs'⟩:=exq ((yg E s []).1);obtain ⟨out,hout⟩:=exq ((yg E s []).2);have hno:s.own=none→s'=s:=fun h=>by rw [hs',XK h]
  rw [←hs'] at h1 h4 h5 ⊢;rw [←hout] at h2 h3 h6 ⊢;have g_own:s'.own=s.own:=by rcases h1 with h|h<;>rw [h]
  have g_heard:s'.heard=s.heard:=by rcases h1 with h|h<;>rw [h]
  have g_dealt:s'.dealt=s.dealt:=by rcases h1 with h|h<;>rw [h]
  have g_like: ∀k m,ym E s' k m=ym E s k m:=fun k m=>by unfold ym UD;rw [g_heard]
  refine ⟨⟨fun o' h=>(by rw [g_own];exact h),fun k j x h=>(by rw [g_heard];exact h),fun h=> ?_,fun k j x h=>(by rw [g_heard] at h;exact .inl h),fun y hy=> ?_,fun e o' h=>(by rw [g_own,e] at h;cases h),fun o' h hl=> ?_,fun h=> ?_, ?_⟩,g_dealt,fun h=> ?_⟩
  ·rcases h1 with e|e<;>rw [e]
   exact h
  ·rcases h2 y hy with h|h
   ·cases h
   ·exact .inl h
  ·rw [g_own] at h;rw [g_like] at hl;exact h5 o' h hl
  ·rcases h4 h with h|⟨o',e1,e2⟩
   ·exact .inl h
   ·exact .inr ⟨o',by rw [g_own];exact e1,by rw [g_like];exact e2⟩
  ·rw [h6];simp only [List.filter_nil,List.length_nil];split<;>have:=hE.me<;>omega
  ·rw [g_own] at h;refine ⟨hno h, ?_⟩;cases he:zt E s m with
   |nil=>rfl
   |cons a b=>exact absurd ⟨h,by rw [he];simp⟩ hc
inductive PU (E:zy) (s:ASt) (k i:Int) (l:List Int):ASt→List yE→Prop
 |no:PU E s k i l s []
 |put (x:zw) (hx:zi E i l=(x,true)) (hg:ZD E i x) (hk:k=8∨k=9) (hi:1≤i∧i≤E.p.N) (hn:s.heard k i=none):PU E s k i l (yM E (s.put k i x) x.m).1 (yM E (s.put k i x) x.m).2
 |deal (d:zw) (hd:Xk E d) (hk:k=7) (hi:i=0) (hn:s.dealt=none) (h8:s.heard 8 E.me=none):PU E s k i l (yM E (({s with dealt:=some d}:ASt).put 8 E.me (Ym E d E.me)) d.m).1 (yA E 8 d++(yM E (({s with dealt:=some d}:ASt).put 8 E.me (Ym E d E.me)) d.m).2)
 |alone (d:zw) (hd:Xk E d) (hk:k=7) (hi:i=0) (hn:s.dealt=none) (h8:(s.heard 8 E.me).isSome=true):PU E s k i l {s with dealt:=some d} (yA E 8 d)
theorem Mu{E:zy}(hE:E.ok)(hs:Sm E.p){s:ASt}(hst:zK E s)(k i:Int){l:List Int}(hl: ∀y∈l,0≤y):PU E s k i l (zV E s k i l).1 (zV E s k i l).2:=by
 have hme:=hE.me;have h2: ∀{s:ASt} {k i:Int} {l:List Int},zK E s→(k=8∨k=9)→((zi E i l).2=true→ZD E i (zi E i l).1)→yF E s k i l=if (s.heard k i).isSome=true∨i< 1∨E.p.N< i∨(zi E i l).2=false then (s, []) else yM E (s.put k i (zi E i l).1) (zi E i l).1.m:=fun a b c=>Gx hE hs a b c
 unfold zV;split
 ·rename_i hc;split
  ·exact .no
  ·rename_i hn;have hw:(zu E l).2=true:=by simpa using hn
   have hd:=Tn hl hw;obtain ⟨d,ed⟩:=exq ((zu E l).1);rw [←ed] at hd ⊢;have hop:=xH hE hd;have e:=h2 (hst.setDealt hd) (k:=8) (i:=E.me) (l:=yl E d E.me) (.inl rfl) (fun _=>by rw [hop.1];exact hop.2);rw [hop.1] at e;unfold Za;rw [show XD=(8:Int) from rfl,e];cases h8:s.heard 8 E.me with
   |none=>
    rw [if_neg (by
     simp only [not_or];exact ⟨by simp,by omega,by omega,by simp⟩)]
    exact .deal d hd hc.1 hc.2.1 hc.2.2 h8
   |some x=>
    rw [if_pos (.inl rfl)];dsimp only;rw [List.append_nil];exact .alone d hd hc.1 hc.2.1 hc.2.2 (by rw [h8];rfl)
 ·split
  ·rename_i hk;rw [h2 hst hk (YX hl)];split
   ·exact .no
   ·rename_i hn;simp only [not_or,Bool.not_eq_false] at hn;obtain ⟨n1,n2,n3,n4⟩:=hn;have hg:=YX hl n4;obtain ⟨x,ex⟩:=exq ((zi E i l).1);rw [←ex] at hg ⊢;exact .put x (Prod.ext ex.symm n4) hg hk ⟨by omega,by omega⟩ (by
     cases h:s.heard k i with
     |none=>rfl
     |some y=>rw [h] at n1;exact absurd rfl n1)
  ·exact .no
theorem QY{s:ASt}{k i:Int}{x:zw}(hn:s.heard k i=none){k' j:Int}{y:zw}(h:s.heard k' j=some y):(s.put k i x).heard k' j=some y:=by
 unfold ASt.put;dsimp only;split
 ·rename_i e;obtain ⟨rfl,rfl⟩:=e;rw [hn] at h;cases h
 ·exact h
theorem Nx{s:ASt}{k i:Int}{x:zw}:(s.put k i x).heard k i=some x:=by
 unfold ASt.put;simp
end
section
open Go Go.RowKit Go.Shelf
abbrev p4:Par:=⟨23,11,4,9,4,4,1,1,1,1,1,1⟩
def CM5:List (List Int):= [[6,9], [6,9]]
def DL5:Dl:=⟨[[[3,1], [2,1]], [[3,12], [16,8]]], [[[(9,7),(1,4)], [(2,6),(6,9)]], [[(5,0),(5,9)], [(4,6),(7,7)]], [[(1,4),(9,3)], [(6,6),(8,5)]], [[(8,8),(2,8)], [(8,6),(9,3)]]], [[[(10,2),(0,9)], [(5,6),(3,9)]], [[(7,1),(4,3)], [(10,6),(4,7)]], [[(4,0),(8,8)], [(4,6),(5,5)]], [[(1,10),(1,2)], [(9,6),(6,3)]]]⟩
theorem DV:GO p4 [0] 5=CM5:=by decide+kernel
theorem By:(dlD p4 5 2 0).m=DL5.m:=by decide+kernel
theorem BA:(dlD p4 5 2 0).a=DL5.a:=by decide+kernel
theorem Bz:(dlD p4 5 2 0).b=DL5.b:=by decide+kernel
theorem Fy:dlD p4 5 2 0=DL5:=by
 have h: ∀d:Dl,d=⟨d.m,d.a,d.b⟩:=fun _=>rfl
 rw [h (dlD p4 5 2 0),By,BA,Bz]
def EE(j:Int):zy:=⟨p4,2,j,CM5⟩
theorem KX:Zv p4=true:=by decide+kernel
theorem Bw(j:Int)(h:1≤j∧j≤4):(EE j).ok:=⟨Yl false,KX,⟨show (1:Int)≤2 by decide,show (2:Int)≤4 by decide⟩,h,by show xt p4 CM5=true;decide+kernel,by show CM5.length≤100000;decide⟩
def nD(j:Int):List Int:=VO p4 7 0 1 [] [DL5] j
def nR(f j:Int):List Int:=VO p4 9 f 1 [] [DL5] j
def tA(j:Int):ASt×List yE:=yK (EE j) ASt.start 7 0 (nD j)
def tB1:ASt×List yE:=yK (EE 1) (tA 1).1 8 2 (toI 8 1 (tA 2).2)
def tB2:ASt×List yE:=yK (EE 1) tB1.1 8 3 (toI 8 1 (tA 3).2)
def tB3:ASt×List yE:=yK (EE 1) tB2.1 9 2 (nR 2 1)
def tB4:ASt×List yE:=yK (EE 1) tB3.1 9 3 (nR 3 1)
def tD1:ASt×List yE:=yK (EE 4) ASt.start 9 2 (nR 2 4)
def tD2:ASt×List yE:=yK (EE 4) tD1.1 9 3 (nR 3 4)
def okA(j:Int):Bool:=decide ((tA j).2.length=3) && decide ((toI 8 4 (tA j).2).length≠0)
def awB:Bool:=okA 1 && okA 2 && okA 3 && decide (tB1.2.length=0) && decide (tB2.2.length=3) && decide ((toI 9 4 tB2.2).length≠0) && (tB2.1.done==false)
theorem DZ:awB=true:=by decide+kernel
end
end Go.Proofs.YtkdfjkdphdfclaaGreatDoor

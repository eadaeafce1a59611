/- Proves for the statement AvssNamesCardSaid, under no other condition than the statement's own, that the card avssNames holds of the program. Part 12. -/
import Derived.Test.YtkdfjkdphdfclaaGreatDoorZ11
set_option maxRecDepth 100000
set_option maxHeartbeats 16000000
set_option linter.unusedVariables false
set_option linter.unusedSimpArgs false
namespace Go.Proofs.YtkdfjkdphdfclaaGreatDoor
section
open Go Go.RowKit Go.Shelf Go.Maps
theorem Qs(E:zw)(s:ASt)(out:List yL):(ZD E s out).2.length≤out.length+1:=by
 unfold ZD;split
 ·split
  ·simp
  ·simp
 ·simp
theorem UW{E:zw}{tell:ASt→zL→ASt×List yL}{n:Nat}(h: ∀s x,(tell s x).2.length≤n)(st:ASt)(k i:Int)(l:List Int):(xh E tell st k i l).2.length≤n+1:=by
 unfold xh;split
 ·simp
 ·dsimp only;split
  ·exact Nat.le_trans (Qs _ _ _) (Nat.succ_le_succ (h _ _))
  ·exact Nat.le_trans (Qs _ _ _) (by simp)
theorem YG(E:zw)(st:ASt)(k i:Int)(l:List Int):(Yg E st k i l).2.length≤1:=UW (n:=0) (fun _ _=>by simp) st k i l
theorem Ud(E:zw)(k:Int)(x:zL):(Yf E k x).length≤E.p.N.toNat:=by
 unfold Yf;rw [List.length_map];refine Nat.le_trans (List.length_filter_le _ _) ?_;unfold It;simp
theorem Pw{E:zw}(hE:E.ok)(st:ASt)(k i:Int)(l:List Int):(xg E st k i l).2.length≤9:=UW (n:=8) (fun s x=>by
 obtain ⟨_,_,_,hN1,hN2,_⟩:=zD hE.may;unfold ZC;rw [List.length_append]
 have:=Ud E xF x
 have:=YG E s xF E.me (yJ E x E.me)
 omega) st k i l
theorem QA(E:zw)(st:ASt)(gA gM nn nn':Nat)(kind i:Int)(v:Value)(l:List Int)(X Y:Nat→Prop)(w:World)(hE:E.ok)(hA:AvW X gA gM nn E st w)(hS:yx E st)(hk:U8 kind)(hi:I64 i)(hXA: ¬X gA)(hXM: ¬X gM)(hN: ∀g,w.heap.size≤g→X g)(hn:nn+1≤nn'∧nn'< maxLen)(h:Sl ze Y w v l)(hl:l.length≤100000)
  (tell:ASt→zL→ASt×List yL) (htl: ∀s x,yx E s→yU x→yx E (tell s x).1∧(tell s x).2.length≤1000)
  (htell:st.own=none→ ∀st1 b x X' w',AvW X' gA gM (nn+1) E st1 w'→yx E st1→st1.own=some x→zJ X' w' b x→yU x→ ¬X' gA→ ¬X' gM→(∀g,w'.heap.size≤g→X' g)→Calls Tryz.prog 53 #[.pointer (some ⟨gA,0,none⟩), .int .u8 9, .pointer (some ⟨b,0,none⟩)] w' (xw X' gA gM nn' E w' (tell st1 x))):
  Calls Tryz.prog 54 #[.pointer (some ⟨gA,0,none⟩),plV kind i,v] w (xw X gA gM nn' E w (xh E tell st kind i l)):=by
 obtain ⟨Al,nl,cl,rfl⟩:=h.shape;unfold plV;by_cases hno:(st.heard kind i).isSome=true∨i< 1∨E.p.N< i
 ·have e:xh E tell st kind i l=(st, []):=Qq (by
   rcases hno with h|h|h
   ·exact .inl h
   ·exact .inr (.inl h)
   ·exact .inr (.inr (.inl h)))
  rw [e];exact Iu E st gA gM nn nn' kind i Al nl cl X w hA hk hi (by omega) hno
 ·simp only [not_or,Bool.not_eq_true] at hno;exact Iv E st gA gM nn nn' kind i Al nl cl l X Y w hE hA hS hk hi hXA hXM hN hn h hl hno.1 ⟨by omega,by omega⟩ tell htl htell
theorem NR(E:zw)(st:ASt)(gA gM nn nn':Nat)(kind i:Int)(v:Value)(l:List Int)(X Y:Nat→Prop)(w:World)(hE:E.ok)(hA:AvW X gA gM nn E st w)(hS:yx E st)(hown:st.own≠none)(hk:U8 kind)(hi:I64 i)(hXA: ¬X gA)(hXM: ¬X gM)(hN: ∀g,w.heap.size≤g→X g)(hn:nn+1≤nn'∧nn'< maxLen)(h:Sl ze Y w v l)(hl:l.length≤100000):
  Calls Tryz.prog 54 #[.pointer (some ⟨gA,0,none⟩),plV kind i,v] w (xw X gA gM nn' E w (Yg E st kind i l)):=
 QA E st gA gM nn nn' kind i v l X Y w hE hA hS hk hi hXA hXM hN hn h hl (fun s _=>(s, [])) (fun s x hs _=>⟨hs,by simp⟩) (fun e=>absurd e hown)
theorem UY(E:zw)(st:ASt)(gA gM nn nn':Nat)(kind i:Int)(v:Value)(l:List Int)(X Y:Nat→Prop)(w:World)(hE:E.ok)(hA:AvW X gA gM nn E st w)(hS:yx E st)(hk:U8 kind)(hi:I64 i)(hXA: ¬X gA)(hXM: ¬X gM)(hN: ∀g,w.heap.size≤g→X g)(hn:nn+2≤nn'∧nn'< maxLen)(h:Sl ze Y w v l)(hl:l.length≤100000):
  Calls Tryz.prog 54 #[.pointer (some ⟨gA,0,none⟩),plV kind i,v] w (xw X gA gM nn' E w (xg E st kind i l)):=by
 obtain ⟨_,_,_,hN1,hN2,_⟩:=zD hE.may;have hme:=hE.me;refine QA E st gA gM nn nn' kind i v l X Y w hE hA hS hk hi hXA hXM hN ⟨by omega,hn.2⟩ h hl _ (fun s x hs hx=>⟨?_, ?_⟩) (fun _ st1 b x X' w' hA1 hS1 ho hp hle h1 h2 h3=> ?_)
 ·show yx E (Yg E s xF E.me (yJ E x E.me)).1;exact yx.hear1 hE hs _ _ _
 ·unfold ZC;rw [List.length_append]
  have:=Ud E xF x
  have:=YG E s xF E.me (yJ E x E.me)
  omega
 ·exact Qu E st1 gA gM (nn+1) nn' 9 b x X' w' hE hA1 ⟨by decide,by decide⟩ hp hle h1 h2 h3 (Yg E) (Nat.le_trans (YG E st1 9 E.me _) (by decide)) (fun v' l' X'' Y' w'' k1 k2 k3 k4 k5 k6=>NR E st1 gA gM (nn+1) nn' 9 E.me v' l' X'' Y' w'' hE k1 hS1 (by rw [ho];simp) ⟨by decide,by decide⟩ ⟨by omega,by omega⟩ k2 k3 k4 ⟨by omega,hn.2⟩ k5 (by omega))
attribute [local go_sem] Oper.semAt_some
theorem Qw(E:zw)(st:ASt)(gA gM nn nn':Nat)(kind i:Int)(v:Value)(l:List Int)(X Y:Nat→Prop)(w:World)(hE:E.ok)(hA:AvW X gA gM nn E st w)(hS:yx E st)(hk:U8 kind)(hi:I64 i)(hXA: ¬X gA)(hXM: ¬X gM)(hN: ∀g,w.heap.size≤g→X g)(hn:nn+3≤nn'∧nn'< maxLen)(h:Sl ze Y w v l)(hl:l.length≤100000):
  Calls Tryz.prog 21 #[.pointer (some ⟨gA,0,none⟩), .int .u8 kind, .int .i64 i,v] w (xw X gA gM nn' E w (yA E st kind i l)):=by
 have HA:=za hA;have HE:=za hE;have HNO:Hid (xw X gA gM nn' E w (st, []) (.returned (.slice none 0 0)) w):=za (xw.no hA (World.grownBy.refl _ _) (by omega));have HH:Hid (Calls Tryz.prog 54 #[.pointer (some ⟨gA,0,none⟩), .agg #[.int .u8 kind, .int .i64 i],v] w (xw X gA gM nn' E w (xg E st kind i l))):=za (UY E st gA gM nn nn' kind i v l X Y w hE hA hS hk hi hXA hXM hN ⟨by omega,hn.2⟩ h hl);obtain ⟨⟨vc,vd,vo,hb,hc,hvd,hvo⟩,hh,hap⟩:=hA;have HB:=za hb;have hr:=hb.rule;by_cases h7:kind=7
 ·subst h7;by_cases h0:i=0
  ·subst h0;cases hd:st.dealt with
   |some d=>
    rw [hd] at hvd;obtain ⟨b,rfl,_⟩:=hvd;have HR:Hid (yA E st 7 0 l=(st, [])):=za (by unfold yA;rw [if_neg (fun e=>by rw [hd] at e;cases e.2.2),if_neg (by decide)]);rw [HR.out];clear hE hS hk hi hXA hXM hN hn h hl hb hc hvo hh hap hd HH;go_enter Tryz.func21,Tryz.ntmps21;go_wp2_with fail;go_ret;exact HNO.out
   |none=>
    rw [hd] at hvd;have hvd:vd= .pointer none:=hvd;subst hvd;have HW:=za (xv E gA gM vc (.pointer none) vo st.done v l X Y w hE hb hc h hl);obtain ⟨Al,nl,cl,rfl⟩:=h.shape;have HTK:Hid (yA E st 7 0 l=if (zv E l).2=false then (st, []) else ZC E (xg E) {st with dealt:=some (zv E l).1} VN (zv E l).1):=za (by
     unfold yA;rw [if_pos ⟨rfl,rfl,hd⟩])
    have HLE:Hid ((zv E l).2=true→yU (zv E l).1):=za Zg;obtain ⟨x,hx⟩: ∃y,y=(zv E l).1:=⟨_,rfl⟩;obtain ⟨ok,hok⟩: ∃y,y=(zv E l).2:=⟨_,rfl⟩;rw [←hx, ←hok] at HTK HLE HW;have HS:=za hS;have HX3:Hid (¬X gA∧ ¬X gM∧ ∀g,w.heap.size≤g→X g):=za ⟨hXA,hXM,hN⟩;have HN3:=za hn;clear hE hS hk hi hXA hXM hN hn h hl hb hc hvo hh hap hd hx hok HH;go_enter Tryz.func21,Tryz.ntmps21;go_wp2_with fail;refine HW.out.mono ?_;rintro e w1 ⟨b,rfl,hp,hg1⟩;have HG1:=za hg1;have HP1:Hid (zJ X w1 b x):=za (hp.more fun g _ hg=>HX3.out.2.2 g hg);have hb1:=HB.out.grown hg1 (by simp);clear hr hg1 hp;cases ok with
    |false=>
     have HNO1:Hid (xw X gA gM nn' E w (st, []) (.returned (.slice none 0 0)) w1):=za (xw.no HA.out HG1.out (by have:=HN3.out;omega));clear hb1;go_wp2_with fail;go_ret;rw [HTK.out];simpa using HNO1.out
    |true=>
     have hg2:=zi w1 gA 15 (.pointer (some ⟨b,0,none⟩));have HA2:=za ((HA.out.kept HG1.out).setDealt HX3.out.1 HP1.out);have HP2:=za (HP1.out.keep hg2 (fun g hg e=>by injection e with e;rw [e] at hg;exact HX3.out.1 hg));have HG2:Hid (zj gA gM w (w1.setCell ⟨gA,15,none⟩ (.pointer (some ⟨b,0,none⟩)))):=za ((zj.of HG1.out (.inl rfl)).trans (zj.of hg2 (.inr (.inl rfl))));have hc1:w1.cell? ⟨gA,15,none⟩=some (.pointer none):=hb1.cell 15;have hf1:=hb1.free 15;obtain ⟨w2,hw2⟩: ∃y,y=w1.setCell ⟨gA,15,none⟩ (.pointer (some ⟨b,0,none⟩)):=⟨_,rfl⟩;rw [←hw2] at HA2 HP2 HG2;have HL9:=za (HLE.out rfl);have HS2:Hid (yx E {st with dealt:=some x}):=za ⟨HS.out.heard,fun y hy=>by injection hy with hy;subst hy;exact HL9.out,HS.out.own⟩;clear hg2 hb1;go_upto_region 8 with (fail)
     rw [←hw2];clear hw2 hc1 hf1;go_wp2_with fail;obtain ⟨_,_,_,hN1,hN2,_⟩:=zD HE.out.may;have hme:=HE.out.me;have hn3:=HN3.out;refine (Qu E {st with dealt:=some x} gA gM nn nn' 8 b x X w2 HE.out HA2.out ⟨by decide,by decide⟩ HP2.out HL9.out HX3.out.1 HX3.out.2.1 (fun g hg=>HX3.out.2.2 g (Nat.le_trans HG2.out.size hg)) (xg E) (Nat.le_trans (Pw HE.out _ _ _ _) (by decide)) (fun v' l' X'' Y' w'' k1 k2 k3 k4 k5 k6=>UY E _ gA gM nn nn' 8 E.me v' l' X'' Y' w'' HE.out k1 HS2.out ⟨by decide,by decide⟩ ⟨by omega,by omega⟩ k2 k3 k4 ⟨by omega,hn3.2⟩ k5 (by omega))).mono ?_;rintro e w3 ⟨v3,Z,rfl,z1,z2,z3,z4⟩;have HF:Hid (xw X gA gM nn' E w (ZC E (xg E) {st with dealt:=some x} VN x) (.returned v3) w3):=za ⟨v3,Z,rfl,fun g hg=>Nat.le_trans HG2.out.size (z1 g hg),z2.low HG2.out.size,z3,HG2.out.trans z4⟩;clear z1 z2 z3 z4 hN1 hN2 hme hn3;go_wp2_with fail;go_ret;rw [HTK.out];simpa using HF.out
  ·have HR:Hid (yA E st 7 i l=(st, [])):=za (by unfold yA;rw [if_neg (fun e=>h0 e.2.1),if_neg (by decide)]);rw [HR.out];have hd0:(i==0)=false:=by simpa using h0
   clear hE hS hk hi hXA hXM hN hn h hl hb hc hvo hvd hh hap HH h0;go_enter Tryz.func21,Tryz.ntmps21;go_wp2_with fail;go_ret;exact HNO.out
 ·have hd7:(kind==7)=false:=by simpa using h7
  by_cases h8:kind=8
  ·subst h8;have HR:Hid (yA E st 8 i l=xg E st 8 i l):=za (by unfold yA;rw [if_neg (fun e=>by simp [JR] at e),if_pos (.inl rfl)]);rw [HR.out];obtain ⟨Al,nl,cl,rfl⟩:=h.shape;clear hE hS hk hi hXA hXM hN hn h hl hb hc hvo hvd hh hap h7 hr;go_enter Tryz.func21,Tryz.ntmps21;go_wp2_with fail;refine HH.out.mono ?_;rintro e w3 ⟨v3,Z,rfl,hz⟩;have HF:Hid (xw X gA gM nn' E w (xg E st 8 i l) (.returned v3) w3):=za ⟨v3,Z,rfl,hz⟩;clear hz;go_wp2_with fail;go_ret;exact HF.out
  ·by_cases h9:kind=9
   ·subst h9;have HR:Hid (yA E st 9 i l=xg E st 9 i l):=za (by unfold yA;rw [if_neg (fun e=>by simp [JR] at e),if_pos (.inr rfl)]);rw [HR.out];obtain ⟨Al,nl,cl,rfl⟩:=h.shape;clear hE hS hk hi hXA hXM hN hn h hl hb hc hvo hvd hh hap h7 h8 hr;go_enter Tryz.func21,Tryz.ntmps21;go_wp2_with fail;refine HH.out.mono ?_;rintro e w3 ⟨v3,Z,rfl,hz⟩;have HF:Hid (xw X gA gM nn' E w (xg E st 9 i l) (.returned v3) w3):=za ⟨v3,Z,rfl,hz⟩;clear hz;go_wp2_with fail;go_ret;exact HF.out
   ·have hd8:(kind==8)=false:=by simpa using h8
    have hd9:(kind==9)=false:=by simpa using h9
    have HR:Hid (yA E st kind i l=(st, [])):=za (by unfold yA;rw [if_neg (fun e=>h7 e.1),if_neg (fun e=>e.elim h8 h9)]);rw [HR.out];clear hE hS hk hi hXA hXM hN hn h hl hb hc hvo hvd hh hap HH h7 h8 h9;go_enter Tryz.func21,Tryz.ntmps21;go_wp2_with fail;go_ret;exact HNO.out
theorem Kf(w:World)(k i:Int)(v:Value):Calls Tryz.prog 21 #[.pointer none, .int .u8 k, .int .i64 i,v] w fun e w'=>e= .returned (.slice none 0 0)∧w'=w:=by
 go_enter Tryz.func21,Tryz.ntmps21;go_wp2;go_ret;exact ⟨rfl,rfl⟩
end
section
open Go Go.RowKit Go.Shelf Go.Maps
attribute [local go_sem] Oper.semAt_some
theorem Jz(w:World):Calls Tryz.prog 66 #[.pointer none] w (zH ze (fun g=>w.heap.size≤g) w []):=by
 go_enter Tryz.func66,Tryz.ntmps66;go_wp2;go_ret;exact ⟨_,rfl,Sl.nil _ _ _,World.grownBy.refl _ _⟩
theorem VH(b:Nat)(x:zL)(X:Nat→Prop)(w:World)(hp:zJ X w b x)(hle:yU x):Calls Tryz.prog 66 #[.pointer (some ⟨b,0,none⟩)] w (zH ze (fun g=>w.heap.size≤g) w (Zv x.m x.a x.b)):=by
 obtain ⟨vm,va,vb,_,hbk,s1,s2,s3⟩:=hp;have HBK:=za hbk;have HPK:=za (fun W (hW:w.grownBy W none)=>Xg vm va vb x.m x.a x.b X X X W (s1.kept hW) (s2.kept hW) (s3.kept hW) ⟨hle.m.1,fun f hf=>⟨(hle.m.2 f hf).1,fun r hr=>((hle.m.2 f hf).2 r hr).2⟩⟩ hle.a hle.b);obtain ⟨Am,nm,cm,rfl⟩:=s1.shape;obtain ⟨Aa,na,ca,rfl⟩:=s2.shape;obtain ⟨Ab,nb,cb,rfl⟩:=s3.shape;have hr:=hbk.rule;obtain ⟨PL,hPL⟩: ∃y,y=Zv x.m x.a x.b:=⟨_,rfl⟩;rw [←hPL] at HPK ⊢;have HRD:Hid (w.grownBy w.drew none):=za (zb w 1);clear s1 s2 s3 hbk hle hPL;go_enter Tryz.func66,Tryz.ntmps66;go_upto_region 3 with (fail)
 refine Zf 14 ?_;refine mP0 (.pointer (some ⟨b,0,none⟩)) ?_;refine mP1 (.pointer (some ⟨b,0,none⟩)) 0 5 ?_;refine mP1 (.pointer (some ⟨b,0,none⟩)) 1 6 ?_;refine mQ1 (.slice Am nm cm) 2 7 (fun w' hw' K hK=> ?_) ?_
 ·have hc:=(HBK.out.grown (HRD.out.trans hw') (by simp)).rule;go_simp;exact hK _ rfl rfl
 refine mP0 (.pointer (some ⟨b,0,none⟩)) ?_;refine mP1 (.pointer (some ⟨b,0,none⟩)) 4 9 ?_;refine mP1 (.pointer (some ⟨b,1,none⟩)) 5 10 ?_;refine mQ1 (.slice Aa na ca) 6 11 (fun w' hw' K hK=> ?_) ?_
 ·have hc:=(HBK.out.grown (HRD.out.trans hw') (by simp)).rule;go_simp;exact hK _ rfl rfl
 refine mP0 (.pointer (some ⟨b,0,none⟩)) ?_;refine mP1 (.pointer (some ⟨b,0,none⟩)) 8 13 ?_;refine mP1 (.pointer (some ⟨b,2,none⟩)) 9 14 ?_;refine mQ1 (.slice Ab nb cb) 10 15 (fun w' hw' K hK=> ?_) ?_
 ·have hc:=(HBK.out.grown (HRD.out.trans hw') (by simp)).rule;go_simp;exact hK _ rfl rfl
 refine mN3 (Pv.sl ze (fun g=>w.heap.size≤g) PL) 3 8 7 12 11 16 (fun w' hw' K hK=> ?_) ?_
 ·go_simp;refine (HPK.out w' (HRD.out.trans hw')).mono ?_;rintro e w3 ⟨v,rfl,hs3,hg3⟩;exact hK _ _ rfl (hs3.more fun g _ hg=>Nat.le_trans (HRD.out.trans hw').size hg) hg3
 refine mV (Pv.sl ze (fun g=>w.heap.size≤g) PL) [(12,17)] (fun w' hw' x17 h17=>kD fun K hK=> ?_) ?_
 ·have h17:Sl ze (fun g=>w.heap.size≤g) w' x17 PL:=h17;go_simp;exact hK _ _ rfl h17 gRf
 intro w3 hw3
 iterate 13 (refine pD ?_;intro _)
 intro y13 k13;have e13:Sl ze (fun g=>w.heap.size≤g) w3 y13 PL:=k13;have HF:Hid (Sl ze (fun g=>w.heap.size≤g) w3 y13 PL∧w.grownBy w3 none):=za ⟨e13,HRD.out.trans hw3⟩;clear k13 e13 hw3;refine wpList_nil ?_;simp only [Act.put,sAa,sAb,sAc];go_wp2_with fail;go_ret;exact ⟨_,rfl,HF.out⟩
theorem Vf(v:Value)(o:Option zL)(X:Nat→Prop)(w:World)(hp:Uk X w v o)(hle: ∀x,o=some x→yU x):Calls Tryz.prog 66 #[v] w (zH ze (fun g=>w.heap.size≤g) w (xc o)):=by
 cases o with
 |none=>
  obtain rfl:v= .pointer none:=hp;exact Jz w
 |some x=>
  obtain ⟨b,rfl,hp⟩:=hp;exact VH b x X w hp (hle x rfl)
def xX(s:ASt)(k:Int)(j:Nat):List (Int×List Int):=((List.range j).map fun (i:Nat)=>(i:Int)+1).filterMap fun i=>(s.heard k i).map fun x=>(i,Zv x.m x.a x.b)
theorem Vq(s:ASt)(k:Int)(j:Nat):xX s k (j+1)=xX s k j++match s.heard k ((j:Int)+1) with|some x=> [((j:Int)+1,Zv x.m x.a x.b)]|none=> []:=by
 unfold xX;rw [List.range_succ,List.map_append,List.filterMap_append]
 congr 1
 simp only [List.map_cons,List.map_nil,List.filterMap_cons,List.filterMap_nil];cases s.heard k ((j:Int)+1)<;>rfl
theorem YM(s:ASt)(k:Int)(j:Nat):(xX s k j).length≤j:=by
 unfold xX;exact Nat.le_trans (List.length_filterMap_le _ _) (by simp)
theorem Uv(E:zw)(s:ASt)(k:Int):xX s k E.p.N.toNat=Ye E s k:=rfl
theorem PI(E:zw)(st:ASt)(gA gM nn:Nat)(k:Int)(X:Nat→Prop)(w:World)(hE:E.ok)(hA:AvW X gA gM nn E st w)(hS:yx E st)(hk:U8 k):
  Calls Tryz.prog 67 #[.pointer (some ⟨gA,0,none⟩), .int .u8 k] w (zH yT (fun g=>w.heap.size≤g) w (Ye E st k)):=by
 have HA:=za hA;have HS:=za hS;have HK:=za hk;obtain ⟨_,_,_,hN1,hN2,_⟩:=zD hE.may;obtain ⟨⟨vc,vd,vo,hb,_⟩,_,_⟩:=hA;have HB:=za hb;have hr:=hb.rule;rw [←Uv];clear hE hk hb hS;obtain ⟨N,hN⟩: ∃N:Nat,E.p.N=(N:Int):=⟨E.p.N.toNat,by omega⟩;have HNN:Hid (E.p.N.toNat=N∧N≤7):=za ⟨by omega,by omega⟩;rw [HNN.out.1];go_enter Tryz.func67,Tryz.ntmps67;go_wp2_with fail;go_loopg [5,14] N (fun g s5 s14 wx=> ∃j:Nat,j+g=N∧s14= .int .i64 j∧Hid (Acc yT w.heap.size 96 (fun g=>w.heap.size≤g) wx s5 (xX st k j)∧w.grownBy wx none))
 case atStart=>exact ⟨0,by omega,rfl,za ⟨Acc.nil _ _ _ _ _,gRf⟩⟩
 case round=>
  obtain ⟨j,hj,rfl,HX⟩:=hrel;rcases Nat.eq_zero_or_pos gk with hg0|hg0
  ·obtain rfl:j=N:=by omega
   have HR:Hid (Sl yT (fun g=>w.heap.size≤g) wr u5 (xX st k j)∧w.grownBy wr none):=za ⟨HX.out.1.sl,HX.out.2⟩;clear HX hr hg0;go_wp2;go_ret;exact ⟨_,rfl,HR.out.1,HR.out.2⟩
  ·have hjn:(j:Int)< (N:Int):=by omega
   have hw1:IntKind.i64.wrap ((j:Int)+1)=(j:Int)+1:=IntWalk.i64_in _ (by omega);obtain ⟨hacc,hg⟩:=HX.out;have HW1:=za (HA.out.kept hg);have hr1:=(HB.out.grown hg (by simp)).rule;have HAC:=za hacc;have HG:=za hg;have HSN:=za (Vq st k j);have HLB:Hid (((xX st k j).length+1)*32≤140737488355328):=za (by have:=YM st k j;have:=HNN.out;omega);have HI:Hid (I64 ((j:Int)+1)):=za ⟨by have:=HNN.out;omega,by have:=HNN.out;omega⟩;clear hacc hg HX hr;obtain ⟨v,hlk,hpt⟩:=zO.look HW1.out.heard k ((j:Int)+1) HK.out HI.out;unfold plV at hlk;cases hh:st.heard k ((j:Int)+1) with
   |none=>
    rw [hh] at hlk hpt HSN;obtain rfl:v= .pointer none:=hpt;have HFIN:Hid (Acc yT w.heap.size 96 (fun g=>w.heap.size≤g) wr u5 (xX st k (j+1))∧w.grownBy wr none):=za ⟨by rw [HSN.out,List.append_nil];exact HAC.out,HG.out⟩;clear hh HSN HAC HG;go_wp2_with fail;go_roundg (gk - 1)
    case measure=>omega
    case rel=>exact ⟨j+1,by omega,by go_num,HFIN⟩
   |some x=>
    rw [hh] at hlk hpt HSN;obtain ⟨b,rfl,hp⟩:=hpt;have HNU:=za (VH b x X wr hp (HS.out.heard _ _ _ hh).le);clear hh hp;go_wp2_with fail;refine HNU.out.mono ?_;rintro e w5 ⟨v5,rfl,hs5,hg5⟩;have HG5:=za (HG.out.trans hg5);have HAC5:=za (HAC.out.kept hg5);have HREP:Hid (yT.rep (fun g=>w.heap.size≤g∧some g≠u5.ownBlock) w5 [.int .i64 ((j:Int)+1),v5] ((j:Int)+1,Zv x.m x.a x.b)):=za ⟨_,rfl,HI.out,hs5.more fun g _ hx=>⟨Nat.le_trans HG.out.size hx,fun e=>by have:=(HAC.out.lt g e.symm).2;omega⟩⟩;obtain ⟨A5,n5,c5,e5⟩:=hs5.shape;subst e5;clear hs5 hg5 HAC HG;go_wp2_with (at_builtin;refine zC rfl (.tmp 30) (.tmp 36) rfl (E:=yT) TD HG5.out HAC5.out (fun _ h=>h) HREP.out HLB.out rfl rfl ?_);intro v9 w9 hacc9 hg9 _;have HFIN:Hid (Acc yT w.heap.size 96 (fun g=>w.heap.size≤g) w9 v9 (xX st k (j+1))∧w.grownBy w9 none):=za ⟨by rw [HSN.out];exact hacc9,hg9⟩;clear hacc9 hg9;go_wp2_with fail;go_roundg (gk - 1)
    case measure=>omega
    case rel=>exact ⟨j+1,by omega,by go_num,HFIN⟩
end
section
open Go Go.RowKit Go.Shelf Go.Maps
structure SSt where
 dealer:Int
 me:Int
 coms:List (List Int)
 deal:List Int
 echos:List (Int×List Int)
 readies:List (Int×List Int)
 own:List Int
 done:Bool
 deriving DecidableEq
def xL(E:zw)(st:ASt):SSt:=⟨E.dealer,E.me,E.coms,xc st.dealt,Ye E st 8,Ye E st 9,xc st.own,st.done⟩
def xT(X:Nat→Prop)(W:World)(v:Value)(s:SSt):Prop:= ∃vc vd ve vr vo,v= .agg #[.int .i64 s.dealer, .int .i64 s.me,vc,vd,ve,vr,vo, .bool s.done]∧Sl (zh ze) X W vc s.coms∧Sl ze X W vd s.deal∧Sl yT X W ve s.echos∧Sl yT X W vr s.readies∧Sl ze X W vo s.own
theorem xT.keep{X:Nat→Prop}{W W':World}{v:Value}{s:SSt}(h:xT X W v s){row:Option Nat}(hg:W.grownBy W' row)(hX: ∀g,X g→some g≠row):xT X W' v s:=by
 obtain ⟨vc,vd,ve,vr,vo,e,h1,h2,h3,h4,h5⟩:=h;exact ⟨vc,vd,ve,vr,vo,e,h1.keep hg hX,h2.keep hg hX,h3.keep hg hX,h4.keep hg hX,h5.keep hg hX⟩
theorem xT.kept{X:Nat→Prop}{W W':World}{v:Value}{s:SSt}(h:xT X W v s)(hg:W.grownBy W' none):xT X W' v s:=h.keep hg (by simp)
theorem xT.more{X Y:Nat→Prop}{W:World}{v:Value}{s:SSt}(h:xT X W v s)(hX: ∀g,g< W.heap.size→X g→Y g):xT Y W v s:=by
 obtain ⟨vc,vd,ve,vr,vo,e,h1,h2,h3,h4,h5⟩:=h;exact ⟨vc,vd,ve,vr,vo,e,h1.more hX,h2.more hX,h3.more hX,h4.more hX,h5.more hX⟩
def Ft(X:Nat→Prop)(s:SSt):Pv:=⟨fun v w=>xT X w v s,fun h hg=>h.kept hg⟩
theorem ZI{fn:Func}{W:World}{B:Nat}{a b c d e f g h:Value}(hr:fn.results= #[.cell 2 82])(tmps:Array Value)(h2:tmps.getD 2 undef= .pointer (some ⟨B,0,none⟩))(hb:Bk W B 82 #[a,b,c,d,e,f,g,h]):(results fn tmps).run Tryz.prog W= .ok (.agg #[a,b,c,d,e,f,g,h]) W:=by
 have r1:=run_loadVar_row (P:=Tryz.prog) W B 82 82 #[a,b,c,d,e,f,g,h] (0,0) _ hb Tryz.underlying82 rfl (by kernel_rfl);have h2':tmps[2]?.getD undef= .pointer (some ⟨B,0,none⟩):=by simpa using h2
 simp [results,hr,h2',asAddr,r1]
attribute [local go_sem] Oper.semAt_some
abbrev IC:Obj:= .cells #[.int .i64 0, .int .i64 0, .slice none 0 0, .slice none 0 0, .slice none 0 0, .slice none 0 0, .slice none 0 0, .bool false] 82
theorem NL(w:World):Calls Tryz.prog 30 #[.pointer none] w fun e w'=>e= .returned (.agg #[.int .i64 0, .int .i64 0, .slice none 0 0, .slice none 0 0, .slice none 0 0, .slice none 0 0, .slice none 0 0, .bool false])∧w.grownBy w' none:=by
 have HB:=Bk.new w 82 #[.int .i64 0, .int .i64 0, .slice none 0 0, .slice none 0 0, .slice none 0 0, .slice none 0 0, .slice none 0 0, .bool false];have hr:=HB.rule;have hf:=HB.free;go_enter Tryz.func30,Tryz.ntmps30;go_wp2
 first
  |(go_ret;exact ⟨rfl,gAl w _ none⟩)
  |exact ⟨rfl,_,ZI rfl _ rfl (by first|exact HB|simpa using HB),rfl,gAl w _ none⟩
theorem UX(E:zw)(st:ASt)(gA gM nn:Nat)(X:Nat→Prop)(w:World)(hE:E.ok)(hA:AvW X gA gM nn E st w)(hS:yx E st):
  Calls Tryz.prog 30 #[.pointer (some ⟨gA,0,none⟩)] w fun e w'=> ∃v,e= .returned v∧xT (fun g=>w.heap.size≤g) w' v (xL E st)∧w.grownBy w' none:=by
 have HA:=za hA;have HE:=za hE;have HS:=za hS;obtain ⟨w0,hw0⟩: ∃y,y=w.alloc IC:=⟨_,rfl⟩;have HG0:Hid (w.grownBy w0 none):=za (by rw [hw0];exact gAl _ _ none);have HBR:Hid (Bk w0 w.heap.size 82 #[.int .i64 0, .int .i64 0, .slice none 0 0, .slice none 0 0, .slice none 0 0, .slice none 0 0, .slice none 0 0, .bool false]):=za (by rw [hw0];exact Bk.new _ _ _);have HRD:Hid (w0.grownBy w0.drew none):=za (zb w0 1);obtain ⟨⟨vc,vd,vo,hb,hc,hvd,hvo⟩,_,_⟩:=hA;have HB:=za hb;have HCO:Hid (∀W,w0.grownBy W none→Calls Tryz.prog 47 #[vc] W (zH (zh ze) (fun g=>W.heap.size≤g) W E.coms)):=za (fun W hW=>XE vc E.coms X W (hc.kept (HG0.out.trans hW)) hE.few (fun x hx=>by have:=(xp hE.may hE.formed).2.2 x hx;omega));have HND:Hid (∀W,w0.grownBy W none→Calls Tryz.prog 66 #[vd] W (zH ze (fun g=>W.heap.size≤g) W (xc st.dealt))):=za (fun W hW=>Vf vd st.dealt X W (hvd.keep (HG0.out.trans hW) (by simp)) hS.dealt);have HNO:Hid (∀W,w0.grownBy W none→Calls Tryz.prog 66 #[vo] W (zH ze (fun g=>W.heap.size≤g) W (xc st.own))):=za (fun W hW=>Vf vo st.own X W (hvo.keep (HG0.out.trans hW) (by simp)) hS.own);have HTO:Hid (∀W k,U8 k→w0.grownBy W none→Calls Tryz.prog 67 #[.pointer (some ⟨gA,0,none⟩), .int .u8 k] W (zH yT (fun g=>W.heap.size≤g) W (Ye E st k))):=za (fun W k hk hW=>PI E st gA gM nn k X W hE (HA.out.kept (HG0.out.trans hW)) hS hk);obtain ⟨PD,hPD⟩: ∃y,y=xc st.dealt:=⟨_,rfl⟩;obtain ⟨PO,hPO⟩: ∃y,y=xc st.own:=⟨_,rfl⟩;obtain ⟨T8,hT8⟩: ∃y,y=Ye E st 8:=⟨_,rfl⟩;obtain ⟨T9,hT9⟩: ∃y,y=Ye E st 9:=⟨_,rfl⟩;have HST:Hid (xL E st=⟨E.dealer,E.me,E.coms,PD,T8,T9,PO,st.done⟩):=za (by rw [hPD,hPO,hT8,hT9];rfl)
 rw [←hPD] at HND;rw [←hPO] at HNO;rw [HST.out];have HTA:=za (fun W (hW:w0.grownBy W none)=>HTO.out W 8 ⟨by decide,by decide⟩ hW);have HTB:=za (fun W (hW:w0.grownBy W none)=>HTO.out W 9 ⟨by decide,by decide⟩ hW);rw [←hT8] at HTA;rw [←hT9] at HTB;obtain ⟨dn,hdn⟩: ∃y,y=st.done:=⟨_,rfl⟩;rw [←hdn] at HB ⊢;obtain ⟨SS,hSS⟩: ∃y:SSt,y=⟨E.dealer,E.me,E.coms,PD,T8,T9,PO,dn⟩:=⟨_,rfl⟩;have HSS:=za hSS;have HRL:Hid (∀w',w0.grownBy w' none→ ∀o,w'.cell? ⟨gA,o,none⟩=(zu E vc vd vo gM dn)[o]?):=za (fun w' hw'=>(HB.out.grown (HG0.out.trans hw') (by simp)).rule);obtain ⟨Ac,nc,cc,rfl⟩:=hc.shape;have hvd': ∃a,vd= .pointer a:=by
  cases h:st.dealt with
  |none=>rw [h] at hvd;exact ⟨_,hvd⟩
  |some x=>rw [h] at hvd;obtain ⟨b,e,_⟩:=hvd;exact ⟨_,e⟩
 have hvo': ∃a,vo= .pointer a:=by
  cases h:st.own with
  |none=>rw [h] at hvo;exact ⟨_,hvo⟩
  |some x=>rw [h] at hvo;obtain ⟨b,e,_⟩:=hvo;exact ⟨_,e⟩
 obtain ⟨pd,rfl⟩:=hvd';obtain ⟨po,rfl⟩:=hvo';clear hE hS hb hc hvd hvo hPD hPO hT8 hT9 hdn hSS HST HTO;go_enter Tryz.func30,Tryz.ntmps30;go_wp2_with fail;rw [←hw0];clear hw0;refine Zf 32 ?_;refine mP0 (.pointer (some ⟨gA,0,none⟩)) ?_;refine mP1 (.pointer (some ⟨gA,0,none⟩)) 0 6 ?_;refine mP1 (.pointer (some ⟨gA,12,none⟩)) 1 7 ?_;refine mQ1 (.int .i64 E.dealer) 2 8 (fun w' hw' K hK=> ?_) ?_
 ·have hc:=HRL.out w' (HRD.out.trans hw');go_simp;exact hK _ rfl rfl
 refine mP0 (.pointer (some ⟨gA,0,none⟩)) ?_;refine mP1 (.pointer (some ⟨gA,0,none⟩)) 4 10 ?_;refine mP1 (.pointer (some ⟨gA,13,none⟩)) 5 11 ?_;refine mQ1 (.int .i64 E.me) 6 12 (fun w' hw' K hK=> ?_) ?_
 ·have hc:=HRL.out w' (HRD.out.trans hw');go_simp;exact hK _ rfl rfl
 refine mP0 (.pointer (some ⟨gA,0,none⟩)) ?_;refine mP1 (.pointer (some ⟨gA,0,none⟩)) 8 14 ?_;refine mP1 (.pointer (some ⟨gA,14,none⟩)) 9 15 ?_;refine mQ1 (.slice Ac nc cc) 10 16 (fun w' hw' K hK=> ?_) ?_
 ·have hc:=HRL.out w' (HRD.out.trans hw');go_simp;exact hK _ rfl rfl
 refine mN1 (Pv.sl (zh ze) (fun g=>w0.heap.size≤g) E.coms) 11 17 (fun w' hw' K hK=> ?_) ?_
 ·go_simp;refine (HCO.out w' (HRD.out.trans hw')).mono ?_;rintro e w3 ⟨v,rfl,hs3,hg3⟩;exact hK _ _ rfl (hs3.more fun g _ hg=>Nat.le_trans (HRD.out.trans hw').size hg) hg3
 refine mP0 (.pointer (some ⟨gA,0,none⟩)) ?_;refine mP1 (.pointer (some ⟨gA,0,none⟩)) 13 19 ?_;refine mP1 (.pointer (some ⟨gA,15,none⟩)) 14 20 ?_;refine mQ1 (.pointer pd) 15 21 (fun w' hw' K hK=> ?_) ?_
 ·have hc:=HRL.out w' (HRD.out.trans hw');go_simp;exact hK _ rfl rfl
 refine mN1 (Pv.sl (ze) (fun g=>w0.heap.size≤g) PD) 16 22 (fun w' hw' K hK=> ?_) ?_
 ·go_simp;refine (HND.out w' (HRD.out.trans hw')).mono ?_;rintro e w3 ⟨v,rfl,hs3,hg3⟩;exact hK _ _ rfl (hs3.more fun g _ hg=>Nat.le_trans (HRD.out.trans hw').size hg) hg3
 refine mP0 (.pointer (some ⟨gA,0,none⟩)) ?_;refine mN1 (Pv.sl (yT) (fun g=>w0.heap.size≤g) T8) 18 24 (fun w' hw' K hK=> ?_) ?_
 ·go_simp;refine (HTA.out w' (HRD.out.trans hw')).mono ?_;rintro e w3 ⟨v,rfl,hs3,hg3⟩;exact hK _ _ rfl (hs3.more fun g _ hg=>Nat.le_trans (HRD.out.trans hw').size hg) hg3
 refine mP0 (.pointer (some ⟨gA,0,none⟩)) ?_;refine mN1 (Pv.sl (yT) (fun g=>w0.heap.size≤g) T9) 20 26 (fun w' hw' K hK=> ?_) ?_
 ·go_simp;refine (HTB.out w' (HRD.out.trans hw')).mono ?_;rintro e w3 ⟨v,rfl,hs3,hg3⟩;exact hK _ _ rfl (hs3.more fun g _ hg=>Nat.le_trans (HRD.out.trans hw').size hg) hg3
 refine mP0 (.pointer (some ⟨gA,0,none⟩)) ?_;refine mP1 (.pointer (some ⟨gA,0,none⟩)) 22 28 ?_;refine mP1 (.pointer (some ⟨gA,16,none⟩)) 23 29 ?_;refine mQ1 (.pointer po) 24 30 (fun w' hw' K hK=> ?_) ?_
 ·have hc:=HRL.out w' (HRD.out.trans hw');go_simp;exact hK _ rfl rfl
 refine mN1 (Pv.sl (ze) (fun g=>w0.heap.size≤g) PO) 25 31 (fun w' hw' K hK=> ?_) ?_
 ·go_simp;refine (HNO.out w' (HRD.out.trans hw')).mono ?_;rintro e w3 ⟨v,rfl,hs3,hg3⟩;exact hK _ _ rfl (hs3.more fun g _ hg=>Nat.le_trans (HRD.out.trans hw').size hg) hg3
 refine mP0 (.pointer (some ⟨gA,0,none⟩)) ?_;refine mP1 (.pointer (some ⟨gA,0,none⟩)) 27 33 ?_;refine mP1 (.pointer (some ⟨gA,18,none⟩)) 28 34 ?_;refine mQ1 (.bool dn) 29 35 (fun w' hw' K hK=> ?_) ?_
 ·have hc:=HRL.out w' (HRD.out.trans hw');go_simp;exact hK _ rfl rfl
 refine mV (Ft (fun g=>w0.heap.size≤g) SS) [(3,9),(7,13),(12,18),(17,23),(19,25),(21,27),(26,32),(30,36)] (fun w' hw'=>pQ (pQ (fun x18 h18 x23 h23 x25 h25 x27 h27 x32 h32=>pQ (kD fun K hK=> ?_)))) ?_
 ·have h18:Sl (zh ze) (fun g=>w0.heap.size≤g) w' x18 E.coms:=h18;obtain ⟨A18,n18,c18,e18⟩:=h18.shape;subst e18;have h23:Sl (ze) (fun g=>w0.heap.size≤g) w' x23 PD:=h23;obtain ⟨A23,n23,c23,e23⟩:=h23.shape;subst e23;have h25:Sl (yT) (fun g=>w0.heap.size≤g) w' x25 T8:=h25;obtain ⟨A25,n25,c25,e25⟩:=h25.shape;subst e25;have h27:Sl (yT) (fun g=>w0.heap.size≤g) w' x27 T9:=h27;obtain ⟨A27,n27,c27,e27⟩:=h27.shape;subst e27;have h32:Sl (ze) (fun g=>w0.heap.size≤g) w' x32 PO:=h32;obtain ⟨A32,n32,c32,e32⟩:=h32.shape;subst e32;go_simp;exact hK _ _ rfl (show xT _ _ _ SS by rw [HSS.out];exact ⟨_,_,_,_,_,rfl,h18,h23,h25,h27,h32⟩) gRf
 intro w3 hw3
 iterate 31 (refine pD ?_;intro _)
 intro y31 k31;show wpList Tryz.prog _ _ _ _ w3;simp only [Act.put,sAa,sAb,sAc];have e31:xT (fun g=>w0.heap.size≤g) w3 y31 SS:=k31;rw [HSS.out] at e31;obtain ⟨v1,v2,v3,v4,v5,e,s1,s2,s3,s4,s5⟩:=e31;dsimp only at e;obtain ⟨A1,n1,c1,rfl⟩:=s1.shape;obtain ⟨A2,n2,c2,rfl⟩:=s2.shape;obtain ⟨A3,n3,c3,rfl⟩:=s3.shape;obtain ⟨A4,n4,c4,rfl⟩:=s4.shape;obtain ⟨A5,n5,c5,rfl⟩:=s5.shape;subst e;have hb3:=HBR.out.grown (HRD.out.trans hw3) (by simp);have d0:=hb3.rule;have f3:=hb3.free;have HBE:Hid (w.heap.size≤w.heap.size):=za (Nat.le_refl _);obtain ⟨wF,hwF⟩: ∃y,y=(((((((w3.setCell ⟨w.heap.size,0,none⟩ (.int .i64 E.dealer)).setCell ⟨w.heap.size,1,none⟩ (.int .i64 E.me)).setCell ⟨w.heap.size,2,none⟩ (.slice A1 n1 c1)).setCell ⟨w.heap.size,3,none⟩ (.slice A2 n2 c2)).setCell ⟨w.heap.size,4,none⟩ (.slice A3 n3 c3)).setCell ⟨w.heap.size,5,none⟩ (.slice A4 n4 c4)).setCell ⟨w.heap.size,6,none⟩ (.slice A5 n5 c5)).setCell ⟨w.heap.size,7,none⟩ (.bool dn):=⟨_,rfl⟩;have HBF:Hid (Bk wF w.heap.size 82 #[.int .i64 E.dealer, .int .i64 E.me, .slice A1 n1 c1, .slice A2 n2 c2, .slice A3 n3 c3, .slice A4 n4 c4, .slice A5 n5 c5, .bool dn]):=za (by rw [hwF];exact ((((((((hb3.set 0 _).set 1 _).set 2 _).set 3 _).set 4 _).set 5 _).set 6 _).set 7 _));have hgs:w3.grownBy wF (some w.heap.size):=by
  rw [hwF];exact (((((((zi _ _ 0 _).trans (zi _ _ 1 _)).trans (zi _ _ 2 _)).trans (zi _ _ 3 _)).trans (zi _ _ 4 _)).trans (zi _ _ 5 _)).trans (zi _ _ 6 _)).trans (zi _ _ 7 _)
 have HGF:Hid (w.grownBy wF none):=za (zB (HG0.out.trans (HRD.out.trans hw3)) hgs (fun b e=>by injection e with e;omega));have hne: ∀g,w0.heap.size≤g→some g≠some w.heap.size:=fun g hg e=>by
  injection e with e
  have:=HBR.out.lt
  omega
 have hle: ∀g,g< wF.heap.size→w0.heap.size≤g→w.heap.size≤g:=fun g _ hg=>Nat.le_trans HG0.out.size hg
 have HFS:Hid (xT (fun g=>w.heap.size≤g) wF (.agg #[.int .i64 E.dealer, .int .i64 E.me, .slice A1 n1 c1, .slice A2 n2 c2, .slice A3 n3 c3, .slice A4 n4 c4, .slice A5 n5 c5, .bool dn]) ⟨E.dealer,E.me,E.coms,PD,T8,T9,PO,dn⟩):=za ⟨_,_,_,_,_,rfl,(s1.keep hgs hne).more hle,(s2.keep hgs hne).more hle,(s3.keep hgs hne).more hle,(s4.keep hgs hne).more hle,(s5.keep hgs hne).more hle⟩;clear k31 s1 s2 s3 s4 s5 hw3 hb3 hgs hne hle;go_wp2_with fail;rw [←hwF];exact ⟨rfl,_,ZI rfl _ rfl HBF.out,_,rfl,HFS.out,HGF.out⟩
end
section
open Go Go.RowKit Go.Shelf Go.Maps
attribute [local go_sem] Oper.semAt_some
def Xn(E:zw):Bool:=Va E.p && decide (1≤E.dealer) && decide (E.dealer≤E.p.N) && decide (1≤E.me) && decide (E.me≤E.p.N) && Za E.p E.coms
theorem Hq{E:zw}(hp:E.p.ok)(h:Xn E=true):E.ok:=by
 simp only [Xn,Bool.and_eq_true,decide_eq_true_eq] at h;obtain ⟨⟨⟨⟨⟨a,b⟩,c⟩,d⟩,e⟩,f⟩:=h;exact ⟨hp,a,⟨b,c⟩,⟨d,e⟩,f,by have:=(xp a f).2.1;omega⟩
theorem To{E:zw}(h:E.ok):Xn E=true:=by
 simp only [Xn,Bool.and_eq_true,decide_eq_true_eq];exact ⟨⟨⟨⟨⟨h.may,h.dealer.1⟩,h.dealer.2⟩,h.me.1⟩,h.me.2⟩,h.formed⟩
def Ut(E:zw)(w:World)(e:Ending)(w':World):Prop:=w.grownBy w' none∧(if Xn E=true then ∃gA gM,e= .returned (.tuple #[.pointer (some ⟨gA,0,none⟩), .int .i64 0])∧w.heap.size≤gA∧w.heap.size≤gM∧AvW (fun g=>w.heap.size≤g∧g≠gA∧g≠gM) gA gM 0 E ASt.start w' else e= .returned (.tuple #[.pointer none, .int .i64 1]))
theorem Ut.bad{E:zw}{w w':World}(h:Xn E=false)(hg:w.grownBy w' none):Ut E w (.returned (.tuple #[.pointer none, .int .i64 1])) w':=⟨hg,by rw [h];rfl⟩
theorem Sl.offMapU{X:Nat→Prop}{w:World}{v:Value}{l:List Int}{gM:Nat}(h:Sl ze X w v l)(hM: ∀o,w.cell? ⟨gM,o,none⟩=none):Sl ze (fun g=>X g∧g≠gM) w v l:=by
 obtain ⟨A,c,e,h1,h2,h3⟩:=h;refine ⟨A,c,e,h1,h2,fun hn=> ?_⟩;obtain ⟨g,o,eA,hgl,hXg,hc⟩:=h3 hn;have hpos:0< l.length:=List.length_pos_iff.2 hn;refine ⟨g,o,eA,hgl,⟨hXg,fun e=> ?_⟩,fun i hi=> ?_⟩
 ·obtain ⟨cs,⟨hr,_⟩,hcell⟩:=hc 0 hpos;subst hr
  have:=hcell 0 _ rfl
  rw [e,hM] at this;cases this
 ·exact hc i hi
theorem Sl.offMap{X:Nat→Prop}{w:World}{v:Value}{l:List (List Int)}{gM:Nat}(h:Sl (zh ze) X w v l)(hM: ∀o,w.cell? ⟨gM,o,none⟩=none):Sl (zh ze) (fun g=>X g∧g≠gM) w v l:=by
 obtain ⟨A,c,e,h1,h2,h3⟩:=h;refine ⟨A,c,e,h1,h2,fun hn=> ?_⟩;obtain ⟨g,o,eA,hgl,hXg,hc⟩:=h3 hn;have hpos:0< l.length:=List.length_pos_iff.2 hn;refine ⟨g,o,eA,hgl,⟨hXg,fun e=> ?_⟩,fun i hi=> ?_⟩
 ·obtain ⟨cs,⟨u,hr,_⟩,hcell⟩:=hc 0 hpos;subst hr
  have:=hcell 0 _ rfl
  rw [e,hM] at this;cases this
 ·obtain ⟨cs,⟨u,hr,hs⟩,hcell⟩:=hc i hi;exact ⟨cs,⟨u,hr,hs.offMapU hM⟩,hcell⟩
theorem Qn(w:World)(o:Nat):(w.alloc (.map #[] 0)).cell? ⟨w.heap.size,o,none⟩=none:=by
 have h:(w.alloc (.map #[] 0)).heap[w.heap.size]? =some (.map #[] 0):=by
  show (w.heap.push (.map #[] 0))[w.heap.size]? =_;simp
 unfold World.cell?;rw [h]
def Pv.mp(n0:Nat):Pv:=⟨fun v w=> ∃gM,v= .map (some gM)∧n0≤gM∧(∀o,w.cell? ⟨gM,o,none⟩=none)∧zO (fun _=>False) w gM 0 (fun _ _=>none),fun ⟨gM,h1,h2,h3,h4⟩ hg=>⟨gM,h1,h2,fun o=>by rw [World.cell?_of_block (hg.block gM h4.lt (by simp))];exact h3 o,h4.keep hg (fun _ h=>h.elim) (by simp)⟩⟩
def Pv.bd(n0:Nat)(E:zw):Pv:=⟨fun v w=> ∃vc gM,v= .agg (zu E vc (.pointer none) (.pointer none) gM false)∧n0≤gM∧zO (fun _=>False) w gM 0 (fun _ _=>none)∧Sl (zh ze) (fun g=>n0≤g∧g≠gM) w vc E.coms,fun ⟨vc,gM,h1,h2,h3,h4⟩ hg=>⟨vc,gM,h1,h2,h3.keep hg (fun _ h=>h.elim) (by simp),h4.kept hg⟩⟩
def Pv.bx(n0:Nat)(E:zw):Pv:=⟨fun v w=> ∃gA gM,v= .pointer (some ⟨gA,0,none⟩)∧n0≤gA∧n0≤gM∧AvW (fun g=>n0≤g∧g≠gA∧g≠gM) gA gM 0 E ASt.start w,fun ⟨gA,gM,h1,h2,h3,h4⟩ hg=>⟨gA,gM,h1,h2,h3,h4.kept hg⟩⟩
theorem Vl(E:zw)(v:Value)(X:Nat→Prop)(w:World)(hp:E.p.ok)(hd:I64 E.dealer)(hm:I64 E.me)(h:Sl (zh ze) X w v E.coms)(hT:zK w):
  Calls Tryz.prog 18 #[E.p.v, .int .i64 E.dealer, .int .i64 E.me,v] w (Ut E w):=by
 have HP:=za hp;have H:=za h;have hb0:=Bk.new w 39 E.p.cells;have hr:=hb0.prule;have HG0:Hid (w.grownBy (w.alloc (.cells E.p.cells 39)) none):=za (gAl w _ none);have HMAY:=za (Pi E.p (w.alloc (.cells E.p.cells 39)) hp (hT.kept HG0.out));have HB0:=za hb0;obtain ⟨A,c,rfl,_,_⟩:=h.form;obtain ⟨ld,hld⟩: ∃n,n=E.coms.length:=⟨_,rfl⟩;rw [←hld];have HLD:=za hld;clear hp h hT hb0 hd hm hld;have HNB:Hid (Xn E=(Va E.p && decide (1≤E.dealer) && decide (E.dealer≤E.p.N) && decide (1≤E.me) && decide (E.me≤E.p.N) && Za E.p E.coms)):=za rfl;cases h1:Va E.p with
 |false=>
  have HBAD:Hid (Xn E=false):=za (by rw [HNB.out,h1];simp);rw [h1] at HMAY;clear h1 HNB HLD;go_enter Tryz.func18,Tryz.ntmps18;go_wp2_with (refine HMAY.out.mono ?_;rintro e w1 ⟨rfl,hg1⟩);go_ret2;exact Ut.bad HBAD.out (HG0.out.trans hg1)
 |true=>
  rw [h1] at HMAY;by_cases h2:E.dealer< 1
  ·have HBAD:Hid (Xn E=false):=za (by rw [HNB.out];simp;omega);clear h1 HNB HLD;go_enter Tryz.func18,Tryz.ntmps18;go_wp2_with fail;refine HMAY.out.mono ?_;rintro e w1 ⟨rfl,hg1⟩;have hr1:=(HB0.out.grown hg1 (by simp)).prule;have HG1:=za (HG0.out.trans hg1);clear hr hg1;go_wp2;go_ret2;exact Ut.bad HBAD.out HG1.out
  by_cases h3:E.p.N< E.dealer
  ·have HBAD:Hid (Xn E=false):=za (by rw [HNB.out];simp;omega);clear h1 HNB HLD;go_enter Tryz.func18,Tryz.ntmps18;go_wp2_with fail;refine HMAY.out.mono ?_;rintro e w1 ⟨rfl,hg1⟩;have hr1:=(HB0.out.grown hg1 (by simp)).prule;have HG1:=za (HG0.out.trans hg1);clear hr hg1;go_wp2;go_ret2;exact Ut.bad HBAD.out HG1.out
  by_cases h4:E.me< 1
  ·have HBAD:Hid (Xn E=false):=za (by rw [HNB.out];simp;omega);clear h1 HNB HLD;go_enter Tryz.func18,Tryz.ntmps18;go_wp2_with fail;refine HMAY.out.mono ?_;rintro e w1 ⟨rfl,hg1⟩;have hr1:=(HB0.out.grown hg1 (by simp)).prule;have HG1:=za (HG0.out.trans hg1);clear hr hg1;go_wp2;go_ret2;exact Ut.bad HBAD.out HG1.out
  by_cases h5:E.p.N< E.me
  ·have HBAD:Hid (Xn E=false):=za (by rw [HNB.out];simp;omega);clear h1 HNB HLD;go_enter Tryz.func18,Tryz.ntmps18;go_wp2_with fail;refine HMAY.out.mono ?_;rintro e w1 ⟨rfl,hg1⟩;have hr1:=(HB0.out.grown hg1 (by simp)).prule;have HG1:=za (HG0.out.trans hg1);clear hr hg1;go_wp2;go_ret2;exact Ut.bad HBAD.out HG1.out
  cases h6:Za E.p E.coms with
  |false=>
   have HBAD:Hid (Xn E=false):=za (by rw [HNB.out,h6];simp);have HFO:=za (fun w' (hw:w.grownBy w' none)=>Xz E.p (.slice A E.coms.length c) E.coms X w' HP.out (H.out.kept hw));rw [h6, ←HLD.out] at HFO;clear h1 HNB HLD;go_enter Tryz.func18,Tryz.ntmps18;go_wp2_with fail;refine HMAY.out.mono ?_;rintro e w1 ⟨rfl,hg1⟩;have hr1:=(HB0.out.grown hg1 (by simp)).prule;have HG1:=za (HG0.out.trans hg1);clear hr hg1;go_wp2_with fail;refine (HFO.out _ HG1.out).mono ?_;rintro e w2 ⟨rfl,hg2⟩;have HG2:=za (HG1.out.trans hg2);clear hr1 hg2;go_wp2;go_ret2;exact Ut.bad HBAD.out HG2.out
  |true=>
   have HOK:Hid (Xn E=true):=za (by rw [HNB.out,h1,h6];simp;omega);have HFO:=za (fun w' (hw:w.grownBy w' none)=>Xz E.p (.slice A E.coms.length c) E.coms X w' HP.out (H.out.kept hw));have HCO:=za (fun w' (hw:w.grownBy w' none)=>XE (.slice A E.coms.length c) E.coms X w' (H.out.kept hw) (by have:=(xp h1 h6).2.1;omega) (fun x hx=>by have:=(xp h1 h6).2.2 x hx;omega));rw [h6, ←HLD.out] at HFO;rw [←HLD.out] at HCO;clear h1 HNB HLD;go_enter Tryz.func18,Tryz.ntmps18;go_wp2_with fail;refine HMAY.out.mono ?_;rintro e w1 ⟨rfl,hg1⟩;have hr1:=(HB0.out.grown hg1 (by simp)).prule;have HG1:=za (HG0.out.trans hg1);have HB1:=za (HB0.out.grown hg1 (by simp));clear hr hg1;go_wp2_with fail;refine (HFO.out _ HG1.out).mono ?_;rintro e w2 ⟨rfl,hg2⟩;have HG2:=za (HG1.out.trans (hg2.trans (zb w2 1)));have HB2:Hid (∀w',w2.drew.grownBy w' none→ ∀o,w'.cell? ⟨w.heap.size,o,none⟩=E.p.cells[o]?):=za (fun w' hw=>((HB1.out.grown (hg2.trans (zb w2 1)) (by simp)).grown hw (by simp)).prule);clear hr1 hg2 HB0 HB1 HFO HMAY;go_wp2_with fail;refine Zf 10 ?_;refine mQ0 (E.p.v) (fun w' hw' K hK=> ?_) ?_
   ·have hc:=HB2.out w' hw';go_simp;exact hK _ rfl rfl
   refine mP0 (.int .i64 E.dealer) ?_;refine mP0 (.int .i64 E.me) ?_;refine mP0 (.slice A ld c) ?_;refine mN1 (Pv.sl (zh ze) (fun g=>w2.drew.heap.size≤g) E.coms) 3 42 (fun w' hw' K hK=> ?_) ?_
   ·go_simp;refine (HCO.out w' (HG2.out.trans hw')).mono ?_;rintro e w3 ⟨v3,rfl,hs3,hg3⟩;exact hK _ _ rfl (hs3.more fun g _ h=>Nat.le_trans hw'.size h) hg3
   refine mN0 (Pv.mp w2.drew.heap.size) (fun w' hw' K hK=> ?_) ?_
   ·have hmm:= @run_makeMap Tryz.prog;go_simp;exact hK _ _ rfl ⟨w'.heap.size,rfl,hw'.size,Qn w',zO.new w'⟩ (gAl w' _ none)
   refine mV (Pv.bd w2.drew.heap.size E) [(0,39),(1,40),(2,41),(4,43),(5,44)] (fun w' hw'=>pQ (pQ (pQ (fun x43 h43 x44 h44=>kD fun K hK=> ?_)))) ?_
   ·have h43:Sl (zh ze) (fun g=>w2.drew.heap.size≤g) w' x43 E.coms:=h43;obtain ⟨A43,c43,e43,k43,l43⟩:=h43.form;subst e43;have h44: ∃gM,x44= .map (some gM)∧w2.drew.heap.size≤gM∧(∀o,w'.cell? ⟨gM,o,none⟩=none)∧zO (fun _=>False) w' gM 0 (fun _ _=>none):=h44;obtain ⟨gM,e44,k44,l44,m44⟩:=h44;subst e44;go_simp;exact hK _ _ rfl ⟨_,_,rfl,k44,m44,h43.offMap l44⟩ gRf
   refine mV (Pv.bx w2.drew.heap.size E) [(6,45)] (fun w' hw' x45 h45=>kD fun K hK=> ?_) ?_
   ·have h45: ∃vc gM,x45= .agg (zu E vc (.pointer none) (.pointer none) gM false)∧w2.drew.heap.size≤gM∧zO (fun _=>False) w' gM 0 (fun _ _=>none)∧Sl (zh ze) (fun g=>w2.drew.heap.size≤g∧g≠gM) w' vc E.coms:=h45;obtain ⟨vc,gM,e45,k45,l45,m45⟩:=h45;obtain ⟨Av,cv,ev,_,_⟩:=m45.form;subst ev;subst e45;go_simp;exact hK _ _ rfl ⟨w'.heap.size,gM,rfl,hw'.size,k45,⟨_,_,_,Bk.new w' _ _,(m45.more (fun g hl h=>⟨h.1,Nat.ne_of_lt hl,h.2⟩)).kept (gAl w' _ none),rfl,rfl⟩,(l45.keep (gAl w' _ none) (fun _ h=>h.elim) (by simp)).more (fun _ _ h=>h.elim),by have:=l45.lt;omega⟩ (gAl w' _ none)
   refine mV (Pv.bx w2.drew.heap.size E) [(7,46)] (fun w' hw' x46 h46=>kD fun K hK=> ?_) ?_
   ·have h46: ∃gA gM,x46= .pointer (some ⟨gA,0,none⟩)∧w2.drew.heap.size≤gA∧w2.drew.heap.size≤gM∧AvW (fun g=>w2.drew.heap.size≤g∧g≠gA∧g≠gM) gA gM 0 E ASt.start w':=h46;obtain ⟨gA,gM,e46,k46,l46,m46⟩:=h46;subst e46;go_simp;exact hK _ _ rfl ⟨_,_,rfl,k46,l46,m46⟩ gRf
   refine mP0 (.int .i64 0) ?_;intro w3 hw3
   iterate 8 (refine pD ?_;intro _)
   intro y8 k8 y9 k9;obtain ⟨gA,gM,e8,q1,q2,q3⟩:=k8;have e9:y9= .int .i64 0:=k9;subst e8 e9;have HF:Hid (Ut E w (.returned (.tuple #[.pointer (some ⟨gA,0,none⟩), .int .i64 0])) w3):=za ⟨HG2.out.trans hw3,by
    rw [HOK.out,if_pos rfl];exact ⟨gA,gM,rfl,Nat.le_trans HG2.out.size q1,Nat.le_trans HG2.out.size q2,q3.more fun g _ h=>⟨Nat.le_trans HG2.out.size h.1,h.2⟩⟩⟩
   clear k9 hw3 q1 q2 q3;refine wpList_nil ?_;simp only [Act.put,sAa,sAb,sAc];go_wp2_with fail;go_ret2;exact HF.out
end
section
open Go Go.RowKit Go.Shelf Go.Maps
def yN(E:zw)(k:Int):ASt→Int→List (Int×List Int)→ASt×Bool
 |s,_, []=>(s,true)
 |s,last,t::l=>if t.1≤last∨E.p.N< t.1∨(zk E t.1 t.2).2=false then (s,false) else yN E k (s.put k t.1 (zk E t.1 t.2).1) t.1 l
theorem On{E:zw}{k:Int}{s:ASt}{last:Int}{t:Int×List Int}{l:List (Int×List Int)}(h:t.1≤last∨E.p.N< t.1∨(zk E t.1 t.2).2=false):(yN E k s last (t::l)).2=false:=by
 unfold yN;rw [if_pos h]
theorem Kb{E:zw}{k:Int}{s:ASt}{last:Int}{t:Int×List Int}{l:List (Int×List Int)}(h: ¬(t.1≤last∨E.p.N< t.1∨(zk E t.1 t.2).2=false)):yN E k s last (t::l)=yN E k (s.put k t.1 (zk E t.1 t.2).1) t.1 l:=by
 conv=>lhs;unfold yN
 rw [if_neg h]
def IA(X:Nat→Prop)(gA gM nn:Nat)(E:zw)(w:World)(r:ASt×Bool)(e:Ending)(w':World):Prop:=e= .returned (.bool r.2)∧(r.2=true→AvW X gA gM nn E r.1 w'∧yx E r.1)∧zj gA gM w w'
attribute [local go_sem] Oper.semAt_some
theorem MH(E:zw)(st:ASt)(gA gM nn:Nat)(k:Int)(v:Value)(l:List (Int×List Int))(X Y:Nat→Prop)(w:World)(hE:E.ok)(hA:AvW X gA gM nn E st w)(hS:yx E st)(hk:U8 k)(hXA: ¬X gA)(hXM: ¬X gM)(hN: ∀g,w.heap.size≤g→X g)(h:Sl yT Y w v l)(hYA: ¬Y gA)(hYM: ¬Y gM)(hl: ∀t∈l,t.2.length≤100000)(hn:nn+l.length< maxLen):
  Calls Tryz.prog 69 #[.pointer (some ⟨gA,0,none⟩), .int .u8 k,v] w (IA X gA gM (nn+l.length) E w (yN E k st 0 l)):=by
 have HA:=za hA;have HE:=za hE;have HS:=za hS;have HK:=za hk;have H:=za h;have HL:=za hl;have HNN:=za hn;have HX3:Hid (¬X gA∧ ¬X gM∧(∀g,w.heap.size≤g→X g)∧ ¬Y gA∧ ¬Y gM):=za ⟨hXA,hXM,hN,hYA,hYM⟩;have HAM:Hid (gA< w.heap.size∧gM< w.heap.size):=za ⟨hA.ltA,hA.ltM⟩;obtain ⟨A,c,rfl,hc1,hc2⟩:=h.form;obtain ⟨N,hN'⟩: ∃y,y=l.length:=⟨_,rfl⟩;have HNE:=za hN';rw [←hN'] at hc1 H HNN ⊢;obtain ⟨_,_,_,hN1,hN2,_⟩:=zD hE.may;obtain ⟨rr,hrr⟩: ∃y,y=yN E k st 0 l:=⟨_,rfl⟩;have HRR:=za hrr;rw [←hrr];clear hE hS hk hXA hXM hN h hYA hYM hl hn hN' hA hrr;go_enter Tryz.func69,Tryz.ntmps69;go_wp2_with fail;go_loopg [7,14] N (fun g s7 s14 wx=> ∃(j:Nat) (last:Int),j+g=N∧s14= .int .i64 j∧s7= .int .i64 last∧0≤last∧Hid (∃sj,rr=yN E k sj last (l.drop j)∧AvW X gA gM (nn+j) E sj wx∧yx E sj∧zj gA gM w wx))
 case atStart=>exact ⟨0,0,by omega,rfl,rfl,by omega,za ⟨st,by rw [List.drop_zero];exact HRR.out,HA.out,HS.out,zj.refl _ _ _⟩⟩
 case round=>
  obtain ⟨j,last,hj,rfl,rfl,hl0,HX⟩:=hrel;cases gk with
  |zero=>
   obtain rfl:j=N:=by omega
   have HR:Hid (IA X gA gM (nn+j) E w rr (.returned (.bool true)) wr):=za (by
    obtain ⟨sj,h1,h2,h3,h4⟩:=HX.out;rw [List.drop_of_length_le (by rw [←HNE.out];exact Nat.le_refl _)] at h1;have h1:rr=(sj,true):=h1;rw [h1];exact ⟨rfl,fun _=>⟨h2,h3⟩,h4⟩)
   clear HX;go_wp2;go_ret;exact HR.out
  |succ m=>
   have hjn:(j:Int)< (N:Int):=by omega
   have hjN:j< l.length:=by rw [←HNE.out];omega
   obtain ⟨sj,h1,h2,h3,h4⟩:=HX.out;rw [List.drop_eq_getElem_cons hjN] at h1;have HLT:=HL.out _ (List.getElem_mem hjN);obtain ⟨g,o,c',u,e,hgl,hgY,hc0,hcu,Vh,hsu⟩:=(H.out.keep2 h4 HX3.out.2.2.2.1 HX3.out.2.2.2.2).atT hjN;injection e with e1 e2 e3
   subst e1 e3;obtain ⟨t,ht⟩: ∃y,y=l[j]:=⟨_,rfl⟩;rw [←ht] at h1 hc0 Vh hsu HLT;obtain ⟨f,nums⟩:=t;have hc0:wr.cell? ⟨g,o+j*2,none⟩=some (.int .i64 f):=hc0;have Vh:I64 f:=Vh;have hsu:Sl ze Y wr u nums:=hsu;have HSU:=za hsu;obtain ⟨Au,nu,cu,rfl⟩:=hsu.shape;have H1:Hid (rr=yN E k sj last ((f,nums)::l.drop (j+1))):=za h1;have H2:=za h2;have H3:=za h3;have H4:=za h4;have HI:=za Vh;have HLN:=za HLT;obtain ⟨⟨vc,vd,vo,hb,hc,_⟩,_,_⟩:=H2.out;have HG0:Hid (wr.grownBy (wr.alloc (.cells #[.int .i64 f, .slice Au nu cu] 96)) none):=za (gAl wr _ none);have HBP:Hid (Bk (wr.alloc (.cells #[.int .i64 f, .slice Au nu cu] 96)) wr.heap.size 96 #[.int .i64 f, .slice Au nu cu]):=za (Bk.new wr _ _);have HB:=za hb;have HC:=za hc;have hr:=(hb.grown HG0.out (by simp)).rule;have hrp:=HBP.out.rule;obtain ⟨wa,hwa⟩: ∃y,y=wr.alloc (.cells #[.int .i64 f, .slice Au nu cu] 96):=⟨_,rfl⟩;have HWA:=za hwa;rw [←hwa] at HG0 HBP;clear hwa h1 h2 h3 h4 Vh HLT ht hsu hb hc HX e2 hgl hgY hjN;by_cases hbad:f≤last∨E.p.N< f
   ·have HR:Hid (∀n,IA X gA gM (nn+N) E w rr (.returned (.bool false)) (wa.drewN n)):=za (fun n=>by
     have e:=On (E:=E) (k:=k) (s:=sj) (last:=last) (t:=(f,nums)) (l:=l.drop (j+1)) (by rcases hbad with h|h;exact .inl h;exact .inr (.inl h));rw [←H1.out] at e;exact ⟨by rw [e],(fun h=>absurd (e.symm.trans h) (by decide)),H4.out.step (HG0.out.trans (zb wa n))⟩)
    rw [HWA.out] at HR;clear H1 H2 H3 H4;rcases Classical.em (f≤last) with hf|hf
    ·have hd1:decide (f≤last)=true:=by simpa using hf
     clear hbad;go_wp2_with fail;go_quiet (fail);go_wp2_with fail;go_ret;exact HR.out _
    ·have hf2:E.p.N< f:=hbad.resolve_left hf;have hd1:decide (f≤last)=false:=by simpa using hf
     have hd2:decide (f>E.p.N)=true:=by simpa using hf2
     clear hbad;go_wp2_with fail;go_quiet (fail);go_wp2_with fail;go_ret;exact HR.out _
   ·have hf1: ¬f≤last:=fun h=>hbad (.inl h)
    have hf2: ¬E.p.N< f:=fun h=>hbad (.inr h)
    have hd1:decide (f≤last)=false:=by simpa using hf1
    have hd2:decide (f>E.p.N)=false:=by simpa using hf2
    have HFI:Hid (1≤f∧f≤E.p.N):=za ⟨by omega,by omega⟩;have HPT:=za (fun W (hW:wa.grownBy W none)=>Uf E gA gM vc vd vo sj.done f (.slice Au nu cu) nums X Y W HE.out (HB.out.grown (HG0.out.trans hW) (by simp)) (HC.out.kept (HG0.out.trans hW)) (HSU.out.kept (HG0.out.trans hW)) HLN.out HFI.out);go_wp2_with fail;go_quiet (fail);rw [←HWA.out] at hr hrp ⊢;go_wp2_with fail;refine (HPT.out _ (zb _ _)).mono ?_;rintro e w3 ⟨b,rfl,hpt,hg3⟩;have HG3:=za ((zb wa _).trans hg3);cases hok:(zk E f nums).2 with
    |false=>
     have HR:Hid (IA X gA gM (nn+N) E w rr (.returned (.bool false)) w3):=za (by
      have e:=On (E:=E) (k:=k) (s:=sj) (last:=last) (t:=(f,nums)) (l:=l.drop (j+1)) (.inr (.inr hok));rw [←H1.out] at e;exact ⟨by rw [e],(fun h=>absurd (e.symm.trans h) (by decide)),H4.out.step (HG0.out.trans HG3.out)⟩)
     clear hr hrp hpt hg3 hok;go_wp2_with fail;go_ret;exact HR.out
    |true=>
     have HLX:Hid (Xk E.coms.length (zk E f nums).1):=za (VD HE.out hok);have HY1:Hid (rr=yN E k (sj.put k f (zk E f nums).1) f (l.drop (j+1))):=za (by
      rw [H1.out];exact Kb (t:=(f,nums)) (by rw [show (zk E (f,nums).1 (f,nums).2).2=true from hok];have:=HFI.out;simp;omega))
     obtain ⟨x,hx⟩: ∃y,y=(zk E f nums).1:=⟨_,rfl⟩;rw [←hx] at HLX HY1 hpt;have HPX:Hid (zJ X w3 b x):=za (hpt.more fun g _ hg=>HX3.out.2.2.1 g (by have:=H4.out.size;have:=HG0.out.size;have:=(zb wa nq).size;omega));have HRL:Hid (∀w',w3.drew.grownBy w' none→(∀o,w'.cell? ⟨gA,o,none⟩=(zu E vc vd vo gM sj.done)[o]?)∧ ∀o,w'.cell? ⟨wr.heap.size,o,none⟩=(#[.int .i64 f, .slice Au nu cu]:Array Value)[o]?):=za (fun w' hw'=>by
      have hg:=HG3.out.trans ((zb w3 1).trans hw');exact ⟨(HB.out.grown (HG0.out.trans hg) (by simp)).rule,(HBP.out.grown hg (by simp)).rule⟩)
     have HRD:Hid (w3.grownBy w3.drew none):=za (zb w3 1);have hr3:=(HB.out.grown (HG0.out.trans HG3.out) (by simp)).rule;have hrp3:=(HBP.out.grown HG3.out (by simp)).rule;clear hr hrp hpt hg3 hok hx hd1 hd2;go_upto_region 11 with (fail)
     clear hr3 hrp3;refine Zf 9 ?_;refine mP0 (.pointer (some ⟨gA,0,none⟩)) ?_;refine mP1 (.pointer (some ⟨gA,0,none⟩)) 0 45 ?_;refine mP1 (.pointer (some ⟨gA,17,none⟩)) 1 46 ?_;refine mQ1 (.map (some gM)) 2 47 (fun w' hw' K hK=> ?_) ?_
     ·obtain ⟨hc,hcp⟩:=HRL.out w' hw';go_simp;exact hK _ rfl rfl
     refine mP0 (.int .u8 k) ?_;refine mP0 (.pointer (some ⟨wr.heap.size,0,none⟩)) ?_;refine mQ1 (.int .i64 f) 5 50 (fun w' hw' K hK=> ?_) ?_
     ·obtain ⟨hc,hcp⟩:=HRL.out w' hw';go_simp;exact hK _ rfl rfl
     refine mP2 (.agg #[.int .u8 k, .int .i64 f]) 4 49 6 51 ?_;refine mP0 (.pointer (some ⟨b,0,none⟩)) ?_;intro w4 hw4;intro y0 k0 y1 k1 y2 k2 y3 k3 y4 k4 y5 k5 y6 k6 y7 k7 y8 k8;have e3:y3= .map (some gM):=k3;have e7:y7= .agg #[.int .u8 k, .int .i64 f]:=k7;have e8:y8= .pointer (some ⟨b,0,none⟩):=k8;subst e3 e7 e8;have hg4:=HG0.out.trans (HG3.out.trans (HRD.out.trans hw4));have hg34:=HRD.out.trans hw4;obtain ⟨w5,hrun,hh5,hg5⟩:=((H2.out.kept hg4).heard).put (by have:=HNN.out;omega) k f HK.out HI.out (HPX.out.keep hg34 (by simp)) HX3.out.2.1;have HA1:=za ((H2.out.kept hg4).putHeard HX3.out.2.1 hg5 hh5);have HG5:Hid (zj gA gM w w5):=za ((H4.out.step hg4).trans (zj.of hg5 (.inr (.inr rfl))));have HS1:=za (H3.out.put k f HLX.out);unfold plV at hrun;show wpList Tryz.prog _ _ _ _ w4;simp only [Act.put,sAa,sAb,sAc];clear k0 k1 k2 k3 k4 k5 k6 k7 k8 hh5 hg4 hg34 hg5 hw4 HRL HPX HRD HPT HG3 H1 H2 H3 H4;refine wpList_plain rfl fun K hK=> ?_
     go_simp;refine hK _ _ (wpList_nil ?_);clear hrun hK;have HFIN:Hid (∃sj',rr=yN E k sj' f (l.drop (j+1))∧AvW X gA gM (nn+(j+1)) E sj' w5∧yx E sj'∧zj gA gM w w5):=za ⟨_,HY1.out,HA1.out,HS1.out,HG5.out⟩;have hf0:0≤f:=by omega
     clear hbad;go_wp2_with fail;go_roundg m
     case measure=>omega
     case rel=>exact ⟨j+1,f,by omega,by go_num,rfl,hf0,HFIN⟩
end
section
open Go Go.RowKit Go.Shelf Go.Maps
def yo(E:zw)(s:SSt):Option ASt:=
 if (yN E 8 ASt.start 0 s.echos).2=true∧(yN E 9 (yN E 8 ASt.start 0 s.echos).1 0 s.readies).2=true∧(s.done=false∨s.own≠ [])∧(s.deal= []∨(zv E s.deal).2=true)∧(s.own= []∨(zv E s.own).2=true) then
  some {(yN E 9 (yN E 8 ASt.start 0 s.echos).1 0 s.readies).1 with dealt:=if s.deal= [] then none else some (zv E s.deal).1,own:=if s.own= [] then none else some (zv E s.own).1,done:=s.done}
 else none
theorem XI{E:zw}{k:Int}: ∀(l:List (Int×List Int)) (s:ASt) (last:Int),(yN E k s last l).1.dealt=s.dealt∧(yN E k s last l).1.own=s.own∧(yN E k s last l).1.done=s.done
 | [],s,last=>⟨rfl,rfl,rfl⟩
 |t::l,s,last=>by
  unfold yN;split
  ·exact ⟨rfl,rfl,rfl⟩
  ·exact XI l _ _
def QF(E:zw)(s:SSt)(w:World)(e:Ending)(w':World):Prop:=w.grownBy w' none∧(if Xn E=true then match yo E s with
 |some st=> ∃gA gM,e= .returned (.tuple #[.pointer (some ⟨gA,0,none⟩), .int .i64 0])∧w.heap.size≤gA∧w.heap.size≤gM∧AvW (fun g=>w.heap.size≤g∧g≠gA∧g≠gM) gA gM (s.echos.length+s.readies.length) E st w'∧yx E st
 |none=>e= .returned (.tuple #[.pointer none, .int .i64 4])
 else e= .returned (.tuple #[.pointer none, .int .i64 1]))
theorem VR{gA gM:Nat}{w w1 w2:World}(h1:w.grownBy w1 none)(h2:zj gA gM w1 w2)(hA:w.heap.size≤gA)(hM:w.heap.size≤gM):w.grownBy w2 none:=
 ⟨h2.os.trans h1.os,h2.tape.trans h1.tape,h2.output.trans h1.output,Nat.le_trans h1.size h2.size,fun i hi _=>(h2.block i (Nat.lt_of_lt_of_le hi h1.size) (by omega) (by omega)).trans (h1.block i hi (by simp))⟩
theorem Ej(E:zw)(w:World)(cs:Array Value):Bk ((w.alloc (.cells E.p.cells 39)).alloc (.cells cs 82)) w.heap.size 39 E.p.cells∧Bk ((w.alloc (.cells E.p.cells 39)).alloc (.cells cs 82)) (w.heap.size+1) 82 cs∧w.grownBy ((w.alloc (.cells E.p.cells 39)).alloc (.cells cs 82)) none:=by
 refine ⟨(Bk.new w _ _).alloc _, ?_,(gAl w _ none).trans (gAl _ _ none)⟩;have h:=Bk.new (w.alloc (.cells E.p.cells 39)) 82 cs;rw [World.size_alloc] at h;exact h
theorem AvW.setFlag{X:Nat→Prop}{gA gM nn:Nat}{E:zw}{st:ASt}{w:World}(h:AvW X gA gM nn E st w)(dn:Bool)(hX: ¬X gA):AvW X gA gM nn E {st with done:=dn} (w.setCell ⟨gA,18,none⟩ (.bool dn)):=by
 obtain ⟨⟨vc,vd,vo,h1,h2,h3,h4⟩,h5,h6⟩:=h;have hg:=zi w gA 18 (.bool dn);have hne: ∀g,X g→some g≠some gA:=fun g hx e=>by injection e with e;rw [e] at hx;exact hX hx
 exact ⟨⟨vc,vd,vo,h1.set 18 _,h2.keep hg hne,h3.keep hg hne,h4.keep hg hne⟩,h5.keep hg hne (fun e=>by injection e with e;exact h6 e.symm),h6⟩
theorem Bk.keep2{w w':World}{b gA gM:Nat}{t:TypeId}{cs:Array Value}(h:Bk w b t cs)(hg:zj gA gM w w')(hA:b≠gA)(hM:b≠gM):Bk w' b t cs:=by
 obtain ⟨u,k1,k2⟩:=hg.split;exact (h.grown k1 (fun e=>by injection e with e;exact hM e)).grown k2 (fun e=>by injection e with e;exact hA e)
attribute [local go_sem] Oper.semAt_some
theorem Qz(E:zw)(s:SSt)(v:Value)(X:Nat→Prop)(w:World)(hp:E.p.ok)(hd:I64 E.dealer)(hm:I64 E.me)(hs:xT X w v s)(hsd:s.dealer=E.dealer)(hsm:s.me=E.me)(hsc:s.coms=E.coms)(hT:zK w)
  (hle: ∀t∈s.echos,t.2.length≤100000) (hlr: ∀t∈s.readies,t.2.length≤100000) (hld:s.deal.length≤100000) (hlo:s.own.length≤100000) (hn:s.echos.length+s.readies.length< maxLen):
  Calls Tryz.prog 34 #[E.p.v,v] w (QF E s w):=by
 obtain ⟨vc,vd,ve,vr,vo,rfl,s1,s2,s3,s4,s5⟩:=hs;obtain ⟨w0,hw0⟩: ∃y,y=(w.alloc (.cells E.p.cells 39)).alloc (.cells #[.int .i64 s.dealer, .int .i64 s.me,vc,vd,ve,vr,vo, .bool s.done] 82):=⟨_,rfl⟩;obtain ⟨hbp,hbs,hg0⟩:=Ej E w #[.int .i64 s.dealer, .int .i64 s.me,vc,vd,ve,vr,vo, .bool s.done];rw [←hw0] at hbp hbs hg0;rw [hsd,hsm] at hw0 hbs ⊢;rw [hsc] at s1;have HG0:=za hg0;have HBS:=za hbs;have HW0:=za hw0;have HNW:=za (Vl E vc X w0 hp hd hm (s1.kept hg0) (hT.kept hg0));have HP:=za hp;have HSL:Hid (Sl ze X w vd s.deal∧Sl yT X w ve s.echos∧Sl yT X w vr s.readies∧Sl ze X w vo s.own):=za ⟨s2,s3,s4,s5⟩;have HLN:Hid ((∀t∈s.echos,t.2.length≤100000)∧(∀t∈s.readies,t.2.length≤100000)∧s.deal.length≤100000∧s.own.length≤100000∧s.echos.length+s.readies.length< maxLen):=za ⟨hle,hlr,hld,hlo,hn⟩;obtain ⟨Ac,nc,cc,rfl⟩:=s1.shape;obtain ⟨Ad,cd,rfl,_,_⟩:=s2.form;obtain ⟨Ae,ne,ce,rfl⟩:=s3.shape;obtain ⟨Ar,nr,cr,rfl⟩:=s4.shape;obtain ⟨Ao,co,rfl,_,_⟩:=s5.form;have hrp:=hbp.prule;have hrs:=hbs.rule;rw [hw0] at hrp hrs;clear hp hd hm hT hle hlr hld hlo hn s1 s2 s3 s4 s5 hbp hbs hg0 hsd hsm hsc;go_enter Tryz.func34,Tryz.ntmps34;go_wp2_with fail;rw [←HW0.out];refine HNW.out.mono ?_;rintro e w1 ⟨hg1,hnew⟩;have HG1:Hid (w.grownBy w1 none):=za (HG0.out.trans hg1);cases hnb:Xn E with
 |false=>
  rw [hnb] at hnew;have hnew:e= .returned (.tuple #[.pointer none, .int .i64 1]):=hnew;subst hnew;have HR:Hid (QF E s w (.returned (.tuple #[.pointer none, .int .i64 1])) w1):=za ⟨HG1.out,by rw [hnb];rfl⟩;clear hg1 hnb hrp hrs;go_wp2_with fail;go_ret2;exact HR.out
 |true=>
  rw [hnb,if_pos rfl] at hnew;obtain ⟨gA,gM,he,hA,hM,hav⟩:=hnew;subst he;have HE:Hid E.ok:=za (Hq HP.out hnb);have HNB:=za hnb;have HAV:=za hav;have HGA:Hid (w0.heap.size≤gA∧w0.heap.size≤gM∧w.heap.size+2≤w0.heap.size):=za ⟨hA,hM,by have:=HBS.out.lt;omega⟩;have HBS1:=za (HBS.out.grown hg1 (by simp));have HSL1:Hid (∀w',zj gA gM w1 w'→(∀o,w'.cell? ⟨w.heap.size+1,o,none⟩=(#[.int .i64 E.dealer, .int .i64 E.me, .slice Ac nc cc, .slice Ad s.deal.length cd, .slice Ae ne ce, .slice Ar nr cr, .slice Ao s.own.length co, .bool s.done]:Array Value)[o]?)∧Sl ze (fun g=>g< w.heap.size) w' (.slice Ad s.deal.length cd) s.deal∧Sl yT (fun g=>g< w.heap.size) w' (.slice Ae ne ce) s.echos∧Sl yT (fun g=>g< w.heap.size) w' (.slice Ar nr cr) s.readies∧Sl ze (fun g=>g< w.heap.size) w' (.slice Ao s.own.length co) s.own):=za (fun w' hw'=>by
   obtain ⟨a1,a2,a3⟩:=HGA.out;have nA: ¬gA< w.heap.size:=by omega
   have nM: ¬gM< w.heap.size:=by omega
   obtain ⟨t1,t2,t3,t4⟩:=HSL.out;refine ⟨(HBS1.out.keep2 hw' (by omega) (by omega)).rule,((t1.more (Y:=fun g=>g< w.heap.size) fun g h _=>h).kept HG1.out).keep2 hw' nA nM,((t2.more (Y:=fun g=>g< w.heap.size) fun g h _=>h).kept HG1.out).keep2 hw' nA nM,((t3.more (Y:=fun g=>g< w.heap.size) fun g h _=>h).kept HG1.out).keep2 hw' nA nM,((t4.more (Y:=fun g=>g< w.heap.size) fun g h _=>h).kept HG1.out).keep2 hw' nA nM⟩)
  have HBAD:Hid (∀w',yo E s=none→zj gA gM w1 w'→QF E s w (.returned (.tuple #[.pointer none, .int .i64 4])) w'):=za (fun w' hl hw'=>⟨VR HG1.out hw' (by have:=HGA.out;omega) (by have:=HGA.out;omega),by rw [HNB.out,if_pos rfl,hl]⟩);have HGOOD:Hid (∀w' st,yo E s=some st→zj gA gM w1 w'→AvW (fun g=>w0.heap.size≤g∧g≠gA∧g≠gM) gA gM (s.echos.length+s.readies.length) E st w'→yx E st→QF E s w (.returned (.tuple #[.pointer (some ⟨gA,0,none⟩), .int .i64 0])) w'):=za (fun w' st hl hw' h1 h2=>⟨VR HG1.out hw' (by have:=HGA.out;omega) (by have:=HGA.out;omega),by
   rw [HNB.out,if_pos rfl,hl];exact ⟨gA,gM,rfl,by have:=HGA.out;omega,by have:=HGA.out;omega,h1.more fun g _ hg=>⟨by have:=HGA.out;omega,hg.2⟩,h2⟩⟩)
  have HX3:Hid (∀w',zj gA gM w1 w'→ ∀g,w'.heap.size≤g→(w0.heap.size≤g∧g≠gA∧g≠gM)):=za (fun w' hw' g hg=>by have h1:=hw'.size;have h2:=HAV.out.ltA;have h3:=HAV.out.ltM;have h4:=hg1.size;exact ⟨by omega,by omega,by omega⟩);obtain ⟨r1,hr1⟩: ∃y,y=yN E 8 ASt.start 0 s.echos:=⟨_,rfl⟩;have HR1:=za hr1;have HP1:=za (MH E ASt.start gA gM 0 8 (.slice Ae ne ce) s.echos _ (fun g=>g< w.heap.size) w1 HE.out HAV.out (yx.start E) ⟨by decide,by decide⟩ (fun h=>h.2.1 rfl) (fun h=>h.2.2 rfl) (HX3.out w1 (zj.refl _ _ _)) (HSL1.out w1 (zj.refl _ _ _)).2.2.1 (by have:=HGA.out;omega) (by have:=HGA.out;omega) HLN.out.1 (by have:=HLN.out.2.2.2.2;omega));rw [←hr1] at HP1;have hrs1:=(HSL1.out w1 (zj.refl _ _ _)).1;clear hg1 hnb hrp hrs hA hM hav hr1;go_wp2_with fail;refine HP1.out.mono ?_;rintro e w2 ⟨rfl,hok1,hg2⟩;have HG2:=za hg2;have HO1:=za hok1;clear hok1 hg2 hrs1;have hrs2:=(HSL1.out w2 HG2.out).1;cases h1:r1.2 with
  |false=>
   have HB:=za (HBAD.out w2 (by unfold yo;rw [if_neg (fun h=>by rw [←HR1.out,h1] at h;cases h.1)]) HG2.out);clear h1;go_wp2_with fail;go_ret2;exact HB.out
  |true=>
   obtain ⟨hav2,hso2⟩:=HO1.out h1;have HAV2:=za hav2;have HSO2:=za hso2;have HT1:=za h1;obtain ⟨r2,hr2⟩: ∃y,y=yN E 9 r1.1 0 s.readies:=⟨_,rfl⟩;have HR2:Hid (r2=yN E 9 (yN E 8 ASt.start 0 s.echos).1 0 s.readies):=za (by rw [hr2,HR1.out]);have HP2:=za (MH E r1.1 gA gM (0+s.echos.length) 9 (.slice Ar nr cr) s.readies _ (fun g=>g< w.heap.size) w2 HE.out HAV2.out HSO2.out ⟨by decide,by decide⟩ (fun h=>h.2.1 rfl) (fun h=>h.2.2 rfl) (HX3.out w2 HG2.out) (HSL1.out w2 HG2.out).2.2.2.1 (by have:=HGA.out;omega) (by have:=HGA.out;omega) HLN.out.2.1 (by have:=HLN.out.2.2.2.2;omega));rw [←hr2] at HP2;clear hav2 hso2 h1 hr2;go_wp2_with fail;refine HP2.out.mono ?_;rintro e w3 ⟨rfl,hok2,hg3⟩;have HG3:=za (HG2.out.trans hg3);have HO2:=za hok2;clear hok2 hg3 hrs2;have hrs3:=(HSL1.out w3 HG3.out).1;cases h2:r2.2 with
   |false=>
    have HB:=za (HBAD.out w3 (by unfold yo;rw [if_neg (fun h=>by rw [←HR2.out,h2] at h;cases h.2.1)]) HG3.out);clear h2;go_wp2_with fail;go_ret2;exact HB.out
   |true=>
    obtain ⟨hav3,hso3⟩:=HO2.out h2;rw [Nat.zero_add] at hav3;have HAV3:=za hav3;have HSO3:=za hso3;have HKP:Hid (r2.1.dealt=none∧r2.1.own=none∧r2.1.done=false):=za (by
     have e1:=XI (E:=E) (k:=8) s.echos ASt.start 0;have e2:=XI (E:=E) (k:=9) s.readies (yN E 8 ASt.start 0 s.echos).1 0;rw [←HR2.out,e1.1,e1.2.1,e1.2.2] at e2;exact e2)
    have HFST:Hid ((yN E 8 ASt.start 0 s.echos).2=true∧(yN E 9 (yN E 8 ASt.start 0 s.echos).1 0 s.readies).2=true):=za ⟨by rw [←HR1.out];exact HT1.out,by rw [←HR2.out];exact h2⟩;obtain ⟨st3,hst3⟩: ∃y,y=r2.1:=⟨_,rfl⟩;have HST3:Hid (st3=(yN E 9 (yN E 8 ASt.start 0 s.echos).1 0 s.readies).1):=za (by rw [hst3,HR2.out]);rw [←hst3] at HAV3 HSO3 HKP;obtain ⟨dn,hdn⟩: ∃y,y=s.done:=⟨_,rfl⟩;have HDN:=za hdn;obtain ⟨nO,hnO⟩: ∃y,y=s.own.length:=⟨_,rfl⟩;have HNO:=za hnO;obtain ⟨nD,hnD⟩: ∃y,y=s.deal.length:=⟨_,rfl⟩;have HND:=za hnD;rw [←hdn, ←hnO, ←hnD] at HSL1 hrs3;clear hav3 hso3 h2 hst3 hdn hnO hnD HO1 HO2 HP1 HP2 HAV2 HSO2 HAV HSL HT1 HR1 HR2;cases dn with
    |true=>
     rcases Nat.eq_zero_or_pos nO with hno0|hno1
     ·subst hno0;have HB:=za (HBAD.out w3 (by
       unfold yo;rw [if_neg (fun h=> ?_)];rcases h.2.2.1 with h|h
       ·rw [←HDN.out] at h;cases h
       ·exact h (List.eq_nil_of_length_eq_zero HNO.out.symm)) HG3.out)
      go_wp2_with fail;go_ret2;exact HB.out
     ·have hno1':(0:Int)< (nO:Int):=by omega
      have HDO:Hid (s.done=false∨s.own≠ []):=za (.inr (fun e=>by rw [HNO.out,e] at hno1;cases hno1));rcases Nat.eq_zero_or_pos nD with hnd0|hnd1
      ·have HD0:Hid (s.deal= []):=za (List.eq_nil_of_length_eq_zero (by rw [←HND.out];exact hnd0));subst hnd0;have hrs9:=(HSL1.out w3 HG3.out).1;have HONE:Hid (s.own≠ []):=za (fun e=>by rw [HNO.out,e] at hno1;cases hno1);obtain ⟨⟨vc9,vd9,vo9,hb9,hc9,_⟩,_,_⟩:=HAV3.out;have HWO:=za (xv E gA gM vc9 vd9 vo9 _ _ s.own _ _ w3 HE.out hb9 hc9 (HSL1.out w3 HG3.out).2.2.2.2 HLN.out.2.2.2.1);have HB9:=za hb9;clear hb9 hc9;go_wp2_with fail;refine HWO.out.mono ?_;rintro e w7 ⟨b7,rfl,hp7,hg7⟩;have HG7:Hid (zj gA gM w1 w7):=za (HG3.out.step hg7);have hb7:=HB9.out.grown hg7 (by simp);have hc16:w7.cell? ⟨gA,16,none⟩=some vo9:=hb7.cell 16;have hf7:=hb7.free 16;have hg8:=zi w7 gA 16 (.pointer (some ⟨b7,0,none⟩));have HG8:Hid (zj gA gM w1 (w7.setCell ⟨gA,16,none⟩ (.pointer (some ⟨b7,0,none⟩)))):=za (HG7.out.trans (zj.of hg8 (.inr (.inl rfl))));cases hok:(zv E s.own).2 with
       |false=>
        have HB:=za (HBAD.out _ (by
         unfold yo;rw [if_neg (fun h=> ?_)];rcases h.2.2.2.2 with h|h
         ·exact HONE.out h
         ·rw [hok] at h;cases h) HG8.out)
        clear hok hp7 hg7 hb7 hg8;go_wp2_with fail;go_ret2;exact HB.out
       |true=>
        have hpx:=hp7.more (Y:=fun g=>w0.heap.size≤g∧g≠gA∧g≠gM) fun g _ hg=>HX3.out w3 HG3.out g hg
        have HAV8:=za ((HAV3.out.kept hg7).setOwn (fun h=>h.2.1 rfl) hpx);have HLE8:=za (Zg hok);have HSO8:Hid (yx E {st3 with own:=some (zv E s.own).1}):=za ⟨HSO3.out.heard,HSO3.out.dealt,fun y hy=>by injection hy with hy;subst hy;exact HLE8.out⟩;have HOK8:=za hok;obtain ⟨w8,hw8⟩: ∃y,y=w7.setCell ⟨gA,16,none⟩ (.pointer (some ⟨b7,0,none⟩)):=⟨_,rfl⟩;rw [←hw8] at HAV8 HG8;clear hok hp7 hg7 hb7 hg8 hpx hrs9;go_upto_region 9 with (fail)
        rw [←hw8];clear hw8 hc16 hf7;have hrs9:=(HSL1.out w8 HG8.out).1;obtain ⟨⟨vcF,vdF,voF,hbF,_⟩,_,_⟩:=HAV8.out;have hcF:=hbF.cell 18;have hfF:=hbF.free 18;have hgF:=zi w8 gA 18 (.bool true);have HGF:Hid (zj gA gM w1 (w8.setCell ⟨gA,18,none⟩ (.bool true))):=za (HG8.out.trans (zj.of hgF (.inr (.inl rfl))));have HAF:=za (HAV8.out.setFlag true (fun h=>h.2.1 rfl));have HFN:=za (HGOOD.out _ _ (by
         unfold yo;rw [if_pos ⟨HFST.out.1,HFST.out.2,HDO.out, .inl HD0.out, .inr HOK8.out⟩, ←HST3.out, ←HDN.out,if_pos HD0.out,if_neg HONE.out];dsimp only;rw [HKP.out.1]) HGF.out HAF.out ⟨HSO8.out.heard,HSO8.out.dealt,HSO8.out.own⟩)
        clear hbF hgF;simp at hcF;go_wp2_with fail;go_ret2;exact HFN.out
      ·have hnd1':(0:Int)< (nD:Int):=by omega
       have HDNE:Hid (s.deal≠ []):=za (fun e=>by rw [HND.out,e] at hnd1;cases hnd1);obtain ⟨⟨vc4,vd4,vo4,hb4,hc4,_⟩,_,_⟩:=HAV3.out;have HWD:=za (xv E gA gM vc4 vd4 vo4 _ _ s.deal _ _ w3 HE.out hb4 hc4 (HSL1.out w3 HG3.out).2.1 HLN.out.2.2.1);have HB4:=za hb4;clear hb4 hc4;go_wp2_with fail;refine HWD.out.mono ?_;rintro e w5 ⟨b5,rfl,hp5,hg5⟩;have HG5:Hid (zj gA gM w1 w5):=za (HG3.out.step hg5);have hb5:=HB4.out.grown hg5 (by simp);have hc15:w5.cell? ⟨gA,15,none⟩=some vd4:=hb5.cell 15;have hf5:=hb5.free 15;have hg6:=zi w5 gA 15 (.pointer (some ⟨b5,0,none⟩));have HG6:Hid (zj gA gM w1 (w5.setCell ⟨gA,15,none⟩ (.pointer (some ⟨b5,0,none⟩)))):=za (HG5.out.trans (zj.of hg6 (.inr (.inl rfl))));cases hok:(zv E s.deal).2 with
       |false=>
        have HB:=za (HBAD.out _ (by
         unfold yo;rw [if_neg (fun h=> ?_)];rcases h.2.2.2.1 with h|h
         ·exact HDNE.out h
         ·rw [hok] at h;cases h) HG6.out)
        clear hok hp5 hg5 hb5 hg6;go_wp2_with fail;go_ret2;exact HB.out
       |true=>
        have hpx:=hp5.more (Y:=fun g=>w0.heap.size≤g∧g≠gA∧g≠gM) fun g _ hg=>HX3.out w3 HG3.out g hg
        have HAV6:=za ((HAV3.out.kept hg5).setDealt (fun h=>h.2.1 rfl) hpx);have HLE6:=za (Zg hok);have HSO6:Hid (yx E {st3 with dealt:=some (zv E s.deal).1}):=za ⟨HSO3.out.heard,fun y hy=>by injection hy with hy;subst hy;exact HLE6.out,HSO3.out.own⟩;have HOK6:=za hok;obtain ⟨w6,hw6⟩: ∃y,y=w5.setCell ⟨gA,15,none⟩ (.pointer (some ⟨b5,0,none⟩)):=⟨_,rfl⟩;rw [←hw6] at HAV6 HG6;clear hok hp5 hg5 hb5 hg6 hpx hrs3;go_upto_region 7 with (fail)
        rw [←hw6];clear hw6 hc15 hf5;have hrs9:=(HSL1.out w6 HG6.out).1;have HONE:Hid (s.own≠ []):=za (fun e=>by rw [HNO.out,e] at hno1;cases hno1);obtain ⟨⟨vc9,vd9,vo9,hb9,hc9,_⟩,_,_⟩:=HAV6.out;have HWO:=za (xv E gA gM vc9 vd9 vo9 _ _ s.own _ _ w6 HE.out hb9 hc9 (HSL1.out w6 HG6.out).2.2.2.2 HLN.out.2.2.2.1);have HB9:=za hb9;clear hb9 hc9;go_wp2_with fail;refine HWO.out.mono ?_;rintro e w7 ⟨b7,rfl,hp7,hg7⟩;have HG7:Hid (zj gA gM w1 w7):=za (HG6.out.step hg7);have hb7:=HB9.out.grown hg7 (by simp);have hc16:w7.cell? ⟨gA,16,none⟩=some vo9:=hb7.cell 16;have hf7:=hb7.free 16;have hg8:=zi w7 gA 16 (.pointer (some ⟨b7,0,none⟩));have HG8:Hid (zj gA gM w1 (w7.setCell ⟨gA,16,none⟩ (.pointer (some ⟨b7,0,none⟩)))):=za (HG7.out.trans (zj.of hg8 (.inr (.inl rfl))));cases hok:(zv E s.own).2 with
        |false=>
         have HB:=za (HBAD.out _ (by
          unfold yo;rw [if_neg (fun h=> ?_)];rcases h.2.2.2.2 with h|h
          ·exact HONE.out h
          ·rw [hok] at h;cases h) HG8.out)
         clear hok hp7 hg7 hb7 hg8;go_wp2_with fail;go_ret2;exact HB.out
        |true=>
         have hpx:=hp7.more (Y:=fun g=>w0.heap.size≤g∧g≠gA∧g≠gM) fun g _ hg=>HX3.out w6 HG6.out g hg
         have HAV8:=za ((HAV6.out.kept hg7).setOwn (fun h=>h.2.1 rfl) hpx);have HLE8:=za (Zg hok);have HSO8:Hid (yx E {{st3 with dealt:=some (zv E s.deal).1} with own:=some (zv E s.own).1}):=za ⟨HSO6.out.heard,HSO6.out.dealt,fun y hy=>by injection hy with hy;subst hy;exact HLE8.out⟩;have HOK8:=za hok;obtain ⟨w8,hw8⟩: ∃y,y=w7.setCell ⟨gA,16,none⟩ (.pointer (some ⟨b7,0,none⟩)):=⟨_,rfl⟩;rw [←hw8] at HAV8 HG8;clear hok hp7 hg7 hb7 hg8 hpx hrs9;go_upto_region 9 with (fail)
         rw [←hw8];clear hw8 hc16 hf7;have hrs9:=(HSL1.out w8 HG8.out).1;obtain ⟨⟨vcF,vdF,voF,hbF,_⟩,_,_⟩:=HAV8.out;have hcF:=hbF.cell 18;have hfF:=hbF.free 18;have hgF:=zi w8 gA 18 (.bool true);have HGF:Hid (zj gA gM w1 (w8.setCell ⟨gA,18,none⟩ (.bool true))):=za (HG8.out.trans (zj.of hgF (.inr (.inl rfl))));have HAF:=za (HAV8.out.setFlag true (fun h=>h.2.1 rfl));have HFN:=za (HGOOD.out _ _ (by
          unfold yo;rw [if_pos ⟨HFST.out.1,HFST.out.2,HDO.out, .inr HOK6.out, .inr HOK8.out⟩, ←HST3.out, ←HDN.out,if_neg HDNE.out,if_neg HONE.out]) HGF.out HAF.out ⟨HSO8.out.heard,HSO8.out.dealt,HSO8.out.own⟩)
         clear hbF hgF;simp at hcF;go_wp2_with fail;go_ret2;exact HFN.out
    |false=>
     have HDO:Hid (s.done=false∨s.own≠ []):=za (.inl HDN.out.symm);rcases Nat.eq_zero_or_pos nD with hnd0|hnd1
     ·have HD0:Hid (s.deal= []):=za (List.eq_nil_of_length_eq_zero (by rw [←HND.out];exact hnd0));subst hnd0;have hrs9:=(HSL1.out w3 HG3.out).1;rcases Nat.eq_zero_or_pos nO with hno0|hno1
      ·have HO0:Hid (s.own= []):=za (List.eq_nil_of_length_eq_zero (by rw [←HNO.out];exact hno0));subst hno0;obtain ⟨⟨vcF,vdF,voF,hbF,_⟩,_,_⟩:=HAV3.out;have hcF:=hbF.cell 18;have hfF:=hbF.free 18;have hgF:=zi w3 gA 18 (.bool false);have HGF:Hid (zj gA gM w1 (w3.setCell ⟨gA,18,none⟩ (.bool false))):=za (HG3.out.trans (zj.of hgF (.inr (.inl rfl))));have HAF:=za (HAV3.out.setFlag false (fun h=>h.2.1 rfl));have HFN:=za (HGOOD.out _ _ (by
        unfold yo;rw [if_pos ⟨HFST.out.1,HFST.out.2,HDO.out, .inl HD0.out, .inl HO0.out⟩, ←HST3.out, ←HDN.out,if_pos HD0.out,if_pos HO0.out];dsimp only;rw [HKP.out.1,HKP.out.2.1]) HGF.out HAF.out ⟨HSO3.out.heard,HSO3.out.dealt,HSO3.out.own⟩)
       clear hbF hgF;simp at hcF;go_wp2_with fail;go_ret2;exact HFN.out
      ·have hno1':(0:Int)< (nO:Int):=by omega
       have HONE:Hid (s.own≠ []):=za (fun e=>by rw [HNO.out,e] at hno1;cases hno1);obtain ⟨⟨vc9,vd9,vo9,hb9,hc9,_⟩,_,_⟩:=HAV3.out;have HWO:=za (xv E gA gM vc9 vd9 vo9 _ _ s.own _ _ w3 HE.out hb9 hc9 (HSL1.out w3 HG3.out).2.2.2.2 HLN.out.2.2.2.1);have HB9:=za hb9;clear hb9 hc9;go_wp2_with fail;refine HWO.out.mono ?_;rintro e w7 ⟨b7,rfl,hp7,hg7⟩;have HG7:Hid (zj gA gM w1 w7):=za (HG3.out.step hg7);have hb7:=HB9.out.grown hg7 (by simp);have hc16:w7.cell? ⟨gA,16,none⟩=some vo9:=hb7.cell 16;have hf7:=hb7.free 16;have hg8:=zi w7 gA 16 (.pointer (some ⟨b7,0,none⟩));have HG8:Hid (zj gA gM w1 (w7.setCell ⟨gA,16,none⟩ (.pointer (some ⟨b7,0,none⟩)))):=za (HG7.out.trans (zj.of hg8 (.inr (.inl rfl))));cases hok:(zv E s.own).2 with
       |false=>
        have HB:=za (HBAD.out _ (by
         unfold yo;rw [if_neg (fun h=> ?_)];rcases h.2.2.2.2 with h|h
         ·exact HONE.out h
         ·rw [hok] at h;cases h) HG8.out)
        clear hok hp7 hg7 hb7 hg8;go_wp2_with fail;go_ret2;exact HB.out
       |true=>
        have hpx:=hp7.more (Y:=fun g=>w0.heap.size≤g∧g≠gA∧g≠gM) fun g _ hg=>HX3.out w3 HG3.out g hg
        have HAV8:=za ((HAV3.out.kept hg7).setOwn (fun h=>h.2.1 rfl) hpx);have HLE8:=za (Zg hok);have HSO8:Hid (yx E {st3 with own:=some (zv E s.own).1}):=za ⟨HSO3.out.heard,HSO3.out.dealt,fun y hy=>by injection hy with hy;subst hy;exact HLE8.out⟩;have HOK8:=za hok;obtain ⟨w8,hw8⟩: ∃y,y=w7.setCell ⟨gA,16,none⟩ (.pointer (some ⟨b7,0,none⟩)):=⟨_,rfl⟩;rw [←hw8] at HAV8 HG8;clear hok hp7 hg7 hb7 hg8 hpx hrs9;go_upto_region 9 with (fail)
        rw [←hw8];clear hw8 hc16 hf7;have hrs9:=(HSL1.out w8 HG8.out).1;obtain ⟨⟨vcF,vdF,voF,hbF,_⟩,_,_⟩:=HAV8.out;have hcF:=hbF.cell 18;have hfF:=hbF.free 18;have hgF:=zi w8 gA 18 (.bool false);have HGF:Hid (zj gA gM w1 (w8.setCell ⟨gA,18,none⟩ (.bool false))):=za (HG8.out.trans (zj.of hgF (.inr (.inl rfl))));have HAF:=za (HAV8.out.setFlag false (fun h=>h.2.1 rfl));have HFN:=za (HGOOD.out _ _ (by
         unfold yo;rw [if_pos ⟨HFST.out.1,HFST.out.2,HDO.out, .inl HD0.out, .inr HOK8.out⟩, ←HST3.out, ←HDN.out,if_pos HD0.out,if_neg HONE.out];dsimp only;rw [HKP.out.1]) HGF.out HAF.out ⟨HSO8.out.heard,HSO8.out.dealt,HSO8.out.own⟩)
        clear hbF hgF;simp at hcF;go_wp2_with fail;go_ret2;exact HFN.out
     ·have hnd1':(0:Int)< (nD:Int):=by omega
      have HDNE:Hid (s.deal≠ []):=za (fun e=>by rw [HND.out,e] at hnd1;cases hnd1);obtain ⟨⟨vc4,vd4,vo4,hb4,hc4,_⟩,_,_⟩:=HAV3.out;have HWD:=za (xv E gA gM vc4 vd4 vo4 _ _ s.deal _ _ w3 HE.out hb4 hc4 (HSL1.out w3 HG3.out).2.1 HLN.out.2.2.1);have HB4:=za hb4;clear hb4 hc4;go_wp2_with fail;refine HWD.out.mono ?_;rintro e w5 ⟨b5,rfl,hp5,hg5⟩;have HG5:Hid (zj gA gM w1 w5):=za (HG3.out.step hg5);have hb5:=HB4.out.grown hg5 (by simp);have hc15:w5.cell? ⟨gA,15,none⟩=some vd4:=hb5.cell 15;have hf5:=hb5.free 15;have hg6:=zi w5 gA 15 (.pointer (some ⟨b5,0,none⟩));have HG6:Hid (zj gA gM w1 (w5.setCell ⟨gA,15,none⟩ (.pointer (some ⟨b5,0,none⟩)))):=za (HG5.out.trans (zj.of hg6 (.inr (.inl rfl))));cases hok:(zv E s.deal).2 with
      |false=>
       have HB:=za (HBAD.out _ (by
        unfold yo;rw [if_neg (fun h=> ?_)];rcases h.2.2.2.1 with h|h
        ·exact HDNE.out h
        ·rw [hok] at h;cases h) HG6.out)
       clear hok hp5 hg5 hb5 hg6;go_wp2_with fail;go_ret2;exact HB.out
      |true=>
       have hpx:=hp5.more (Y:=fun g=>w0.heap.size≤g∧g≠gA∧g≠gM) fun g _ hg=>HX3.out w3 HG3.out g hg
       have HAV6:=za ((HAV3.out.kept hg5).setDealt (fun h=>h.2.1 rfl) hpx);have HLE6:=za (Zg hok);have HSO6:Hid (yx E {st3 with dealt:=some (zv E s.deal).1}):=za ⟨HSO3.out.heard,fun y hy=>by injection hy with hy;subst hy;exact HLE6.out,HSO3.out.own⟩;have HOK6:=za hok;obtain ⟨w6,hw6⟩: ∃y,y=w5.setCell ⟨gA,15,none⟩ (.pointer (some ⟨b5,0,none⟩)):=⟨_,rfl⟩;rw [←hw6] at HAV6 HG6;clear hok hp5 hg5 hb5 hg6 hpx hrs3;go_upto_region 7 with (fail)
       rw [←hw6];clear hw6 hc15 hf5;have hrs9:=(HSL1.out w6 HG6.out).1;rcases Nat.eq_zero_or_pos nO with hno0|hno1
       ·have HO0:Hid (s.own= []):=za (List.eq_nil_of_length_eq_zero (by rw [←HNO.out];exact hno0));subst hno0;obtain ⟨⟨vcF,vdF,voF,hbF,_⟩,_,_⟩:=HAV6.out;have hcF:=hbF.cell 18;have hfF:=hbF.free 18;have hgF:=zi w6 gA 18 (.bool false);have HGF:Hid (zj gA gM w1 (w6.setCell ⟨gA,18,none⟩ (.bool false))):=za (HG6.out.trans (zj.of hgF (.inr (.inl rfl))));have HAF:=za (HAV6.out.setFlag false (fun h=>h.2.1 rfl));have HFN:=za (HGOOD.out _ _ (by
         unfold yo;rw [if_pos ⟨HFST.out.1,HFST.out.2,HDO.out, .inr HOK6.out, .inl HO0.out⟩, ←HST3.out, ←HDN.out,if_neg HDNE.out,if_pos HO0.out];dsimp only;rw [HKP.out.2.1]) HGF.out HAF.out ⟨HSO6.out.heard,HSO6.out.dealt,HSO6.out.own⟩)
        clear hbF hgF;simp at hcF;go_wp2_with fail;go_ret2;exact HFN.out
       ·have hno1':(0:Int)< (nO:Int):=by omega
        have HONE:Hid (s.own≠ []):=za (fun e=>by rw [HNO.out,e] at hno1;cases hno1);obtain ⟨⟨vc9,vd9,vo9,hb9,hc9,_⟩,_,_⟩:=HAV6.out;have HWO:=za (xv E gA gM vc9 vd9 vo9 _ _ s.own _ _ w6 HE.out hb9 hc9 (HSL1.out w6 HG6.out).2.2.2.2 HLN.out.2.2.2.1);have HB9:=za hb9;clear hb9 hc9;go_wp2_with fail;refine HWO.out.mono ?_;rintro e w7 ⟨b7,rfl,hp7,hg7⟩;have HG7:Hid (zj gA gM w1 w7):=za (HG6.out.step hg7);have hb7:=HB9.out.grown hg7 (by simp);have hc16:w7.cell? ⟨gA,16,none⟩=some vo9:=hb7.cell 16;have hf7:=hb7.free 16;have hg8:=zi w7 gA 16 (.pointer (some ⟨b7,0,none⟩));have HG8:Hid (zj gA gM w1 (w7.setCell ⟨gA,16,none⟩ (.pointer (some ⟨b7,0,none⟩)))):=za (HG7.out.trans (zj.of hg8 (.inr (.inl rfl))));cases hok:(zv E s.own).2 with
        |false=>
         have HB:=za (HBAD.out _ (by
          unfold yo;rw [if_neg (fun h=> ?_)];rcases h.2.2.2.2 with h|h
          ·exact HONE.out h
          ·rw [hok] at h;cases h) HG8.out)
         clear hok hp7 hg7 hb7 hg8;go_wp2_with fail;go_ret2;exact HB.out
        |true=>
         have hpx:=hp7.more (Y:=fun g=>w0.heap.size≤g∧g≠gA∧g≠gM) fun g _ hg=>HX3.out w6 HG6.out g hg
         have HAV8:=za ((HAV6.out.kept hg7).setOwn (fun h=>h.2.1 rfl) hpx);have HLE8:=za (Zg hok);have HSO8:Hid (yx E {{st3 with dealt:=some (zv E s.deal).1} with own:=some (zv E s.own).1}):=za ⟨HSO6.out.heard,HSO6.out.dealt,fun y hy=>by injection hy with hy;subst hy;exact HLE8.out⟩;have HOK8:=za hok;obtain ⟨w8,hw8⟩: ∃y,y=w7.setCell ⟨gA,16,none⟩ (.pointer (some ⟨b7,0,none⟩)):=⟨_,rfl⟩;rw [←hw8] at HAV8 HG8;clear hok hp7 hg7 hb7 hg8 hpx hrs9;go_upto_region 9 with (fail)
         rw [←hw8];clear hw8 hc16 hf7;have hrs9:=(HSL1.out w8 HG8.out).1;obtain ⟨⟨vcF,vdF,voF,hbF,_⟩,_,_⟩:=HAV8.out;have hcF:=hbF.cell 18;have hfF:=hbF.free 18;have hgF:=zi w8 gA 18 (.bool false);have HGF:Hid (zj gA gM w1 (w8.setCell ⟨gA,18,none⟩ (.bool false))):=za (HG8.out.trans (zj.of hgF (.inr (.inl rfl))));have HAF:=za (HAV8.out.setFlag false (fun h=>h.2.1 rfl));have HFN:=za (HGOOD.out _ _ (by
          unfold yo;rw [if_pos ⟨HFST.out.1,HFST.out.2,HDO.out, .inr HOK6.out, .inr HOK8.out⟩, ←HST3.out, ←HDN.out,if_neg HDNE.out,if_neg HONE.out]) HGF.out HAF.out ⟨HSO8.out.heard,HSO8.out.dealt,HSO8.out.own⟩)
         clear hbF hgF;simp at hcF;go_wp2_with fail;go_ret2;exact HFN.out
end
section
open Go Go.RowKit Go.Shelf Go.Maps
def p19:Bool→Par
 |false=>⟨23,11,4,9,4,4,1,1,1,1,1,1⟩
 |true=>⟨23,11,4,9,7,7,2,1,1,1,1,1⟩
theorem xN: ∀two,(p19 two).ok
 |false=>⟨⟨by decide,by decide⟩,⟨by decide,by decide⟩,⟨by decide,by decide⟩,⟨by decide,by decide⟩,⟨by decide,by decide⟩,⟨by decide,by decide⟩,⟨by decide,by decide⟩,⟨by decide,by decide⟩,⟨by decide,by decide⟩,⟨by decide,by decide⟩,⟨by decide,by decide⟩,⟨by decide,by decide⟩⟩
 |true=>⟨⟨by decide,by decide⟩,⟨by decide,by decide⟩,⟨by decide,by decide⟩,⟨by decide,by decide⟩,⟨by decide,by decide⟩,⟨by decide,by decide⟩,⟨by decide,by decide⟩,⟨by decide,by decide⟩,⟨by decide,by decide⟩,⟨by decide,by decide⟩,⟨by decide,by decide⟩,⟨by decide,by decide⟩⟩
attribute [local go_sem] Oper.semAt_some
theorem Vv(two:Bool)(w:World):Calls Tryz.prog 15 #[.bool two] w fun e w'=>e= .returned (p19 two).v∧w.grownBy w' none:=by
 have HB:=za (Bk.new w 39 #[.int .u64 0, .int .u64 0, .int .u64 0, .int .u64 0, .int .i64 0, .int .i64 0, .int .i64 0, .int .i64 0, .int .i64 0, .int .i64 0, .int .i64 0, .int .i64 0]);cases two
 ·go_enter Tryz.func15,Tryz.ntmps15;go_wp2
  first
   |(go_ret;exact ⟨rfl,gRf⟩)
   |exact bodyPost_ret (v:=(p19 false).v) (by simp [results,Tryz.results15,go_sem,p19]) rfl ⟨rfl,(gAl w _ none).trans (gAl _ _ none)⟩
 ·go_enter Tryz.func15,Tryz.ntmps15;go_wp2
  first
   |(go_ret;exact ⟨rfl,gRf⟩)
   |exact bodyPost_ret (v:=(p19 true).v) (by simp [results,Tryz.results15,go_sem,p19]) rfl ⟨rfl,(gAl w _ none).trans (gAl _ _ none)⟩
end
section
open Go Go.RowKit Go.Shelf Go.Maps
attribute [local go_sem] Oper.semAt_some
theorem Ug(v:Value)(l:List (Int×Int))(X:Nat→Prop)(w:World)(h:Sl zo X w v l)(hb:l.length≤100000):
  Calls Tryz.prog 51 #[v] w (zH (zh zo) (fun g=>w.heap.size≤g) w (zN l)):=by
 have H:=za h;have HB:=za hb;obtain ⟨A,c,rfl,hc1,hc2⟩:=h.form;clear h hb;unfold zN;go_enter Tryz.func51,Tryz.ntmps51;go_wp2_with fail;go_loopg [3,4] l.length (fun g s3 s4 wx=> ∃j:Nat,j+g=l.length∧s4= .int .i64 j∧Hid (Acc (zh zo) w.heap.size 72 (fun g=>w.heap.size≤g) wx s3 ((l.take j).map fun x=> [x])∧w.grownBy wx none))
 case atStart=>exact ⟨0,by omega,rfl,za ⟨Acc.nil _ _ _ _ _,gRf⟩⟩
 case round=>
  obtain ⟨j,hj,rfl,HX⟩:=hrel;cases gk with
  |zero=>
   obtain rfl:j=l.length:=by omega
   have HR:Hid (Sl (zh zo) (fun g=>w.heap.size≤g) wr u3 (l.map fun x=> [x])∧w.grownBy wr none):=za ⟨by have:=HX.out.1.sl;rwa [List.take_length] at this,HX.out.2⟩;clear HX;go_wp2;go_ret;exact ⟨_,rfl,HR.out.1,HR.out.2⟩
  |succ m=>
   have hjn:(j:Int)< (l.length:Int):=by omega
   have hjN:j< l.length:=by omega
   obtain ⟨hacc,hg⟩:=HX.out;obtain ⟨g,o,c',e,_,_,hcx0,hcx20,hux⟩:=H.out.atP hjN;injection e with e1 e2 e3
   subst e1 e3;have hcx:wr.cell? ⟨g,o+j*2,none⟩=some (.int .u64 l[j].1):=cell_kept hcx0 hg (by simp);have hcx2:wr.cell? ⟨g,o+j*2+1,none⟩=some (.int .u64 l[j].2):=cell_kept hcx20 hg (by simp);have HSN:Hid ((l.take (j+1)).map (fun x=> [x])=(l.take j).map (fun x=> [x])++ [[l[j]]]):=za (by
    rw [List.take_succ_eq_append_getElem hjN,List.map_append];rfl)
   have HLB:Hid ((((l.take j).map fun x=> [x]).length+1)*24≤140737488355328):=za (by have:=HB.out;simp;omega);have HU:=za hux;clear HX hcx0 hcx20 hux e2;generalize l[j]=y at *;obtain ⟨W,hW⟩: ∃W,W=wr.alloc (.cells #[.int .u64 y.1, .int .u64 y.2] 153):=⟨_,rfl⟩;have hWs:W.heap.size=wr.heap.size+1:=by rw [hW];simp
   obtain ⟨W3,hW3⟩: ∃W3,W3=W.alloc (.cells #[.slice (some ⟨wr.heap.size,0,none⟩) 1 1] 72):=⟨_,rfl⟩;have HG0:Hid (wr.grownBy W3 none):=za (by rw [hW3,hW];exact (gAl wr _ none).trans (gAl _ _ none));have HAC:=za (hacc.kept HG0.out);have HG:=za (hg.trans HG0.out);have HBW:Hid (Bk W3 (wr.heap.size+1) 72 #[.slice (some ⟨wr.heap.size,0,none⟩) 1 1]):=za (by rw [hW3, ←hWs];exact Bk.new W _ _);have HREP:Hid ((zh zo).rep (fun g=>(fun g=>w.heap.size≤g) g∧some g≠u3.ownBlock) W3 [.slice (some ⟨wr.heap.size,0,none⟩) 1 1] [y]):=za ⟨_,rfl,(Dk (X:=fun g=>w.heap.size≤g∧some g≠u3.ownBlock) (t:=153) (w:=W) (by rw [hW];exact Bk.new wr _ _) ⟨hg.size,fun e=>by have:=(hacc.lt _ e.symm).2;omega⟩ HU.out).kept (by rw [hW3];exact gAl _ _ none)⟩;have HOW:Hid (∀g,u3.ownBlock=some g→w.heap.size≤g):=za fun g e=>(hacc.lt g e).1
   clear hacc hg hWs HG0;rw [hW] at hW3;rw [hW3] at HG HAC HREP HBW;clear hW hW3;go_wp2_with (at_builtin;refine wpList_plain rfl fun K hK=> ?_;refine yj (E:=zh zo) (y:= [y]) Yn HAC.out HREP.out (Bk.one HBW.out) HLB.out HG.out.size (fun g hg=>Nat.le_trans HG.out.size hg) (.tmp 11) (.tmp 17) rfl rfl rfl ?_;intro v2 w2 hacc2 hg2 hm2;refine hK _ _ ?_);have HFIN:Hid (Acc (zh zo) w.heap.size 72 (fun g=>w.heap.size≤g) w2 v2 ((l.take (j+1)).map fun x=> [x])∧w.grownBy w2 none):=za ⟨by rw [HSN.out];simpa using hacc2,HG.out.andThen hg2 (fun g e=> .inl (HOW.out g e))⟩;clear hacc2 hg2 hm2 HG HAC HREP HBW HOW hK;go_wp2_with fail;go_roundg m
   case measure=>omega
   case rel=>exact ⟨j+1,by omega,by go_num,HFIN⟩
theorem RG(v1 v2:Value)(l:List (Int×Int))(X Y:Nat→Prop)(w:World)(h:Sl zo X w v1 l)(h2:Sl zo Y w v2 l)(hb:l.length≤100000):
  Calls Tryz.prog 32 #[v1,v2] w fun e w'=>e= .returned (.bool true)∧w.grownBy w' none:=by
 have H1:=za h;have H2:=za h2;obtain ⟨A,c,rfl,_,_⟩:=h.form;obtain ⟨A',c',rfl,_,_⟩:=h2.form;clear h h2;go_enter Tryz.func32,Tryz.ntmps32;go_wp2_with fail;go_loopg [5] l.length (fun g s5 wx=> ∃j:Nat,j+g=l.length∧s5= .int .i64 j∧Hid (w.grownBy wx none))
 case atStart=>exact ⟨0,by omega,rfl,za gRf⟩
 case round=>
  obtain ⟨j,hj,rfl,HX⟩:=hrel;cases gk with
  |zero=>
   obtain rfl:j=l.length:=by omega
   go_wp2;go_ret;exact ⟨rfl,HX.out⟩
  |succ m=>
   have hjn:(j:Int)< (l.length:Int):=by omega
   have hjN:j< l.length:=by omega
   obtain ⟨g,o,_,e,_,_,hcx,hcx2,hux⟩:=(H1.out.kept HX.out).atP hjN;injection e with e1 e2 e3
   subst e1 e3;obtain ⟨g',o',_,e',_,_,hdx,hdx2,_⟩:=(H2.out.kept HX.out).atP hjN;injection e' with e1' e2' e3'
   subst e1' e3';have HFIN:Hid (∀n,w.grownBy (wr.drewN n) none):=za (fun n=>HX.out.trans (zb wr n));clear HX e2 e2' hux;generalize l[j]=y at *;go_wp2_with fail;go_quiet (fail);go_wp2_with fail;go_roundg m
   case measure=>omega
   case rel=>exact ⟨j+1,by omega,by go_num,za (HFIN.out _)⟩
def QQ(k who:Int)(l:List yL):List Int×Nat:=l.foldl (fun s x=>if x.1=k∧x.2.1=who then (x.2.2,s.2+1) else s) ([],0)
def toI(k who:Int)(l:List yL):List Int:=if (QQ k who l).2=1 then (QQ k who l).1 else []
theorem Rg(k who:Int)(l:List yL){i:Nat}(hi:i< l.length):QQ k who (l.take (i+1))=if l[i].1=k∧l[i].2.1=who then (l[i].2.2,(QQ k who (l.take i)).2+1) else QQ k who (l.take i):=by
 unfold QQ;rw [List.take_succ_eq_append_getElem hi,List.foldl_append];rfl
theorem Mn(k who:Int)(l:List yL): ∀i,i≤l.length→(QQ k who (l.take i)).2≤i
 |0,_=>Nat.le_refl _
 |i+1,h=>by
  rw [Rg k who l (by omega)]
  have:=Mn k who l i (by omega)
  split
  ·dsimp only;omega
  ·omega
theorem YO(v:Value)(l:List yL)(k who:Int)(X:Nat→Prop)(w:World)(h:Sl YC X w v l)(hb:l.length≤100000):
  Calls Tryz.prog 37 #[v, .int .u8 k, .int .i64 who] w fun e w'=> ∃v',e= .returned v'∧w'=w∧Sl ze X w v' (toI k who l):=by
 have H:=za h;obtain ⟨A,c,rfl,_,_⟩:=h.form;clear h;go_enter Tryz.func37,Tryz.ntmps37;go_wp2_with fail;go_loopg [7,8,9] l.length (fun g s7 s8 s9 wx=> ∃i n:Nat,i+g=l.length∧s9= .int .i64 i∧s8= .int .i64 n∧Hid (wx=w∧n=(QQ k who (l.take i)).2∧Sl ze X w s7 (QQ k who (l.take i)).1))
 case atStart=>exact ⟨0,0,by omega,rfl,rfl,za ⟨rfl,rfl,Sl.nil _ _ _⟩⟩
 case round=>
  obtain ⟨i,n,hi,rfl,rfl,HX⟩:=hrel;obtain rfl:w=wr:=HX.out.1.symm;cases gk with
  |zero=>
   obtain rfl:i=l.length:=by omega
   have h2:=HX.out.2;rw [List.take_length] at h2;by_cases hn:n=1
   ·have HR:Hid (Sl ze X w u7 (toI k who l)):=za (by unfold toI;rw [if_pos (by rw [←h2.1];exact hn)];exact h2.2);subst hn;clear HX h2;go_wp2;go_ret;exact ⟨_,rfl,rfl,HR.out⟩
   ·have HR:Hid (Sl ze X w (.slice none 0 0) (toI k who l)):=za (by unfold toI;rw [if_neg (by rw [←h2.1];exact hn)];exact Sl.nil _ _ _);have hd:((n:Int)==1)=false:=by
     have: ¬(n:Int)=1:=by omega
     simpa using this
    clear HX h2;go_wp2;go_ret;exact ⟨_,rfl,rfl,HR.out⟩
  |succ m=>
   have hjn:(i:Int)< (l.length:Int):=by omega
   have hjN:i< l.length:=by omega
   obtain ⟨g,o,_,u,e,_,_,⟨hc0,hc1,hc2⟩,hu8,Vh,hsu⟩:=H.out.atO hjN;injection e with e1 e2 e3
   subst e1 e3;have HN:=za (Rg k who l hjN);have HLE:=za (Mn k who l i (by omega));have hn9:(n:Int)+1≤9223372036854775807:=by have:=HX.out.2.1;have:=HLE.out;omega
   have HSU:=za hsu;obtain ⟨Au,nu,cu,rfl⟩:=hsu.shape;obtain ⟨y,hy⟩: ∃y,y=l[i]:=⟨_,rfl⟩;rw [←hy] at hc0 hc1 HN HSU;clear hsu hu8 Vh e2 hy;by_cases hk:y.1=k
   ·by_cases hw:y.2.1=who
    ·have HFIN:Hid (w=w∧n+1=(QQ k who (l.take (i+1))).2∧Sl ze X w (.slice Au nu cu) (QQ k who (l.take (i+1))).1):=za (by
      rw [HN.out,if_pos ⟨hk,hw⟩];exact ⟨rfl,by rw [HX.out.2.1],HSU.out⟩)
     have hd1:(y.1==k)=true:=by simpa using hk
     have hd2:(y.2.1==who)=true:=by simpa using hw
     clear HX;go_wp2_with fail;go_roundg m
     case measure=>omega
     case rel=>exact ⟨i+1,n+1,by omega,by go_num,by go_num,za ⟨rfl,HFIN.out.2⟩⟩
    ·have HFIN:Hid (w=w∧n=(QQ k who (l.take (i+1))).2∧Sl ze X w u7 (QQ k who (l.take (i+1))).1):=za (by
      rw [HN.out,if_neg (fun h=>hw h.2)];exact HX.out)
     have hd1:(y.1==k)=true:=by simpa using hk
     have hd2:(y.2.1==who)=false:=by simpa using hw
     clear HX;go_wp2_with fail;go_roundg m
     case measure=>omega
     case rel=>exact ⟨i+1,n,by omega,by go_num,rfl,za ⟨rfl,HFIN.out.2⟩⟩
   ·have HFIN:Hid (w=w∧n=(QQ k who (l.take (i+1))).2∧Sl ze X w u7 (QQ k who (l.take (i+1))).1):=za (by
     rw [HN.out,if_neg (fun h=>hk h.1)];exact HX.out)
    have hd1:(y.1==k)=false:=by simpa using hk
    clear HX;go_wp2_with fail;go_roundg m
    case measure=>omega
    case rel=>exact ⟨i+1,n,by omega,by go_num,rfl,za ⟨rfl,HFIN.out.2⟩⟩
end
end Go.Proofs.YtkdfjkdphdfclaaGreatDoor

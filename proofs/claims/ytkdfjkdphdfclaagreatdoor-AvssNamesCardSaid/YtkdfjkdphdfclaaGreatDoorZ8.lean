/- Proves for the statement AvssNamesCardSaid, under no other condition than the statement's own, that the card avssNames holds of the program. Part 8. -/
import Derived.Test.YtkdfjkdphdfclaaGreatDoorZ7
set_option maxRecDepth 100000
set_option maxHeartbeats 16000000
set_option linter.unusedVariables false
set_option linter.unusedSimpArgs false
namespace Go.Proofs.YtkdfjkdphdfclaaGreatDoor
section
open Go Go.RowKit Go.Shelf Go.Maps
attribute [local go_sem] Oper.semAt_some
theorem zJ.kept{X:Nat→Prop}{W W':World}{b:Nat}{x:zL}(h:zJ X W b x)(hg:W.grownBy W' none):zJ X W' b x:=h.keep hg (fun _ _=>by simp)
theorem xv(E:zw)(gA gM:Nat)(vc vd vo:Value)(dn:Bool)(v:Value)(l:List Int)(X Y:Nat→Prop)(w:World)(hE:E.ok)(hb:Bk w gA 125 (zu E vc vd vo gM dn))(hc:Sl (zh ze) X w vc E.coms)(h:Sl ze Y w v l)(hl:l.length≤100000):
  Calls Tryz.prog 52 #[.pointer (some ⟨gA,0,none⟩),v] w (Xl w (zv E l).1 (zv E l).2):=by
 obtain ⟨Al,nl,cl,rfl⟩:=h.shape;have HE:=za hE;have HB:=za hb;obtain ⟨_,_,_,hN1,hN2,_,hT1,hT2,_⟩:=zD hE.may;have hde:=hE.me;have hwT:IntKind.i64.wrap (E.p.T+1)=E.p.T+1:=IntWalk.i64_in _ (by omega);have HO:=za (Qx E gA gM vc vd vo dn (.slice Al nl cl) l (E.p.T+1) X Y w hE hb hc h hl ⟨by omega,by omega⟩);have hr:=hb.rule;have HD:Hid (U64 E.me):=za ⟨by omega,by omega⟩;have eD:IntKind.u64.wrap E.me=E.me:=IntWalk.u64_in _ (by omega);have HW1:Hid ((zv E l).1=(zI E l (E.p.T+1)).1):=za rfl;have HSH:Hid ((zI E l (E.p.T+1)).2=true→UZ (ZU E.p).toNat (E.p.T+1).toNat (E.p.T+1).toNat (zI E l (E.p.T+1)).1∧(ZU E.p).toNat≤10∧(E.p.T+1).toNat≤3):=za (fun h=>by
  have h0:Tn E.p l.length (E.p.T+1)=0:=by
   simp only [zI,Bool.and_eq_true,decide_eq_true_eq] at h;exact h.1
  obtain ⟨a,_,_,b,c,_⟩:=Xx h0;exact ⟨a,b,c⟩)
 have HW2:Hid ((zv E l).2=((zI E l (E.p.T+1)).2 && Zj E.p (zI E l (E.p.T+1)).1.a (zT E.p (zI E l (E.p.T+1)).1.m E.me) && Zj E.p (zI E l (E.p.T+1)).1.b (xy E.p (zI E l (E.p.T+1)).1.m E.me))):=za rfl;rw [HW1.out,HW2.out];clear hE hc hb h hl hN1 hN2 hT1 hT2 hde HW1 HW2;obtain ⟨x,hx⟩: ∃x,x=(zI E l (E.p.T+1)).1:=⟨_,rfl⟩;obtain ⟨ok,hok⟩: ∃ok,ok=(zI E l (E.p.T+1)).2:=⟨_,rfl⟩;rw [←hx, ←hok] at HO HSH;rw [←hx, ←hok];clear hx hok;cases ok with
 |false=>
  clear HSH;rw [Bool.false_and,Bool.false_and];go_enter Tryz.func52,Tryz.ntmps52;go_wp2_with fail;refine HO.out.mono ?_;rintro e w1 ⟨b,rfl,hp1,hg1⟩;have HG:Hid (w.grownBy w1 none):=za hg1;have HP:=za hp1;have hr1:=(HB.out.grown hg1 (by simp)).rule;clear hg1 hp1 hr HO;go_wp2_with fail;have HG2:Hid (w.grownBy w1.drew none):=za (HG.out.trans (zb w1 1));have HP2:Hid (zJ (fun g=>w.heap.size≤g) w1.drew b x):=za (HP.out.kept (zb w1 1));have HRL:Hid (∀w',w1.drew.grownBy w' none→ ∀o,w'.cell? ⟨gA,o,none⟩=(zu E vc vd vo gM dn)[o]?):=za (fun w' hw=>(HB.out.grown (HG2.out.trans hw) (by simp)).rule);obtain ⟨vm,va,vb,hXb,hkb,s1,s2,s3⟩:=HP2.out;obtain ⟨Am,nm,cm,rfl⟩:=s1.shape;obtain ⟨Aa,na,ca,rfl⟩:=s2.shape;obtain ⟨Ab,nb,cb,rfl⟩:=s3.shape;have HKB:Hid (∀w',w1.drew.grownBy w' none→ ∀o,w'.cell? ⟨b,o,none⟩=(#[.slice Am nm cm, .slice Aa na ca, .slice Ab nb cb]:Array Value)[o]?):=za (fun w' hw=>(hkb.grown hw (by simp)).rule);have HS1:=za s1;have HS2:=za s2;have HS3:=za s3;clear s1 s2 s3 hkb hXb HP HG hr1;refine Zf 36 ?_;refine mP0 (.pointer (some ⟨b,0,none⟩)) ?_;refine mP0 (.bool false) ?_;refine mP1 (.bool false) 1 27 ?_;refine mS (undef) [(2,28)] (fun w' hw'=>pQ (zc rfl rfl rfl)) ?_;refine mS (undef) [(2,28),(3,29)] (fun w' hw'=>pQ (pQ (zc rfl rfl rfl))) ?_;refine mS (undef) [(2,28),(4,30)] (fun w' hw'=>pQ (pQ (zc rfl rfl rfl))) ?_;refine mS (undef) [(2,28),(5,31)] (fun w' hw'=>pQ (pQ (zc rfl rfl rfl))) ?_;refine mS (undef) [(2,28)] (fun w' hw'=>pQ (zc rfl rfl rfl)) ?_;refine mS (undef) [(2,28),(7,33)] (fun w' hw'=>pQ (pQ (zc rfl rfl rfl))) ?_
  refine mS (undef) [(2,28),(8,34)] (fun w' hw'=>pQ (pQ (zc rfl rfl rfl))) ?_;refine mS (undef) [(2,28),(9,35)] (fun w' hw'=>pQ (pQ (zc rfl rfl rfl))) ?_;refine mS (undef) [(2,28)] (fun w' hw'=>pQ (zc rfl rfl rfl)) ?_;refine mS (undef) [(2,28)] (fun w' hw'=>pQ (zc rfl rfl rfl)) ?_;refine mS (undef) [(2,28),(12,38)] (fun w' hw'=>pQ (pQ (zc rfl rfl rfl))) ?_;refine mS (undef) [(2,28),(13,39)] (fun w' hw'=>pQ (pQ (zc rfl rfl rfl))) ?_;refine mS (undef) [(2,28),(14,40)] (fun w' hw'=>pQ (pQ (zc rfl rfl rfl))) ?_;refine mS (undef) [(2,28),(6,32),(10,36),(11,37),(15,41)] (fun w' hw'=>pQ (pQ (pQ (pQ (pQ (zc rfl rfl rfl)))))) ?_;refine mP2 (.bool false) 2 28 16 42 ?_;refine mP1 (.bool false) 17 43 ?_;refine mS (undef) [(18,44)] (fun w' hw'=>pQ (zc rfl rfl rfl)) ?_;refine mS (undef) [(18,44),(19,45)] (fun w' hw'=>pQ (pQ (zc rfl rfl rfl))) ?_;refine mS (undef) [(18,44),(20,46)] (fun w' hw'=>pQ (pQ (zc rfl rfl rfl))) ?_;refine mS (undef) [(18,44),(21,47)] (fun w' hw'=>pQ (pQ (zc rfl rfl rfl))) ?_;refine mS (undef) [(18,44)] (fun w' hw'=>pQ (zc rfl rfl rfl)) ?_;refine mS (undef) [(18,44),(23,49)] (fun w' hw'=>pQ (pQ (zc rfl rfl rfl))) ?_;refine mS (undef) [(18,44),(24,50)] (fun w' hw'=>pQ (pQ (zc rfl rfl rfl))) ?_;refine mS (undef) [(18,44),(25,51)] (fun w' hw'=>pQ (pQ (zc rfl rfl rfl))) ?_;refine mS (undef) [(18,44)] (fun w' hw'=>pQ (zc rfl rfl rfl)) ?_;refine mS (undef) [(18,44)] (fun w' hw'=>pQ (zc rfl rfl rfl)) ?_;refine mS (undef) [(18,44),(28,54)] (fun w' hw'=>pQ (pQ (zc rfl rfl rfl))) ?_
  refine mS (undef) [(18,44),(29,55)] (fun w' hw'=>pQ (pQ (zc rfl rfl rfl))) ?_;refine mS (undef) [(18,44),(30,56)] (fun w' hw'=>pQ (pQ (zc rfl rfl rfl))) ?_;refine mS (undef) [(18,44),(22,48),(26,52),(27,53),(31,57)] (fun w' hw'=>pQ (pQ (pQ (pQ (pQ (zc rfl rfl rfl)))))) ?_;refine mP2 (.bool false) 18 44 32 58 ?_;refine mP1 (.pointer (some ⟨b,0,none⟩)) 0 26 ?_;refine mP1 (.bool false) 33 59 ?_;intro w3 hw3
  iterate 34 (refine pD ?_;intro _)
  intro y34 k34 y35 k35;have e34:y34= .pointer (some ⟨b,0,none⟩):=k34;have e35:y35= .bool false:=k35;subst e34 e35;have HF:Hid (zJ (fun g=>w.heap.size≤g) w3 b x∧w.grownBy w3 none):=za ⟨HP2.out.kept hw3,HG2.out.trans hw3⟩;clear k34 k35 hw3;refine wpList_nil ?_;simp only [Act.put,sAa,sAb,sAc];go_wp2_with fail;go_ret2;exact ⟨b,rfl,HF.out.1,HF.out.2⟩
 |true=>
  have HL:Hid (x.m.length≤100000∧(∀l∈x.m,l.length≤100000∧ ∀c∈l,c.length≤100000)∧x.a.length≤1000∧(∀c∈x.a,c.length≤1000)∧x.b.length≤1000∧ ∀c∈x.b,c.length≤1000):=za (by
   obtain ⟨⟨m,a,b⟩,h1,h2⟩:=HSH.out rfl;exact ⟨by rw [m.1];omega,fun f hf=>⟨by rw [(m.2 f hf).1];omega,fun r hr=>by rw [(m.2 f hf).2 r hr];omega⟩,by rw [a.1];omega,fun c hc=>by rw [a.2 c hc];omega,by rw [b.1];omega,fun c hc=>by rw [b.2 c hc];omega⟩)
  clear HSH;obtain ⟨rb,hrb⟩: ∃rb,rb=Zj E.p x.a (zT E.p x.m E.me):=⟨_,rfl⟩;obtain ⟨cb2,hcb⟩: ∃cb,cb=Zj E.p x.b (xy E.p x.m E.me):=⟨_,rfl⟩;rw [←hrb, ←hcb];have HRB:=za hrb.symm;have HCB:=za hcb.symm;clear hrb hcb;cases rb with
  |false=>
   rw [Bool.true_and,Bool.false_and];go_enter Tryz.func52,Tryz.ntmps52;go_wp2_with fail;refine HO.out.mono ?_;rintro e w1 ⟨b,rfl,hp1,hg1⟩;have HG:Hid (w.grownBy w1 none):=za hg1;have HP:=za hp1;have hr1:=(HB.out.grown hg1 (by simp)).rule;clear hg1 hp1 hr HO;go_wp2_with fail;have HG2:Hid (w.grownBy w1.drew none):=za (HG.out.trans (zb w1 1));have HP2:Hid (zJ (fun g=>w.heap.size≤g) w1.drew b x):=za (HP.out.kept (zb w1 1));have HRL:Hid (∀w',w1.drew.grownBy w' none→ ∀o,w'.cell? ⟨gA,o,none⟩=(zu E vc vd vo gM dn)[o]?):=za (fun w' hw=>(HB.out.grown (HG2.out.trans hw) (by simp)).rule);obtain ⟨vm,va,vb,hXb,hkb,s1,s2,s3⟩:=HP2.out;obtain ⟨Am,nm,cm,rfl⟩:=s1.shape;obtain ⟨Aa,na,ca,rfl⟩:=s2.shape;obtain ⟨Ab,nb,cb,rfl⟩:=s3.shape;have HKB:Hid (∀w',w1.drew.grownBy w' none→ ∀o,w'.cell? ⟨b,o,none⟩=(#[.slice Am nm cm, .slice Aa na ca, .slice Ab nb cb]:Array Value)[o]?):=za (fun w' hw=>(hkb.grown hw (by simp)).rule);have HS1:=za s1;have HS2:=za s2;have HS3:=za s3;clear s1 s2 s3 hkb hXb HP HG hr1;refine Zf 36 ?_;refine mP0 (.pointer (some ⟨b,0,none⟩)) ?_;refine mP0 (.bool true) ?_;refine mP1 (.bool true) 1 27 ?_;refine Zh (.pointer (some ⟨gA,0,none⟩)) 2 28 ?_;refine yI (.pointer (some ⟨gA,0,none⟩)) 2 28 3 29 ?_;refine yI (.pointer (some ⟨gA,0,none⟩)) 2 28 4 30 ?_;refine Yq (E.p.v) 2 28 5 31 (fun w' hw' K hK=> ?_) ?_
   ·have hc1:=HRL.out w' hw';have hc2:=HKB.out w' hw';go_simp;exact hK _ rfl rfl
   refine Zh (.pointer (some ⟨b,0,none⟩)) 2 28 ?_;refine yI (.pointer (some ⟨b,0,none⟩)) 2 28 7 33 ?_;refine yI (.pointer (some ⟨b,0,none⟩)) 2 28 8 34 ?_;refine Yq (.slice Am nm cm) 2 28 9 35 (fun w' hw' K hK=> ?_) ?_
   ·have hc1:=HRL.out w' hw';have hc2:=HKB.out w' hw';go_simp;exact hK _ rfl rfl
   refine Zh (.int .u64 E.me) 2 28 ?_;refine Zh (.pointer (some ⟨b,0,none⟩)) 2 28 ?_;refine yI (.pointer (some ⟨b,0,none⟩)) 2 28 12 38 ?_;refine yI (.pointer (some ⟨b,1,none⟩)) 2 28 13 39 ?_;refine Yq (.slice Aa na ca) 2 28 14 40 (fun w' hw' K hK=> ?_) ?_
   ·have hc1:=HRL.out w' hw';have hc2:=HKB.out w' hw';go_simp;exact hK _ rfl rfl
   refine Fv (Pv.eq (.bool false)) 2 28 6 32 10 36 11 37 15 41 (fun w' hw' K hK=> ?_) ?_
   ·go_simp;refine (XV E.p _ _ x.m E.me x.a _ _ w' HE.out.p (HS1.out.kept hw') HD.out (HS2.out.kept hw') HL.out.1 HL.out.2.1 HL.out.2.2.1 HL.out.2.2.2.1).mono ?_;rintro e w3 ⟨rfl,hg⟩;rw [HRB.out];exact hK _ _ rfl rfl hg
   refine mP2 (.bool false) 2 28 16 42 ?_;refine mP1 (.bool false) 17 43 ?_;refine mS (undef) [(18,44)] (fun w' hw'=>pQ (zc rfl rfl rfl)) ?_;refine mS (undef) [(18,44),(19,45)] (fun w' hw'=>pQ (pQ (zc rfl rfl rfl))) ?_;refine mS (undef) [(18,44),(20,46)] (fun w' hw'=>pQ (pQ (zc rfl rfl rfl))) ?_;refine mS (undef) [(18,44),(21,47)] (fun w' hw'=>pQ (pQ (zc rfl rfl rfl))) ?_;refine mS (undef) [(18,44)] (fun w' hw'=>pQ (zc rfl rfl rfl)) ?_;refine mS (undef) [(18,44),(23,49)] (fun w' hw'=>pQ (pQ (zc rfl rfl rfl))) ?_;refine mS (undef) [(18,44),(24,50)] (fun w' hw'=>pQ (pQ (zc rfl rfl rfl))) ?_;refine mS (undef) [(18,44),(25,51)] (fun w' hw'=>pQ (pQ (zc rfl rfl rfl))) ?_;refine mS (undef) [(18,44)] (fun w' hw'=>pQ (zc rfl rfl rfl)) ?_;refine mS (undef) [(18,44)] (fun w' hw'=>pQ (zc rfl rfl rfl)) ?_;refine mS (undef) [(18,44),(28,54)] (fun w' hw'=>pQ (pQ (zc rfl rfl rfl))) ?_;refine mS (undef) [(18,44),(29,55)] (fun w' hw'=>pQ (pQ (zc rfl rfl rfl))) ?_;refine mS (undef) [(18,44),(30,56)] (fun w' hw'=>pQ (pQ (zc rfl rfl rfl))) ?_;refine mS (undef) [(18,44),(22,48),(26,52),(27,53),(31,57)] (fun w' hw'=>pQ (pQ (pQ (pQ (pQ (zc rfl rfl rfl)))))) ?_;refine mP2 (.bool false) 18 44 32 58 ?_;refine mP1 (.pointer (some ⟨b,0,none⟩)) 0 26 ?_;refine mP1 (.bool false) 33 59 ?_;intro w3 hw3
   iterate 34 (refine pD ?_;intro _)
   intro y34 k34 y35 k35;have e34:y34= .pointer (some ⟨b,0,none⟩):=k34;have e35:y35= .bool false:=k35;subst e34 e35;have HF:Hid (zJ (fun g=>w.heap.size≤g) w3 b x∧w.grownBy w3 none):=za ⟨HP2.out.kept hw3,HG2.out.trans hw3⟩;clear k34 k35 hw3;refine wpList_nil ?_;simp only [Act.put,sAa,sAb,sAc];go_wp2_with fail;go_ret2;exact ⟨b,rfl,HF.out.1,HF.out.2⟩
  |true=>
   rw [Bool.true_and,Bool.true_and];go_enter Tryz.func52,Tryz.ntmps52;go_wp2_with fail;refine HO.out.mono ?_;rintro e w1 ⟨b,rfl,hp1,hg1⟩;have HG:Hid (w.grownBy w1 none):=za hg1;have HP:=za hp1;have hr1:=(HB.out.grown hg1 (by simp)).rule;clear hg1 hp1 hr HO;go_wp2_with fail;have HG2:Hid (w.grownBy w1.drew none):=za (HG.out.trans (zb w1 1));have HP2:Hid (zJ (fun g=>w.heap.size≤g) w1.drew b x):=za (HP.out.kept (zb w1 1));have HRL:Hid (∀w',w1.drew.grownBy w' none→ ∀o,w'.cell? ⟨gA,o,none⟩=(zu E vc vd vo gM dn)[o]?):=za (fun w' hw=>(HB.out.grown (HG2.out.trans hw) (by simp)).rule);obtain ⟨vm,va,vb,hXb,hkb,s1,s2,s3⟩:=HP2.out;obtain ⟨Am,nm,cm,rfl⟩:=s1.shape;obtain ⟨Aa,na,ca,rfl⟩:=s2.shape;obtain ⟨Ab,nb,cb,rfl⟩:=s3.shape;have HKB:Hid (∀w',w1.drew.grownBy w' none→ ∀o,w'.cell? ⟨b,o,none⟩=(#[.slice Am nm cm, .slice Aa na ca, .slice Ab nb cb]:Array Value)[o]?):=za (fun w' hw=>(hkb.grown hw (by simp)).rule);have HS1:=za s1;have HS2:=za s2;have HS3:=za s3;clear s1 s2 s3 hkb hXb HP HG hr1;refine Zf 36 ?_;refine mP0 (.pointer (some ⟨b,0,none⟩)) ?_;refine mP0 (.bool true) ?_;refine mP1 (.bool true) 1 27 ?_;refine Zh (.pointer (some ⟨gA,0,none⟩)) 2 28 ?_;refine yI (.pointer (some ⟨gA,0,none⟩)) 2 28 3 29 ?_;refine yI (.pointer (some ⟨gA,0,none⟩)) 2 28 4 30 ?_;refine Yq (E.p.v) 2 28 5 31 (fun w' hw' K hK=> ?_) ?_
   ·have hc1:=HRL.out w' hw';have hc2:=HKB.out w' hw';go_simp;exact hK _ rfl rfl
   refine Zh (.pointer (some ⟨b,0,none⟩)) 2 28 ?_;refine yI (.pointer (some ⟨b,0,none⟩)) 2 28 7 33 ?_;refine yI (.pointer (some ⟨b,0,none⟩)) 2 28 8 34 ?_;refine Yq (.slice Am nm cm) 2 28 9 35 (fun w' hw' K hK=> ?_) ?_
   ·have hc1:=HRL.out w' hw';have hc2:=HKB.out w' hw';go_simp;exact hK _ rfl rfl
   refine Zh (.int .u64 E.me) 2 28 ?_;refine Zh (.pointer (some ⟨b,0,none⟩)) 2 28 ?_;refine yI (.pointer (some ⟨b,0,none⟩)) 2 28 12 38 ?_;refine yI (.pointer (some ⟨b,1,none⟩)) 2 28 13 39 ?_;refine Yq (.slice Aa na ca) 2 28 14 40 (fun w' hw' K hK=> ?_) ?_
   ·have hc1:=HRL.out w' hw';have hc2:=HKB.out w' hw';go_simp;exact hK _ rfl rfl
   refine Fv (Pv.eq (.bool true)) 2 28 6 32 10 36 11 37 15 41 (fun w' hw' K hK=> ?_) ?_
   ·go_simp;refine (XV E.p _ _ x.m E.me x.a _ _ w' HE.out.p (HS1.out.kept hw') HD.out (HS2.out.kept hw') HL.out.1 HL.out.2.1 HL.out.2.2.1 HL.out.2.2.2.1).mono ?_;rintro e w3 ⟨rfl,hg⟩;rw [HRB.out];exact hK _ _ rfl rfl hg
   refine mP2 (.bool true) 2 28 16 42 ?_;refine mP1 (.bool true) 17 43 ?_;refine Zh (.pointer (some ⟨gA,0,none⟩)) 18 44 ?_;refine yI (.pointer (some ⟨gA,0,none⟩)) 18 44 19 45 ?_;refine yI (.pointer (some ⟨gA,0,none⟩)) 18 44 20 46 ?_;refine Yq (E.p.v) 18 44 21 47 (fun w' hw' K hK=> ?_) ?_
   ·have hc1:=HRL.out w' hw';have hc2:=HKB.out w' hw';go_simp;exact hK _ rfl rfl
   refine Zh (.pointer (some ⟨b,0,none⟩)) 18 44 ?_;refine yI (.pointer (some ⟨b,0,none⟩)) 18 44 23 49 ?_;refine yI (.pointer (some ⟨b,0,none⟩)) 18 44 24 50 ?_;refine Yq (.slice Am nm cm) 18 44 25 51 (fun w' hw' K hK=> ?_) ?_
   ·have hc1:=HRL.out w' hw';have hc2:=HKB.out w' hw';go_simp;exact hK _ rfl rfl
   refine Zh (.int .u64 E.me) 18 44 ?_;refine Zh (.pointer (some ⟨b,0,none⟩)) 18 44 ?_;refine yI (.pointer (some ⟨b,0,none⟩)) 18 44 28 54 ?_;refine yI (.pointer (some ⟨b,2,none⟩)) 18 44 29 55 ?_;refine Yq (.slice Ab nb cb) 18 44 30 56 (fun w' hw' K hK=> ?_) ?_
   ·have hc1:=HRL.out w' hw';have hc2:=HKB.out w' hw';go_simp;exact hK _ rfl rfl
   refine Fv (Pv.eq (.bool cb2)) 18 44 22 48 26 52 27 53 31 57 (fun w' hw' K hK=> ?_) ?_
   ·go_simp;refine (Qi E.p _ _ x.m E.me x.b _ _ w' HE.out.p (HS1.out.kept hw') HD.out (HS3.out.kept hw') HL.out.1 HL.out.2.1 HL.out.2.2.2.2.1 HL.out.2.2.2.2.2).mono ?_;rintro e w3 ⟨rfl,hg⟩;rw [HCB.out];exact hK _ _ rfl rfl hg
   refine mP2 (.bool cb2) 18 44 32 58 ?_;refine mP1 (.pointer (some ⟨b,0,none⟩)) 0 26 ?_;refine mP1 (.bool cb2) 33 59 ?_;intro w3 hw3
   iterate 34 (refine pD ?_;intro _)
   intro y34 k34 y35 k35;have e34:y34= .pointer (some ⟨b,0,none⟩):=k34;have e35:y35= .bool cb2:=k35;subst e34 e35;have HF:Hid (zJ (fun g=>w.heap.size≤g) w3 b x∧w.grownBy w3 none):=za ⟨HP2.out.kept hw3,HG2.out.trans hw3⟩;clear k34 k35 hw3;refine wpList_nil ?_;simp only [Act.put,sAa,sAb,sAc];go_wp2_with fail;go_ret2;exact ⟨b,rfl,HF.out.1,HF.out.2⟩
end
section
open Go Go.RowKit Go.Shelf Go.Maps
attribute [local go_sem] Oper.semAt_some
theorem Kj(E:zw)(gA gM:Nat)(vc vd vo:Value)(dn:Bool)(i:Int)(Al:Option Addr)(nl cl:Nat)(w:World)(x:zL)(HE:Hid E.ok)(HB:Hid (Bk w gA 125 (zu E vc vd vo gM dn)))(hr: ∀o,w.cell? ⟨gA,o,none⟩=(zu E vc vd vo gM dn)[o]?)(HD:Hid (U64 E.me∧U64 i))(eD:IntKind.u64.wrap E.me=E.me)(eI:IntKind.u64.wrap i=i)(HO:Hid (Calls Tryz.prog 115 #[.pointer (some ⟨gA,0,none⟩), .slice Al nl cl, .int .i64 1] w (Xl w x false))):
  Calls Tryz.prog 119 #[.pointer (some ⟨gA,0,none⟩), .int .i64 i, .slice Al nl cl] w (Xl w x false):=by
 go_enter Tryz.func119,Tryz.ntmps119;go_wp2_with fail;refine HO.out.mono ?_;rintro e w1 ⟨b,rfl,hp1,hg1⟩;have HG:Hid (w.grownBy w1.drew none):=za (hg1.trans (zb w1 1));have HP:Hid (zJ (fun g=>w.heap.size≤g) w1.drew b x):=za (hp1.kept (zb w1 1));have HRX:Hid (∀w',w1.drew.grownBy w' none→ ∀o,w'.cell? ⟨gA,o,none⟩=(zu E vc vd vo gM dn)[o]?):=za (fun w' hw=>(HB.out.grown (HG.out.trans hw) (by simp)).rule);clear hg1 hp1 hr HO;go_wp2_with fail;refine Zf 9 ?_;refine mP0 (.int .i64 i) ?_;refine mP1 (.int .u64 i) 0 18 ?_;refine mP0 (.pointer (some ⟨gA,0,none⟩)) ?_;refine mP1 (.pointer (some ⟨gA,0,none⟩)) 2 20 ?_;refine mP1 (.pointer (some ⟨gA,13,none⟩)) 3 21 ?_;refine mQ1 (.int .i64 E.me) 4 22 (fun w' hw' K hK=> ?_) ?_
 ·have hc1:=HRX.out w' hw';go_simp;exact hK _ rfl rfl
 refine mP1 (.int .u64 E.me) 5 23 ?_;refine mP1 (.int .u64 i) 1 19 ?_;refine mP1 (.int .u64 E.me) 6 24 ?_;intro w2 hw2
 iterate 7 (refine pD ?_;intro _)
 intro y7 k7 y8 k8;have e7:y7= .int .u64 i:=k7;have e8:y8= .int .u64 E.me:=k8;subst e7 e8;clear k7 k8;refine wpList_nil ?_;simp only [Act.put,sAa,sAb,sAc];have HG2:Hid (w.grownBy w2.drew none):=za ((HG.out.trans hw2).trans (zb w2 1));have HP2:Hid (zJ (fun g=>w.heap.size≤g) w2.drew b x):=za (HP.out.kept (hw2.trans (zb w2 1)));have HRL:Hid (∀w',w2.drew.grownBy w' none→ ∀o,w'.cell? ⟨gA,o,none⟩=(zu E vc vd vo gM dn)[o]?):=za (fun w' hw=>(HB.out.grown (HG2.out.trans hw) (by simp)).rule);obtain ⟨vm,va,vb,hXb,hkb,s1,s2,s3⟩:=HP2.out;obtain ⟨Am,nm,cm,rfl⟩:=s1.shape;obtain ⟨Aa,na,ca,rfl⟩:=s2.shape;obtain ⟨Ab,nb,cb,rfl⟩:=s3.shape;have HKB:Hid (∀w',w2.drew.grownBy w' none→ ∀o,w'.cell? ⟨b,o,none⟩=(#[.slice Am nm cm, .slice Aa na ca, .slice Ab nb cb]:Array Value)[o]?):=za (fun w' hw=>(hkb.grown hw (by simp)).rule);have HS1:=za s1;have HS2:=za s2;have HS3:=za s3;clear s1 s2 s3 hkb hXb HP HG HRX hw2;go_wp2_with fail;refine Zf 40 ?_;refine mP0 (.pointer (some ⟨b,0,none⟩)) ?_;refine mP0 (.bool false) ?_;refine mP1 (.bool false) 1 26 ?_;refine mS (undef) [(2,27)] (fun w' hw'=>pQ (zc rfl rfl rfl)) ?_;refine mS (undef) [(2,27),(3,28)] (fun w' hw'=>pQ (pQ (zc rfl rfl rfl))) ?_;refine mS (undef) [(2,27),(4,29)] (fun w' hw'=>pQ (pQ (zc rfl rfl rfl))) ?_;refine mS (undef) [(2,27),(5,30)] (fun w' hw'=>pQ (pQ (zc rfl rfl rfl))) ?_;refine mS (undef) [(2,27)] (fun w' hw'=>pQ (zc rfl rfl rfl)) ?_;refine mS (undef) [(2,27),(7,32)] (fun w' hw'=>pQ (pQ (zc rfl rfl rfl))) ?_;refine mS (undef) [(2,27),(8,33)] (fun w' hw'=>pQ (pQ (zc rfl rfl rfl))) ?_
 refine mS (undef) [(2,27),(9,34)] (fun w' hw'=>pQ (pQ (zc rfl rfl rfl))) ?_;refine mS (undef) [(2,27)] (fun w' hw'=>pQ (zc rfl rfl rfl)) ?_;refine mS (undef) [(2,27)] (fun w' hw'=>pQ (zc rfl rfl rfl)) ?_;refine mS (undef) [(2,27)] (fun w' hw'=>pQ (zc rfl rfl rfl)) ?_;refine mS (undef) [(2,27),(13,38)] (fun w' hw'=>pQ (pQ (zc rfl rfl rfl))) ?_;refine mS (undef) [(2,27),(14,39)] (fun w' hw'=>pQ (pQ (zc rfl rfl rfl))) ?_;refine mS (undef) [(2,27),(15,40)] (fun w' hw'=>pQ (pQ (zc rfl rfl rfl))) ?_;refine mS (undef) [(2,27),(16,41)] (fun w' hw'=>pQ (pQ (zc rfl rfl rfl))) ?_;refine mS (undef) [(2,27),(6,31),(10,35),(11,36),(12,37),(17,42)] (fun w' hw'=>pQ (pQ (pQ (pQ (pQ (pQ (zc rfl rfl rfl))))))) ?_;refine mP2 (.bool false) 2 27 18 43 ?_;refine mP1 (.bool false) 19 44 ?_;refine mS (undef) [(20,45)] (fun w' hw'=>pQ (zc rfl rfl rfl)) ?_;refine mS (undef) [(20,45),(21,46)] (fun w' hw'=>pQ (pQ (zc rfl rfl rfl))) ?_;refine mS (undef) [(20,45),(22,47)] (fun w' hw'=>pQ (pQ (zc rfl rfl rfl))) ?_;refine mS (undef) [(20,45),(23,48)] (fun w' hw'=>pQ (pQ (zc rfl rfl rfl))) ?_;refine mS (undef) [(20,45)] (fun w' hw'=>pQ (zc rfl rfl rfl)) ?_;refine mS (undef) [(20,45),(25,50)] (fun w' hw'=>pQ (pQ (zc rfl rfl rfl))) ?_;refine mS (undef) [(20,45),(26,51)] (fun w' hw'=>pQ (pQ (zc rfl rfl rfl))) ?_;refine mS (undef) [(20,45),(27,52)] (fun w' hw'=>pQ (pQ (zc rfl rfl rfl))) ?_;refine mS (undef) [(20,45)] (fun w' hw'=>pQ (zc rfl rfl rfl)) ?_;refine mS (undef) [(20,45)] (fun w' hw'=>pQ (zc rfl rfl rfl)) ?_
 refine mS (undef) [(20,45)] (fun w' hw'=>pQ (zc rfl rfl rfl)) ?_;refine mS (undef) [(20,45),(31,56)] (fun w' hw'=>pQ (pQ (zc rfl rfl rfl))) ?_;refine mS (undef) [(20,45),(32,57)] (fun w' hw'=>pQ (pQ (zc rfl rfl rfl))) ?_;refine mS (undef) [(20,45),(33,58)] (fun w' hw'=>pQ (pQ (zc rfl rfl rfl))) ?_;refine mS (undef) [(20,45),(34,59)] (fun w' hw'=>pQ (pQ (zc rfl rfl rfl))) ?_;refine mS (undef) [(20,45),(24,49),(28,53),(29,54),(30,55),(35,60)] (fun w' hw'=>pQ (pQ (pQ (pQ (pQ (pQ (zc rfl rfl rfl))))))) ?_;refine mP2 (.bool false) 20 45 36 61 ?_;refine mP1 (.pointer (some ⟨b,0,none⟩)) 0 25 ?_;refine mP1 (.bool false) 37 62 ?_;intro w3 hw3
 iterate 38 (refine pD ?_;intro _)
 intro y38 k38 y39 k39;have e38:y38= .pointer (some ⟨b,0,none⟩):=k38;have e39:y39= .bool false:=k39;subst e38 e39;have HF:Hid (zJ (fun g=>w.heap.size≤g) w3 b x∧w.grownBy w3 none):=za ⟨HP2.out.kept hw3,HG2.out.trans hw3⟩;clear k38 k39 hw3;refine wpList_nil ?_;simp only [Act.put,sAa,sAb,sAc];go_wp2_with fail;go_ret2;exact ⟨b,rfl,HF.out.1,HF.out.2⟩
end
section
open Go Go.RowKit Go.Shelf Go.Maps
attribute [local go_sem] Oper.semAt_some
theorem Ki(E:zw)(gA gM:Nat)(vc vd vo:Value)(dn:Bool)(i:Int)(Al:Option Addr)(nl cl:Nat)(w:World)(x:zL)(HE:Hid E.ok)(HB:Hid (Bk w gA 125 (zu E vc vd vo gM dn)))(hr: ∀o,w.cell? ⟨gA,o,none⟩=(zu E vc vd vo gM dn)[o]?)(HD:Hid (U64 E.me∧U64 i))(eD:IntKind.u64.wrap E.me=E.me)(eI:IntKind.u64.wrap i=i)(HO:Hid (Calls Tryz.prog 115 #[.pointer (some ⟨gA,0,none⟩), .slice Al nl cl, .int .i64 1] w (Xl w x true)))(HL:Hid (x.m.length≤100000∧(∀l∈x.m,l.length≤100000∧ ∀c∈l,c.length≤100000)∧(x.a.length≤100000∧x.b.length≤100000)∧(∀c∈x.a,c≠ [])∧ ∀c∈x.b,c≠ []))(HRB:Hid (VS E.p (zT E.p x.m i) E.me (zt x.a)=false)):
  Calls Tryz.prog 119 #[.pointer (some ⟨gA,0,none⟩), .int .i64 i, .slice Al nl cl] w (Xl w x false):=by
 go_enter Tryz.func119,Tryz.ntmps119;go_wp2_with fail;refine HO.out.mono ?_;rintro e w1 ⟨b,rfl,hp1,hg1⟩;have HG:Hid (w.grownBy w1.drew none):=za (hg1.trans (zb w1 1));have HP:Hid (zJ (fun g=>w.heap.size≤g) w1.drew b x):=za (hp1.kept (zb w1 1));have HRX:Hid (∀w',w1.drew.grownBy w' none→ ∀o,w'.cell? ⟨gA,o,none⟩=(zu E vc vd vo gM dn)[o]?):=za (fun w' hw=>(HB.out.grown (HG.out.trans hw) (by simp)).rule);clear hg1 hp1 hr HO;go_wp2_with fail;refine Zf 9 ?_;refine mP0 (.int .i64 i) ?_;refine mP1 (.int .u64 i) 0 18 ?_;refine mP0 (.pointer (some ⟨gA,0,none⟩)) ?_;refine mP1 (.pointer (some ⟨gA,0,none⟩)) 2 20 ?_;refine mP1 (.pointer (some ⟨gA,13,none⟩)) 3 21 ?_;refine mQ1 (.int .i64 E.me) 4 22 (fun w' hw' K hK=> ?_) ?_
 ·have hc1:=HRX.out w' hw';go_simp;exact hK _ rfl rfl
 refine mP1 (.int .u64 E.me) 5 23 ?_;refine mP1 (.int .u64 i) 1 19 ?_;refine mP1 (.int .u64 E.me) 6 24 ?_;intro w2 hw2
 iterate 7 (refine pD ?_;intro _)
 intro y7 k7 y8 k8;have e7:y7= .int .u64 i:=k7;have e8:y8= .int .u64 E.me:=k8;subst e7 e8;clear k7 k8;refine wpList_nil ?_;simp only [Act.put,sAa,sAb,sAc];have HG2:Hid (w.grownBy w2.drew none):=za ((HG.out.trans hw2).trans (zb w2 1));have HP2:Hid (zJ (fun g=>w.heap.size≤g) w2.drew b x):=za (HP.out.kept (hw2.trans (zb w2 1)));have HRL:Hid (∀w',w2.drew.grownBy w' none→ ∀o,w'.cell? ⟨gA,o,none⟩=(zu E vc vd vo gM dn)[o]?):=za (fun w' hw=>(HB.out.grown (HG2.out.trans hw) (by simp)).rule);obtain ⟨vm,va,vb,hXb,hkb,s1,s2,s3⟩:=HP2.out;obtain ⟨Am,nm,cm,rfl⟩:=s1.shape;obtain ⟨Aa,na,ca,rfl⟩:=s2.shape;obtain ⟨Ab,nb,cb,rfl⟩:=s3.shape;have HKB:Hid (∀w',w2.drew.grownBy w' none→ ∀o,w'.cell? ⟨b,o,none⟩=(#[.slice Am nm cm, .slice Aa na ca, .slice Ab nb cb]:Array Value)[o]?):=za (fun w' hw=>(hkb.grown hw (by simp)).rule);have HS1:=za s1;have HS2:=za s2;have HS3:=za s3;clear s1 s2 s3 hkb hXb HP HG HRX hw2;go_wp2_with fail;refine Zf 40 ?_;refine mP0 (.pointer (some ⟨b,0,none⟩)) ?_;refine mP0 (.bool true) ?_;refine mP1 (.bool true) 1 26 ?_;refine Zh (.pointer (some ⟨gA,0,none⟩)) 2 27 ?_;refine yI (.pointer (some ⟨gA,0,none⟩)) 2 27 3 28 ?_;refine yI (.pointer (some ⟨gA,0,none⟩)) 2 27 4 29 ?_;refine Yq (E.p.v) 2 27 5 30 (fun w' hw' K hK=> ?_) ?_
 ·have hc1:=HRL.out w' hw';have hc2:=HKB.out w' hw';go_simp;exact hK _ rfl rfl
 refine Zh (.pointer (some ⟨b,0,none⟩)) 2 27 ?_;refine yI (.pointer (some ⟨b,0,none⟩)) 2 27 7 32 ?_;refine yI (.pointer (some ⟨b,0,none⟩)) 2 27 8 33 ?_;refine Yq (.slice Am nm cm) 2 27 9 34 (fun w' hw' K hK=> ?_) ?_
 ·have hc1:=HRL.out w' hw';have hc2:=HKB.out w' hw';go_simp;exact hK _ rfl rfl
 refine Zh (.int .u64 i) 2 27 ?_;refine Zh (.int .u64 E.me) 2 27 ?_;refine Zh (.pointer (some ⟨b,0,none⟩)) 2 27 ?_;refine yI (.pointer (some ⟨b,0,none⟩)) 2 27 13 38 ?_;refine yI (.pointer (some ⟨b,1,none⟩)) 2 27 14 39 ?_;refine Yq (.slice Aa na ca) 2 27 15 40 (fun w' hw' K hK=> ?_) ?_
 ·have hc1:=HRL.out w' hw';have hc2:=HKB.out w' hw';go_simp;exact hK _ rfl rfl
 refine GS (Pv.sl (zo) TT (zt x.a)) 2 27 16 41 (fun w' hw' K hK=> ?_) ?_
 ·go_simp;refine (Zt _ x.a _ w' (HS2.out.kept hw') HL.out.2.2.2.1 HL.out.2.2.1.1).mono ?_;rintro e w3 ⟨v3,rfl,hs,hg⟩;exact hK _ _ rfl (hs.more fun _ _ _=>trivial) hg
 refine mS (.bool false) [(2,27),(6,31),(10,35),(11,36),(12,37),(17,42)] (fun w' hw'=>pQ (pQ (pQ (pQ (pQ (fun x42 h42=>kE fun K hK=> ?_)))))) ?_
 ·have h42:Sl (zo) TT w' x42 (zt x.a):=h42;obtain ⟨A42,c42,e42,k42,l42⟩:=h42.form;have e42:x42= .slice A42 (zt x.a).length c42:=e42;subst e42;go_simp;refine (XC E.p _ _ x.m i E.me (zt x.a) _ _ w' HE.out.p (HS1.out.kept hw') HD.out.2 HD.out.1 h42 HL.out.1 HL.out.2.1 (by have:=HL.out.2.2.1.1;simpa [zt] using this)).mono ?_;rintro e w3 ⟨rfl,hg⟩;rw [HRB.out];exact hK _ _ rfl rfl hg
 refine mP2 (.bool false) 2 27 18 43 ?_;refine mP1 (.bool false) 19 44 ?_;refine mS (undef) [(20,45)] (fun w' hw'=>pQ (zc rfl rfl rfl)) ?_;refine mS (undef) [(20,45),(21,46)] (fun w' hw'=>pQ (pQ (zc rfl rfl rfl))) ?_;refine mS (undef) [(20,45),(22,47)] (fun w' hw'=>pQ (pQ (zc rfl rfl rfl))) ?_;refine mS (undef) [(20,45),(23,48)] (fun w' hw'=>pQ (pQ (zc rfl rfl rfl))) ?_;refine mS (undef) [(20,45)] (fun w' hw'=>pQ (zc rfl rfl rfl)) ?_;refine mS (undef) [(20,45),(25,50)] (fun w' hw'=>pQ (pQ (zc rfl rfl rfl))) ?_;refine mS (undef) [(20,45),(26,51)] (fun w' hw'=>pQ (pQ (zc rfl rfl rfl))) ?_;refine mS (undef) [(20,45),(27,52)] (fun w' hw'=>pQ (pQ (zc rfl rfl rfl))) ?_;refine mS (undef) [(20,45)] (fun w' hw'=>pQ (zc rfl rfl rfl)) ?_;refine mS (undef) [(20,45)] (fun w' hw'=>pQ (zc rfl rfl rfl)) ?_;refine mS (undef) [(20,45)] (fun w' hw'=>pQ (zc rfl rfl rfl)) ?_;refine mS (undef) [(20,45),(31,56)] (fun w' hw'=>pQ (pQ (zc rfl rfl rfl))) ?_;refine mS (undef) [(20,45),(32,57)] (fun w' hw'=>pQ (pQ (zc rfl rfl rfl))) ?_;refine mS (undef) [(20,45),(33,58)] (fun w' hw'=>pQ (pQ (zc rfl rfl rfl))) ?_;refine mS (undef) [(20,45),(34,59)] (fun w' hw'=>pQ (pQ (zc rfl rfl rfl))) ?_;refine mS (undef) [(20,45),(24,49),(28,53),(29,54),(30,55),(35,60)] (fun w' hw'=>pQ (pQ (pQ (pQ (pQ (pQ (zc rfl rfl rfl))))))) ?_;refine mP2 (.bool false) 20 45 36 61 ?_;refine mP1 (.pointer (some ⟨b,0,none⟩)) 0 25 ?_;refine mP1 (.bool false) 37 62 ?_;intro w3 hw3
 iterate 38 (refine pD ?_;intro _)
 intro y38 k38 y39 k39;have e38:y38= .pointer (some ⟨b,0,none⟩):=k38;have e39:y39= .bool false:=k39;subst e38 e39;have HF:Hid (zJ (fun g=>w.heap.size≤g) w3 b x∧w.grownBy w3 none):=za ⟨HP2.out.kept hw3,HG2.out.trans hw3⟩;clear k38 k39 hw3;refine wpList_nil ?_;simp only [Act.put,sAa,sAb,sAc];go_wp2_with fail;go_ret2;exact ⟨b,rfl,HF.out.1,HF.out.2⟩
end
section
open Go Go.RowKit Go.Shelf Go.Maps
attribute [local go_sem] Oper.semAt_some
theorem Kk(E:zw)(gA gM:Nat)(vc vd vo:Value)(dn:Bool)(i:Int)(Al:Option Addr)(nl cl:Nat)(w:World)(x:zL)(HE:Hid E.ok)(HB:Hid (Bk w gA 125 (zu E vc vd vo gM dn)))(hr: ∀o,w.cell? ⟨gA,o,none⟩=(zu E vc vd vo gM dn)[o]?)(HD:Hid (U64 E.me∧U64 i))(eD:IntKind.u64.wrap E.me=E.me)(eI:IntKind.u64.wrap i=i)(HO:Hid (Calls Tryz.prog 115 #[.pointer (some ⟨gA,0,none⟩), .slice Al nl cl, .int .i64 1] w (Xl w x true)))(cb2:Bool)(HL:Hid (x.m.length≤100000∧(∀l∈x.m,l.length≤100000∧ ∀c∈l,c.length≤100000)∧(x.a.length≤100000∧x.b.length≤100000)∧(∀c∈x.a,c≠ [])∧ ∀c∈x.b,c≠ []))(HRB:Hid (VS E.p (zT E.p x.m i) E.me (zt x.a)=true))(HCB:Hid (VS E.p (zT E.p x.m E.me) i (zt x.b)=cb2)):
  Calls Tryz.prog 119 #[.pointer (some ⟨gA,0,none⟩), .int .i64 i, .slice Al nl cl] w (Xl w x cb2):=by
 go_enter Tryz.func119,Tryz.ntmps119;go_wp2_with fail;refine HO.out.mono ?_;rintro e w1 ⟨b,rfl,hp1,hg1⟩;have HG:Hid (w.grownBy w1.drew none):=za (hg1.trans (zb w1 1));have HP:Hid (zJ (fun g=>w.heap.size≤g) w1.drew b x):=za (hp1.kept (zb w1 1));have HRX:Hid (∀w',w1.drew.grownBy w' none→ ∀o,w'.cell? ⟨gA,o,none⟩=(zu E vc vd vo gM dn)[o]?):=za (fun w' hw=>(HB.out.grown (HG.out.trans hw) (by simp)).rule);clear hg1 hp1 hr HO;go_wp2_with fail;refine Zf 9 ?_;refine mP0 (.int .i64 i) ?_;refine mP1 (.int .u64 i) 0 18 ?_;refine mP0 (.pointer (some ⟨gA,0,none⟩)) ?_;refine mP1 (.pointer (some ⟨gA,0,none⟩)) 2 20 ?_;refine mP1 (.pointer (some ⟨gA,13,none⟩)) 3 21 ?_;refine mQ1 (.int .i64 E.me) 4 22 (fun w' hw' K hK=> ?_) ?_
 ·have hc1:=HRX.out w' hw';go_simp;exact hK _ rfl rfl
 refine mP1 (.int .u64 E.me) 5 23 ?_;refine mP1 (.int .u64 i) 1 19 ?_;refine mP1 (.int .u64 E.me) 6 24 ?_;intro w2 hw2
 iterate 7 (refine pD ?_;intro _)
 intro y7 k7 y8 k8;have e7:y7= .int .u64 i:=k7;have e8:y8= .int .u64 E.me:=k8;subst e7 e8;clear k7 k8;refine wpList_nil ?_;simp only [Act.put,sAa,sAb,sAc];have HG2:Hid (w.grownBy w2.drew none):=za ((HG.out.trans hw2).trans (zb w2 1));have HP2:Hid (zJ (fun g=>w.heap.size≤g) w2.drew b x):=za (HP.out.kept (hw2.trans (zb w2 1)));have HRL:Hid (∀w',w2.drew.grownBy w' none→ ∀o,w'.cell? ⟨gA,o,none⟩=(zu E vc vd vo gM dn)[o]?):=za (fun w' hw=>(HB.out.grown (HG2.out.trans hw) (by simp)).rule);obtain ⟨vm,va,vb,hXb,hkb,s1,s2,s3⟩:=HP2.out;obtain ⟨Am,nm,cm,rfl⟩:=s1.shape;obtain ⟨Aa,na,ca,rfl⟩:=s2.shape;obtain ⟨Ab,nb,cb,rfl⟩:=s3.shape;have HKB:Hid (∀w',w2.drew.grownBy w' none→ ∀o,w'.cell? ⟨b,o,none⟩=(#[.slice Am nm cm, .slice Aa na ca, .slice Ab nb cb]:Array Value)[o]?):=za (fun w' hw=>(hkb.grown hw (by simp)).rule);have HS1:=za s1;have HS2:=za s2;have HS3:=za s3;clear s1 s2 s3 hkb hXb HP HG HRX hw2;go_wp2_with fail;refine Zf 40 ?_;refine mP0 (.pointer (some ⟨b,0,none⟩)) ?_;refine mP0 (.bool true) ?_;refine mP1 (.bool true) 1 26 ?_;refine Zh (.pointer (some ⟨gA,0,none⟩)) 2 27 ?_;refine yI (.pointer (some ⟨gA,0,none⟩)) 2 27 3 28 ?_;refine yI (.pointer (some ⟨gA,0,none⟩)) 2 27 4 29 ?_;refine Yq (E.p.v) 2 27 5 30 (fun w' hw' K hK=> ?_) ?_
 ·have hc1:=HRL.out w' hw';have hc2:=HKB.out w' hw';go_simp;exact hK _ rfl rfl
 refine Zh (.pointer (some ⟨b,0,none⟩)) 2 27 ?_;refine yI (.pointer (some ⟨b,0,none⟩)) 2 27 7 32 ?_;refine yI (.pointer (some ⟨b,0,none⟩)) 2 27 8 33 ?_;refine Yq (.slice Am nm cm) 2 27 9 34 (fun w' hw' K hK=> ?_) ?_
 ·have hc1:=HRL.out w' hw';have hc2:=HKB.out w' hw';go_simp;exact hK _ rfl rfl
 refine Zh (.int .u64 i) 2 27 ?_;refine Zh (.int .u64 E.me) 2 27 ?_;refine Zh (.pointer (some ⟨b,0,none⟩)) 2 27 ?_;refine yI (.pointer (some ⟨b,0,none⟩)) 2 27 13 38 ?_;refine yI (.pointer (some ⟨b,1,none⟩)) 2 27 14 39 ?_;refine Yq (.slice Aa na ca) 2 27 15 40 (fun w' hw' K hK=> ?_) ?_
 ·have hc1:=HRL.out w' hw';have hc2:=HKB.out w' hw';go_simp;exact hK _ rfl rfl
 refine GS (Pv.sl (zo) TT (zt x.a)) 2 27 16 41 (fun w' hw' K hK=> ?_) ?_
 ·go_simp;refine (Zt _ x.a _ w' (HS2.out.kept hw') HL.out.2.2.2.1 HL.out.2.2.1.1).mono ?_;rintro e w3 ⟨v3,rfl,hs,hg⟩;exact hK _ _ rfl (hs.more fun _ _ _=>trivial) hg
 refine mS (.bool true) [(2,27),(6,31),(10,35),(11,36),(12,37),(17,42)] (fun w' hw'=>pQ (pQ (pQ (pQ (pQ (fun x42 h42=>kE fun K hK=> ?_)))))) ?_
 ·have h42:Sl (zo) TT w' x42 (zt x.a):=h42;obtain ⟨A42,c42,e42,k42,l42⟩:=h42.form;have e42:x42= .slice A42 (zt x.a).length c42:=e42;subst e42;go_simp;refine (XC E.p _ _ x.m i E.me (zt x.a) _ _ w' HE.out.p (HS1.out.kept hw') HD.out.2 HD.out.1 h42 HL.out.1 HL.out.2.1 (by have:=HL.out.2.2.1.1;simpa [zt] using this)).mono ?_;rintro e w3 ⟨rfl,hg⟩;rw [HRB.out];exact hK _ _ rfl rfl hg
 refine mP2 (.bool true) 2 27 18 43 ?_;refine mP1 (.bool true) 19 44 ?_;refine Zh (.pointer (some ⟨gA,0,none⟩)) 20 45 ?_;refine yI (.pointer (some ⟨gA,0,none⟩)) 20 45 21 46 ?_;refine yI (.pointer (some ⟨gA,0,none⟩)) 20 45 22 47 ?_;refine Yq (E.p.v) 20 45 23 48 (fun w' hw' K hK=> ?_) ?_
 ·have hc1:=HRL.out w' hw';have hc2:=HKB.out w' hw';go_simp;exact hK _ rfl rfl
 refine Zh (.pointer (some ⟨b,0,none⟩)) 20 45 ?_;refine yI (.pointer (some ⟨b,0,none⟩)) 20 45 25 50 ?_;refine yI (.pointer (some ⟨b,0,none⟩)) 20 45 26 51 ?_;refine Yq (.slice Am nm cm) 20 45 27 52 (fun w' hw' K hK=> ?_) ?_
 ·have hc1:=HRL.out w' hw';have hc2:=HKB.out w' hw';go_simp;exact hK _ rfl rfl
 refine Zh (.int .u64 E.me) 20 45 ?_;refine Zh (.int .u64 i) 20 45 ?_;refine Zh (.pointer (some ⟨b,0,none⟩)) 20 45 ?_;refine yI (.pointer (some ⟨b,0,none⟩)) 20 45 31 56 ?_;refine yI (.pointer (some ⟨b,2,none⟩)) 20 45 32 57 ?_;refine Yq (.slice Ab nb cb) 20 45 33 58 (fun w' hw' K hK=> ?_) ?_
 ·have hc1:=HRL.out w' hw';have hc2:=HKB.out w' hw';go_simp;exact hK _ rfl rfl
 refine GS (Pv.sl (zo) TT (zt x.b)) 20 45 34 59 (fun w' hw' K hK=> ?_) ?_
 ·go_simp;refine (Zt _ x.b _ w' (HS3.out.kept hw') HL.out.2.2.2.2 HL.out.2.2.1.2).mono ?_;rintro e w3 ⟨v3,rfl,hs,hg⟩;exact hK _ _ rfl (hs.more fun _ _ _=>trivial) hg
 refine mS (.bool cb2) [(20,45),(24,49),(28,53),(29,54),(30,55),(35,60)] (fun w' hw'=>pQ (pQ (pQ (pQ (pQ (fun x60 h60=>kE fun K hK=> ?_)))))) ?_
 ·have h60:Sl (zo) TT w' x60 (zt x.b):=h60;obtain ⟨A60,c60,e60,k60,l60⟩:=h60.form;have e60:x60= .slice A60 (zt x.b).length c60:=e60;subst e60;go_simp;refine (XC E.p _ _ x.m E.me i (zt x.b) _ _ w' HE.out.p (HS1.out.kept hw') HD.out.1 HD.out.2 h60 HL.out.1 HL.out.2.1 (by have:=HL.out.2.2.1.2;simpa [zt] using this)).mono ?_;rintro e w3 ⟨rfl,hg⟩;rw [HCB.out];exact hK _ _ rfl rfl hg
 refine mP2 (.bool cb2) 20 45 36 61 ?_;refine mP1 (.pointer (some ⟨b,0,none⟩)) 0 25 ?_;refine mP1 (.bool cb2) 37 62 ?_;intro w3 hw3
 iterate 38 (refine pD ?_;intro _)
 intro y38 k38 y39 k39;have e38:y38= .pointer (some ⟨b,0,none⟩):=k38;have e39:y39= .bool cb2:=k39;subst e38 e39;have HF:Hid (zJ (fun g=>w.heap.size≤g) w3 b x∧w.grownBy w3 none):=za ⟨HP2.out.kept hw3,HG2.out.trans hw3⟩;clear k38 k39 hw3;refine wpList_nil ?_;simp only [Act.put,sAa,sAb,sAc];go_wp2_with fail;go_ret2;exact ⟨b,rfl,HF.out.1,HF.out.2⟩
end
section
open Go Go.RowKit Go.Shelf Go.Maps
attribute [local go_sem] Oper.semAt_some
theorem Uf(E:zw)(gA gM:Nat)(vc vd vo:Value)(dn:Bool)(i:Int)(v:Value)(l:List Int)(X Y:Nat→Prop)(w:World)(hE:E.ok)(hb:Bk w gA 125 (zu E vc vd vo gM dn))(hc:Sl (zh ze) X w vc E.coms)(h:Sl ze Y w v l)(hl:l.length≤100000)(hi:1≤i∧i≤E.p.N):
  Calls Tryz.prog 119 #[.pointer (some ⟨gA,0,none⟩), .int .i64 i,v] w (Xl w (zk E i l).1 (zk E i l).2):=by
 obtain ⟨Al,nl,cl,rfl⟩:=h.shape;have HE:=za hE;have HB:=za hb;obtain ⟨_,_,_,hN1,hN2,_,hT1,hT2,_⟩:=zD hE.may;have hde:=hE.me;have HO:=za (Qx E gA gM vc vd vo dn (.slice Al nl cl) l 1 X Y w hE hb hc h hl ⟨by decide,by decide⟩);have hr:=hb.rule;have HD:Hid (U64 E.me∧U64 i):=za ⟨⟨by omega,by omega⟩,⟨by omega,by omega⟩⟩;have eD:IntKind.u64.wrap E.me=E.me:=IntWalk.u64_in _ (by omega);have eI:IntKind.u64.wrap i=i:=IntWalk.u64_in _ (by omega);have HW1:Hid ((zk E i l).1=(zI E l 1).1):=za rfl;have HSH:Hid ((zI E l 1).2=true→UZ (ZU E.p).toNat (E.p.T+1).toNat 1 (zI E l 1).1∧(ZU E.p).toNat≤10∧(E.p.T+1).toNat≤3):=za (fun h=>by
  have h0:Tn E.p l.length 1=0:=by
   simp only [zI,Bool.and_eq_true,decide_eq_true_eq] at h;exact h.1
  obtain ⟨a,_,_,b,c,_⟩:=Xx h0;exact ⟨a,b,c⟩)
 have HW2:Hid ((zk E i l).2=((zI E l 1).2 && VS E.p (zT E.p (zI E l 1).1.m i) E.me (zt (zI E l 1).1.a) && VS E.p (zT E.p (zI E l 1).1.m E.me) i (zt (zI E l 1).1.b))):=za rfl;rw [HW1.out,HW2.out];clear hE hc hb h hl hN1 hN2 hT1 hT2 hde HW1 HW2 hi;obtain ⟨x,hx⟩: ∃x,x=(zI E l 1).1:=⟨_,rfl⟩;obtain ⟨ok,hok⟩: ∃ok,ok=(zI E l 1).2:=⟨_,rfl⟩;rw [←hx, ←hok] at HO HSH;rw [←hx, ←hok];clear hx hok;cases ok with
 |false=>
  rw [Bool.false_and,Bool.false_and];exact Kj E gA gM vc vd vo dn i Al nl cl w x HE HB hr HD eD eI HO
 |true=>
  have HL:Hid (x.m.length≤100000∧(∀l∈x.m,l.length≤100000∧ ∀c∈l,c.length≤100000)∧(x.a.length≤100000∧x.b.length≤100000)∧(∀c∈x.a,c≠ [])∧ ∀c∈x.b,c≠ []):=za (by
   obtain ⟨⟨m,a,b⟩,h1,h2⟩:=HSH.out rfl;exact ⟨by rw [m.1];omega,fun f hf=>⟨by rw [(m.2 f hf).1];omega,fun r hr=>by rw [(m.2 f hf).2 r hr];omega⟩,⟨by rw [a.1];omega,by rw [b.1];omega⟩,(fun c hc e=>by have:=a.2 c hc;rw [e] at this;cases this),(fun c hc e=>by have:=b.2 c hc;rw [e] at this;cases this)⟩)
  rw [Bool.true_and];cases hrb:VS E.p (zT E.p x.m i) E.me (zt x.a) with
  |false=>
   rw [Bool.false_and];exact Ki E gA gM vc vd vo dn i Al nl cl w x HE HB hr HD eD eI HO HL (za hrb)
  |true=>
   rw [Bool.true_and];exact Kk E gA gM vc vd vo dn i Al nl cl w x HE HB hr HD eD eI HO _ HL (za hrb) (za rfl)
end
section
open Go.RowKit
end
section
open Go.RowKit
def xq(l:List Int)(n:Nat):Array Value:=(nums l++List.replicate (n - l.length) (Value.int .u64 0)).toArray
theorem Nr(l:List Int)(n:Nat)(h:l.length≤n):(xq l n).size=n:=by simp [xq,nums];omega
theorem Qb(l:List Int)(n:Nat)(x:Int)(h:l.length< n):(xq l n).setIfInBounds l.length (.int .u64 x)=xq (l++ [x]) n:=by
 obtain ⟨k,hk⟩: ∃k,n - l.length=k+1:=⟨n - l.length - 1,by omega⟩;have hk':n - (l++ [x]).length=k:=by simp;omega
 unfold xq;rw [hk,hk',List.replicate_succ];simp only [List.setIfInBounds_toArray]
 congr 1
 rw [show l.length=(nums l).length by simp [nums]];rw [List.set_append_right _ _ (Nat.le_refl _)];simp [nums]
theorem Nt(l:List Int):xq l l.length=(nums l).toArray:=by simp [xq]
theorem Of(l:List Int)(n k:Nat)(h:k< n)(hl:l.length≤n): ∃v,(xq l n)[k]? =some v:=⟨_,Array.getElem?_eq_getElem (by rw [Nr l n hl];exact h)⟩
theorem Nq(n:Nat):madeCells #[Value.int .u64 0] n=xq [] n:=by
 apply Array.ext';rw [toList_madeCells_one];simp [xq,nums]
theorem YZ(w:World)(n:Nat)(h:n≤1048576):(Instr.makeSlice 31 (.int .i64 n) (.int .i64 n)).run Tryz.prog w= .ok (.slice (some ⟨w.heap.size,0,none⟩) n n) (w.alloc (.cells (xq [] n) 22)):=by
 obtain ⟨i0,hi,hz0,hz1,hz2⟩:=info_parts PF
 have:=run_make (P:=Tryz.prog) w 31 22 i0 (.int .u64 0) Tryz.underlying31 hi hz0 .i64 .i64 n n (by omega) (Int.le_refl _) (by rw [hz2];omega) (by omega)
 rw [Int.toNat_natCast,hz1,Nat.mul_one] at this;rw [this, ←Nq];rfl
end
section
open Go Go.RowKit Go.Shelf
attribute [local go_sem] Oper.semAt_some
def TG(f:List (List Int))(j:Nat):List Int:=f.map fun c=>c[j]?.getD 0
theorem LS(l:List (List Int))(i j:Nat)(h:i< l.length):TG (l.take (i+1)) j=TG (l.take i) j++ [l[i][j]?.getD 0]:=yu _ l i h
theorem Ps(f:List (List Int))(j:Nat):(TG f j).length=f.length:=by simp [TG]
theorem MG(A:Option Addr)(m c:Nat)(w:World):
  Calls Tryz.prog 194 #[.slice A m c] w fun e w'=>e= .returned (.func (.func 223) #[] #[.pointer (some ⟨w.heap.size,0,none⟩)])∧w'=w.alloc (.cells #[.slice A m c] 43):=by
 go_enter Tryz.func194,Tryz.ntmps194;go_wp2;go_ret;exact ⟨rfl,rfl⟩
theorem QX(B:Nat)(v:Value)(f:List (List Int))(i j:Nat)(X:Nat→Prop)(w:World)(hb:Boxed w B 43 v)(h:Sl (zh ze) X w v f)(hi:i< f.length)(hj:(j:Int)≤9223372036854775807):
  Calls Tryz.prog 223 #[.int .i64 i, .int .i64 j, .pointer (some ⟨B,0,none⟩)] w fun e w'=>e= .returned (.int .u64 (f[i][j]?.getD 0))∧w'=w:=by
 have hc:=hb.cell;obtain ⟨g,o,c',u,e,_,_,hcu,hsu⟩:=h.atS hi;subst e;have hi0:(0:Int)≤(i:Int):=by omega
 have hj0:(0:Int)≤(j:Int):=by omega
 have hil:(i:Int)< (f.length:Int):=by omega
 obtain ⟨A1,c1,rfl,_,_⟩:=hsu.form;by_cases hl:j< f[i].length
 ·obtain ⟨g1,o1,c2,e,_,_,hcv,_⟩:=hsu.atU hl;injection e with e1 e2 e3
  subst e1 e3;have hli:(j:Int)< (f[i].length:Int):=by omega
  rw [show f[i][j]?.getD 0=f[i][j] by rw [List.getElem?_eq_getElem hl];rfl];generalize f[i][j]=y at *;clear hsu hb h e2;generalize f[i].length=m at *;go_enter Tryz.func223,Tryz.ntmps223;go_wp2;go_ret;exact ⟨rfl,rfl⟩
 ·have hli: ¬(j:Int)< (f[i].length:Int):=by omega
  have hli2:(f[i].length:Int)≤(j:Int):=by omega
  rw [show f[i][j]?.getD 0=0 by rw [List.getElem?_eq_none (by omega)];rfl];clear hsu hb h;generalize f[i].length=m at *;go_enter Tryz.func223,Tryz.ntmps223;go_wp2;go_ret;exact ⟨rfl,rfl⟩
def Kr(A:Option Addr)(m c:Nat)(w:World)(e:Ending)(w':World):Prop:=
 e= .returned (.func (.func 195) #[] #[.pointer (some ⟨w.heap.size,0,none⟩), .pointer (some ⟨w.heap.size+1+1,0,none⟩)])∧Boxed w' w.heap.size 43 (.slice A m c)∧Boxed w' (w.heap.size+1) 43 (.slice A m c)∧
 Boxed w' (w.heap.size+1+1) 247 (.func (.func 223) #[] #[.pointer (some ⟨w.heap.size+1,0,none⟩)])∧w.grownBy w' none∧w'.heap.size=w.heap.size+1+1+1
theorem Pr(A:Option Addr)(m c:Nat)(w:World):
  Calls Tryz.prog 155 #[.slice A m c] w (Kr A m c w):=by
 have e1:(w.alloc (.cells #[.slice A m c] 43)).heap.size=w.heap.size+1:=by simp
 have e2:((w.alloc (.cells #[.slice A m c] 43)).alloc (.cells #[.slice A m c] 43)).heap.size=w.heap.size+1+1:=by simp
 have b3:=Boxed.new ((w.alloc (.cells #[.slice A m c] 43)).alloc (.cells #[.slice A m c] 43)) 247 .nilFunc;rw [e2] at b3;have hc3:=b3.cell;have hf3:=b3.frozen;have hrun:(store ⟨w.heap.size+1+1,0,none⟩ (.func (.func 223) #[] #[.pointer (some ⟨w.heap.size+1,0,none⟩)])).run Tryz.prog (((w.alloc (.cells #[.slice A m c] 43)).alloc (.cells #[.slice A m c] 43)).alloc (.cells #[.nilFunc] 247))= .ok () ((((w.alloc (.cells #[.slice A m c] 43)).alloc (.cells #[.slice A m c] 43)).alloc (.cells #[.nilFunc] 247)).setCell ⟨w.heap.size+1+1,0,none⟩ (.func (.func 223) #[] #[.pointer (some ⟨w.heap.size+1,0,none⟩)])):=by
  simp only [store,Sem.run,hc3,hf3];rfl
 have HF:Hid (Kr A m c w (.returned (.func (.func 195) #[] #[.pointer (some ⟨w.heap.size,0,none⟩), .pointer (some ⟨w.heap.size+1+1,0,none⟩)])) (((w.alloc (.cells #[.slice A m c] 43)).alloc (.cells #[.slice A m c] 43)).alloc (.cells #[.func (.func 223) #[] #[.pointer (some ⟨w.heap.size+1,0,none⟩)]] 247))):=za (by
  have b1:=((Boxed.new w 43 (.slice A m c)).alloc (.cells #[.slice A m c] 43)).alloc (.cells #[.func (.func 223) #[] #[.pointer (some ⟨w.heap.size+1,0,none⟩)]] 247);have b2:=(Boxed.new (w.alloc (.cells #[.slice A m c] 43)) 43 (.slice A m c)).alloc (.cells #[.func (.func 223) #[] #[.pointer (some ⟨w.heap.size+1,0,none⟩)]] 247);have b4:=Boxed.new ((w.alloc (.cells #[.slice A m c] 43)).alloc (.cells #[.slice A m c] 43)) 247 (.func (.func 223) #[] #[.pointer (some ⟨w.heap.size+1,0,none⟩)]);rw [e1] at b2;rw [e2] at b4;exact ⟨rfl,b1,b2,b4,((gAl w _ none).trans (gAl _ _ none)).trans (gAl _ _ none),by simp⟩)
 clear b3 e1 e2;go_enter Tryz.func155,Tryz.ntmps155;go_wp2_with fail;refine (MG A m c _).mono ?_;rintro e w1 ⟨rfl,rfl⟩;go_wp2;go_ret;exact HF.out
structure NT where
 j:Nat
 v:Value
 c:List Int
def Kp3(n₀ B1 B2 B3:Nat)(A B:World):Prop:=Below n₀ A B∧B.heap[B1]? =A.heap[B1]? ∧B.heap[B2]? =A.heap[B2]? ∧B.heap[B3]? =A.heap[B3]?
theorem Kp3.refl(n₀ B1 B2 B3:Nat)(A:World):Kp3 n₀ B1 B2 B3 A A:=⟨Below.refl _ _,rfl,rfl,rfl⟩
theorem Kp3.trans{n₀ B1 B2 B3:Nat}{A B C:World}(h:Kp3 n₀ B1 B2 B3 A B)(k:Kp3 n₀ B1 B2 B3 B C):Kp3 n₀ B1 B2 B3 A C:=⟨h.1.trans k.1,k.2.1.trans h.2.1,k.2.2.1.trans h.2.2.1,k.2.2.2.trans h.2.2.2⟩
theorem Kp3.grown{n₀ B1 B2 B3:Nat}{A B:World}(hg:A.grownBy B none)(hn:n₀≤A.heap.size)(h1:B1< A.heap.size)(h2:B2< A.heap.size)(h3:B3< A.heap.size):Kp3 n₀ B1 B2 B3 A B:=
 ⟨(zy hg).mono hn,hg.block _ h1 (by simp),hg.block _ h2 (by simp),hg.block _ h3 (by simp)⟩
theorem Kp3.b{n₀ B1 B2 B3:Nat}{w:World}(hn:n₀≤w.heap.size)(h1:B1< w.heap.size)(h2:B2< w.heap.size)(h3:B3< w.heap.size)(W:World)(l:Nat)(o o':Obj)(hl:w.heap.size≤l)(h:W.heap[l]? =some o)(k1:o.isCells=false)(k2:o.isWalk=false):Kp3 n₀ B1 B2 B3 W (W.putObj l o'):=by
 have hlt:=(Array.getElem?_eq_some_iff.1 h).1;have hg:=grownBy_putObj' W l o';exact ⟨belowK_b hn W l o o' hl h k1 k2,hg.block _ (by omega) (fun e=>by injection e with e;omega),hg.block _ (by omega) (fun e=>by injection e with e;omega),hg.block _ (by omega) (fun e=>by injection e with e;omega)⟩
def EM(n₁ n:Nat)(x:NT)(W:World):Prop:=Sl ze (fun g=>n₁≤g) W x.v x.c∧x.j< n
def Xi(f:List (List Int)):List (Nat×List Int):=(List.range (yB f)).map fun j=>(j,TG f j)
theorem Ql(n:Nat)(hn:1≤n)(B1 B2 B3:Nat)(v:Value)(f:List (List Int))(X:Nat→Prop)(w₀ w1:World)(h01:Below w₀.heap.size w₀ w1)(hb1:Boxed w1 B1 43 v)(hb2:Boxed w1 B2 43 v)(hb3:Boxed w1 B3 247 (.func (.func 223) #[] #[.pointer (some ⟨B2,0,none⟩)]))(hf:Sl (zh ze) X w₀ v f)(hl1:f.length≤100000)(hl2: ∀c∈f,c.length≤100000):
  Pz Fence.wide n Tryz.prog 195 #[.pointer (some ⟨B1,0,none⟩), .pointer (some ⟨B3,0,none⟩)] (fun x:NT=> #[.int .i64 x.j,x.v]) (EM w1.heap.size (yB f)) (Kp3 w₀.heap.size B1 B2 B3) (fun xs=>xs.map (fun x=>(x.j,x.c))=Xi f) (yB f) w1:=by
 intro l J W hW hJ hY h0;refine callsIn_of_wp Tryz.func195 rfl trivial ?_ rfl;simp only [Tryz.ntmps195,List.size_toArray,List.length_cons,List.length_nil,Nat.reduceAdd,Nat.reduceSub,Array.replicate_succ,Array.replicate_zero,List.push_toArray,List.append_toArray,List.nil_append,List.cons_append];have HB1:Hid (Boxed W B1 43 v):=za ((hW.5 B1 hb1.lt).trans hb1);have HB2:Hid (Boxed W B2 43 v):=za ((hW.5 B2 hb2.lt).trans hb2);have HB3:Hid (Boxed W B3 247 (.func (.func 223) #[] #[.pointer (some ⟨B2,0,none⟩)])):=za ((hW.5 B3 hb3.lt).trans hb3);have HG0:Hid (w₀.grownBy W none):=za (zl (h01.trans (hW.mono h01.size)));have HWS:Hid (w1.heap.size≤W.heap.size):=za hW.size;have HF:=za hf;have HLC:=za hl2;have HWB:Hid (yB f≤100000):=za (Xt f _ hl2);obtain ⟨A1,c1,rfl,_,_⟩:=hf.form;have HLB1:=za hb1.lt;have HLB2:=za hb2.lt;have HLB3:=za hb3.lt;have ca:=HB1.out.cell;have HWI:=za (PE _ f X W (HF.out.kept HG0.out) hl2);have HH0:=za h0;have HL:Hid ((Xi f).length=yB f):=za (by simp [Xi]);clear hb1 hb2 hb3 hf h0 hl2;obtain ⟨N,hN⟩: ∃N,N=yB f:=⟨_,rfl⟩;rw [←hN] at HWI HWB HL hY;have HN:=za hN;have HN9:N≤100000:=HWB.out;clear hN
 gi_wp2_with (refine ⟨trivial, ?_⟩;refine (callsIn_wide.2 HWI.out).mono ?_;rintro e w' ⟨rfl,hw'⟩;obtain rfl:W=w':=hw'.symm)
 gi_loopw [9] (fun s9 wr=> ∃(k:Nat) (pre:List NT),k≤N∧s9= .int .i64 k∧Hid (pre.map (fun x=>(x.j,x.c))=(Xi f).take k∧J pre wr∧Kp3 w₀.heap.size B1 B2 B3 W wr)) (fun s9 _=>N - (intOf s9).toNat)
 case atStart=>exact ⟨0, [],by omega,rfl,za ⟨rfl,HH0.out,Kp3.refl _ _ _ _ _⟩⟩
 case round=>
  rename World=>wr
  obtain ⟨k,pre,hk,rfl,HX⟩:=hrel;by_cases hlt:k< N
  ·have hki:(k:Int)< (N:Int):=by omega
   have hkb:(k:Int)≤9223372036854775807:=by omega
   have hpl:pre.length=k:=by have:=congrArg List.length HX.out.1;simpa [HL.out,Nat.min_eq_left hk] using this
   have HBr1:Hid (Boxed wr B1 43 (.slice A1 f.length c1)):=za (HX.out.2.2.2.1.trans HB1.out);have HBr2:Hid (Boxed wr B2 43 (.slice A1 f.length c1)):=za (HX.out.2.2.2.2.1.trans HB2.out);have HBr3:Hid (Boxed wr B3 247 (.func (.func 223) #[] #[.pointer (some ⟨B2,0,none⟩)])):=za (HX.out.2.2.2.2.2.trans HB3.out);have HGW:Hid (w₀.grownBy wr none):=za (zl ((zy HG0.out).trans HX.out.2.2.1));have HWR:Hid (W.heap.size≤wr.heap.size):=za HX.out.2.2.1.size;have hca:=HBr1.out.cell;clear ca;have HI0:Hid (Acc ze wr.heap.size 22 (fun g=>wr.heap.size≤g) wr (.slice none 0 0) (TG (f.take 0) k)∧wr.grownBy wr none):=za ⟨Acc.nil _ _ _ _ _,World.grownBy.refl _ _⟩
   gi_wp2
   refine wpIn_wide.2 ?_;go_loopg [5,14] f.length (fun g s5 s14 wx=> ∃i:Nat,i+g=f.length∧s14= .int .i64 i∧Hid (Acc ze wr.heap.size 22 (fun g=>wr.heap.size≤g) wx s5 (TG (f.take i) k)∧wr.grownBy wx none))
   case atStart=>exact ⟨0,by omega,rfl,HI0⟩
   case round=>
    rename World=>wi
    obtain ⟨i,hi,rfl,HY⟩:=hrel;cases gk with
    |zero=>
     obtain rfl:i=f.length:=by omega
     have HJi:Hid (J pre wi):=za (hJ _ wr wi none HX.out.2.1 HY.out.2 (by simp));have HC:Hid (Sl ze (fun g=>w1.heap.size≤g) wi u5 (TG f k)):=za (by have:=HY.out.1.sl;rw [List.take_length] at this;exact this.more (fun g _ hg=>by have:=HWS.out;have:=HWR.out;omega));obtain ⟨fn,tmps,assign,body,hy,hR⟩:=hY pre ⟨k,u5,TG f k⟩ wi HJi.out ⟨HC.out,hlt⟩ (by rw [hpl];exact hlt);dsimp only at hy;have HR:=za hR;have HPN:Hid ((pre++ [(⟨k,u5,TG f k⟩:NT)]).map (fun x=>(x.j,x.c))=(Xi f).take (k+1)):=za (by
      have hkz:k< (Xi f).length:=by rw [HL.out];exact hlt
      rw [List.map_append,HX.out.1,List.take_succ_eq_append_getElem hkz];simp [Xi])
     have HKr:Hid (Kp3 w₀.heap.size B1 B2 B3 W wi):=za (HX.out.2.2.trans (Kp3.grown HY.out.2 (Nat.le_trans HGW.out.size (Nat.le_refl _)) HBr1.out.lt HBr2.out.lt HBr3.out.lt));clear hR HI0 HY;go_wp2_with fail
     gi_wp2_with ((with_reducible refine HR.out.mono ?_);rintro e W' ⟨rfl,hJ2,hK2⟩)
     exact ⟨⟨k+1,_,by omega,by go_num,za ⟨HPN.out,hJ2,HKr.out.trans hK2⟩⟩,by simp [intOf];omega⟩
    |succ m=>
     have hin:(i:Int)< (f.length:Int):=by omega
     have hiN:i< f.length:=by omega
     have HSf:=za ((HF.out.kept HGW.out).kept HY.out.2);have hB2:=HBr2.out.kept HY.out.2 (by simp);have hB3:=HBr3.out.kept HY.out.2 (by simp);have hc3:=hB3.cell;have HCT:=za (QX B2 _ f i k X wi hB2 HSf.out hiN hkb);have HSN:=za (LS f i k hiN);have HUX:Hid (U64 (f[i][k]?.getD 0)):=za (by
      obtain ⟨_,_,_,u,_,_,_,_,hsu⟩:=HSf.out.atS hiN;exact Xe k hsu)
     have HA:=za HY.out.1;have HGY:=za HY.out.2;have HLB:Hid (((TG (f.take i) k).length+1)*8≤140737488355328):=za (by rw [Ps];simp;omega);clear hB2 hB3 HY HI0 HSf;generalize f[i][k]?.getD 0=y at *;go_wp2_with fail;refine HCT.out.mono ?_;rintro e w' ⟨rfl,rfl⟩;go_wp2_with (at_builtin;refine zC rfl (.tmp 17) (.tmp 22) rfl (E:=ze) xd HGY.out HA.out (fun _ h=>h) ⟨rfl,HUX.out⟩ HLB.out rfl rfl ?_);intro v2 w2 hacc2 hg2 hgo;have HFIN:Hid (Acc ze wr.heap.size 22 (fun g=>wr.heap.size≤g) w2 v2 (TG (f.take (i+1)) k)∧wr.grownBy w2 none):=za ⟨by rw [HSN.out];exact hacc2,hg2⟩;clear hacc2 hg2 hgo hc3;go_wp2_with fail;go_roundg m
     case measure=>omega
     case rel=>exact ⟨i+1,by omega,by go_num,HFIN⟩
  ·obtain rfl:k=N:=by omega
   gi_wp2
   go_end0;exact ⟨⟨_,rfl⟩,pre,by rw [HX.out.1, ←HL.out,List.take_length],HX.out.2.1⟩
end
section
open Go Go.RowKit Go.Shelf
attribute [local go_sem] Oper.semAt_some
def UE(q:Int)(f:List (List Int))(x:Int):List Int:=(List.range (yB f)).map fun j=>zR q (TG f j) x
def UT(q:Int)(f:List (List Int))(y:Int):List Int:=f.map fun c=>zR q c y
def xj(q x:Int)(n:Nat)(xs:List (Nat×List Int)):List Int:=xs.foldl (fun h e=>h.set e.1 (zR q e.2 x)) (List.replicate n 0)
theorem ZS(q x:Int): ∀(xs:List (Nat×List Int)) (h:List Int),(xs.foldl (fun h e=>h.set e.1 (zR q e.2 x)) h).length=h.length
 | [],_=>rfl
 |_::xs,_=>(ZS q x xs _).trans (List.length_set ..)
theorem ZL(q x:Int)(n:Nat)(xs:List (Nat×List Int)):(xj q x n xs).length=n:=by
 unfold xj;rw [ZS];simp
theorem VF(q x:Int)(n:Nat)(xs:List (Nat×List Int))(e:Nat×List Int):xj q x n (xs++ [e])=(xj q x n xs).set e.1 (zR q e.2 x):=by simp [xj]
theorem VE(q x:Int)(f:List (List Int))(n:Nat): ∀k,k≤n→ ∀i (hi:i< (xj q x n ((List.range k).map fun j=>(j,TG f j))).length),(xj q x n ((List.range k).map fun j=>(j,TG f j)))[i]=if i< k then zR q (TG f i) x else 0
 |0,_,i,hi=>by simp [xj]
 |k+1,hk,i,hi=>by
  have e:(List.range (k+1)).map (fun j=>(j,TG f j))=(List.range k).map (fun j=>(j,TG f j))++ [(k,TG f k)]:=by simp [List.range_succ]
  simp only [e,VF];rw [List.getElem_set];split
  ·rename_i h;subst h;simp
  ·rename_i h;rw [VE q x f n k (by omega) i];by_cases h1:i< k
   ·simp [h1,show i< k+1 by omega]
   ·simp [h1,show ¬i< k+1 by omega]
theorem OV(q x:Int)(f:List (List Int)):xj q x (yB f) (Xi f)=UE q f x:=by
 refine List.ext_getElem (by rw [ZL];simp [UE]) fun i h1 h2=> ?_
 have h3:i< yB f:=by rwa [ZL] at h1
 have:=VE q x f (yB f) (yB f) (Nat.le_refl _) i h1
 rw [show (xj q x (yB f) (Xi f))[i]=_ from this];simp [h3,UE]
theorem ID(n0:Nat)(hn0:6≤n0)(v:Value)(f:List (List Int))(x q:Int)(X:Nat→Prop)(w:World)(hf:Sl (zh ze) X w v f)(hx:U64 x)(hl1:f.length≤100000)(hl2: ∀c∈f,c.length≤100000):
  CallsIn Fence.wide n0 Tryz.prog 104 #[v, .int .u64 x, .int .u64 q] w (zH ze (fun g=>w.heap.size≤g) w (UE q f x)):=by
 have h1:1≤n0:=by omega
 have HF:=za hf;have HX:=za hx;have HWB:Hid (yB f≤100000):=za (Xt f _ hl2);obtain ⟨A1,c1,rfl,_,_⟩:=hf.form;have HWI:=za (fun w' (hw:w.grownBy w' none)=>PE _ f X w' (hf.kept hw) hl2);clear hf hx;obtain ⟨n,hn⟩: ∃n,n=yB f:=⟨_,rfl⟩;have HN:=za hn;rw [←hn] at HWI HWB;have hn9:n≤100000:=HWB.out;have hmk:=run_make_row' (P:=Tryz.prog) 31 22 (.int .u64 0) 8 Tryz.underlying31 TB rfl .i64 .i64 n (by omega) (by omega);have HG2:Hid (w.grownBy ((w.alloc (.cells #[.int .u64 x] 22)).alloc (.cells #[.int .u64 q] 22)) none):=za ((gAl w _ none).trans (gAl _ _ none));clear hn;refine callsIn_of_wp_marks Tryz.func104 rfl trivial ?_ rfl;simp only [Tryz.ntmps104,List.size_toArray,List.length_cons,List.length_nil,Nat.reduceAdd,Nat.reduceSub,Array.replicate_succ,Array.replicate_zero,List.push_toArray,List.append_toArray,List.nil_append,List.cons_append]
 gi_wp2_with (refine ⟨trivial, ?_⟩;refine (callsIn_wide.2 (HWI.out _ HG2.out)).mono ?_;rintro e w' ⟨rfl,hw'⟩;subst hw')
 have HBS:Hid (Bk ((((w.alloc (.cells #[.int .u64 x] 22)).alloc (.cells #[.int .u64 q] 22)).alloc (.cells (madeCells #[.int .u64 0] n) 22)).alloc (.cells #[.slice (some ⟨w.heap.size+1+1,0,none⟩) n n] 31)) w.heap.size 22 #[.int .u64 x]∧Bk ((((w.alloc (.cells #[.int .u64 x] 22)).alloc (.cells #[.int .u64 q] 22)).alloc (.cells (madeCells #[.int .u64 0] n) 22)).alloc (.cells #[.slice (some ⟨w.heap.size+1+1,0,none⟩) n n] 31)) (w.heap.size+1) 22 #[.int .u64 q]∧Bk ((((w.alloc (.cells #[.int .u64 x] 22)).alloc (.cells #[.int .u64 q] 22)).alloc (.cells (madeCells #[.int .u64 0] n) 22)).alloc (.cells #[.slice (some ⟨w.heap.size+1+1,0,none⟩) n n] 31)) (w.heap.size+1+1) 22 (nums (List.replicate n 0)).toArray∧Boxed ((((w.alloc (.cells #[.int .u64 x] 22)).alloc (.cells #[.int .u64 q] 22)).alloc (.cells (madeCells #[.int .u64 0] n) 22)).alloc (.cells #[.slice (some ⟨w.heap.size+1+1,0,none⟩) n n] 31)) (w.heap.size+1+1+1) 31 (.slice (some ⟨w.heap.size+1+1,0,none⟩) n n)∧w.grownBy ((((w.alloc (.cells #[.int .u64 x] 22)).alloc (.cells #[.int .u64 q] 22)).alloc (.cells (madeCells #[.int .u64 0] n) 22)).alloc (.cells #[.slice (some ⟨w.heap.size+1+1,0,none⟩) n n] 31)) none∧((((w.alloc (.cells #[.int .u64 x] 22)).alloc (.cells #[.int .u64 q] 22)).alloc (.cells (madeCells #[.int .u64 0] n) 22)).alloc (.cells #[.slice (some ⟨w.heap.size+1+1,0,none⟩) n n] 31)).heap.size=w.heap.size+1+1+1+1):=za (by
  have e1:(w.alloc (.cells #[.int .u64 x] 22)).heap.size=w.heap.size+1:=by simp
  have e2:((w.alloc (.cells #[.int .u64 x] 22)).alloc (.cells #[.int .u64 q] 22)).heap.size=w.heap.size+1+1:=by simp
  have e3:(((w.alloc (.cells #[.int .u64 x] 22)).alloc (.cells #[.int .u64 q] 22)).alloc (.cells (madeCells #[.int .u64 0] n) 22)).heap.size=w.heap.size+1+1+1:=by simp
  have b1:=(Bk.new (w.alloc (.cells #[.int .u64 x] 22)) 22 #[.int .u64 q]).alloc (.cells (madeCells #[.int .u64 0] n) 22)|>.alloc (.cells #[.slice (some ⟨w.heap.size+1+1,0,none⟩) n n] 31)
  have b2:=(Bk.new ((w.alloc (.cells #[.int .u64 x] 22)).alloc (.cells #[.int .u64 q] 22)) 22 (madeCells #[.int .u64 0] n)).alloc (.cells #[.slice (some ⟨w.heap.size+1+1,0,none⟩) n n] 31);have b3:=Boxed.new (((w.alloc (.cells #[.int .u64 x] 22)).alloc (.cells #[.int .u64 q] 22)).alloc (.cells (madeCells #[.int .u64 0] n) 22)) 31 (.slice (some ⟨w.heap.size+1+1,0,none⟩) n n);rw [e1] at b1;rw [e2] at b2;rw [e3] at b3;exact ⟨(((Bk.new w 22 #[.int .u64 x]).alloc _).alloc _).alloc _,b1,b2.of_eq (Array.toList_inj.1 (by rw [toList_madeCells_one];simp [nums])),b3,(HG2.out.trans (gAl _ _ none)).trans (gAl _ _ none),by simp⟩)
 have HCO:=za (Pr A1 f.length c1 ((((w.alloc (.cells #[.int .u64 x] 22)).alloc (.cells #[.int .u64 q] 22)).alloc (.cells (madeCells #[.int .u64 0] n) 22)).alloc (.cells #[.slice (some ⟨w.heap.size+1+1,0,none⟩) n n] 31)));obtain ⟨Wm,hWm⟩: ∃Wm,((((w.alloc (.cells #[.int .u64 x] 22)).alloc (.cells #[.int .u64 q] 22)).alloc (.cells (madeCells #[.int .u64 0] n) 22)).alloc (.cells #[.slice (some ⟨w.heap.size+1+1,0,none⟩) n n] 31))=Wm:=⟨_,rfl⟩;rw [hWm] at HBS HCO ⊢;clear hWm hmk HWI HG2;refine ⟨trivial, ?_⟩;refine (callsIn_wide.2 HCO.out).mono ?_;rintro e W0 ⟨rfl,b1,b2,b3,hg,hsz⟩;clear HCO;obtain ⟨k1,k2,k3,k4,k5,k6⟩:=HBS.out;have bx:=k1.grown hg (by simp);have bq:=k2.grown hg (by simp);have bo:=k3.grown hg (by simp);have bs:=k4.kept hg (by simp);have hB0:Below w.heap.size w W0:=zy (k5.trans hg);rw [k6] at b1 b2 b3 hsz ⊢;clear k1 k2 k3 k4 k5 k6 hg HBS;dsimp only
 gi_wp2
 refine xV rfl h1 (gf:=195) (lb:= #[.pointer (some ⟨w.heap.size+1+1+1+1,0,none⟩), .pointer (some ⟨w.heap.size+1+1+1+1+1+1,0,none⟩)]) rfl trivial (enters_of Tryz.func195 (by kernel_rfl) rfl)
  (Ql (n0 - 1) (by omega) _ _ _ _ f X w W0 hB0 b1 b2 b3 HF.out hl1 hl2) Kp3.trans (Kp3.b (by omega) (by omega) (by omega) (by omega)) (Below.refl _ _) (fun _=>rfl)
  (fun pre W=>Bk W w.heap.size 22 #[.int .u64 x]∧Bk W (w.heap.size+1) 22 #[.int .u64 q]∧Bk W (w.heap.size+1+1) 22 (nums (xj q x n (pre.map fun e:NT=>(e.j,e.c)))).toArray∧Boxed W (w.heap.size+1+1+1) 31 (.slice (some ⟨w.heap.size+1+1,0,none⟩) n n)∧Below w.heap.size w W∧W0.heap.size≤W.heap.size)
  (fun pre X' Y row hs hg hrow=>by
   obtain ⟨s1,s2,s3,s4,s5,s6⟩:=hs;have hr':=fun r e=>(hrow r e).2
   have l3:=s3.lt;have n3:some (w.heap.size+1+1)≠row:=fun e=>by
    obtain ⟨o,ho,hc⟩:=hr' _ e.symm;rw [show X'.heap[w.heap.size+1+1]? =_ from s3] at ho;cases ho;cases hc
   exact ⟨s1.grown hg (XG (s1.cell 0) hr'),s2.grown hg (XG (s2.cell 0) hr'),s3.grown hg n3,s4.kept hg (ZV s4 hr'),s5.grown hg s5.size (fun k e=>by have:=(hrow k e).1;omega),Nat.le_trans s6 hg.size⟩)
  ⟨bx,bq,by simpa [xj] using bo,bs,hB0,Nat.le_refl _⟩
  (fun e a' W=>(Sl ze (fun g=>W0.heap.size≤g) W e.v e.c∧e.j< n)∧a'={tmps:= #[.slice A1 f.length c1, .int .u64 x, .int .u64 q,undef, .pointer (some ⟨w.heap.size,0,none⟩), .pointer (some ⟨w.heap.size+1,0,none⟩), .slice none 0 0, .pointer (some ⟨w.heap.size+1+1+1,0,none⟩), .int .i64 e.j,e.v, .slice A1 f.length c1, .int .i64 n, .slice (some ⟨w.heap.size+1+1,0,none⟩) n n, .slice A1 f.length c1, .func (.func 195) #[] #[.pointer (some ⟨w.heap.size+1+1+1+1,0,none⟩), .pointer (some ⟨w.heap.size+1+1+1+1+1+1,0,none⟩)], .int .i64 e.j,e.v,undef,undef,undef,undef,undef,undef,undef,undef],defers:= []})
  (fun e a' _ X' Y row hs hg hrow=>⟨⟨hs.1.1.keepc hg (fun r e=>(hrow r e).2),hs.1.2⟩,hs.2⟩)
  ?assign ?body ?done
 case assign=>
  rintro l pre e W K hi hfx hK;have hfx2:e.j< n:=by have:=hfx.2;rwa [←HN.out] at this
  have hfx1:=hfx.1;have hk2:=hK _ W (KeepsFrom.refl _ _) (Kp3.refl _ _ _ _ _) hi ⟨⟨hfx1,hfx2⟩,rfl⟩;clear hK hi hfx
  gi_wp2
  exact hk2
 case body=>
  rintro l pre ⟨j,vc,lc⟩ a' W hl ⟨hbx,hbq,hbo,hbs,hbl,hws⟩ ⟨⟨hsl,hjn⟩,rfl⟩ hlt;have hsl:Sl ze (fun g=>W0.heap.size≤g) W vc lc:=hsl;have hjn:j< n:=hjn;obtain ⟨Ac,cc,rfl,_,_⟩:=hsl.form;have hj0:(0:Int)≤(j:Int):=by omega
  have hjI:(j:Int)< (n:Int):=by omega
  have HBX:Hid (Boxed W.drew (w.heap.size+1+1+1) 31 (.slice (some ⟨w.heap.size+1+1,0,none⟩) n n)):=za hbs;have HBx:Hid (Bk W.drew w.heap.size 22 #[.int .u64 x]):=za (hbx.drewN 1);have HBq:Hid (Bk W.drew (w.heap.size+1) 22 #[.int .u64 q]):=za (hbq.drewN 1);have HBO:Hid (Bk W.drew (w.heap.size+1+1) 22 (nums (xj q x n (pre.map fun e:NT=>(e.j,e.c)))).toArray):=za (hbo.drewN 1);have HEV:Hid (∀w',W.drew.grownBy w' none→Calls Tryz.prog 88 #[.slice Ac lc.length cc, .int .u64 x, .int .u64 q] w' fun e w''=>e= .returned (.int .u64 (zR q lc x))∧w'.grownBy w'' none):=za (fun w' hw=>Ym _ lc x q _ w' (hsl.kept ((zb W 1).trans hw)) HX.out);have HBL:=za hbl;have HLL:Hid ((xj q x n (pre.map fun e:NT=>(e.j,e.c))).length=n):=za (ZL _ _ _ _);have HSN:Hid (xj q x n ((pre++ [(⟨j, .slice Ac lc.length cc,lc⟩:NT)]).map fun e:NT=>(e.j,e.c))=(xj q x n (pre.map fun e:NT=>(e.j,e.c))).set j (zR q lc x)):=za (by rw [List.map_append];exact VF _ _ _ _ _);have HWL:Hid (w.heap.size+1+1+1+1+1+1+1=W0.heap.size∧W0.heap.size≤W.heap.size):=za ⟨by rw [hsz],hws⟩;have HWW:Hid (w.heap.size+1+1+1+1+1+1< W.heap.size):=za (by omega);obtain ⟨H0,hH0⟩: ∃H0,H0=xj q x n (pre.map fun e:NT=>(e.j,e.c)):=⟨_,rfl⟩;rw [←hH0] at HBO HLL HSN;obtain ⟨ev,hev⟩: ∃ev,ev=zR q lc x:=⟨_,rfl⟩;have HEVE:=za hev;clear hbx hbq hbo hbs hbl hsl hlt hH0 hev;dsimp only
  gi_wp2
  refine xx (l0:=l) (R:=fun _ W5=>KeepsFrom W0.heap.size W W5∧Kp3 w.heap.size (w.heap.size+1+1+1+1) (w.heap.size+1+1+1+1+1) (w.heap.size+1+1+1+1+1+1) W W5∧Bk W5 w.heap.size 22 #[.int .u64 x]∧Bk W5 (w.heap.size+1) 22 #[.int .u64 q]∧Bk W5 (w.heap.size+1+1) 22 (nums (xj q x n ((pre++ [(⟨j, .slice Ac lc.length cc,lc⟩:NT)]).map fun e:NT=>(e.j,e.c)))).toArray∧Boxed W5 (w.heap.size+1+1+1) 31 (.slice (some ⟨w.heap.size+1+1,0,none⟩) n n)∧Below w.heap.size w W5∧W0.heap.size≤W5.heap.size) (by kernel_rfl) (by kernel_rfl) (fun a w h=>⟨rfl,h⟩) ?_;refine Vo 7 (by kernel_rfl) ?_;refine mQ0 (.slice (some ⟨w.heap.size+1+1,0,none⟩) n n) (fun w' hw' K hK=> ?_) ?_
  ·have hb7:=(HBX.out.kept hw' (by simp)).cell;have hb4:=(HBx.out.grown hw' (by simp)).cell 0;have hb5:=(HBq.out.grown hw' (by simp)).cell 0;simp at hb4 hb5;go_simp;exact hK _ rfl rfl
  refine mP0 (.int .i64 (j:Int)) ?_;refine mP0 (.slice Ac lc.length cc) ?_;refine mQ0 (.int .u64 x) (fun w' hw' K hK=> ?_) ?_
  ·have hb7:=(HBX.out.kept hw' (by simp)).cell;have hb4:=(HBx.out.grown hw' (by simp)).cell 0;have hb5:=(HBq.out.grown hw' (by simp)).cell 0;simp at hb4 hb5;go_simp;exact hK _ rfl rfl
  refine mQ0 (.int .u64 q) (fun w' hw' K hK=> ?_) ?_
  ·have hb7:=(HBX.out.kept hw' (by simp)).cell;have hb4:=(HBx.out.grown hw' (by simp)).cell 0;have hb5:=(HBq.out.grown hw' (by simp)).cell 0;simp at hb4 hb5;go_simp;exact hK _ rfl rfl
  refine zn.step (Pv.eq (.int .u64 (zR q lc x))) [(2,19),(3,20),(4,21)] (by kernel_rfl) (fun w' hw'=> ?_) ?_
  ·rintro _ rfl;rintro _ rfl;rintro _ rfl;refine zq rfl fun K hK=> ?_
   go_simp;refine (HEV.out w' hw').mono ?_;rintro e w3 ⟨rfl,hg⟩;exact hK _ _ rfl rfl hg
  refine zn.step (Pv.eq (.pointer (some ⟨w.heap.size+1+1,j,none⟩))) [(0,17),(1,18)] (by kernel_rfl) (fun w' hw'=> ?_) ?_
  ·rintro _ rfl;rintro _ rfl;refine zq rfl fun K hK=> ?_
   go_simp;exact hK _ _ rfl rfl gRf
  intro w3 hw3
  iterate 5 (intro _ _)
  rintro _ rfl;rintro _ rfl;have hbo3:=HBO.out.grown hw3 (by simp);have hcl:w3.cell? ⟨w.heap.size+1+1,j,none⟩=some (.int .u64 (H0[j]'(by rw [HLL.out];exact hjn))):=by rw [hbo3.cell j];simp [nums,HLL.out,hjn]
  have hfr:=hbo3.free j;have hgd:W.grownBy w3 none:=(zb W 1).trans hw3;have hbo5:=(hbo3.set j (.int .u64 ev)).of_eq (cs':=(nums (H0.set j ev)).toArray) (by simp [nums,List.map_set]);have hbx5:=(HBx.out.grown hw3 (by simp)).far (p:=⟨w.heap.size+1+1,j,none⟩) (by simp;omega) (.int .u64 ev);have hbq5:=(HBq.out.grown hw3 (by simp)).far (p:=⟨w.heap.size+1+1,j,none⟩) (by simp) (.int .u64 ev);have hbs5:=Bk.far (HBX.out.kept hw3 (by simp)) (p:=⟨w.heap.size+1+1,j,none⟩) (by simp) (.int .u64 ev);have hkf:KeepsFrom W0.heap.size W (w3.setCell ⟨w.heap.size+1+1,j,none⟩ (.int .u64 ev)):=((xQ hgd).trans (KeepsOthers.setCell _ _ _)).from _;have hWS:w.heap.size+1+1+1+1+1+1< W.heap.size:=HWW.out;have hkp:Kp3 w.heap.size (w.heap.size+1+1+1+1) (w.heap.size+1+1+1+1+1) (w.heap.size+1+1+1+1+1+1) W (w3.setCell ⟨w.heap.size+1+1,j,none⟩ (.int .u64 ev)):=
   (Kp3.grown hgd (by omega) (by omega) (by omega) hWS).trans ⟨(Below.refl _ w3).setCell (p:=⟨w.heap.size+1+1,j,none⟩) (by simp;omega) _,Below.heap_setCell w3 _ _ _ (by simp;omega),Below.heap_setCell w3 _ _ _ (by simp;omega),Below.heap_setCell w3 _ _ _ (by simp;omega)⟩
  have hbl5:Below w.heap.size w (w3.setCell ⟨w.heap.size+1+1,j,none⟩ (.int .u64 ev)):=(HBL.out.trans ((zy hgd).mono (by omega))).setCell (p:=⟨w.heap.size+1+1,j,none⟩) (by simp;omega) _;rw [HSN.out, ←HEVE.out];have FIN:=za (And.intro hkf (And.intro hkp (And.intro hbx5 (And.intro hbq5 (And.intro hbo5 (And.intro hbs5 (And.intro hbl5 (show W0.heap.size≤(w3.setCell ⟨w.heap.size+1+1,j,none⟩ (.int .u64 ev)).heap.size by have:=hgd.size;have:=HWL.out.2;simp;omega))))))));clear hbo3 hgd hbo5 hbx5 hbq5 hbs5 hkf hkp hbl5 hw3;rw [HEVE.out] at FIN;rw [HEVE.out];refine wpList_plain rfl fun K hK=> ?_
  go_simp;refine hK _ _ (wpList_nil ?_);exact ⟨rfl,FIN.out⟩
 case done=>
  rintro D zs W hD hzs ⟨hbx,hbq,hbo,hbs,hbl,_⟩ hK;have hcs:=hbs.cell;rw [hzs,HN.out,OV] at hbo;have hlen:(UE q f x).length=n:=by simp [UE,HN.out]
  have HR:Hid (Sl ze (fun g=>w.heap.size≤g) (W.putObj D (.deferred none)) (.slice (some ⟨w.heap.size+1+1,0,none⟩) n n) (UE q f x)∧w.grownBy (W.putObj D (.deferred none)) none):=za ⟨by
   have hb2:=hbo.grown (grownBy_putObj' W D (.deferred none)) (fun e=>by injection e with e;omega)
   have:=Sl.block (E:=ze) (X:=fun g=>w.heap.size≤g) (xs:=UE q f x) (c:=n) hb2 (by omega) ((nums (UE q f x)).map fun v=> [v]) (by simp [nums]) (fun i hi hi'=>⟨by simp [nums],by simp only [UE,List.getElem_map];exact xG _ _ _⟩) (by rw [zV]) (by rw [hlen];exact Nat.le_refl _) (by omega)
   rwa [hlen] at this,zl (hbl.trans (belowK_b (w:=w) (Nat.le_refl _) W D _ _ (by omega) hK rfl rfl))⟩
  clear hbo hbx hbq hbs hbl
  gi_wp2
  refine ⟨by simp, .inl ⟨_,_,rfl,run_takeDeferred hK, ?_⟩⟩;refine ⟨_,results_tmp rfl _ _ _, .slice (some ⟨w.heap.size+1+1,0,none⟩) n n,rfl,HR.out.1,HR.out.2⟩
end
section
open Go Go.RowKit
def ZA(q y:Int)(f:List (List Int))(j:Nat):List Int:=(f.take j).map (fun c=>zR q c y)++List.replicate (f.length - j) 0
theorem xP(q y:Int)(f:List (List Int))(j:Nat)(h:j≤f.length):(ZA q y f j).length=f.length:=by simp [ZA];omega
theorem NB(q y:Int)(f:List (List Int))(j:Nat)(h:j< f.length):(ZA q y f j).set j (zR q f[j] y)=ZA q y f (j+1):=by
 refine List.ext_getElem (by rw [List.length_set,xP _ _ _ _ (by omega),xP _ _ _ _ (by omega)]) fun i h1 h2=> ?_
 rw [xP _ _ _ _ (by omega)] at h2;rw [List.getElem_set];split
 ·rename_i e;subst e;simp only [ZA];rw [List.getElem_append_left (by simp;omega)];simp
 ·rename_i e;simp only [ZA];by_cases hi:i< j
  ·rw [List.getElem_append_left (by simp;omega),List.getElem_append_left (by simp;omega)];simp
  ·rw [List.getElem_append_right (by simp;omega),List.getElem_append_right (by simp;omega)];simp
theorem LR(v:Value)(f:List (List Int))(y q:Int)(X:Nat→Prop)(w:World)(hf:Sl (zh ze) X w v f)(hy:U64 y)(hl1:f.length≤100000):
  Calls Tryz.prog 105 #[v, .int .u64 y, .int .u64 q] w (zH ze (fun g=>w.heap.size≤g) w (UT q f y)):=by
 have HF:=za hf;have HY:=za hy;obtain ⟨A,c,rfl,hc1,hc2⟩:=hf.form;clear hf hy;have hmk:=run_make_row' (P:=Tryz.prog) 31 22 (.int .u64 0) 8 Tryz.underlying31 TB rfl .i64 .i64 f.length (by omega) (by omega);have HST:Hid (Bk (w.alloc (.cells (madeCells #[.int .u64 0] f.length) 22)) w.heap.size 22 (nums (ZA q y f 0)).toArray∧w.grownBy (w.alloc (.cells (madeCells #[.int .u64 0] f.length) 22)) none):=za ⟨(Bk.new w 22 (madeCells #[.int .u64 0] f.length)).of_eq (Array.toList_inj.1 (by rw [toList_madeCells_one];simp [nums,ZA])),gAl w _ none⟩;go_enter Tryz.func105,Tryz.ntmps105;go_wp2_with fail;go_loopg [15] f.length (fun g s15 wx=> ∃j:Nat,j+g=f.length∧s15= .int .i64 j∧Hid (Bk wx w.heap.size 22 (nums (ZA q y f j)).toArray∧w.grownBy wx none))
 case atStart=>exact ⟨0,by omega,rfl,HST⟩
 case round=>
  obtain ⟨j,hj,rfl,HX⟩:=hrel;cases gk with
  |zero=>
   obtain rfl:j=f.length:=by omega
   have HR:Hid (Sl ze (fun g=>w.heap.size≤g) wr (.slice (some ⟨w.heap.size,0,none⟩) f.length f.length) (UT q f y)∧w.grownBy wr none):=za ⟨by
    have h1:=HX.out.1;rw [show ZA q y f f.length=UT q f y by simp [ZA,UT]] at h1
    have:=Sl.block (E:=ze) (X:=fun g=>w.heap.size≤g) (xs:=UT q f y) (c:=f.length) h1 (Nat.le_refl _) ((nums (UT q f y)).map fun v=> [v]) (by simp [nums]) (fun i hi hi'=>⟨by simp [nums],by simp only [UT,List.getElem_map];exact xG _ _ _⟩) (by rw [zV]) (by simp [UT]) (by omega)
    rwa [show (UT q f y).length=f.length by simp [UT]] at this,HX.out.2⟩
   clear HX HST hmk;go_wp2;go_ret;exact ⟨_,rfl,HR.out.1,HR.out.2⟩
  |succ m=>
   have hjn:(j:Int)< (f.length:Int):=by omega
   have hjN:j< f.length:=by omega
   have hj0:(0:Int)≤(j:Int):=by omega
   obtain ⟨g,o,c',u,e,_,_,hcu,hsu⟩:=(HF.out.kept HX.out.2).atS hjN;injection e with e1 e2 e3
   subst e1 e3;obtain ⟨A1,c1,e1,_,_⟩:=hsu.form;subst e1;have HEV:=za (Ym _ f[j] y q _ wr hsu HY.out);have HSN:=za (NB q y f j hjN);have HLL:=za (xP q y f j (by omega));have HB:=za HX.out.1;have HG:=za HX.out.2;clear hsu e2 HX HST hmk;generalize ZA q y f j=H0 at *;generalize f[j]=L at *;generalize L.length=n1 at *;go_wp2_with fail;refine HEV.out.mono ?_;rintro e w1 ⟨rfl,hg1⟩;have hb1:=HB.out.grown hg1 (by simp);have hcl:w1.cell? ⟨w.heap.size,j,none⟩=some (.int .u64 (H0[j]'(by rw [HLL.out];exact hjN))):=by rw [hb1.cell j];simp [nums,HLL.out,hjN]
   have hfr:=hb1.free j;have HFIN:Hid (Bk (w1.setCell ⟨w.heap.size,j,none⟩ (.int .u64 (zR q L y))) w.heap.size 22 (nums (ZA q y f (j+1))).toArray∧w.grownBy (w1.setCell ⟨w.heap.size,j,none⟩ (.int .u64 (zR q L y))) none):=za ⟨(hb1.set j _).of_eq (by rw [←HSN.out];simp [nums,List.map_set]),zB (HG.out.trans hg1) (yM (World.grownBy.refl _ (some w.heap.size)) j _) (fun g e=>by injection e with e;omega)⟩;clear hg1 hb1;go_wp2_with fail;go_roundg m
   case measure=>omega
   case rel=>exact ⟨j+1,by omega,by go_num,HFIN⟩
end
section
open Go Go.RowKit Go.Shelf
theorem QU{w:World}{g:Nat}{l:List Int}{n:Nat}(h:Bk w g 22 (xq l n))(hn:l.length=n)(hu: ∀x∈l,U64 x)(hb:n≤100000000){X:Nat→Prop}(hX:X g):Sl ze X w (.slice (some ⟨g,0,none⟩) n n) l:=by
 subst hn;rw [Nt] at h;exact Sl.block h hX ((nums l).map fun v=> [v]) (by simp [nums]) (fun i hi hi'=>⟨by simp [nums],hu _ (List.getElem_mem hi)⟩) (by rw [zV]) (Nat.le_refl _) (by omega)
theorem MA(xs:List Int)(k:Int){q:Int}(hm:zY q=true):xC q xs k=xs.map fun c=>yg c k q:=by unfold xC;rw [if_pos hm]
theorem Ji(xs:List Int)(k:Int){q:Int}(hm:zY q=false):xC q xs k= []:=by unfold xC;rw [if_neg (by simp [hm])]
theorem OL(xs:List Int)(k q:Int)(j:Nat)(h:j< xs.length):(xs.take (j+1)).map (fun c=>yg c k q)=(xs.take j).map (fun c=>yg c k q)++ [yg xs[j] k q]:=by
 rw [List.take_succ_eq_append_getElem h,List.map_append];rfl
theorem OQ(v:Value)(xs:List Int)(k q:Int)(X:Nat→Prop)(w:World)(h:Sl ze X w v xs)(hk:U64 k)(hq:U64 q)(hl:xs.length≤1000000):
  Calls Tryz.prog 235 #[v, .int .u64 k, .int .u64 q] w (zH ze (fun g=>w.heap.size≤g) w (xC q xs k)):=by
 have H:=za h;have HK:=za hk;have HMAY:=za (fun w=>ZJ q w hq);obtain ⟨A,c,rfl,hc1,hc2⟩:=h.form;clear h hk hq;by_cases hm:zY q=true
 ·rw [hm] at HMAY;have hmk:=fun w=>YZ w xs.length (by omega)
  rw [MA xs k hm];have HL:=za hl;clear hm hl;go_enter Tryz.func235,Tryz.ntmps235;go_wp2_with (refine (HMAY.out _).mono ?_;rintro e w1 ⟨rfl,rfl⟩);clear HMAY;go_loopg [18] xs.length (fun g s18 wx=> ∃j:Nat,j+g=xs.length∧s18= .int .i64 j∧Hid (Bk wx w.heap.size 22 (xq ((xs.take j).map fun c=>yg c k q) xs.length)∧w.grownBy wx none))
  case atStart=>exact ⟨0,by omega,rfl,za ⟨Bk.new w _ _,gAl w _ _⟩⟩
  case round=>
   obtain ⟨j,hj,rfl,HX⟩:=hrel;cases gk with
   |zero=>
    obtain rfl:j=xs.length:=by omega
    have HR:Hid (Sl ze (fun g=>w.heap.size≤g) wr (.slice (some ⟨w.heap.size,0,none⟩) xs.length xs.length) (xs.map fun c=>yg c k q)∧w.grownBy wr none):=za ⟨QU (by simpa using HX.out.1) (by simp) (fun x hx=>by
     obtain ⟨y,_,rfl⟩:=List.mem_map.1 hx;exact yD _ _ _) (by have:=HL.out;omega) (Nat.le_refl _),HX.out.2⟩
    clear HX hmk;go_wp2;go_ret;exact ⟨_,rfl,HR.out.1,HR.out.2⟩
   |succ m=>
    have hjn:(j:Int)< (xs.length:Int):=by omega
    have hjN:j< xs.length:=by omega
    have hj0:(0:Int)≤(j:Int):=by omega
    obtain ⟨g,o,c',e,_,_,hcu,hbd⟩:=(H.out.kept HX.out.2).atU hjN;injection e with e1 e2 e3
    subst e1 e3;have HMU:=za (VJ xs[j] k q wr hbd HK.out);have HSN:=za (OL xs k q j hjN);have HLL:Hid (((xs.take j).map fun c=>yg c k q).length=j):=za (by simp;omega);have HB:=za HX.out.1;have HG:=za HX.out.2;clear e2 HX hmk hbd;generalize xs[j]=x at *;generalize hL:(xs.take j).map (fun c=>yg c k q)=L at *;clear hL;go_wp2_with fail;refine HMU.out.mono ?_;rintro e w1 ⟨rfl,hg1⟩;have hb1:=HB.out.grown hg1 (by simp);obtain ⟨old,hold⟩:=Of L xs.length j hjN (by rw [HLL.out];omega);have hcl:w1.cell? ⟨w.heap.size,j,none⟩=some old:=(hb1.cell j).trans hold;have hfr:w1.frozen? ⟨w.heap.size,j,none⟩=false:=hb1.free j;have HFIN:Hid (Bk (w1.setCell ⟨w.heap.size,j,none⟩ (.int .u64 (yg x k q))) w.heap.size 22 (xq ((xs.take (j+1)).map fun c=>yg c k q) xs.length)∧w.grownBy (w1.setCell ⟨w.heap.size,j,none⟩ (.int .u64 (yg x k q))) none):=za ⟨by
     have e:=Qb L xs.length (yg x k q) (by rw [HLL.out];omega);rw [HLL.out] at e;have hs:=hb1.set j (.int .u64 (yg x k q));rw [e, ←HSN.out] at hs;exact hs,xR (HG.out.trans hg1) _ _ (Nat.le_refl _)⟩
    clear hg1 hb1 hold;go_wp2_with fail;go_roundg m
    case measure=>omega
    case rel=>exact ⟨j+1,by omega,by go_num,HFIN⟩
 ·have hm':zY q=false:=by simpa using hm
  rw [hm'] at HMAY;rw [Ji xs k hm'];clear hm hm' hl;go_enter Tryz.func235,Tryz.ntmps235;go_wp2_with (refine (HMAY.out _).mono ?_;rintro e w1 ⟨rfl,rfl⟩);go_ret;exact ⟨_,rfl,Sl.nil _ _ _,World.grownBy.refl _ _⟩
def Zd(q:Int)(c:List Int)(x:Int)(g:Nat):List Int:=(List.range (c.length - 1)).map fun i=>if i< g then 0 else zR q (c.drop (i+1)) x
theorem XL(q:Int)(c:List Int)(x:Int)(g:Nat):(Zd q c x g).length=c.length - 1:=by simp [Zd]
theorem Oz(q:Int)(c:List Int)(x:Int):Zd q c x 0=zS q c x:=by simp [Zd,zS]
theorem Mb(q:Int)(c:List Int)(x:Int):xq [] (c.length - 1)=(nums (Zd q c x (c.length - 1))).toArray:=by
 unfold xq
 congr 1
 refine List.ext_getElem (by simp [nums,Zd]) fun i h1 h2=> ?_
 have:i< c.length - 1:=by simpa [nums,Zd] using h2
 simp [nums,Zd,this]
theorem Ma(q:Int)(c:List Int)(x:Int)(g:Nat):(nums (Zd q c x (g+1))).set g (.int .u64 (zR q (c.drop (g+1)) x))=nums (Zd q c x g):=by
 refine List.ext_getElem (by simp [nums,Zd]) fun i h1 h2=> ?_
 rw [List.getElem_set];by_cases e:g=i
 ·subst e;simp [nums,Zd]
 ·have h3:(i< g+1)=(i< g):=propext (by omega);simp [nums,Zd,e,h3]
theorem Mc(q:Int)(c:List Int)(x:Int)(g:Nat): ∀y∈Zd q c x g,U64 y:=fun y hy=>by
 obtain ⟨i,_,rfl⟩:=List.mem_map.1 hy;split
 ·exact ⟨by decide,by decide⟩
 ·exact xG _ _ _
theorem QT{w:World}{g:Nat}{l:List Int}{n:Nat}(h:Bk w g 22 (nums l).toArray)(hn:l.length=n)(hu: ∀x∈l,U64 x)(hb:n≤100000000){X:Nat→Prop}(hX:X g):Sl ze X w (.slice (some ⟨g,0,none⟩) n n) l:=by
 subst hn;exact Sl.block h hX ((nums l).map fun v=> [v]) (by simp [nums]) (fun i hi hi'=>⟨by simp [nums],hu _ (List.getElem_mem hi)⟩) (by rw [zV]) (Nat.le_refl _) (by omega)
theorem Lw(q:Int)(c:List Int)(x:Int)(i:Nat)(h:i< c.length):zR q (c.drop i) x=ZW (yg (zR q (c.drop (i+1)) x) x q) c[i] q:=by
 rw [List.drop_eq_getElem_cons h,Pn]
theorem Rw(v:Value)(c:List Int)(x q:Int)(X:Nat→Prop)(w:World)(h:Sl ze X w v c)(hx:U64 x)(hl:c.length≤1000000)(h0:c≠ []):
  Calls Tryz.prog 236 #[v, .int .u64 x, .int .u64 q] w (zH ze (fun g=>w.heap.size≤g) w (zS q c x)):=by
 have H:=za h;have HX:=za hx;obtain ⟨A,cc,rfl,hc1,hc2⟩:=h.form;have hpos:0< c.length:=List.length_pos_iff.2 h0;obtain ⟨n,hn⟩: ∃n,n+1=c.length:=⟨c.length - 1,by omega⟩;have HN:=za hn;have hmk:=fun w=>YZ w n (by omega)
 have e1:IntKind.i64.wrap ((c.length:Int) - 1)=(n:Int):=by rw [IntWalk.i64_in _ (by omega)];omega
 have HA:Hid (Bk (w.alloc (.cells (xq [] n) 22)) w.heap.size 22 (nums (Zd q c x n)).toArray):=za (by
  have:=Mb q c x
  rw [show c.length - 1=n by omega] at this;rw [←this];exact Bk.new w _ _)
 have HE0:Hid ((0:Int)=zR q (c.drop (n+1)) x):=za (by rw [hn,List.drop_length];rfl);have hn9:(n:Int)< 4611686018427387904:=by omega
 have HW0:Hid ((Zd q c x 0).length=n∧n≤1000000):=za ⟨by rw [XL];omega,by omega⟩;have HLT:Hid (∀m,m< n→m+1< c.length):=za (fun m hm=>by omega);have HAT:Hid (∀i g,i< n→(nums (Zd q c x g))[i]? =some (.int .u64 ((Zd q c x g)[i]?.getD 0))):=za (fun i g hi=>by
  have:i< (Zd q c x g).length:=by rw [XL];omega
  simp [nums,this])
 clear h hx h0 hl hpos;go_enter Tryz.func236,Tryz.ntmps236;go_wp2_with fail;go_loopg [8,9] n (fun g s8 s9 wx=>g≤n∧s9= .int .i64 g∧s8= .int .u64 (zR q (c.drop (g+1)) x)∧Hid (Bk wx w.heap.size 22 (nums (Zd q c x g)).toArray∧w.grownBy wx none))
 case atStart=>exact ⟨Nat.le_refl _,rfl,by rw [←HE0.out],za ⟨HA.out,gAl w _ _⟩⟩
 case round=>
  obtain ⟨hj,rfl,rfl,HR⟩:=hrel;rcases Nat.eq_zero_or_pos gk with h00|h00
  ·subst h00;have HF:Hid (Sl ze (fun g=>w.heap.size≤g) wr (.slice (some ⟨w.heap.size,0,none⟩) n n) (zS q c x)∧w.grownBy wr none):=za ⟨by
    have h1:=HR.out.1;have h2:=QT (X:=fun g=>w.heap.size≤g) (n:=n) h1 HW0.out.1 (Mc _ _ _ _) (by have:=HW0.out.2;omega) (Nat.le_refl _)
    rwa [Oz] at h2,HR.out.2⟩
   clear HR HA HE0 hmk;go_wp2;go_ret;exact ⟨_,rfl,HF.out.1,HF.out.2⟩
  ·obtain ⟨m,hr⟩: ∃m,gk=m+1:=⟨gk - 1,by omega⟩;have hmN:gk< c.length:=by rw [hr];exact HLT.out m (by omega)
   obtain ⟨g,of,c',e,_,_,hcu,hu⟩:=(H.out.kept HR.out.2).atU hmN;injection e with e2 e3 e4
   subst e2 e4;have HGd:Hid (w.grownBy wr.drew none):=za (zf HR.out.2 1);have HC:Hid (∀w',wr.drew.grownBy w' none→w'.cell? ⟨g,of+gk,none⟩=some (.int .u64 (c[gk]'hmN))):=za (fun w' hw=>by
    obtain ⟨g2,of2,c2,e2,_,_,h3,_⟩:=(H.out.kept (HGd.out.trans hw)).atU hmN;injection e2 with e21 e22 e23
    injection e21 with e21
    injection e21 with e24 e25
    subst e24 e25;exact h3)
   have HY:=za hu;have HO:Hid (U64 (zR q (c.drop (gk+1)) x)):=za (xG _ _ _);have HSN:Hid (ZW (yg (zR q (c.drop (gk+1)) x) x q) (c[gk]'hmN) q=zR q (c.drop gk) x):=za (Lw q c x gk hmN).symm;have HST:=za (Ma q c x m);rw [←hr] at HST;have HGM:=za hr;have HC2:=za (HAT.out m gk (by omega));have HB:=za HR.out.1;have h01:decide ((0:Int)< (gk:Int))=true:=by simp;omega
   have h02:(0:Int)≤(gk:Int):=by omega
   have h03:(gk:Int)< (c.length:Int):=by omega
   clear hr;clear hcu hu HR e3 HA HE0 hmk HAT;generalize hy:c[gk]=y at *;clear hy hmN;generalize zR q (c.drop (gk+1)) x=o at *;generalize hO2:zR q (c.drop gk) x=o2 at *;have HO2:=za hO2;generalize Zd q c x gk=L1 at *;generalize hL0:Zd q c x m=L0 at *;have HL0:=za hL0;clear hO2 hL0;generalize c.length=len at *;go_wp2_with fail;refine Zf 11 ?_;refine mP0 (.int .u64 o) ?_;refine mP0 (.int .u64 x) ?_;refine mP0 (.int .u64 q) ?_;refine mN3 (Pv.eq (.int .u64 (yg o x q))) 0 21 1 22 2 23 (fun w' hw' K hK=> ?_) ?_
   ·go_simp;refine (VJ o x q w' HO.out HX.out).mono ?_;rintro e w3 ⟨rfl,hg⟩;exact hK _ _ rfl rfl hg
   refine mP0 (.slice (some ⟨g,of,none⟩) len cc) ?_;refine mP0 (.int .i64 (gk:Int)) ?_;refine mP2 (.pointer (some ⟨g,of+gk,none⟩)) 4 25 5 26 ?_;refine mQ1 (.int .u64 y) 6 27 (fun w' hw' K hK=> ?_) ?_
   ·have hc:=HC.out w' hw';go_simp;exact hK _ rfl rfl
   refine mP0 (.int .u64 q) ?_;refine mN3 (Pv.eq (.int .u64 (ZW (yg o x q) y q))) 3 24 7 28 8 29 (fun w' hw' K hK=> ?_) ?_
   ·go_simp;refine (Ov (yg o x q) y q w' (yD _ _ _) HY.out).mono ?_;rintro e w3 ⟨rfl,hg⟩;exact hK _ _ rfl rfl hg
   refine mP1 (.int .u64 (ZW (yg o x q) y q)) 9 30 ?_;intro w3 hw3
   iterate 10 (refine pD ?_;intro _)
   intro y10 k10;have e10:y10= .int .u64 (ZW (yg o x q) y q):=k10;subst e10;refine wpList_nil ?_;simp only [Act.put,sAa,sAb,sAc];rw [HSN.out];clear k10;have hb3:=(HB.out.grown (zb wr 1) (by simp)).grown hw3 (by simp);have hcl:w3.cell? ⟨w.heap.size,m,none⟩=some (.int .u64 (L1[m]?.getD 0)):=by rw [hb3.cell m,List.getElem?_toArray];exact HC2.out
   have hfr:w3.frozen? ⟨w.heap.size,m,none⟩=false:=hb3.free m;have e5:IntKind.i64.wrap ((gk:Int) - 1)=(m:Int):=by have:=HGM.out;rw [IntWalk.i64_in _ (by omega)];omega
   have HFIN:Hid (Bk (w3.setCell ⟨w.heap.size,m,none⟩ (.int .u64 o2)) w.heap.size 22 (nums L0).toArray∧w.grownBy (w3.setCell ⟨w.heap.size,m,none⟩ (.int .u64 o2)) none):=za ⟨(hb3.set m _).of_eq (by rw [←HST.out];simp),xR (HGd.out.trans hw3) _ _ (Nat.le_refl _)⟩;clear hw3 hb3;have hmn:(m:Int)< (n:Int):=by have:=HGM.out;omega
   have hm0:(0:Int)≤(m:Int):=by omega
   go_wp2_with fail;go_roundg m
   case measure=>have:=HGM.out;omega
   case rel=>
    have hr:=HGM.out;obtain rfl:=HO2.out;obtain rfl:=HL0.out;exact ⟨by omega,by go_num,by rw [hr],HFIN⟩
end
section
open Go Go.RowKit Go.Shelf
def tUp(q:Int)(a b:List Int)(i k:Nat):List Int:=(List.range (a.length+b.length - 1)).map fun n=>(cvI a b n i+if i≤n∧n - i< k then a[i]?.getD 0*b[n - i]?.getD 0 else 0)%q
theorem Xu(q:Int)(a b:List Int)(i k:Nat):(tUp q a b i k).length=a.length+b.length - 1:=by simp [tUp]
theorem Jc(q:Int)(a b:List Int):xq [] (a.length+b.length - 1)=(nums (tUp q a b 0 0)).toArray:=by
 unfold xq
 congr 1
 refine List.ext_getElem (by simp [nums,tUp]) fun i h1 h2=> ?_
 simp [nums,tUp,cvI]
theorem IU(q:Int)(a b:List Int)(i:Nat):tUp q a b i b.length=tUp q a b (i+1) 0:=by
 unfold tUp;refine List.map_congr_left fun n _=> ?_
 have e:(if i+1≤n∧n - (i+1)< 0 then a[i+1]?.getD 0*b[n - (i+1)]?.getD 0 else 0)=0:=if_neg (by omega);rw [e,Int.add_zero,cvI]
 congr 2
 by_cases h1:i≤n
 ·by_cases h2:n - i< b.length
  ·rw [if_pos ⟨h1,h2⟩,if_pos h1]
  ·have h3:b.length≤n - i:=by omega
   rw [if_neg (by omega),if_pos h1,List.getElem?_eq_none h3];simp
 ·rw [if_neg (by omega),if_neg h1]
theorem IT(q:Int)(a b:List Int)(i k:Nat)(hq:zY q=true)(hi:i< a.length)(hk:k< b.length):
  (nums (tUp q a b i k)).set (i+k) (.int .u64 (ZW ((tUp q a b i k)[i+k]?.getD 0) (yg a[i] b[k] q) q))=nums (tUp q a b i (k+1)):=by
 refine List.ext_getElem (by simp [nums,tUp]) fun n h1 h2=> ?_
 rw [List.getElem_set];have hn:n< a.length+b.length - 1:=by simpa [nums,tUp] using h2
 by_cases e:i+k=n
 ·subst e;rw [if_pos rfl];have e1:(tUp q a b i k)[i+k]?.getD 0=cvI a b (i+k) i%q:=by simp [tUp,hn]
  have e2:(nums (tUp q a b i (k+1)))[i+k]= .int .u64 ((cvI a b (i+k) i+a[i]*b[k])%q):=by simp [nums,tUp,hi,hk]
  rw [e1,e2,Vm _ _ _ hq,Tr _ _ _ hq,Int.add_emod,Int.emod_emod_of_dvd _ (Int.dvd_refl q),Int.emod_emod_of_dvd _ (Int.dvd_refl q), ←Int.add_emod]
 ·rw [if_neg e];have h3:(i≤n∧n - i< k+1)=(i≤n∧n - i< k):=propext (by omega);simp [nums,tUp,h3]
theorem Mo(q:Int)(a b:List Int)(i k:Nat)(hq:zY q=true): ∀y∈tUp q a b i k,U64 y:=fun y hy=>by
 obtain ⟨n,_,rfl⟩:=List.mem_map.1 hy;simp [zY] at hq
 have:=zW (cvI a b n i+if i≤n∧n - i< k then a[i]?.getD 0*b[n - i]?.getD 0 else 0) q hq.1
 exact ⟨this.1,by omega⟩
theorem Ri(q:Int){a b:List Int}(hq:zY q=true)(ha:a≠ [])(hb:b≠ []):YP q a b=tUp q a b a.length 0:=by
 unfold YP tUp;rw [if_pos ⟨hq,ha,hb⟩];refine List.map_congr_left fun n _=> ?_
 rw [if_neg (by omega),Int.add_zero]
theorem Te{q:Int}{a b:List Int}(h: ¬(zY q=true∧a≠ []∧b≠ [])):YP q a b= []:=by
 unfold YP;rw [if_neg h]
theorem OP(v v2:Value)(a b:List Int)(q:Int)(X:Nat→Prop)(w:World)(h:Sl ze X w v a)(h2:Sl ze X w v2 b)(hq:U64 q)(hl:a.length+b.length≤1000000):
  Calls Tryz.prog 231 #[v,v2, .int .u64 q] w (zH ze (fun g=>w.heap.size≤g) w (YP q a b)):=by
 have H:=za h;have H2:=za h2;have HMAY:=za (fun w=>ZJ q w hq);obtain ⟨A,ca,rfl,hc1,hc2⟩:=h.form;obtain ⟨B,cb,rfl,hc3,hc4⟩:=h2.form;clear h h2 hq;by_cases hm:zY q=true
 ·rw [hm] at HMAY;have HM:=za hm;by_cases ha:a= []
  ·have hal:((a.length:Int)==0)=true:=by simp [ha]
   rw [Te (fun h=>h.2.1 ha)];clear hm ha hl;generalize a.length=na at *;go_enter Tryz.func231,Tryz.ntmps231;go_wp2_with (refine (HMAY.out _).mono ?_;rintro e w1 ⟨rfl,rfl⟩);go_ret;exact ⟨_,rfl,Sl.nil _ _ _,World.grownBy.refl _ _⟩
  ·have hap:0< a.length:=List.length_pos_iff.2 ha;have hal:((a.length:Int)==0)=false:=by simp [ha]
   by_cases hb:b= []
   ·have hbl:((b.length:Int)==0)=true:=by simp [hb]
    rw [Te (fun h=>h.2.2 hb)];clear hm ha hb hl hap;generalize a.length=na at *;generalize b.length=nb at *;go_enter Tryz.func231,Tryz.ntmps231;go_wp2_with (refine (HMAY.out _).mono ?_;rintro e w1 ⟨rfl,rfl⟩);go_ret;exact ⟨_,rfl,Sl.nil _ _ _,World.grownBy.refl _ _⟩
   ·have hbp:0< b.length:=List.length_pos_iff.2 hb;have hbl:((b.length:Int)==0)=false:=by simp [hb]
    rw [Ri q hm ha hb];clear ha hb;obtain ⟨N,hN⟩: ∃N,N=a.length+b.length - 1:=⟨_,rfl⟩;have hmk:=fun w=>YZ w N (by omega)
    have eN1:IntKind.i64.wrap ((a.length:Int)+(b.length:Int))=(a.length:Int)+(b.length:Int):=IntWalk.i64_in _ (by omega);have eN2:IntKind.i64.wrap ((a.length:Int)+(b.length:Int) - 1)=(N:Int):=by rw [IntWalk.i64_in _ (by omega)];omega
    have HZ:Hid (∀w:World,Bk (w.alloc (.cells (xq [] N) 22)) w.heap.size 22 (nums (tUp q a b 0 0)).toArray):=za (fun w=>by
     rw [hN,Jc];exact Bk.new w _ _)
    have HEND:Hid (∀(w w':World) g,Bk w' g 22 (nums (tUp q a b a.length 0)).toArray→w.heap.size≤g→Sl ze (fun g=>w.heap.size≤g) w' (.slice (some ⟨g,0,none⟩) N N) (tUp q a b a.length 0)):=za (fun w w' g hb hg=>
     QT hb (by rw [Xu,hN]) (Mo q a b _ _ hm) (by omega) hg)
    have HNN:Hid (∀i k,i< a.length→k< b.length→i+k< N):=za (fun i k hi hk=>by omega);have HNB:Hid (N≤1000000∧a.length≤1000000∧b.length≤1000000):=za (by omega);have HNE:=za hN;clear hm hN hl hap hbp;go_enter Tryz.func231,Tryz.ntmps231;go_wp2_with (refine (HMAY.out _).mono ?_;rintro e w1 ⟨rfl,rfl⟩);clear HMAY;go_loopg [34] a.length (fun g s34 wx=> ∃i:Nat,i+g=a.length∧s34= .int .i64 i∧Hid (Bk wx w.heap.size 22 (nums (tUp q a b i 0)).toArray∧w.grownBy wx none))
    case atStart=>exact ⟨0,by omega,rfl,za ⟨HZ.out _,gAl w _ _⟩⟩
    case round=>
     obtain ⟨i,hi,rfl,HR⟩:=hrel;cases gk with
     |zero=>
      obtain rfl:i=a.length:=by omega
      have HF:=za (HEND.out w wr w.heap.size HR.out.1 (Nat.le_refl _));have HG:=za HR.out.2;clear HR hmk HZ HEND;go_wp2;go_ret;exact ⟨_,rfl,HF.out,HG.out⟩
     |succ m=>
      have hin:(i:Int)< (a.length:Int):=by omega
      have hiN:i< a.length:=by omega
      have hi0:(0:Int)≤(i:Int):=by omega
      obtain ⟨ga,oa,c',e,_,_,hcu,hua⟩:=(H.out.kept HR.out.2).atU hiN;injection e with e1 e2 e3
      subst e1 e3;have HUA:=za hua;have HB0:=za HR.out.1;have HG0:=za HR.out.2;clear HR hua e2 hmk HZ HEND;generalize hx:a[i]=x at *;have HXE:Hid (∃h:i< a.length,a[i]=x):=za ⟨hiN,hx⟩;clear hx;go_wp2_with fail;go_loopg [41] b.length (fun g s41 wx=> ∃k:Nat,k+g=b.length∧s41= .int .i64 k∧Hid (Bk wx w.heap.size 22 (nums (tUp q a b i k)).toArray∧w.grownBy wx none))
      case atStart=>exact ⟨0,by omega,rfl,za ⟨HB0.out,HG0.out⟩⟩
      case round=>
       obtain ⟨k,hk,rfl,HR⟩:=hrel;cases gk with
       |zero=>
        obtain rfl:k=b.length:=by omega
        have HF:Hid (Bk wr w.heap.size 22 (nums (tUp q a b (i+1) 0)).toArray∧w.grownBy wr none):=za (by rw [←IU];exact HR.out);clear HR HB0 HG0;have eI:IntKind.i64.wrap ((i:Int)+1)=((i+1:Nat):Int):=by rw [IntWalk.i64_in _ (by omega)];omega
        go_wp2_with fail;go_roundg m
        case measure=>omega
        case rel=>exact ⟨i+1,by omega,by go_num,HF⟩
       |succ m2=>
        have hkn:(k:Int)< (b.length:Int):=by omega
        have hkN:k< b.length:=by omega
        have hk0:(0:Int)≤(k:Int):=by omega
        obtain ⟨gb,ob,c',e,_,_,hcb,hub⟩:=(H2.out.kept HR.out.2).atU hkN;injection e with e1 e2 e3
        subst e1 e3;have HUB:=za hub;have HST:=za (IT q a b i k HM.out hiN hkN);obtain ⟨hx2,hx3⟩:=HXE.out;rw [hx3] at HST;have hikN:=HNN.out i k hiN hkN;have HCO:Hid ((nums (tUp q a b i k))[i+k]? =some (.int .u64 ((tUp q a b i k)[i+k]?.getD 0))∧U64 ((tUp q a b i k)[i+k]?.getD 0)):=za (by
         have hl:i+k< (tUp q a b i k).length:=by rw [Xu, ←HNE.out];exact hikN
         rw [List.getElem?_eq_getElem hl];exact ⟨by simp [nums,hl],Mo q a b i k HM.out _ (List.getElem_mem hl)⟩)
        have HB:=za HR.out.1;have HG:=za HR.out.2;have eS:IntKind.i64.wrap ((i:Int)+(k:Int))=((i+k:Nat):Int):=by have:=HNB.out;rw [IntWalk.i64_in _ (by omega)];omega
        have eT:((i+k:Nat):Int)< (N:Int):=by omega
        have eT0:(0:Int)≤((i+k:Nat):Int):=by omega
        have eK:IntKind.i64.wrap ((k:Int)+1)=((k+1:Nat):Int):=by rw [IntWalk.i64_in _ (by omega)];omega
        have HBD:Hid (∀w',wr.drew.grownBy w' none→Bk w' w.heap.size 22 (nums (tUp q a b i k)).toArray):=za (fun w' hw=>(HB.out.grown (zb wr 1) (by simp)).grown hw (by simp));clear hub HR e2 HXE hx2 hx3 hikN HB0 HG0;generalize b[k]=y at *;generalize hr:i+k=r at *;generalize (tUp q a b i k)[r]?.getD 0=o at *;have HRR:=za hr;clear hr;go_wp2_with fail;refine Zf 17 ?_;refine mP0 (.slice (some ⟨w.heap.size,0,none⟩) N N) ?_;refine mP0 (.int .i64 (i:Int)) ?_;refine mP0 (.int .i64 (k:Int)) ?_;refine mP2 (.int .i64 (r:Int)) 1 47 2 48 ?_;refine mP0 (.slice (some ⟨w.heap.size,0,none⟩) N N) ?_;refine mP0 (.int .i64 (i:Int)) ?_;refine mP0 (.int .i64 (k:Int)) ?_;refine mP2 (.int .i64 (r:Int)) 5 51 6 52 ?_;refine mP2 (.pointer (some ⟨w.heap.size,r,none⟩)) 4 50 7 53 ?_;refine mQ1 (.int .u64 o) 8 54 (fun w' hw' K hK=> ?_) ?_
        ·have hc:w'.cell? ⟨w.heap.size,r,none⟩=some (.int .u64 o):=by
          rw [(HBD.out w' hw').cell r,List.getElem?_toArray];exact HCO.out.1
         go_simp;exact hK _ rfl rfl
        refine mP0 (.int .u64 x) ?_;refine mP0 (.int .u64 y) ?_;refine mP0 (.int .u64 q) ?_;refine mN3 (Pv.eq (.int .u64 (yg x y q))) 10 56 11 57 12 58 (fun w' hw' K hK=> ?_) ?_
        ·go_simp;refine (VJ x y q w' HUA.out HUB.out).mono ?_;rintro e w3 ⟨rfl,hg⟩;exact hK _ _ rfl rfl hg
        refine mP0 (.int .u64 q) ?_;refine mN3 (Pv.eq (.int .u64 (ZW o (yg x y q) q))) 9 55 13 59 14 60 (fun w' hw' K hK=> ?_) ?_
        ·go_simp;refine (Ov o (yg x y q) q w' HCO.out.2 (yD _ _ _)).mono ?_;rintro e w3 ⟨rfl,hg⟩;exact hK _ _ rfl rfl hg
        refine mP2 (.pointer (some ⟨w.heap.size,r,none⟩)) 0 46 3 49 ?_;intro w3 hw3
        iterate 15 (refine pD ?_;intro _)
        intro y15 k15 y16 k16;have e15:y15= .int .u64 (ZW o (yg x y q) q):=k15;have e16:y16= .pointer (some ⟨w.heap.size,r,none⟩):=k16;subst e15 e16;simp only [Act.put,sAa,sAb,sAc];clear k15 k16;have hb3:=HBD.out w3 hw3;have hcl:w3.cell? ⟨w.heap.size,r,none⟩=some (.int .u64 o):=by
         rw [hb3.cell r,List.getElem?_toArray];exact HCO.out.1
        have hfr:w3.frozen? ⟨w.heap.size,r,none⟩=false:=hb3.free r;have HFIN:Hid (Bk (w3.setCell ⟨w.heap.size,r,none⟩ (.int .u64 (ZW o (yg x y q) q))) w.heap.size 22 (nums (tUp q a b i (k+1))).toArray∧w.grownBy (w3.setCell ⟨w.heap.size,r,none⟩ (.int .u64 (ZW o (yg x y q) q))) none):=za ⟨(hb3.set r _).of_eq (by rw [←HST.out];simp),xR ((HG.out.trans (zb wr 1)).trans hw3) _ _ (Nat.le_refl _)⟩;clear hw3 hb3;refine wpList_plain rfl fun K hK=> ?_
        go_simp;refine hK _ _ (wpList_nil ?_);clear hK;go_wp2_with fail;go_roundg m2
        case measure=>omega
        case rel=>exact ⟨k+1,by omega,by go_num,HFIN⟩
 ·have hm':zY q=false:=by simpa using hm
  rw [hm'] at HMAY;rw [Te (fun h=>by rw [hm'] at h;exact absurd h.1 (by decide))];clear hm hm' hl;generalize a.length=na at *;generalize b.length=nb at *;go_enter Tryz.func231,Tryz.ntmps231;go_wp2_with (refine (HMAY.out _).mono ?_;rintro e w1 ⟨rfl,rfl⟩);go_ret;exact ⟨_,rfl,Sl.nil _ _ _,World.grownBy.refl _ _⟩
end
end Go.Proofs.YtkdfjkdphdfclaaGreatDoor

/- Part 15 of the proof of a card of AvssAnew. -/
import Derived.Test.YtkdfjkdphdfclaaGreatDoorV11
set_option maxRecDepth 100000
set_option maxHeartbeats 16000000
set_option linter.unusedVariables false
set_option linter.unusedSimpArgs false
namespace Go.Proofs.YtkdfjkdphdfclaaGreatDoor
open Tryz
section
open Go Go.RowKit Go.Shelf Go.Maps
attribute [local go_sem] Oper.semAt_some
theorem Iz(E:zy)(gA gM:Nat)(vc vd vo:Value)(dn:Bool)(i:Int)(Al:Option Addr)(nl cl:Nat)(w:World)(x:zw)(HE:Hid E.ok)(HB:Hid (Bk w gA 125 (zz E vc vd vo gM dn)))(hr: ∀o,w.cell? ⟨gA,o,none⟩=(zz E vc vd vo gM dn)[o]?)(HD:Hid (U64 E.me∧U64 i))(eD:IntKind.u64.wrap E.me=E.me)(eI:IntKind.u64.wrap i=i)(HO:Hid (Calls prog 115 #[.pointer (some ⟨gA,0,none⟩), .slice Al nl cl, .int .i64 1] w (XV w x true)))(cb2:Bool)(HL:Hid (x.m.length≤100000∧(∀l∈x.m,l.length≤100000∧ ∀c∈l,c.length≤100000)∧(x.a.length≤100000∧x.b.length≤100000)∧(∀c∈x.a,c≠ [])∧ ∀c∈x.b,c≠ []))(s0:Hid (Xa E.p (zD E.p x.m i) E.me (zv x.a)=true))(t0:Hid (Xa E.p (zD E.p x.m E.me) i (zv x.b)=cb2)):
  Calls prog 119 #[.pointer (some ⟨gA,0,none⟩), .int .i64 i, .slice Al nl cl] w (XV w x cb2):=by
 go_enter func119,ntmps119;go_wp2_with fail;refine HO.z.mono ?_;rintro e w1 ⟨b,rfl,hp1,hg1⟩;have HG:Hid (w.grownBy w1.drew none):=za (hg1.trans (zb w1 1));have HP:Hid (zL (fun g=>w.heap.size≤g) w1.drew b x):=za (hp1.kept (zb w1 1));have m0:Hid (∀w',w1.drew.grownBy w' none→ ∀o,w'.cell? ⟨gA,o,none⟩=(zz E vc vd vo gM dn)[o]?):=za (fun w' hw=>(HB.z.grown (HG.z.trans hw) (by simp)).rule);clear hg1 hp1 hr HO;go_wp2_with fail;refine ZF 9 ?_;refine mP0 (.int .i64 i) ?_;refine mP1 (.int .u64 i) 0 18 ?_;refine mP0 (.pointer (some ⟨gA,0,none⟩)) ?_;refine mP1 (.pointer (some ⟨gA,0,none⟩)) 2 20 ?_;refine mP1 (.pointer (some ⟨gA,13,none⟩)) 3 21 ?_;refine mQ1 (.int .i64 E.me) 4 22 (fun w' hw' K hK=> ?_) ?_
 ·have a0:=m0.z w' hw';go_simp;exact hK _ rfl rfl
 refine mP1 (.int .u64 E.me) 5 23 ?_;refine mP1 (.int .u64 i) 1 19 ?_;refine mP1 (.int .u64 E.me) 6 24 ?_;intro w2 j0
 iterate 7 (refine pD ?_;intro _)
 intro y7 k7 y8 k8;have e7:y7= .int .u64 i:=k7;have e8:y8= .int .u64 E.me:=k8;subst e7 e8;clear k7 k8;refine wpList_nil ?_;simp only [Act.put,sAa,sAb,sAc];have o0:Hid (w.grownBy w2.drew none):=za ((HG.z.trans j0).trans (zb w2 1));have n0:Hid (zL (fun g=>w.heap.size≤g) w2.drew b x):=za (HP.z.kept (j0.trans (zb w2 1)));have b0:Hid (∀w',w2.drew.grownBy w' none→ ∀o,w'.cell? ⟨gA,o,none⟩=(zz E vc vd vo gM dn)[o]?):=za (fun w' hw=>(HB.z.grown (o0.z.trans hw) (by simp)).rule);obtain ⟨vm,va,vb,p0,k0,s1,s2,s3⟩:=n0.z;obtain ⟨Am,nm,cm,rfl⟩:=s1.shape;obtain ⟨Aa,na,ca,rfl⟩:=s2.shape;obtain ⟨Ab,nb,cb,rfl⟩:=s3.shape;have c0:Hid (∀w',w2.drew.grownBy w' none→ ∀o,w'.cell? ⟨b,o,none⟩=(#[.slice Am nm cm, .slice Aa na ca, .slice Ab nb cb]:Array Value)[o]?):=za (fun w' hw=>(k0.grown hw (by simp)).rule);have l0:=za s1;have r0:=za s2;have q0:=za s3;clear s1 s2 s3 k0 p0 HP HG m0 j0;go_wp2_with fail;refine ZF 40 ?_;refine mP0 (.pointer (some ⟨b,0,none⟩)) ?_;refine mP0 (.bool true) ?_;refine mP1 (.bool true) 1 26 ?_;refine ZH (.pointer (some ⟨gA,0,none⟩)) 2 27 ?_;refine yV (.pointer (some ⟨gA,0,none⟩)) 2 27 3 28 ?_;refine yV (.pointer (some ⟨gA,0,none⟩)) 2 27 4 29 ?_;refine YM (E.p.v) 2 27 5 30 (fun w' hw' K hK=> ?_) ?_
 ·have a0:=b0.z w' hw';have d0:=c0.z w' hw';go_simp;exact hK _ rfl rfl
 refine ZH (.pointer (some ⟨b,0,none⟩)) 2 27 ?_;refine yV (.pointer (some ⟨b,0,none⟩)) 2 27 7 32 ?_;refine yV (.pointer (some ⟨b,0,none⟩)) 2 27 8 33 ?_;refine YM (.slice Am nm cm) 2 27 9 34 (fun w' hw' K hK=> ?_) ?_
 ·have a0:=b0.z w' hw';have d0:=c0.z w' hw';go_simp;exact hK _ rfl rfl
 refine ZH (.int .u64 i) 2 27 ?_;refine ZH (.int .u64 E.me) 2 27 ?_;refine ZH (.pointer (some ⟨b,0,none⟩)) 2 27 ?_;refine yV (.pointer (some ⟨b,0,none⟩)) 2 27 13 38 ?_;refine yV (.pointer (some ⟨b,1,none⟩)) 2 27 14 39 ?_;refine YM (.slice Aa na ca) 2 27 15 40 (fun w' hw' K hK=> ?_) ?_
 ·have a0:=b0.z w' hw';have d0:=c0.z w' hw';go_simp;exact hK _ rfl rfl
 refine VP (Pv.sl (zq) TT (zv x.a)) 2 27 16 41 (fun w' hw' K hK=> ?_) ?_
 ·go_simp;refine (ZO _ x.a _ w' (r0.z.kept hw') HL.z.2.2.2.1 HL.z.2.2.1.1).mono ?_;rintro e w3 ⟨v3,rfl,hs,hg⟩;exact hK _ _ rfl (hs.more fun _ _ _=>trivial) hg
 refine mS (.bool true) [(2,27),(6,31),(10,35),(11,36),(12,37),(17,42)] (fun w' hw'=>pQ (pQ (pQ (pQ (pQ (fun x42 g0=>kE fun K hK=> ?_)))))) ?_
 ·have g0:Sl (zq) TT w' x42 (zv x.a):=g0;obtain ⟨A42,c42,e42,k42,l42⟩:=g0.form;have e42:x42= .slice A42 (zv x.a).length c42:=e42;subst e42;go_simp;refine (Vn E.p _ _ x.m i E.me (zv x.a) _ _ w' HE.z.p (l0.z.kept hw') HD.z.2 HD.z.1 g0 HL.z.1 HL.z.2.1 (by have:=HL.z.2.2.1.1;simpa [zv] using this)).mono ?_;rintro e w3 ⟨rfl,hg⟩;rw [s0.z];exact hK _ _ rfl rfl hg
 refine mP2 (.bool true) 2 27 18 43 ?_;refine mP1 (.bool true) 19 44 ?_;refine ZH (.pointer (some ⟨gA,0,none⟩)) 20 45 ?_;refine yV (.pointer (some ⟨gA,0,none⟩)) 20 45 21 46 ?_;refine yV (.pointer (some ⟨gA,0,none⟩)) 20 45 22 47 ?_;refine YM (E.p.v) 20 45 23 48 (fun w' hw' K hK=> ?_) ?_
 ·have a0:=b0.z w' hw';have d0:=c0.z w' hw';go_simp;exact hK _ rfl rfl
 refine ZH (.pointer (some ⟨b,0,none⟩)) 20 45 ?_;refine yV (.pointer (some ⟨b,0,none⟩)) 20 45 25 50 ?_;refine yV (.pointer (some ⟨b,0,none⟩)) 20 45 26 51 ?_;refine YM (.slice Am nm cm) 20 45 27 52 (fun w' hw' K hK=> ?_) ?_
 ·have a0:=b0.z w' hw';have d0:=c0.z w' hw';go_simp;exact hK _ rfl rfl
 refine ZH (.int .u64 E.me) 20 45 ?_;refine ZH (.int .u64 i) 20 45 ?_;refine ZH (.pointer (some ⟨b,0,none⟩)) 20 45 ?_;refine yV (.pointer (some ⟨b,0,none⟩)) 20 45 31 56 ?_;refine yV (.pointer (some ⟨b,2,none⟩)) 20 45 32 57 ?_;refine YM (.slice Ab nb cb) 20 45 33 58 (fun w' hw' K hK=> ?_) ?_
 ·have a0:=b0.z w' hw';have d0:=c0.z w' hw';go_simp;exact hK _ rfl rfl
 refine VP (Pv.sl (zq) TT (zv x.b)) 20 45 34 59 (fun w' hw' K hK=> ?_) ?_
 ·go_simp;refine (ZO _ x.b _ w' (q0.z.kept hw') HL.z.2.2.2.2 HL.z.2.2.1.2).mono ?_;rintro e w3 ⟨v3,rfl,hs,hg⟩;exact hK _ _ rfl (hs.more fun _ _ _=>trivial) hg
 refine mS (.bool cb2) [(20,45),(24,49),(28,53),(29,54),(30,55),(35,60)] (fun w' hw'=>pQ (pQ (pQ (pQ (pQ (fun x60 f0=>kE fun K hK=> ?_)))))) ?_
 ·have f0:Sl (zq) TT w' x60 (zv x.b):=f0;obtain ⟨A60,c60,e60,k60,l60⟩:=f0.form;have e60:x60= .slice A60 (zv x.b).length c60:=e60;subst e60;go_simp;refine (Vn E.p _ _ x.m E.me i (zv x.b) _ _ w' HE.z.p (l0.z.kept hw') HD.z.1 HD.z.2 f0 HL.z.1 HL.z.2.1 (by have:=HL.z.2.2.1.2;simpa [zv] using this)).mono ?_;rintro e w3 ⟨rfl,hg⟩;rw [t0.z];exact hK _ _ rfl rfl hg
 refine mP2 (.bool cb2) 20 45 36 61 ?_;refine mP1 (.pointer (some ⟨b,0,none⟩)) 0 25 ?_;refine mP1 (.bool cb2) 37 62 ?_;intro w3 i0
 iterate 38 (refine pD ?_;intro _)
 intro y38 k38 y39 k39;have e38:y38= .pointer (some ⟨b,0,none⟩):=k38;have e39:y39= .bool cb2:=k39;subst e38 e39;have HF:Hid (zL (fun g=>w.heap.size≤g) w3 b x∧w.grownBy w3 none):=za ⟨n0.z.kept i0,o0.z.trans i0⟩;clear k38 k39 i0;refine wpList_nil ?_;simp only [Act.put,sAa,sAb,sAc];go_wp2_with fail;go_ret2;exact ⟨b,rfl,HF.z.1,HF.z.2⟩
end
end Go.Proofs.YtkdfjkdphdfclaaGreatDoor

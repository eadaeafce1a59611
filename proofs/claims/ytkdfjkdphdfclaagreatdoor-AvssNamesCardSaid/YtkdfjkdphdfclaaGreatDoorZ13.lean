/- Proves for the statement AvssNamesCardSaid, under no other condition than the statement's own, that the card avssNames holds of the program. Part 13. -/
import Derived.Test.YtkdfjkdphdfclaaGreatDoorZ12
import Derived.Deep.Quiet
set_option maxRecDepth 100000
set_option maxHeartbeats 16000000
set_option linter.unusedVariables false
set_option linter.unusedSimpArgs false
namespace Go.Proofs.YtkdfjkdphdfclaaGreatDoor
section
open Go Go.RowKit Go.Shelf Go.Maps
structure Dl where
 m:List (List (List Int))
 a:List (List (List (Int×Int)))
 b:List (List (List (Int×Int)))
def VV:Enc Dl where
 size:=3
 pos:=by decide
 rep:=fun X w cs d=> ∃vm va vb,cs= [vm,va,vb]∧Sl (zh (zh ze)) X w vm d.m∧Sl (zh (zh zo)) X w va d.a∧Sl (zh (zh zo)) X w vb d.b
 len:=fun h=>by obtain ⟨_,_,_,rfl,_⟩:=h;rfl
 ones:=fun h u hu=>by
  obtain ⟨vm,va,vb,rfl,h1,h2,h3⟩:=h;obtain ⟨A1,n1,c1,rfl⟩:=h1.shape;obtain ⟨A2,n2,c2,rfl⟩:=h2.shape;obtain ⟨A3,n3,c3,rfl⟩:=h3.shape;simp at hu;rcases hu with rfl|rfl|rfl<;>rfl
 keep:=fun h hg hX=>by obtain ⟨vm,va,vb,e,h1,h2,h3⟩:=h;exact ⟨vm,va,vb,e,h1.keep hg hX,h2.keep hg hX,h3.keep hg hX⟩
 more:=fun h hX=>by obtain ⟨vm,va,vb,e,h1,h2,h3⟩:=h;exact ⟨vm,va,vb,e,h1.more hX,h2.more hX,h3.more hX⟩
 keepc:=fun h hg hr=>by obtain ⟨vm,va,vb,e,h1,h2,h3⟩:=h;exact ⟨vm,va,vb,e,h1.keepc hg hr,h2.keepc hg hr,h3.keepc hg hr⟩
theorem Sl.atDl{X:Nat→Prop}{w:World}{v:Value}{xs:List Dl}(h:Sl VV X w v xs){k:Nat}(hk:k< xs.length):
  ∃g o c vm va vb,v= .slice (some ⟨g,o,none⟩) xs.length c∧g< w.heap.size∧X g∧(w.cell? ⟨g,o+k*3,none⟩=some vm∧w.cell? ⟨g,o+k*3+1,none⟩=some va∧w.cell? ⟨g,o+k*3+2,none⟩=some vb)∧Sl (zh (zh ze)) X w vm xs[k].m∧Sl (zh (zh zo)) X w va xs[k].a∧Sl (zh (zh zo)) X w vb xs[k].b:=by
 obtain ⟨g,o,c,cs,e,hg,hX,⟨vm,va,vb,rfl,h1,h2,h3⟩,hc⟩:=h.at hk;exact ⟨g,o,c,vm,va,vb,e,hg,hX,⟨hc 0 _ rfl,hc 1 _ rfl,hc 2 _ rfl⟩,h1,h2,h3⟩
structure Dc (N:Nat) (d:Dl):Prop where
 m:d.m.length≤10∧ ∀x∈d.m,x.length≤3∧ ∀y∈x,y.length≤3
 a:d.a.length=N∧ ∀r∈d.a,r.length≤10∧ ∀c∈r,c.length≤3
 b:d.b.length=N∧ ∀r∈d.b,r.length≤10∧ ∀c∈r,c.length≤3
def Vb(N:Int)(f:Int):Int:=1+IntKind.u64.wrap (IntKind.i64.wrap (f - 1))%N
def IL(l:List Dl)(of_:Int):Dl:=l[((of_ - 1)%(l.length:Int)).toNat]?.getD ⟨[], [], []⟩
def Ur(p:Par)(kind f of_:Int)(nums:List Int)(l:List Dl)(me:Int):List Int:=
 if of_=0∨l= [] then nums
 else if kind=7 then Zv (IL l of_).m ((IL l of_).a[(me - 1).toNat]?.getD []) ((IL l of_).b[(me - 1).toNat]?.getD [])
 else Zv (IL l of_).m (zN (((IL l of_).a[(Vb p.N f - 1).toNat]?.getD []).map (atP p.Q me))) (zN (((IL l of_).b[(Vb p.N f - 1).toNat]?.getD []).map (atP p.Q me)))
def Oy(Y:Nat→Prop)(w:World)(l:List Int)(e:Ending)(w':World):Prop:= ∃v,e= .returned v∧Sl ze (fun g=>Y g∨w.heap.size≤g) w' v l∧w.grownBy w' none
attribute [local go_sem] Oper.semAt_some
theorem Xy(p:Par)(kind f of_:Int)(vn vl:Value)(nums:List Int)(l:List Dl)(me:Int)(Y Z:Nat→Prop)(w:World)(hp:p.ok)(hN:1≤p.N∧p.N≤7)(ho:U8 of_)(hk:U8 kind)(hf:I64 f)(hn:Sl ze Y w vn nums)(hl:Sl VV Z w vl l)(hd: ∀d∈l,Dc p.N.toNat d)(hll:l.length≤100)(hme:1≤me∧me≤p.N):
  Calls Tryz.prog 20 #[.agg #[.int .u8 kind, .int .i64 f, .int .u8 of_,vn],p.v,vl, .int .i64 me] w (Oy Y w (Ur p kind f of_ nums l me)):=by
 obtain ⟨An,nn,cn,rfl⟩:=hn.shape;obtain ⟨Al,cl,rfl,_,_⟩:=hl.form;obtain ⟨w0,hw0⟩: ∃y,y=(w.alloc (.cells #[.int .u8 kind, .int .i64 f, .int .u8 of_, .slice An nn cn] 61)).alloc (.cells p.cells 39):=⟨_,rfl⟩;have HG0:Hid (w.grownBy w0 none):=za (by rw [hw0];exact (gAl w _ none).trans (gAl _ _ none));have HB1:Hid (Bk w0 w.heap.size 61 #[.int .u8 kind, .int .i64 f, .int .u8 of_, .slice An nn cn]):=za (by rw [hw0];exact (Bk.new w _ _).alloc _);have HB2:Hid (Bk w0 (w.heap.size+1) 39 p.cells):=za (by
  rw [hw0];have h:=Bk.new (w.alloc (.cells #[.int .u8 kind, .int .i64 f, .int .u8 of_, .slice An nn cn] 61)) 39 p.cells;rw [World.size_alloc] at h;exact h)
 have hr1:=HB1.out.rule;have hr2:=HB2.out.prule;have HW0:=za hw0;have HN:=za hn;have HL:=za hl;rw [hw0] at hr1 hr2;clear hw0;by_cases hz:of_=0∨l= []
 ·have HR:Hid (Oy Y w (Ur p kind f of_ nums l me) (.returned (.slice An nn cn)) w0):=za (by
   unfold Ur;rw [if_pos hz];exact ⟨_,rfl,(hn.kept HG0.out).more fun g _ h=> .inl h,HG0.out⟩)
  rw [HW0.out] at HR;clear hp hN ho hk hf hn hl hd hll hme;by_cases h0:of_=0
  ·subst h0;clear hz;go_enter Tryz.func20,Tryz.ntmps20;go_wp2_with fail;go_ret;exact HR.out
  ·obtain rfl:=hz.resolve_left h0;have hd0:(of_==0)=false:=by simpa using h0
   clear hz;go_enter Tryz.func20,Tryz.ntmps20;go_wp2_with fail;go_ret;exact HR.out
 ·have h0: ¬of_=0:=fun e=>hz (.inl e)
  have hl0:0< l.length:=List.length_pos_iff.2 fun e=>hz (.inr e)
  have hd0:(of_==0)=false:=by simpa using h0
  obtain ⟨L,hL⟩: ∃y,y=l.length:=⟨_,rfl⟩;rw [←hL];have hdl:((L:Int)==0)=false:=by
   have: ¬(L:Int)=0:=by omega
   simpa using this
  obtain ⟨j,hj⟩: ∃j:Nat,j=((of_ - 1)%(l.length:Int)).toNat:=⟨_,rfl⟩;have hm0:=Int.emod_nonneg (of_ - 1) (show (l.length:Int)≠0 by omega);have hm1:=Int.emod_lt_of_pos (of_ - 1) (show (0:Int)< (l.length:Int) by omega);have hjl:j< l.length:=by omega
  have HDL:Hid (IL l of_=l[j]):=za (by unfold IL;rw [←hj,List.getElem?_eq_getElem hjl];rfl);have hw1:IntKind.u8.wrap (of_ - 1)=of_ - 1:=IntWalk.u8_in _ (by have:=ho.1;have:=ho.2;omega);have hw2:IntKind.i64.wrap (of_ - 1)=of_ - 1:=IntWalk.i64_in _ (by have:=ho.1;have:=ho.2;omega);have hw3:(of_ - 1).tmod (L:Int)=(j:Int):=by rw [hL,Int.tmod_eq_emod_of_nonneg (by have:=ho.1;omega)];omega
  obtain ⟨g,o,c',vm,va,vb,e,hgl,_,⟨hc0,hc1,hc2⟩,s1,s2,s3⟩:=(hl.kept HG0.out).atDl hjl;injection e with e1 e2 e3
  have HNU:Hid (Ur p kind f of_ nums l me=if kind=7 then Zv l[j].m (l[j].a[(me - 1).toNat]?.getD []) (l[j].b[(me - 1).toNat]?.getD []) else Zv l[j].m (zN ((l[j].a[(Vb p.N f - 1).toNat]?.getD []).map (atP p.Q me))) (zN ((l[j].b[(Vb p.N f - 1).toNat]?.getD []).map (atP p.Q me)))):=za (by
   unfold Ur;rw [if_neg hz,HDL.out])
  have hdk:=hd _ (List.getElem_mem hjl);obtain ⟨d,hdd⟩: ∃y,y=l[j]:=⟨_,rfl⟩;rw [←hdd] at s1 s2 s3 HNU hdk;have hjL:(j:Int)< (L:Int):=by omega
  have hj0:(0:Int)≤(j:Int):=Int.natCast_nonneg j;subst e1 e3;rw [HNU.out];rw [HW0.out] at hc0 hc1 hc2;have HOK:=za hdk;have HS1:=za s1;obtain ⟨jm,hjm⟩: ∃x:Nat,x=(if kind=7 then me - 1 else Vb p.N f - 1).toNat:=⟨_,rfl⟩;have hA0:0≤IntKind.u64.wrap (IntKind.i64.wrap (f - 1)):=by rw [IntKind.wrap_u64];omega
  have hr0:=Int.emod_nonneg (IntKind.u64.wrap (IntKind.i64.wrap (f - 1))) (show p.N≠0 by omega);have hr9:=Int.emod_lt_of_pos (IntKind.u64.wrap (IntKind.i64.wrap (f - 1))) (show 0< p.N by omega);have HTM:Hid ((IntKind.u64.wrap (IntKind.i64.wrap (f - 1))).tmod p.N=Vb p.N f - 1):=za (by rw [Int.tmod_eq_emod_of_nonneg hA0];unfold Vb;omega);have hFR:1≤Vb p.N f∧Vb p.N f≤p.N:=by unfold Vb;omega
  have hjmN:jm< p.N.toNat:=by
   rw [hjm];split<;>omega
  obtain ⟨ga,oa,ca,ua,ea,_,_,hca,sa⟩:=s2.atS (k:=jm) (by rw [hdk.a.1];exact hjmN);obtain ⟨gb,ob,cb,ub,eb,_,_,hcb,sb⟩:=s3.atS (k:=jm) (by rw [hdk.b.1];exact hjmN);have hla:=hdk.a.2 _ (List.getElem_mem (show jm< d.a.length by rw [hdk.a.1];exact hjmN));have hlb:=hdk.b.2 _ (List.getElem_mem (show jm< d.b.length by rw [hdk.b.1];exact hjmN));have HGE:Hid ((d.a[jm]?.getD []=d.a[jm]'(by rw [hdk.a.1];exact hjmN))∧d.b[jm]?.getD []=d.b[jm]'(by rw [hdk.b.1];exact hjmN)):=za ⟨by rw [List.getElem?_eq_getElem (by rw [hdk.a.1];exact hjmN)];rfl,by rw [List.getElem?_eq_getElem (by rw [hdk.b.1];exact hjmN)];rfl⟩;obtain ⟨RA,hRA⟩: ∃y,y=d.a[jm]'(by rw [hdk.a.1];exact hjmN):=⟨_,rfl⟩;obtain ⟨RB,hRB⟩: ∃y,y=d.b[jm]'(by rw [hdk.b.1];exact hjmN):=⟨_,rfl⟩;rw [←hRA, ←hRB] at HGE;rw [←hRA] at sa hla;rw [←hRB] at sb hlb;rw [hdk.a.1] at ea;rw [hdk.b.1] at eb;subst ea eb;have HSA:=za sa;have HSB:=za sb;have HLA:=za hla;have HLB:=za hlb;obtain ⟨Am,nm,cm,rfl⟩:=s1.shape;obtain ⟨Aa,na,ca',rfl⟩:=sa.shape;obtain ⟨Ab,nb,cb',rfl⟩:=sb.shape;obtain ⟨NN,hNN⟩: ∃y:Nat,y=p.N.toNat:=⟨_,rfl⟩;rw [←hNN] at hjmN hc1 hc2;have hjI:(jm:Int)< (NN:Int):=by omega
  have hjI0:(0:Int)≤(jm:Int):=Int.natCast_nonneg jm;obtain ⟨w1,hw1'⟩: ∃y,y=w0.alloc (.cells #[.slice Am nm cm, .slice (some ⟨ga,oa,none⟩) NN ca, .slice (some ⟨gb,ob,none⟩) NN cb] 107):=⟨_,rfl⟩;have HG1:Hid (w0.grownBy w1 none):=za (by rw [hw1'];exact gAl _ _ none);have HBD:Hid (Bk w1 w0.heap.size 107 #[.slice Am nm cm, .slice (some ⟨ga,oa,none⟩) NN ca, .slice (some ⟨gb,ob,none⟩) NN cb]):=za (by rw [hw1'];exact Bk.new _ _ _);have HRD:Hid (w1.grownBy w1.drew none):=za (zb w1 1);have HGD:Hid (w0.grownBy w1.drew none):=za (HG1.out.trans HRD.out);have HRL:Hid (∀w',w1.drew.grownBy w' none→(∀o,w'.cell? ⟨w0.heap.size,o,none⟩=(#[.slice Am nm cm, .slice (some ⟨ga,oa,none⟩) NN ca, .slice (some ⟨gb,ob,none⟩) NN cb]:Array Value)[o]?)∧(w'.cell? ⟨ga,oa+jm,none⟩=some (.slice Aa na ca')∧w'.cell? ⟨gb,ob+jm,none⟩=some (.slice Ab nb cb'))∧ ∀o,w'.cell? ⟨w.heap.size+1,o,none⟩=(#[.int .u64 p.P, .int .u64 p.Q, .int .u64 p.G, .int .u64 p.H, .int .i64 p.Nodes, .int .i64 p.N, .int .i64 p.T, .int .i64 p.K, .int .i64 p.D, .int .i64 p.R, .int .i64 p.M, .int .i64 p.X]:Array Value)[o]?):=za (fun w' hw'=>⟨(HBD.out.grown (HRD.out.trans hw') (by simp)).rule,⟨cell_kept hca (HGD.out.trans hw') (by simp),cell_kept hcb (HGD.out.trans hw') (by simp)⟩,(HB2.out.grown (HGD.out.trans hw') (by simp)).prule⟩);have HM10:=za hdk.m;have hms:w0.heap.size=w.heap.size+1+1:=by rw [HW0.out];simp
  rw [hms] at HBD HRL;have HM10:=za hdk.m;have HFI:=za hFR;have HME:=za hme;have HPO:=za hp;have HNp:=za hN;have HJM:=za hjm;by_cases h7:kind=7
  ·subst h7;rw [if_pos rfl];have hjm7:jm=(me - 1).toNat:=by rw [HJM.out,if_pos rfl]
   have hwm:IntKind.i64.wrap (me - 1)=(jm:Int):=by rw [hjm7];have:=hme.1;have:=hme.2;have:=hN.2;rw [IntWalk.i64_in _ (by omega)];omega
   rw [←hjm7,HGE.out.1,HGE.out.2];have HPK:=za (fun W (hW:w0.grownBy W none)=>Xg (.slice Am nm cm) (.slice Aa na ca') (.slice Ab nb cb') d.m RA RB Z Z Z W (HS1.out.kept hW) (HSA.out.kept hW) (HSB.out.kept hW) HM10.out HLA.out HLB.out);obtain ⟨PL,hPL⟩: ∃y,y=Zv d.m RA RB:=⟨_,rfl⟩;rw [←hPL] at HPK ⊢;clear hdk hdd s1 s2 s3 sa sb hRA hRB hla hlb hca hcb hjm hA0 hr0 hr9 hFR hz h0 hm0 hm1 hj hjl HL hL hl hl0 hp hN ho hk hf hn hd hll hme HNU HDL HN hgl hNN hms hjmN hjm7 hPL HTM;go_enter Tryz.func20,Tryz.ntmps20;go_wp2_with fail;rw [←HW0.out, ←hw1'];clear hr1 hr2 hw1';refine Zf 16 ?_;refine mP0 (.pointer (some ⟨w.heap.size+1+1,0,none⟩)) ?_;refine mQ1 (.slice Am nm cm) 0 34 (fun w' hw' K hK=> ?_) ?_
   ·obtain ⟨hc,⟨hca,hcb⟩,hcp⟩:=HRL.out w' hw';go_simp;exact hK _ rfl rfl
   refine mP0 (.pointer (some ⟨w.heap.size+1+1,1,none⟩)) ?_;refine mQ1 (.slice (some ⟨ga,oa,none⟩) NN ca) 2 36 (fun w' hw' K hK=> ?_) ?_
   ·obtain ⟨hc,⟨hca,hcb⟩,hcp⟩:=HRL.out w' hw';go_simp;exact hK _ rfl rfl
   refine mP0 (.int .i64 me) ?_;refine mP1 (.int .i64 jm) 4 38 ?_;refine mP2 (.pointer (some ⟨ga,oa+jm,none⟩)) 3 37 5 39 ?_;refine mQ1 (.slice Aa na ca') 6 40 (fun w' hw' K hK=> ?_) ?_
   ·obtain ⟨hc,⟨hca,hcb⟩,hcp⟩:=HRL.out w' hw';go_simp;exact hK _ rfl rfl
   refine mP0 (.pointer (some ⟨w.heap.size+1+1,2,none⟩)) ?_;refine mQ1 (.slice (some ⟨gb,ob,none⟩) NN cb) 8 42 (fun w' hw' K hK=> ?_) ?_
   ·obtain ⟨hc,⟨hca,hcb⟩,hcp⟩:=HRL.out w' hw';go_simp;exact hK _ rfl rfl
   refine mP0 (.int .i64 me) ?_;refine mP1 (.int .i64 jm) 10 44 ?_;refine mP2 (.pointer (some ⟨gb,ob+jm,none⟩)) 9 43 11 45 ?_;refine mQ1 (.slice Ab nb cb') 12 46 (fun w' hw' K hK=> ?_) ?_
   ·obtain ⟨hc,⟨hca,hcb⟩,hcp⟩:=HRL.out w' hw';go_simp;exact hK _ rfl rfl
   refine mN3 (Pv.sl ze (fun g=>w.heap.size≤g) PL) 1 35 7 41 13 47 (fun w' hw' K hK=> ?_) ?_
   ·go_simp;refine (HPK.out w' (HGD.out.trans hw')).mono ?_;rintro e w3 ⟨v,rfl,hs3,hg3⟩;exact hK _ _ rfl (hs3.more fun g _ hg=>Nat.le_trans (HG0.out.trans (HGD.out.trans hw')).size hg) hg3
   refine mV (Pv.sl ze (fun g=>w.heap.size≤g) PL) [(14,48)] (fun w' hw' x48 h48=>kD fun K hK=> ?_) ?_
   ·have h48:Sl ze (fun g=>w.heap.size≤g) w' x48 PL:=h48;go_simp;exact hK _ _ rfl h48 gRf
   intro w3 hw3
   iterate 15 (refine pD ?_;intro _)
   intro y15 k15;have e15:Sl ze (fun g=>w.heap.size≤g) w3 y15 PL:=k15;have HF:Hid (Oy Y w PL (.returned y15) w3):=za ⟨_,rfl,e15.more fun g _ h=> .inr h,HG0.out.trans (HGD.out.trans hw3)⟩;clear k15 e15 hw3;refine wpList_nil ?_;simp only [Act.put,sAa,sAb,sAc];go_wp2_with fail;go_ret;exact HF.out
  ·rw [if_neg h7];have hd7:(kind==7)=false:=by simpa using h7
   have hjm7:jm=(Vb p.N f - 1).toNat:=by rw [HJM.out,if_neg h7]
   obtain ⟨F,hF⟩: ∃y,y=Vb p.N f:=⟨_,rfl⟩;rw [←hF] at hjm7 HTM hFR;have hjF:F - 1=(jm:Int):=by omega
   rw [hjF] at HTM;have htm:=HTM.out;have hwN:IntKind.u64.wrap p.N=p.N:=IntWalk.u64_in _ (by omega);have hwj:IntKind.i64.wrap (jm:Int)=(jm:Int):=IntWalk.i64_in _ (by omega);have hwju:IntKind.u64.wrap (jm:Int)=(jm:Int):=IntWalk.u64_in _ (by omega);have hwF:IntKind.i64.wrap (1+(jm:Int))=F:=by rw [IntWalk.i64_in _ (by omega)];omega
   have HWF:Hid (wrap64 (1+wrap64 ((IntKind.u64.wrap (wrap64 (f - 1))).tmod p.N))=F):=za (by
    have e1:=IntWalk.i64_left (f - 1);have e2:=IntWalk.i64_left (jm:Int);have e3:=IntWalk.i64_left (1+(jm:Int));rw [←e1,HTM.out, ←e2,hwj, ←e3,hwF])
   have hwFm:IntKind.i64.wrap (F - 1)=(jm:Int):=by rw [hjF];exact hwj
   have hwme:IntKind.u64.wrap me=me:=IntWalk.u64_in _ (by omega);have hN0: ¬p.N=0:=by omega
   have hN0':(p.N==0)=false:=by simpa using hN0
   have HMU:Hid (U64 me):=za ⟨by omega,by omega⟩;rw [←hF, ←hjm7,HGE.out.1,HGE.out.2];have HDA:=za (fun W (hW:w0.grownBy W none)=>XD (.slice Aa na ca') RA me p.Q Z W (HSA.out.kept hW) HMU.out (by have:=HLA.out.1;omega) (fun c hc=>by have:=HLA.out.2 c hc;omega));have HDB:=za (fun W (hW:w0.grownBy W none)=>XD (.slice Ab nb cb') RB me p.Q Z W (HSB.out.kept hW) HMU.out (by have:=HLB.out.1;omega) (fun c hc=>by have:=HLB.out.2 c hc;omega));obtain ⟨PA,hPA⟩: ∃y,y=RA.map (atP p.Q me):=⟨_,rfl⟩;obtain ⟨PB,hPB⟩: ∃y,y=RB.map (atP p.Q me):=⟨_,rfl⟩;have HPL:Hid (PA.length≤10∧PB.length≤10):=za (by rw [hPA,hPB,List.length_map,List.length_map];exact ⟨HLA.out.1,HLB.out.1⟩);rw [←hPA] at HDA;rw [←hPB] at HDB;rw [←hPA, ←hPB];have HPK:=za (fun W (hW:w0.grownBy W none) v1 v2 X1 X2 (h1:Sl (zh zo) X1 W v1 (zN PA)) (h2:Sl (zh zo) X2 W v2 (zN PB))=>Xg (.slice Am nm cm) v1 v2 d.m (zN PA) (zN PB) Z X1 X2 W (HS1.out.kept hW) h1 h2 HM10.out ⟨by unfold zN;rw [List.length_map];exact HPL.out.1,fun c hc=>by unfold zN at hc;obtain ⟨y,_,rfl⟩:=List.mem_map.1 hc;simp⟩ ⟨by unfold zN;rw [List.length_map];exact HPL.out.2,fun c hc=>by unfold zN at hc;obtain ⟨y,_,rfl⟩:=List.mem_map.1 hc;simp⟩);obtain ⟨PL,hPL⟩: ∃y,y=Zv d.m (zN PA) (zN PB):=⟨_,rfl⟩;rw [←hPL] at HPK ⊢;clear hdk hdd s1 s2 s3 sa sb hRA hRB hla hlb hca hcb hjm hA0 hr0 hr9 hFR hz h0 hm0 hm1 hj hjl HL hL hl hl0 hp hN ho hk hf hn hd hll hme HNU HDL HN hgl hNN hms hjmN hjm7 hPL hPA hPB HTM hF hjF h7 hN0;go_enter Tryz.func20,Tryz.ntmps20;go_wp2_with fail;rw [←HW0.out, ←hw1',HWF.out]
   clear hr1 hr2 hw1';refine Zf 28 ?_;refine mP0 (.pointer (some ⟨w.heap.size+1+1,0,none⟩)) ?_;refine mQ1 (.slice Am nm cm) 0 59 (fun w' hw' K hK=> ?_) ?_
   ·obtain ⟨hc,⟨hca,hcb⟩,hcp⟩:=HRL.out w' hw';go_simp;exact hK _ rfl rfl
   refine mP0 (.pointer (some ⟨w.heap.size+1+1,1,none⟩)) ?_;refine mQ1 (.slice (some ⟨ga,oa,none⟩) NN ca) 2 61 (fun w' hw' K hK=> ?_) ?_
   ·obtain ⟨hc,⟨hca,hcb⟩,hcp⟩:=HRL.out w' hw';go_simp;exact hK _ rfl rfl
   refine mP0 (.int .i64 F) ?_;refine mP1 (.int .i64 jm) 4 63 ?_;refine mP2 (.pointer (some ⟨ga,oa+jm,none⟩)) 3 62 5 64 ?_;refine mQ1 (.slice Aa na ca') 6 65 (fun w' hw' K hK=> ?_) ?_
   ·obtain ⟨hc,⟨hca,hcb⟩,hcp⟩:=HRL.out w' hw';go_simp;exact hK _ rfl rfl
   refine mP0 (.int .i64 me) ?_;refine mP1 (.int .u64 me) 8 67 ?_;refine mP0 (.pointer (some ⟨w.heap.size+1,1,none⟩)) ?_;refine mQ1 (.int .u64 p.Q) 10 69 (fun w' hw' K hK=> ?_) ?_
   ·obtain ⟨hc,⟨hca,hcb⟩,hcp⟩:=HRL.out w' hw';go_simp;exact hK _ rfl rfl
   refine mN3 (Pv.sl (zo) (fun g=>w.heap.size≤g) PA) 7 66 9 68 11 70 (fun w' hw' K hK=> ?_) ?_
   ·go_simp;refine (HDA.out w' (HGD.out.trans hw')).mono ?_;rintro e w3 ⟨v,rfl,hs3,hg3⟩;exact hK _ _ rfl (hs3.more fun g _ hg=>Nat.le_trans (HG0.out.trans (HGD.out.trans hw')).size hg) hg3
   refine mV (Pv.sl (zh zo) (fun g=>w.heap.size≤g) (zN PA)) [(12,71)] (fun w' hw' x71 h71=>kD fun K hK=> ?_) ?_
   ·have h71:Sl (zo) (fun g=>w.heap.size≤g) w' x71 PA:=h71;obtain ⟨A71,n71,c71,e71⟩:=h71.shape;subst e71;go_simp;refine (Ug _ PA _ w' h71 (by have:=HPL.out.1;omega)).mono ?_;rintro e w3 ⟨v,rfl,hs3,hg3⟩;exact hK _ _ rfl (hs3.more fun g _ hg=>Nat.le_trans (HG0.out.trans (HGD.out.trans hw')).size hg) hg3
   refine mP0 (.pointer (some ⟨w.heap.size+1+1,2,none⟩)) ?_;refine mQ1 (.slice (some ⟨gb,ob,none⟩) NN cb) 14 73 (fun w' hw' K hK=> ?_) ?_
   ·obtain ⟨hc,⟨hca,hcb⟩,hcp⟩:=HRL.out w' hw';go_simp;exact hK _ rfl rfl
   refine mP0 (.int .i64 F) ?_;refine mP1 (.int .i64 jm) 16 75 ?_;refine mP2 (.pointer (some ⟨gb,ob+jm,none⟩)) 15 74 17 76 ?_;refine mQ1 (.slice Ab nb cb') 18 77 (fun w' hw' K hK=> ?_) ?_
   ·obtain ⟨hc,⟨hca,hcb⟩,hcp⟩:=HRL.out w' hw';go_simp;exact hK _ rfl rfl
   refine mP0 (.int .i64 me) ?_;refine mP1 (.int .u64 me) 20 79 ?_;refine mP0 (.pointer (some ⟨w.heap.size+1,1,none⟩)) ?_;refine mQ1 (.int .u64 p.Q) 22 81 (fun w' hw' K hK=> ?_) ?_
   ·obtain ⟨hc,⟨hca,hcb⟩,hcp⟩:=HRL.out w' hw';go_simp;exact hK _ rfl rfl
   refine mN3 (Pv.sl (zo) (fun g=>w.heap.size≤g) PB) 19 78 21 80 23 82 (fun w' hw' K hK=> ?_) ?_
   ·go_simp;refine (HDB.out w' (HGD.out.trans hw')).mono ?_;rintro e w3 ⟨v,rfl,hs3,hg3⟩;exact hK _ _ rfl (hs3.more fun g _ hg=>Nat.le_trans (HG0.out.trans (HGD.out.trans hw')).size hg) hg3
   refine mV (Pv.sl (zh zo) (fun g=>w.heap.size≤g) (zN PB)) [(24,83)] (fun w' hw' x83 h83=>kD fun K hK=> ?_) ?_
   ·have h83:Sl (zo) (fun g=>w.heap.size≤g) w' x83 PB:=h83;obtain ⟨A83,n83,c83,e83⟩:=h83.shape;subst e83;go_simp;refine (Ug _ PB _ w' h83 (by have:=HPL.out.2;omega)).mono ?_;rintro e w3 ⟨v,rfl,hs3,hg3⟩;exact hK _ _ rfl (hs3.more fun g _ hg=>Nat.le_trans (HG0.out.trans (HGD.out.trans hw')).size hg) hg3
   refine mV (Pv.sl ze (fun g=>w.heap.size≤g) PL) [(1,60),(13,72),(25,84)] (fun w' hw'=>pQ (fun x72 h72 x84 h84=>kD fun K hK=> ?_)) ?_
   ·have h72:Sl (zh zo) (fun g=>w.heap.size≤g) w' x72 (zN PA):=h72;obtain ⟨A72,n72,c72,e72⟩:=h72.shape;subst e72;have h84:Sl (zh zo) (fun g=>w.heap.size≤g) w' x84 (zN PB):=h84;obtain ⟨A84,n84,c84,e84⟩:=h84.shape;subst e84;go_simp;refine (HPK.out w' (HGD.out.trans hw') _ _ _ _ h72 h84).mono ?_;rintro e w3 ⟨v,rfl,hs3,hg3⟩;exact hK _ _ rfl (hs3.more fun g _ hg=>Nat.le_trans (HG0.out.trans (HGD.out.trans hw')).size hg) hg3
   refine mV (Pv.sl ze (fun g=>w.heap.size≤g) PL) [(26,85)] (fun w' hw' x85 h85=>kD fun K hK=> ?_) ?_
   ·have h85:Sl ze (fun g=>w.heap.size≤g) w' x85 PL:=h85;go_simp;exact hK _ _ rfl h85 gRf
   intro w3 hw3
   iterate 27 (refine pD ?_;intro _)
   intro y27 k27;have e27:Sl ze (fun g=>w.heap.size≤g) w3 y27 PL:=k27;have HF:Hid (Oy Y w PL (.returned y27) w3):=za ⟨_,rfl,e27.more fun g _ h=> .inr h,HG0.out.trans (HGD.out.trans hw3)⟩;clear k27 e27 hw3;refine wpList_nil ?_;simp only [Act.put,sAa,sAb,sAc];go_wp2_with fail;go_ret;exact HF.out
end
section
open Go Go.RowKit
structure TpP (pa:Option Addr) (g:Nat) (q:Int) (dr:Nat→Int) (TI:Nat→World→Prop) (bl:Nat→Prop) (most:Nat):Prop where
 own:bl g
 old: ∀{k w b},TI k w→bl b→b< w.heap.size
 val: ∀k,U64 (dr k)
 keep: ∀{k w w'} {row:Option Nat},TI k w→w.grownBy w' row→(∀b,row=some b→ ¬bl b)→TI k w'
 next: ∀{k w},k< most→TI k w→Calls Tryz.prog 98 #[.pointer pa, .int .u64 q] w fun e w'=>e= .returned (.int .u64 (dr k))∧TI (k+1) w'∧w.grownBy w' (some g)
abbrev Tp(g:Nat):=TpP (some ⟨g,0,none⟩) g
def Rr(q s:Int):Nat→Int
 |0=>s
 |k+1=>Vc q (Rr q s k)
theorem Rq(q s:Int)(hs:U64 s): ∀k,U64 (Rr q s k)
 |0=>hs
 |k+1=>LC q _ (Rq q s hs k)
theorem GH(g:Nat)(q s:Int)(hs:U64 s)(hq:U64 q):Tp g q (fun k=>Lz q (Rr q s k)) (fun k w=>Bk w g 174 #[.int .u64 (Rr q s k), .slice none 0 0, .int .i64 k]) (fun b=>b=g) 1000000 where
 own:=rfl
 old:=fun h e=>by subst e;exact h.lt
 val:=fun k=>Qd q _ hq
 keep:=fun h hg hr=>h.grown hg (fun e=>hr g e.symm rfl)
 next:=fun {k w} hk h=>(JJ g none 0 (Rr q s k) k q w (Rq q s hs k) hq (by omega) (by omega) h).mono fun _ _ ⟨h1,h2,h3⟩=>⟨h1,by simpa [Rr] using h2,h3⟩
theorem MW(s:Int)(w:World):
  Calls Tryz.prog 44 #[.int .u64 s] w fun e w'=>e= .returned (.pointer (some ⟨w.heap.size,0,none⟩))∧w'=w.alloc (.cells #[.int .u64 s, .slice none 0 0, .int .i64 0] 174):=by
 go_enter Tryz.func44,Tryz.ntmps44;go_wp2_with fail;go_ret;exact ⟨rfl,rfl⟩
theorem XU(p:Par)(w:World):
  Calls Tryz.prog 97 #[p.v] w fun e w'=>e= .returned (.int .i64 (zX p))∧w.grownBy w' none:=by
 go_enter Tryz.func97,Tryz.ntmps97;go_wp2;go_ret;exact ⟨rfl,gAl w _ none⟩
theorem Acc.made1(w:World)(e:TypeId){B:Nat}(hB:B≤w.heap.size)(X:Nat→Prop)(hX:X w.heap.size)(z:Int)(hz:U64 z):Acc ze B e X (w.alloc (.cells #[.int .u64 z] e)) (.slice (some ⟨w.heap.size,0,none⟩) 1 1) [z]:=
 ⟨fun g hg=>by simp [Value.ownBlock] at hg;subst hg;exact hX, [[.int .u64 z]],rfl,fun i hi hi'=>by
  obtain rfl:i=0:=by simp at hi;omega
  exact ⟨rfl,hz⟩,⟨by simp [ze], .inr ⟨w.heap.size,1, #[.int .u64 z],rfl,hB,heap_alloc_new w _,Nat.le_refl _,by decide,rfl,by simp [ze]⟩⟩⟩
def Xp(x q:Int)(dr:Nat→Int)(n k:Nat):List Int:=x%q::(List.range n).map fun j=>dr (k+j)
theorem LZ(x q:Int)(dr:Nat→Int)(n k:Nat):Xp x q dr (n+1) k=Xp x q dr n k++ [dr (k+n)]:=by
 simp [Xp,List.range_succ]
theorem xz(x q:Int)(dr:Nat→Int)(n k:Nat):(Xp x q dr n k).length=n+1:=by simp [Xp]
theorem XH{pa:Option Addr}{g:Nat}{q:Int}{dr:Nat→Int}{TI:Nat→World→Prop}{bl:Nat→Prop}{most:Nat}(hT:TpP pa g q dr TI bl most)(x:Int)(n k:Nat)(w:World)(hx:U64 x)(hq:U64 q)(hq0:0< q)(hn:n≤1000)(hk:k+n≤most)(hI:TI k w):
  Calls Tryz.prog 99 #[.int .u64 x, .int .i64 n, .int .u64 q, .func (.func 98) #[.pointer pa] #[]] w fun e w'=> ∃v,e= .returned v∧Sl ze (fun b=>w.heap.size≤b) w' v (Xp x q dr n k)∧TI (k+n) w'∧w.grownBy w' (some g):=by
 have HT:=za hT;obtain ⟨q0,q1⟩:=hq;obtain ⟨x0,x1⟩:=hx;have hqz:(q==0)=false:=by simp;omega
 have hqz2: ¬q=0:=by omega
 have hmod:Int.tmod x q=x%q:=Int.tmod_eq_emod_of_nonneg x0;obtain ⟨z,hz⟩: ∃y,y=x%q:=⟨_,rfl⟩;have HZ:Hid (U64 z):=za (by rw [hz];exact ⟨Int.emod_nonneg _ (by omega),Int.lt_trans (Int.emod_lt_of_pos _ hq0) (by omega)⟩);have hzw:IntKind.u64.wrap z=z:=IntWalk.u64_in _ (by have:=HZ.out;obtain ⟨a,b⟩:=this;omega);have HGW:Hid (g< w.heap.size):=za (hT.old hI hT.own);obtain ⟨w1,hw1⟩: ∃y,y=w.alloc (Obj.cells #[.int .u64 z] 22):=⟨_,rfl⟩;have HG1:Hid (w.grownBy w1 none):=za (by rw [hw1];exact gAl w _ none);have HA1:Hid (Acc ze w.heap.size 22 (fun b=>w.heap.size≤b) w1 (.slice (some ⟨w.heap.size,0,none⟩) 1 1) (Xp x q dr 0 k)):=za (by
  rw [hw1,show Xp x q dr 0 k= [z] by simp [Xp,hz]];exact Acc.made1 w _ (Nat.le_refl _) _ (Nat.le_refl _) z HZ.out)
 have HI1:Hid (TI k w1):=za (hT.keep hI HG1.out (by simp));have HOB:Hid (∀b,bl b→b< w.heap.size):=za (fun b hb=>hT.old hI hb);have e1:x%q=z:=hz.symm;rw [e1] at hmod;clear hT hI hz;go_enter Tryz.func99,Tryz.ntmps99;go_wp2_with fail;rw [←hw1];clear hw1;go_loopg [9,15] n (fun gk s9 s15 wx=> ∃j:Nat,j+gk=n∧s15= .int .i64 j∧Hid (Acc ze w.heap.size 22 (fun b=>w.heap.size≤b) wx s9 (Xp x q dr j k)∧TI (k+j) wx∧w.grownBy wx (some g)))
 case atStart=>exact ⟨0,by omega,rfl,za ⟨HA1.out,HI1.out,HG1.out.but _⟩⟩
 case round=>
  obtain ⟨j,hj,rfl,HX⟩:=hrel;cases gk with
  |zero=>
   obtain rfl:j=n:=by omega
   have HR:Hid (Sl ze (fun b=>w.heap.size≤b) wr u9 (Xp x q dr j k)∧TI (k+j) wr∧w.grownBy wr (some g)):=za ⟨HX.out.1.sl,HX.out.2⟩;have hno: ¬((j:Int)< (j:Int)):=by omega
   clear HX;go_wp2;go_ret;exact ⟨_,rfl,HR.out⟩
  |succ m=>
   have hjn:(j:Int)< (n:Int):=by omega
   have HC:=za (HT.out.next (by omega) HX.out.2.1);have HA:=za HX.out.1;have HG:=za HX.out.2.2;have HV:=za (HT.out.val (k+j));have HSN:=za (LZ x q dr j k);have HLB:Hid (((Xp x q dr j k).length+1)*8≤140737488355328):=za (by rw [xz];omega);obtain ⟨y,hy⟩: ∃y,y=dr (k+j):=⟨_,rfl⟩;rw [←hy] at HC HV HSN;clear HX hy;go_wp2_with fail;refine HC.out.mono ?_;rintro e w2 ⟨rfl,hi2,hg2⟩;have HA2:=za (HA.out.keep hg2 (fun b hb e=>by injection e with e;have:=HGW.out;omega));have HI2:=za hi2;have HG2:Hid (w.grownBy w2 (some g)):=za (HG.out.trans hg2);have HSZ:Hid (w.heap.size≤w2.heap.size):=za HG2.out.size;clear hi2 hg2;go_wp2_with (at_builtin;refine zQ rfl (.tmp 17) (.tmp 21) rfl (E:=ze) (y:=y) xd HA2.out rfl rfl ⟨rfl,HV.out⟩ HLB.out HSZ.out (fun _ h=>Nat.le_trans HSZ.out h) ?_);intro v9 w3 ha hg hm;have HFIN:Hid (Acc ze w.heap.size 22 (fun b=>w.heap.size≤b) w3 v9 (Xp x q dr (j+1) k)∧TI (k+(j+1)) w3∧w.grownBy w3 (some g)):=za ⟨by rw [HSN.out];exact ha,HT.out.keep HI2.out hg (fun b e hb=>by have:=(HA2.out.lt b e).1;have:=HOB.out b hb;omega),HG2.out.andThen hg (fun b e=> .inl (HA2.out.lt b e).1)⟩;clear ha hg hm;go_wp2_with fail;go_roundg m
   case measure=>omega
   case rel=>exact ⟨j+1,by omega,by go_num,HFIN⟩
end
section
open Go Go.RowKit
theorem Sl.piece{X:Nat→Prop}{w:World}{g o n c:Nat}{l:List Int}(h:Sl ze X w (.slice (some ⟨g,o,none⟩) n c) l)(a m:Nat)(hm:0< m)(ha:a+m≤l.length):Sl ze X w (.slice (some ⟨g,o+a,none⟩) m m) ((l.drop a).take m):=by
 obtain ⟨A,c',e,h1,h2,h3⟩:=h;injection e with e1 e2 e3
 subst e1 e3;have hl:((l.drop a).take m).length=m:=by simp;omega
 obtain ⟨g',o',eA,lt,hX,hi⟩:=h3 (by intro e;rw [e] at ha;simp at ha;omega);injection eA with eA
 injection eA with eA1 eA2 _
 subst eA1 eA2;refine ⟨_,m,by rw [hl],by rw [hl];exact Nat.le_refl _,by omega,fun _=>⟨g,o+a,rfl,lt,hX,fun i hi'=> ?_⟩⟩;have hi2:i< m:=by rw [hl] at hi';exact hi'
 obtain ⟨cs,hr,hc⟩:=hi (a+i) (by omega);refine ⟨cs, ?_,fun j u hu=> ?_⟩
 ·have e:((l.drop a).take m)[i]=l[a+i]:=by simp
  rw [e];exact hr
 ·have:=hc j u hu
  rw [show o+a+i*ze.size+j=o+(a+i)*ze.size+j by show o+a+i*1+j=o+(a+i)*1+j;omega];exact this
def xH(gb ob t j:Nat):List Value:=(List.range t).map fun i=>if i< j then .slice (some ⟨gb,ob+i*t,none⟩) t t else .slice none 0 0
theorem UV(gb ob t j:Nat):(xH gb ob t j).set j (.slice (some ⟨gb,ob+j*t,none⟩) t t)=xH gb ob t (j+1):=by
 refine List.ext_getElem (by simp [xH]) fun k h1 h2=> ?_
 rw [List.getElem_set];simp only [xH,List.getElem_map,List.getElem_range];split
 ·rename_i e;subst e;rw [if_pos (by omega)]
 ·rename_i e;by_cases h:k< j
  ·rw [if_pos h,if_pos (by omega)]
  ·rw [if_neg h,if_neg (by omega)]
theorem Rz{X:Nat→Prop}{w:World}{gb ob n c t Bo:Nat}{l:List Int}(h:Sl ze X w (.slice (some ⟨gb,ob,none⟩) n c) l)(ht:0< t)(ht2:t≤100)(hl:l.length=t*t)(hb:Bk w Bo 31 (xH gb ob t t).toArray)(hX:X Bo):Sl (zh ze) X w (.slice (some ⟨Bo,0,none⟩) t t) (chk t l t):=by
 have hlen:(chk t l t).length=t:=zF _ _ _
 have:=Sl.block (E:=zh ze) (X:=X) (xs:=chk t l t) (c:=t) hb hX ((xH gb ob t t).map fun v=> [v]) (by simp [xH,hlen]) (fun i hi hi'=>by
  have hit:i< t:=by rw [hlen] at hi;exact hi
  have ha:i*t+t≤l.length:=by
   rw [hl]
   have:=Nat.mul_le_mul_right t (show i+1≤t from hit)
   rw [Nat.add_mul,Nat.one_mul] at this;exact this
  have e1:(chk t l t)[i]=(l.drop (i*t)).take t:=by simp [chk]
  have e2:((xH gb ob t t).map fun v=> [v])[i]= [.slice (some ⟨gb,ob+i*t,none⟩) t t]:=by simp [xH,hit]
  rw [e1,e2];exact ⟨_,rfl,h.piece (i*t) t ht ha⟩) (by rw [zV]) (by rw [hlen];exact Nat.le_refl _) (by omega)
 rwa [hlen] at this
theorem KN{pa:Option Addr}{g:Nat}{dr:Nat→Int}{TI:Nat→World→Prop}{bl:Nat→Prop}{most:Nat}(p:Par)(hT:TpP pa g p.Q dr TI bl most)(x:Int)(k:Nat)(w:World)(hx:U64 x)(hq:U64 p.Q)(hq0:0< p.Q)(ht:p.T=1)(hk:k+3≤most)(hI:TI k w):
  Calls Tryz.prog 101 #[p.v, .int .u64 x, .func (.func 98) #[.pointer pa] #[]] w fun e w'=> ∃v,e= .returned v∧Sl (zh ze) (fun b=>w.heap.size≤b) w' v (chk 2 (Xp x p.Q dr 3 k) 2)∧TI (k+3) w'∧w.grownBy w' (some g):=by
 obtain ⟨w0,hw0⟩: ∃y,y=w.alloc (Obj.cells p.cells 39):=⟨_,rfl⟩;have HG0:Hid (w.grownBy w0 none):=za (by rw [hw0];exact gAl w _ none);have HB0:Hid (Bk w0 w.heap.size 39 p.cells):=za (by rw [hw0];exact Bk.new w _ _);have HI0:Hid (TI k w0):=za (hT.keep hI HG0.out (by simp));have HBH:=za (XH hT x 3 k w0 hx hq hq0 (by decide) hk HI0.out);have hp0:=HB0.out.prule;have HT:=za hT;have HOB:Hid (∀b,bl b→b< w.heap.size):=za (fun b hb=>hT.old hI hb);have HGW:Hid (g< w.heap.size):=za (hT.old hI hT.own);clear hT hI hx hq hq0;go_enter Tryz.func101,Tryz.ntmps101;go_wp2_with fail;rw [←hw0];clear hw0;go_wp2_with fail;refine HBH.out.mono ?_;rintro e w1 ⟨v8,rfl,hs1,hi1,hg1⟩;obtain ⟨A8,c8,e8,hc8,hc8b⟩:=hs1.form;rw [xz] at e8 hc8;obtain ⟨gb,ob,c8',e8',hgb,hgb2,_,_⟩:=hs1.atU (k:=0) (by rw [xz];decide);rw [e8] at e8';injection e8' with e81 e82 e83
 subst e81;have e8:v8= .slice (some ⟨gb,ob,none⟩) 4 c8:=e8;have hc8:4≤c8:=hc8;subst e8;have HS1:=za hs1;have HI1:=za hi1;have HG1:Hid (w.grownBy w1 (some g)):=za ((HG0.out.but _).trans hg1);have HBB:Hid (w.heap.size≤gb∧gb< w1.heap.size):=za ⟨Nat.le_trans HG0.out.size hgb2,hgb⟩;have hmk:=run_make_row' (P:=Tryz.prog) 43 31 (.slice none 0 0) 24 Tryz.underlying43 Xb rfl .i64 .i64 2 (by decide) (by decide) w1;have hmk:(Instr.makeSlice 43 (.int .i64 2) (.int .i64 2)).run Tryz.prog w1= .ok (.slice (some ⟨w1.heap.size,0,none⟩) 2 2) (w1.alloc (.cells (madeCells #[.slice none 0 0] 2) 31)):=hmk;obtain ⟨D0,hD0⟩: ∃y,y=w1.alloc (.cells (madeCells #[.slice none 0 0] 2) 31):=⟨_,rfl⟩;obtain ⟨Bo,hBo⟩: ∃y,y=w1.heap.size:=⟨_,rfl⟩;have HGD:Hid (w1.grownBy D0 none):=za (by rw [hD0];exact gAl _ _ none);have HBO:Hid (Bk D0 Bo 31 (xH gb ob 2 0).toArray):=za (by
  rw [hD0,hBo];exact (Bk.new w1 31 (madeCells #[.slice none 0 0] 2)).of_eq (Array.toList_inj.1 (by rw [toList_madeCells_one];rfl)))
 have HBS:Hid (Bo=w1.heap.size):=za hBo;have hp1: ∀o,w1.cell? ⟨w.heap.size,o,none⟩=(#[.int .u64 p.P, .int .u64 p.Q, .int .u64 p.G, .int .u64 p.H, .int .i64 p.Nodes, .int .i64 p.N, .int .i64 p.T, .int .i64 p.K, .int .i64 p.D, .int .i64 p.R, .int .i64 p.M, .int .i64 p.X]:Array Value)[o]? :=(HB0.out.grown hg1 (fun e=>by injection e with e;have:=HGW.out;omega)).prule;clear hs1 hi1 hg1 hgb hgb2 e82 e83 hc8b;go_upto_region 5 with (fail)
 rw [←hD0, ←hBo];clear hD0 hBo hmk hp1;go_loopg [27] 2 (fun gk s27 wx=> ∃j:Nat,j+gk=2∧s27= .int .i64 j∧Hid (Bk wx Bo 31 (xH gb ob 2 j).toArray∧D0.grownBy wx (some Bo)))
 case atStart=>exact ⟨0,by omega,rfl,za ⟨HBO.out,World.grownBy.refl _ _⟩⟩
 case round=>
  obtain ⟨j,hj,rfl,HX⟩:=hrel;cases gk with
  |zero=>
   obtain rfl:j=2:=by omega
   have hno: ¬((2:Int)< 2):=by omega
   have HR:Hid (Sl (zh ze) (fun b=>w.heap.size≤b) wr (.slice (some ⟨Bo,0,none⟩) 2 2) (chk 2 (Xp x p.Q dr 3 k) 2)∧TI (k+3) wr∧w.grownBy wr (some g)):=za (by
    have hs:=((HS1.out.bounded.kept HGD.out).keep HX.out.2 (fun b hb e=>by injection e with e;have:=HBS.out;have:=hb.2;omega)).more (Y:=fun b=>w.heap.size≤b) fun b _ hb=>Nat.le_trans HG0.out.size hb.1
    refine ⟨Rz hs (by decide) (by decide) (by rw [xz]) HX.out.1 (by have:=HBB.out;have:=HBS.out;omega),HT.out.keep (HT.out.keep HI1.out HGD.out (by simp)) HX.out.2 (fun b e hb=>by injection e with e;have:=HOB.out b hb;have:=HBB.out;have:=HBS.out;omega),(HG1.out.trans (HGD.out.but _)).andThen HX.out.2 (fun b e=> .inl (by injection e with e;have:=HBB.out;have:=HBS.out;omega))⟩)
   clear HX;go_wp2;go_ret;exact ⟨_,rfl,HR.out⟩
  |succ m=>
   have hj2:j< 2:=by omega
   have hjI:(j:Int)< 2:=by omega
   have hj0:(0:Int)≤(j:Int):=Int.natCast_nonneg j;have hb:=HX.out.1;have c0:wr.cell? ⟨Bo,j,none⟩=some (.slice none 0 0):=by rw [hb.cell j];simp [xH,hj2]
   have f0:=hb.free;have HFIN:Hid (Bk (wr.setCell ⟨Bo,j,none⟩ (.slice (some ⟨gb,ob+j*2,none⟩) ((j+1)*2 - j*2) ((j+1)*2 - j*2))) Bo 31 (xH gb ob 2 (j+1)).toArray∧D0.grownBy (wr.setCell ⟨Bo,j,none⟩ (.slice (some ⟨gb,ob+j*2,none⟩) ((j+1)*2 - j*2) ((j+1)*2 - j*2))) (some Bo)):=za ⟨(hb.set j _).of_eq (by
    rw [show (j+1)*2 - j*2=2 by omega, ←UV];simp),HX.out.2.trans (zi wr Bo _ _)⟩
   clear hb;go_wp2_with fail;go_roundg m
   case measure=>omega
   case rel=>exact ⟨j+1,by omega,by go_num,HFIN⟩
theorem KM{pa:Option Addr}{g:Nat}{dr:Nat→Int}{TI:Nat→World→Prop}{bl:Nat→Prop}{most:Nat}(p:Par)(hT:TpP pa g p.Q dr TI bl most)(x:Int)(k:Nat)(w:World)(hx:U64 x)(hq:U64 p.Q)(hq0:0< p.Q)(ht:p.T=2)(hk:k+8≤most)(hI:TI k w):
  Calls Tryz.prog 101 #[p.v, .int .u64 x, .func (.func 98) #[.pointer pa] #[]] w fun e w'=> ∃v,e= .returned v∧Sl (zh ze) (fun b=>w.heap.size≤b) w' v (chk 3 (Xp x p.Q dr 8 k) 3)∧TI (k+8) w'∧w.grownBy w' (some g):=by
 obtain ⟨w0,hw0⟩: ∃y,y=w.alloc (Obj.cells p.cells 39):=⟨_,rfl⟩;have HG0:Hid (w.grownBy w0 none):=za (by rw [hw0];exact gAl w _ none);have HB0:Hid (Bk w0 w.heap.size 39 p.cells):=za (by rw [hw0];exact Bk.new w _ _);have HI0:Hid (TI k w0):=za (hT.keep hI HG0.out (by simp));have HBH:=za (XH hT x 8 k w0 hx hq hq0 (by decide) hk HI0.out);have hp0:=HB0.out.prule;have HT:=za hT;have HOB:Hid (∀b,bl b→b< w.heap.size):=za (fun b hb=>hT.old hI hb);have HGW:Hid (g< w.heap.size):=za (hT.old hI hT.own);clear hT hI hx hq hq0;go_enter Tryz.func101,Tryz.ntmps101;go_wp2_with fail;rw [←hw0];clear hw0;go_wp2_with fail;refine HBH.out.mono ?_;rintro e w1 ⟨v8,rfl,hs1,hi1,hg1⟩;obtain ⟨A8,c8,e8,hc8,hc8b⟩:=hs1.form;rw [xz] at e8 hc8;obtain ⟨gb,ob,c8',e8',hgb,hgb2,_,_⟩:=hs1.atU (k:=0) (by rw [xz];decide);rw [e8] at e8';injection e8' with e81 e82 e83
 subst e81;have e8:v8= .slice (some ⟨gb,ob,none⟩) 9 c8:=e8;have hc8:9≤c8:=hc8;subst e8;have HS1:=za hs1;have HI1:=za hi1;have HG1:Hid (w.grownBy w1 (some g)):=za ((HG0.out.but _).trans hg1);have HBB:Hid (w.heap.size≤gb∧gb< w1.heap.size):=za ⟨Nat.le_trans HG0.out.size hgb2,hgb⟩;have hmk:=run_make_row' (P:=Tryz.prog) 43 31 (.slice none 0 0) 24 Tryz.underlying43 Xb rfl .i64 .i64 3 (by decide) (by decide) w1;have hmk:(Instr.makeSlice 43 (.int .i64 3) (.int .i64 3)).run Tryz.prog w1= .ok (.slice (some ⟨w1.heap.size,0,none⟩) 3 3) (w1.alloc (.cells (madeCells #[.slice none 0 0] 3) 31)):=hmk;obtain ⟨D0,hD0⟩: ∃y,y=w1.alloc (.cells (madeCells #[.slice none 0 0] 3) 31):=⟨_,rfl⟩;obtain ⟨Bo,hBo⟩: ∃y,y=w1.heap.size:=⟨_,rfl⟩;have HGD:Hid (w1.grownBy D0 none):=za (by rw [hD0];exact gAl _ _ none);have HBO:Hid (Bk D0 Bo 31 (xH gb ob 3 0).toArray):=za (by
  rw [hD0,hBo];exact (Bk.new w1 31 (madeCells #[.slice none 0 0] 3)).of_eq (Array.toList_inj.1 (by rw [toList_madeCells_one];rfl)))
 have HBS:Hid (Bo=w1.heap.size):=za hBo;have hp1: ∀o,w1.cell? ⟨w.heap.size,o,none⟩=(#[.int .u64 p.P, .int .u64 p.Q, .int .u64 p.G, .int .u64 p.H, .int .i64 p.Nodes, .int .i64 p.N, .int .i64 p.T, .int .i64 p.K, .int .i64 p.D, .int .i64 p.R, .int .i64 p.M, .int .i64 p.X]:Array Value)[o]? :=(HB0.out.grown hg1 (fun e=>by injection e with e;have:=HGW.out;omega)).prule;clear hs1 hi1 hg1 hgb hgb2 e82 e83 hc8b;go_upto_region 5 with (fail)
 rw [←hD0, ←hBo];clear hD0 hBo hmk hp1;go_loopg [27] 3 (fun gk s27 wx=> ∃j:Nat,j+gk=3∧s27= .int .i64 j∧Hid (Bk wx Bo 31 (xH gb ob 3 j).toArray∧D0.grownBy wx (some Bo)))
 case atStart=>exact ⟨0,by omega,rfl,za ⟨HBO.out,World.grownBy.refl _ _⟩⟩
 case round=>
  obtain ⟨j,hj,rfl,HX⟩:=hrel;cases gk with
  |zero=>
   obtain rfl:j=3:=by omega
   have hno: ¬((3:Int)< 3):=by omega
   have HR:Hid (Sl (zh ze) (fun b=>w.heap.size≤b) wr (.slice (some ⟨Bo,0,none⟩) 3 3) (chk 3 (Xp x p.Q dr 8 k) 3)∧TI (k+8) wr∧w.grownBy wr (some g)):=za (by
    have hs:=((HS1.out.bounded.kept HGD.out).keep HX.out.2 (fun b hb e=>by injection e with e;have:=HBS.out;have:=hb.2;omega)).more (Y:=fun b=>w.heap.size≤b) fun b _ hb=>Nat.le_trans HG0.out.size hb.1
    refine ⟨Rz hs (by decide) (by decide) (by rw [xz]) HX.out.1 (by have:=HBB.out;have:=HBS.out;omega),HT.out.keep (HT.out.keep HI1.out HGD.out (by simp)) HX.out.2 (fun b e hb=>by injection e with e;have:=HOB.out b hb;have:=HBB.out;have:=HBS.out;omega),(HG1.out.trans (HGD.out.but _)).andThen HX.out.2 (fun b e=> .inl (by injection e with e;have:=HBB.out;have:=HBS.out;omega))⟩)
   clear HX;go_wp2;go_ret;exact ⟨_,rfl,HR.out⟩
  |succ m=>
   have hj2:j< 3:=by omega
   have hjI:(j:Int)< 3:=by omega
   have hj0:(0:Int)≤(j:Int):=Int.natCast_nonneg j;have hb:=HX.out.1;have c0:wr.cell? ⟨Bo,j,none⟩=some (.slice none 0 0):=by rw [hb.cell j];simp [xH,hj2]
   have f0:=hb.free;have HFIN:Hid (Bk (wr.setCell ⟨Bo,j,none⟩ (.slice (some ⟨gb,ob+j*3,none⟩) ((j+1)*3 - j*3) ((j+1)*3 - j*3))) Bo 31 (xH gb ob 3 (j+1)).toArray∧D0.grownBy (wr.setCell ⟨Bo,j,none⟩ (.slice (some ⟨gb,ob+j*3,none⟩) ((j+1)*3 - j*3) ((j+1)*3 - j*3))) (some Bo)):=za ⟨(hb.set j _).of_eq (by
    rw [show (j+1)*3 - j*3=3 by omega, ←UV];simp),HX.out.2.trans (zi wr Bo _ _)⟩
   clear hb;go_wp2_with fail;go_roundg m
   case measure=>omega
   case rel=>exact ⟨j+1,by omega,by go_num,HFIN⟩
end
section
open Go Go.RowKit
def pcs(l:List (Int×Int)):List Value:=l.flatMap fun x=> [.int .u64 x.1, .int .u64 x.2]
theorem YX(x:Int×Int)(l:List (Int×Int)):pcs (x::l)= .int .u64 x.1:: .int .u64 x.2::pcs l:=rfl
theorem PY: ∀(l:List (Int×Int)) (k:Nat) (h:k< l.length),(pcs l)[k*2]? =some (.int .u64 l[k].1)
 |x::l,0,_=>rfl
 |x::l,k+1,h=>by
  rw [YX,show (k+1)*2=k*2+1+1 by omega,List.getElem?_cons_succ,List.getElem?_cons_succ];exact PY l k (by simpa using h)
theorem PX: ∀(l:List (Int×Int)) (k:Nat) (h:k< l.length),(pcs l)[k*2+1]? =some (.int .u64 l[k].2)
 |x::l,0,_=>rfl
 |x::l,k+1,h=>by
  rw [YX,show (k+1)*2+1=k*2+1+1+1 by omega,List.getElem?_cons_succ,List.getElem?_cons_succ];exact PX l k (by simpa using h)
theorem PW(a:Int): ∀(l:List (Int×Int)) (k:Nat) (h:k< l.length),(pcs l).set (k*2) (.int .u64 a)=pcs (l.set k (a,l[k].2))
 |x::l,0,_=>rfl
 |x::l,k+1,h=>by
  rw [YX,show (k+1)*2=k*2+1+1 by omega,List.set_cons_succ,List.set_cons_succ,PW a l k (by simpa using h)];rfl
theorem PV(a:Int): ∀(l:List (Int×Int)) (k:Nat) (h:k< l.length),(pcs l).set (k*2+1) (.int .u64 a)=pcs (l.set k (l[k].1,a))
 |x::l,0,_=>rfl
 |x::l,k+1,h=>by
  rw [YX,show (k+1)*2+1=k*2+1+1+1 by omega,List.set_cons_succ,List.set_cons_succ,PV a l k (by simpa using h)];rfl
theorem MK: ∀n:Nat,pcs (List.replicate n (0,0))=List.replicate (n*2) (.int .u64 0)
 |0=>rfl
 |n+1=>by
  rw [List.replicate_succ,YX,MK n,show (n+1)*2=n*2+1+1 by omega,List.replicate_succ,List.replicate_succ]
theorem Nc(n:Nat):(madeCells #[.int .u64 0, .int .u64 0] (n*2)).toList=pcs (List.replicate n (0,0)):=by
 rw [MK];refine List.ext_getElem (by simp [size_madeCells]) fun j h1 h2=> ?_
 have hj:j< n*2:=by simpa using h2
 simp only [madeCells,Array.toList_map,List.getElem_map,List.getElem_replicate];simp
 have:j%2=0∨j%2=1:=by omega
 rcases this with h|h<;>simp [h]
theorem Dj{w:World}{g:Nat}{l:List (Int×Int)}(h:Bk w g 153 (pcs l).toArray)(hu: ∀x∈l,U64 x.1∧U64 x.2)(hb:l.length≤100000):Sl zo TT w (.slice (some ⟨g,0,none⟩) l.length l.length) l:=by
 refine Sl.block h trivial (l.map fun x=> [.int .u64 x.1, .int .u64 x.2]) (by simp) (fun i hi hi'=> ?_) ?_ (Nat.le_refl _) (by omega)
 ·simp only [List.getElem_map];exact ⟨rfl,hu _ (List.getElem_mem hi)⟩
 ·simp [pcs,List.flatMap]
theorem IX{X:Nat→Prop}{w:World}{g:Nat}{l:List (Int×Int)}(h:Bk w g 153 (pcs l).toArray)(hX:X g)(hu: ∀x∈l,U64 x.1∧U64 x.2)(hb:l.length≤100000):Sl zo X w (.slice (some ⟨g,0,none⟩) l.length l.length) l:=by
 refine Sl.block h hX (l.map fun x=> [.int .u64 x.1, .int .u64 x.2]) (by simp) (fun i hi hi'=> ?_) ?_ (Nat.le_refl _) (by omega)
 ·simp only [List.getElem_map];exact ⟨rfl,hu _ (List.getElem_mem hi)⟩
 ·simp [pcs,List.flatMap]
theorem OZ(n:Nat)(hn:n≤100000): ∀w',(Instr.makeSlice 72 (.int .i64 (n:Int)) (.int .i64 (n:Int))).run Tryz.prog w'= .ok (.slice (some ⟨w'.heap.size,0,none⟩) n n) (w'.alloc (.cells (madeCells #[.int .u64 0, .int .u64 0] (n*2)) 153)):=fun w'=>by
 obtain ⟨i,hi,hz⟩:=Option.map_eq_some_iff.1 RS;simp only [Prod.mk.injEq] at hz;obtain ⟨hz1,hz2,hz3⟩:=hz;have hr:=run_make (P:=Tryz.prog) w' 72 153 i _ Tryz.underlying72 hi hz1 .i64 .i64 (n:Int) (n:Int) (by omega) (Int.le_refl _) (by rw [hz3];omega) (by omega);rw [hz2,Int.toNat_natCast] at hr;exact hr
end
section
open Go Go.RowKit
def NY(a b:List Int)(n:Nat):List (Int×Int):=(List.range n).map fun k=>(a[k]?.getD 0,b[k]?.getD 0)
def Tb(a b:List Int)(n j:Nat):List (Int×Int):=(List.range n).map fun k=>if k< j then (a[k]?.getD 0,b[k]?.getD 0) else (0,0)
theorem Ta(a b:List Int)(n j:Nat):(Tb a b n j).length=n:=by simp [Tb]
theorem NZ(a b:List Int)(n:Nat):Tb a b n 0=List.replicate n (0,0):=by
 refine List.ext_getElem (by simp [Tb]) fun j h1 h2=> ?_
 simp [Tb]
theorem KD(a b:List Int)(n:Nat):Tb a b n n=NY a b n:=List.map_congr_left fun _ hk=>if_pos (List.mem_range.1 hk)
theorem KC(a b:List Int)(n j:Nat):(Tb a b n j).set j (a[j]?.getD 0,b[j]?.getD 0)=Tb a b n (j+1):=by
 refine List.ext_getElem (by simp [Tb]) fun k h1 h2=> ?_
 rw [List.getElem_set];simp only [Tb,List.getElem_map,List.getElem_range];split
 ·rename_i e;subst e;rw [if_pos (by omega)]
 ·rename_i e;by_cases h:k< j
  ·rw [if_pos h,if_pos (by omega)]
  ·rw [if_neg h,if_neg (by omega)]
theorem VX(v1 v2:Value)(a b:List Int)(n:Nat)(X Y:Nat→Prop)(w:World)(h1:Sl ze X w v1 a)(h2:Sl ze Y w v2 b)(ha:a.length=n)(hb:b.length=n)(hn:n≤1000):
  Calls Tryz.prog 103 #[v1,v2] w (zH zo (fun g=>w.heap.size≤g) w (NY a b n)):=by
 have H1:=za h1.bounded;have H2:=za h2.bounded;obtain ⟨A1,c1,rfl,_,_⟩:=h1.form;obtain ⟨A2,c2,rfl,_,_⟩:=h2.form;have HA:=za ha;have HB:=za hb;rw [ha] at H1 ⊢;rw [hb] at H2 ⊢;have hmk:=OZ n (by omega) w;obtain ⟨D0,hD0⟩: ∃y,y=w.alloc (.cells (madeCells #[.int .u64 0, .int .u64 0] (n*2)) 153):=⟨_,rfl⟩;obtain ⟨Bo,hBo⟩: ∃y,y=w.heap.size:=⟨_,rfl⟩;have HGD:Hid (w.grownBy D0 none):=za (by rw [hD0];exact gAl _ _ none);have HBO:Hid (Bk D0 Bo 153 (pcs (Tb a b n 0)).toArray):=za (by
  rw [hD0,hBo,NZ, ←Nc];exact Bk.new w _ _)
 have HX1:Hid (∀wx,D0.grownBy wx (some Bo)→Sl ze (fun g=>g< Bo) wx (.slice A1 n c1) a):=za (fun wx hg=>((H1.out.kept HGD.out).more (Y:=fun g=>g< Bo) fun g _ hx=>by rw [hBo];exact hx.2).keep hg (fun g hx e=>by injection e with e;omega));have HX2:Hid (∀wx,D0.grownBy wx (some Bo)→Sl ze (fun g=>g< Bo) wx (.slice A2 n c2) b):=za (fun wx hg=>((H2.out.kept HGD.out).more (Y:=fun g=>g< Bo) fun g _ hx=>by rw [hBo];exact hx.2).keep hg (fun g hx e=>by injection e with e;omega));have HUA:Hid (∀k,U64 (a[k]?.getD 0)∧U64 (b[k]?.getD 0)):=za (fun k=>by
  have key: ∀(l:List Int) (Z:Nat→Prop) (v:Value),Sl ze Z w v l→U64 (l[k]?.getD 0):=fun l Z v h=>by
   rcases Nat.lt_or_ge k l.length with hk|hk
   ·obtain ⟨_,_,_,_,_,_,_,u⟩:=h.atU hk;rw [List.getElem?_eq_getElem hk];exact u
   ·rw [List.getElem?_eq_none hk];exact ⟨by decide,by decide⟩
  exact ⟨key a X _ h1,key b Y _ h2⟩)
 have HBS:Hid (Bo=w.heap.size):=za hBo;clear h1 h2 ha hb;go_enter Tryz.func103,Tryz.ntmps103;go_upto_region 3 with (fail)
 rw [←hD0, ←hBo];clear hD0 hBo hmk;go_loopg [12] n (fun g s12 wx=> ∃j:Nat,j+g=n∧s12= .int .i64 j∧Hid (Bk wx Bo 153 (pcs (Tb a b n j)).toArray∧D0.grownBy wx (some Bo)))
 case atStart=>exact ⟨0,by omega,rfl,za ⟨HBO.out,World.grownBy.refl _ _⟩⟩
 case round=>
  obtain ⟨j,hj,rfl,HX⟩:=hrel;cases gk with
  |zero=>
   obtain rfl:j=n:=by omega
   have hno: ¬((j:Int)< (j:Int)):=by omega
   have HR:Hid (Sl zo (fun g=>w.heap.size≤g) wr (.slice (some ⟨Bo,0,none⟩) j j) (NY a b j)∧w.grownBy wr none):=za ⟨by
    have hsl:=IX (X:=fun g=>w.heap.size≤g) HX.out.1 (by rw [HBS.out];exact Nat.le_refl _) (fun x hx=>by
     obtain ⟨k,_,rfl⟩:=List.mem_map.1 hx;split
     ·exact HUA.out k
     ·exact ⟨⟨by decide,by decide⟩,⟨by decide,by decide⟩⟩) (by rw [Ta];omega)
    rw [Ta,KD] at hsl;exact hsl,zB HGD.out HX.out.2 (fun g e=>by injection e with e;rw [←e,HBS.out];exact Nat.le_refl _)⟩
   clear HX;go_wp2;go_ret;exact ⟨_,rfl,HR.out.1,HR.out.2⟩
  |succ m=>
   have hjn:(j:Int)< (n:Int):=by omega
   have hja:j< a.length:=by rw [HA.out];omega
   have hjb:j< b.length:=by rw [HB.out];omega
   have hj0:(0:Int)≤(j:Int):=Int.natCast_nonneg j;obtain ⟨hbo,hgd⟩:=HX.out;obtain ⟨g1,o1,c1',e1,hl1,hg1,hc1,hu1⟩:=(HX1.out _ hgd).atU hja;injection e1 with e11 e12 e13
   subst e11 e13;obtain ⟨g2,o2,c2',e2,hl2,hg2,hc2,hu2⟩:=(HX2.out _ hgd).atU hjb;injection e2 with e21 e22 e23
   subst e21 e23;have HZL:Hid (j< (Tb a b n j).length):=za (by rw [Ta];omega);have HAT:Hid (((pcs (Tb a b n j)).set (j*2) (.int .u64 a[j])).set (j*2+1) (.int .u64 b[j])=pcs (Tb a b n (j+1))):=za (by
    have hs:=KC a b n j;rw [List.getElem?_eq_getElem hja,List.getElem?_eq_getElem hjb,Option.getD_some,Option.getD_some] at hs;rw [PW _ _ j HZL.out,PV _ _ j (by simpa using HZL.out),List.set_set, ←hs];simp)
   obtain ⟨x,hx⟩: ∃y,y=a[j]:=⟨_,rfl⟩;obtain ⟨y,hy⟩: ∃y,y=b[j]:=⟨_,rfl⟩;rw [←hx] at hc1 hu1 HAT;rw [←hy] at hc2 hu2 HAT;have HDR:Hid (wr.grownBy wr.drew none):=za (zb _ 1);have HLD:Hid (∀W,wr.drew.grownBy W none→W.cell? ⟨g1,o1+j,none⟩=some (.int .u64 x)∧W.cell? ⟨g2,o2+j,none⟩=some (.int .u64 y)):=za (fun W hg=>⟨cell_kept hc1 (HDR.out.trans hg) (by simp),cell_kept hc2 (HDR.out.trans hg) (by simp)⟩);have HBK:=za hbo;have HGK:=za hgd;obtain ⟨p1,p2,HPP⟩: ∃p1 p2:Int,Hid ((pcs (Tb a b n j)).toArray[j*2]? =some (.int .u64 p1)∧(pcs (Tb a b n j)).toArray[j*2+1]? =some (.int .u64 p2)):=⟨_,_,za ⟨by simpa using PY _ j HZL.out,by simpa using PX _ j HZL.out⟩⟩;clear hbo hgd hc1 hc2 hl1 hl2 hg1 hg2 hu1 hu2 hx hy hja hjb e12 e22 HX;go_upto_region 5 with (fail)
   refine Zf 12 ?_;refine mP0 (.slice (some ⟨Bo,0,none⟩) n n) ?_;refine mP0 (.int .i64 (j:Int)) ?_;refine mP0 (.slice (some ⟨g1,o1,none⟩) n c1) ?_;refine mP0 (.int .i64 (j:Int)) ?_;refine zn.step (Pv.eq (.pointer (some ⟨g1,o1+j,none⟩))) [(2,17),(3,18)] (by kernel_rfl) (fun w' hw'=> ?_) ?_
   ·rintro _ rfl;rintro _ rfl;refine zq rfl fun K hK=> ?_
    go_simp;exact hK _ _ rfl rfl gRf
   refine zn.step (Pv.eq (.int .u64 x)) [(4,19)] (by kernel_rfl) (fun w' hw'=> ?_) ?_
   ·rintro _ rfl;refine zq rfl fun K hK=> ?_
    obtain ⟨q0,q1⟩:=HLD.out w' hw';go_simp;exact hK _ _ rfl rfl gRf
   refine mP0 (.slice (some ⟨g2,o2,none⟩) n c2) ?_;refine mP0 (.int .i64 (j:Int)) ?_;refine zn.step (Pv.eq (.pointer (some ⟨g2,o2+j,none⟩))) [(6,21),(7,22)] (by kernel_rfl) (fun w' hw'=> ?_) ?_
   ·rintro _ rfl;rintro _ rfl;refine zq rfl fun K hK=> ?_
    go_simp;exact hK _ _ rfl rfl gRf
   refine zn.step (Pv.eq (.int .u64 y)) [(8,23)] (by kernel_rfl) (fun w' hw'=> ?_) ?_
   ·rintro _ rfl;refine zq rfl fun K hK=> ?_
    obtain ⟨q0,q1⟩:=HLD.out w' hw';go_simp;exact hK _ _ rfl rfl gRf
   refine zn.step (Pv.eq (.agg #[.int .u64 x, .int .u64 y])) [(5,20),(9,24)] (by kernel_rfl) (fun w' hw'=> ?_) ?_
   ·rintro _ rfl;rintro _ rfl;refine zq rfl fun K hK=> ?_
    go_simp;exact hK _ _ rfl rfl gRf
   refine zn.step (Pv.eq (.pointer (some ⟨Bo,j*2,none⟩))) [(0,15),(1,16)] (by kernel_rfl) (fun w' hw'=> ?_) ?_
   ·rintro _ rfl;rintro _ rfl;refine zq rfl fun K hK=> ?_
    go_simp;exact hK _ _ rfl rfl gRf
   intro w3 hw3
   iterate 10 (refine pD ?_;intro _)
   intro y10 k10 y11 k11;show wpList Tryz.prog _ _ _ _ w3;simp only [Act.put,sAa,sAb,sAc];have e10:y10= .agg #[.int .u64 x, .int .u64 y]:=k10;have e11:y11= .pointer (some ⟨Bo,j*2,none⟩):=k11;subst e10 e11;have hb3:Bk w3 Bo 153 (pcs (Tb a b n j)).toArray:=HBK.out.grown (HDR.out.trans hw3) (by simp);have d0:w3.cell? ⟨Bo,j*2,none⟩=some (.int .u64 p1):=by rw [hb3.cell];exact HPP.out.1
   have d1:w3.cell? ⟨Bo,j*2+1,none⟩=some (.int .u64 p2):=by rw [hb3.cell];exact HPP.out.2
   have f3:=hb3.free;have HFIN:Hid (Bk ((w3.setCell ⟨Bo,j*2,none⟩ (.int .u64 x)).setCell ⟨Bo,j*2+1,none⟩ (.int .u64 y)) Bo 153 (pcs (Tb a b n (j+1))).toArray∧D0.grownBy ((w3.setCell ⟨Bo,j*2,none⟩ (.int .u64 x)).setCell ⟨Bo,j*2+1,none⟩ (.int .u64 y)) (some Bo)):=za ⟨((hb3.set (j*2) (.int .u64 x)).set (j*2+1) (.int .u64 y)).of_eq (by rw [←HAT.out];simp),(HGK.out.trans ((HDR.out.trans hw3).but _)).trans ((zi w3 Bo _ _).trans (zi _ Bo _ _))⟩;clear hw3 hb3 k10 k11 HLD;go_wp2_with fail;go_roundg m
   case measure=>omega
   case rel=>exact ⟨j+1,by omega,by go_num,HFIN⟩
end
section
open Go Go.RowKit Go.Shelf
theorem Pl:(Tryz.prog.info? 103).map (fun i=>(i.zero,i.size,i.bytes))=some (some (.slice none 0 0),1,24):=by kernel_rfl
theorem Qc:zA Tryz.prog 105 103 1 24:=zA.mk' (by decide) Tryz.underlying105 Pl rfl
def NV(x q:Int)(dr:Nat→Int)(t k:Nat):List (List Int):=chk t (Xp x q dr (t*t - 1) k) t
def Eg(l:List (Int×Int))(q:Int)(dr:Nat→Int)(t k s:Nat):List (List Int):=NV (l[s]?.getD (0,0)).1 q dr t (k+s*(2*(t*t - 1)))
def Eh(l:List (Int×Int))(q:Int)(dr:Nat→Int)(t k s:Nat):List (List Int):=NV (l[s]?.getD (0,0)).2 q dr t (k+s*(2*(t*t - 1))+(t*t - 1))
def xl(l:List (Int×Int))(q:Int)(dr:Nat→Int)(t k n:Nat):List (List (List Int)):=(List.range n).map (Eg l q dr t k)
def xm(l:List (Int×Int))(q:Int)(dr:Nat→Int)(t k n:Nat):List (List (List Int)):=(List.range n).map (Eh l q dr t k)
theorem Nm{α:Type}(f:Nat→α)(n:Nat):(List.range (n+1)).map f=(List.range n).map f++ [f n]:=by simp [List.range_succ]
def Jk(q:Int)(F B:List (List (List Int)))(t:Nat)(j:Int)(s:Nat):List (Int×Int):=NY (UE q (F[s]?.getD []) j) (UE q (B[s]?.getD []) j) t
def In(q:Int)(F B:List (List (List Int)))(t:Nat)(j:Int)(s:Nat):List (Int×Int):=NY (UT q (F[s]?.getD []) j) (UT q (B[s]?.getD []) j) t
def Vz(q:Int)(F B:List (List (List Int)))(t:Nat)(j:Int):List (List (Int×Int)):=(List.range F.length).map (Jk q F B t j)
def Ub(q:Int)(F B:List (List (List Int)))(t:Nat)(j:Int):List (List (Int×Int)):=(List.range F.length).map (In q F B t j)
def SqL(t:Nat)(M:List (List Int)):Prop:=M.length=t∧ ∀c∈M,c.length=t
theorem QP(x q:Int)(dr:Nat→Int)(t k:Nat)(ht:1≤t):SqL t (NV x q dr t k):=by
 refine ⟨zF _ _ _,fun c hc=> ?_⟩;obtain ⟨i,hi,rfl⟩:=List.mem_map.1 hc;have hi2:i< t:=List.mem_range.1 hi;have h1:(i+1)*t≤t*t:=Nat.mul_le_mul_right _ hi2;have h2:1*1≤t*t:=Nat.mul_le_mul ht ht;rw [Nat.add_mul,Nat.one_mul] at h1;rw [List.length_take,List.length_drop,xz];omega
theorem Ld(l:List (Int×Int))(q:Int)(dr:Nat→Int)(t k n:Nat)(ht:1≤t): ∀M∈xl l q dr t k n,SqL t M:=fun M hM=>by
 obtain ⟨i,_,rfl⟩:=List.mem_map.1 hM;exact QP _ _ _ _ _ ht
theorem Le(l:List (Int×Int))(q:Int)(dr:Nat→Int)(t k n:Nat)(ht:1≤t): ∀M∈xm l q dr t k n,SqL t M:=fun M hM=>by
 obtain ⟨i,_,rfl⟩:=List.mem_map.1 hM;exact QP _ _ _ _ _ ht
theorem UN(t:Nat): ∀(M:List (List Int)) (n:Nat),(∀c∈M,c.length=t)→M.foldl (fun n c=>max n c.length) n=if M= [] then n else max n t
 | [],n,_=>rfl
 |c::M,n,h=>by
  rw [List.foldl_cons,UN t M _ (fun c hc=>h c (List.mem_cons_of_mem _ hc)),h c List.mem_cons_self];split<;>simp
theorem KG{t:Nat}{M:List (List Int)}(h:SqL t M):yB M=t:=by
 unfold yB;rw [UN t M 0 h.2];obtain ⟨h1,_⟩:=h;split
 ·rename_i e;rw [e] at h1;exact h1
 ·omega
theorem PU{t:Nat}{M:List (List Int)}(h:SqL t M)(q x:Int):(UE q M x).length=t:=by simp [UE,KG h]
theorem Oj{t:Nat}{M:List (List Int)}(h:SqL t M)(q x:Int):(UT q M x).length=t:=by simp [UT,h.1]
def NW{α:Type}(E:Enc α)(ty tE:TypeId)(w4:World)(Bd lo hi:Nat)(cs:Array Value)(vW vB vy vz:Value)(xs ys:List α)(y z:α):Lt where
 C vs w:=w4.grownBy w (some Bd)∧Bk w Bd ty cs∧hi≤w.heap.size∧E.rep (fun g=>lo≤g∧g< hi) w [vy] y∧E.rep (fun g=>lo≤g∧g< hi) w [vz] z∧match vs with
  | []=>xU E E w4.heap.size tE tE (fun g=>w4.heap.size≤g) w vW vB xs ys
  | [u]=>xU E E w4.heap.size tE tE (fun g=>w4.heap.size≤g) w u vB (xs++ [y]) ys∧ ∀g,u.ownBlock=some g→g< lo∨hi≤g
  | [u,u2]=>xU E E w4.heap.size tE tE (fun g=>w4.heap.size≤g) w u u2 (xs++ [y]) (ys++ [z])
  |_=>False
 R q w w':=w.grownBy w' (if q=0 then vW.ownBlock else vB.ownBlock)
 g:=fun {vs w w'} h hg=>by
  obtain ⟨h1,h2,h3,h4,h5,h6⟩:=h;refine ⟨h1.trans (hg.but _),h2.grown hg (by simp),Nat.le_trans h3 hg.size,E.keep h4 hg (by simp),E.keep h5 hg (by simp), ?_⟩
  match vs,h6 with
  | [],h6=>exact h6.kept hg
  | [u],h6=>exact ⟨h6.1.kept hg,h6.2⟩
  | [u,u2],h6=>exact h6.kept hg
def twQ{α:Type}{E:Enc α}{ty tE:TypeId}{w4:World}{Bd lo hi:Nat}{cs:Array Value}{vW vB vy vz:Value}{xs ys:List α}{y z:α}(hW: ∀g,vW.ownBlock=some g→g< lo)(hB: ∀g,vB.ownBlock=some g→g< lo)(t:TypeId)(u:Value):Qv (NW E ty tE w4 Bd lo hi cs vW vB vy vz xs ys y z) where
 p _ v w:=De lo t u v w
 fr:=0
 st:=fun ⟨b,e,hb,hk⟩ hg=>⟨b,e,hb,hk.grown hg (by simp)⟩
 sr:=fun {vs _ v w w'} _ _ hR ⟨b,e,hb,hk⟩=>by
  refine ⟨b,e,hb,hk.grown hR fun e=> ?_⟩;split at e
  ·have:=hW b e.symm;omega
  ·have:=hB b e.symm;omega
section
variable {α:Type} {E:Enc α} {ty tE:TypeId} {w4 w' w3:World} {Bd lo hi:Nat} {cs:Array Value} {vW vB vy vz u v3:Value} {xs ys:List α} {y z:α}
theorem KP(hC:(NW E ty tE w4 Bd lo hi cs vW vB vy vz xs ys y z).C [] w')(ha:Acc E w4.heap.size tE (fun g=>w4.heap.size≤g∧some g≠vB.ownBlock) w3 v3 (xs++ [y]))(hgr:w'.grownBy w3 vW.ownBlock)(hm:xM w' vW v3)(hW: ∀g,vW.ownBlock=some g→g< lo)(hd:Bd< w4.heap.size):(NW E ty tE w4 Bd lo hi cs vW vB vy vz xs ys y z).C [v3] w3:=by
 obtain ⟨h1,h2,h3,h4,h5,h6⟩:=hC;have hS:xU E E w4.heap.size tE tE (fun g=>w4.heap.size≤g) w' vW vB xs ys:=h6;refine ⟨h1.andThen hgr (fun j e=> .inl (hS.fst.lt j e).1),h2.grown hgr (fun e=>by have:=(hS.fst.lt _ e.symm).1;omega),Nat.le_trans h3 hgr.size,E.keep h4 hgr (fun g hg e=>by have:=hW g e.symm;omega),E.keep h5 hgr (fun g hg e=>by have:=hW g e.symm;omega),hS.one ha hgr hm,fun g e=> ?_⟩;rcases hm with h|⟨n,hn,h⟩
 ·exact .inl (hW g (h ▸ e))
 ·rw [h] at e;injection e with e
  exact .inr (by omega)
theorem KO(hC:(NW E ty tE w4 Bd lo hi cs vW vB vy vz xs ys y z).C [u] w')(ha:Acc E w4.heap.size tE (fun g=>w4.heap.size≤g∧some g≠u.ownBlock) w3 v3 (ys++ [z]))(hgr:w'.grownBy w3 vB.ownBlock)(hm:xM w' vB v3)(hB: ∀g,vB.ownBlock=some g→g< lo)(hd:Bd< w4.heap.size):(NW E ty tE w4 Bd lo hi cs vW vB vy vz xs ys y z).C [u,v3] w3:=by
 obtain ⟨h1,h2,h3,h4,h5,h6⟩:=hC;have hS:xU E E w4.heap.size tE tE (fun g=>w4.heap.size≤g) w' u vB (xs++ [y]) ys:=h6.1;exact ⟨h1.andThen hgr (fun j e=> .inl (hS.snd.lt j e).1),h2.grown hgr (fun e=>by have:=(hS.snd.lt _ e.symm).1;omega),Nat.le_trans h3 hgr.size,E.keep h4 hgr (fun g hg e=>by have:=hB g e.symm;omega),E.keep h5 hgr (fun g hg e=>by have:=hB g e.symm;omega),hS.two ha hgr hm⟩
theorem Mj(hC:(NW E ty tE w4 Bd lo hi cs vW vB vy vz xs ys y z).C [] w')(hW: ∀g,vW.ownBlock=some g→g< lo)(hB: ∀g,vB.ownBlock=some g→g< lo)(hl:w4.heap.size≤lo):E.rep (fun g=>(w4.heap.size≤g∧some g≠vB.ownBlock)∧some g≠vW.ownBlock) w' [vy] y:=
 E.more hC.2.2.2.1 fun g _ hg=>⟨⟨by omega,fun e=>by have:=hB g e.symm;omega⟩,fun e=>by have:=hW g e.symm;omega⟩
theorem Mi(hC:(NW E ty tE w4 Bd lo hi cs vW vB vy vz xs ys y z).C [u] w')(hB: ∀g,vB.ownBlock=some g→g< lo)(hl:w4.heap.size≤lo):E.rep (fun g=>(w4.heap.size≤g∧some g≠u.ownBlock)∧some g≠vB.ownBlock) w' [vz] z:=
 E.more hC.2.2.2.2.1 fun g _ hg=>⟨⟨by omega,fun e=>by have:=hC.2.2.2.2.2.2 g e.symm;omega⟩,fun e=>by have:=hB g e.symm;omega⟩
theorem KQ{t':TypeId}{a:Value}{u2:Value}(hC:(NW E t' tE w4 Bd lo hi #[a,vW,vB] vW vB vy vz xs ys y z).C [u,u2] w')(hd:Bd< w4.heap.size):Bk ((w'.setCell ⟨Bd,1,none⟩ u).setCell ⟨Bd,2,none⟩ u2) Bd t' #[a,u,u2]∧xU E E w4.heap.size tE tE (fun g=>w4.heap.size≤g) ((w'.setCell ⟨Bd,1,none⟩ u).setCell ⟨Bd,2,none⟩ u2) u u2 (xs++ [y]) (ys++ [z])∧w4.grownBy ((w'.setCell ⟨Bd,1,none⟩ u).setCell ⟨Bd,2,none⟩ u2) (some Bd):=by
 obtain ⟨h1,h2,_,_,_,h6⟩:=hC;have hS:xU E E w4.heap.size tE tE (fun g=>w4.heap.size≤g) w' u u2 (xs++ [y]) (ys++ [z]):=h6;exact ⟨(h2.set 1 u).set 2 u2,(hS.keep (zi w' Bd 1 u) (fun g hg e=>by injection e with e;omega)).keep (zi _ Bd 2 u2) (fun g hg e=>by injection e with e;omega),(h1.andThen (zi w' Bd 1 u) (fun j e=> .inr e)).andThen (zi _ Bd 2 u2) (fun j e=> .inr e)⟩
end
def Dx(N:Nat)(yr:List (Int×Int)):Pv:=⟨fun v W=> ∃A n c b,v= .slice (some ⟨b,0,none⟩) 1 1∧Bk W b 72 #[.slice A n c]∧Sl zo (fun g=>N≤g) W (.slice A n c) yr,fun ⟨A,n,c,b,e,h1,h2⟩ hg=>⟨A,n,c,b,e,h1.grown hg (by simp),h2.kept hg⟩⟩
def slP(N:Nat)(yr:List (Int×Int)):Pv:=⟨fun v W=>Sl zo (fun g=>N≤g) W v yr,fun h hg=>h.kept hg⟩
def slU(yr:List Int):Pv:=⟨fun v W=>Sl ze TT W v yr,fun h hg=>h.kept hg⟩
theorem Ru{fn:Func}{W:World}{B8:Nat}{a b c:Value}(h:fn.results= #[.cell 8 107, .tmp 9])(tmps:Array Value)(h8:tmps.getD 8 undef= .pointer (some ⟨B8,0,none⟩))(h9:tmps.getD 9 undef= .int .i64 0)(hb:Bk W B8 107 #[a,b,c]):(results fn tmps).run Tryz.prog W= .ok (.tuple #[.agg #[a,b,c], .int .i64 0]) W:=by
 have r1:=run_loadVar_row (P:=Tryz.prog) W B8 107 107 #[a,b,c] (0,0) _ hb Tryz.underlying107 rfl (by kernel_rfl);have h8':tmps[8]?.getD undef= .pointer (some ⟨B8,0,none⟩):=by simpa using h8
 have h9':tmps[9]?.getD undef= .int .i64 0:=by simpa using h9
 simp [results,h,h8',h9',asAddr,r1]
end
section
open Go Go.RowKit
end
section
open Go Go.RowKit
def Sq(n:Nat)(F:List (List Int)):Prop:=F.length=n∧ ∀r∈F,r.length=n∧ ∀y∈r,0≤y
theorem Im(p:Par){F B:List (List Int)}{n:Nat}(hF:F.length=n)(hB:B.length=n):yv p F B=(List.range n).map fun i=>LQ p (F[i]?.getD [],B[i]?.getD []):=by
 simp [yv,Zc,hF,hB,Function.comp_def]
theorem Sq.row{n:Nat}{F:List (List Int)}(h:Sq n F){i:Nat}(hi:i< n): ∃r,F[i]? =some r∧r.length=n∧ ∀y∈r,0≤y:=by
 have hl:i< F.length:=by rw [h.1];exact hi
 exact ⟨F[i],List.getElem?_eq_getElem hl,h.2 _ (List.getElem_mem hl)⟩
theorem LO{p:Par}{F B:List (List Int)}{n:Nat}(hF:Sq n F)(hB:Sq n B):(yv p F B).length=n∧ ∀r∈yv p F B,r.length=n:=by
 rw [Im p hF.1 hB.1];refine ⟨by simp,fun r hr=> ?_⟩;obtain ⟨i,hi,rfl⟩:=List.mem_map.1 hr;obtain ⟨a,ha,hal,_⟩:=hF.row (List.mem_range.1 hi);obtain ⟨b,hb,hbl,_⟩:=hB.row (List.mem_range.1 hi);rw [ha,hb];simp [LQ,Ul,hal,hbl]
end
section
open Go Go.RowKit
structure XK (q:Int) (t S:Nat) (F B:List (List (List Int))):Prop where
 f:F.length=S∧ ∀M∈F,Sq t M
 b:B.length=S∧ ∀M∈B,Sq t M
section
variable {q:Int} {t S:Nat} {F B:List (List (List Int))}
theorem XK.atF(h:XK q t S F B){s:Nat}(hs:s< S): ∃M,F[s]? =some M∧Sq t M:=by
 have hl:s< F.length:=by rw [h.f.1];exact hs
 exact ⟨F[s],List.getElem?_eq_getElem hl,h.f.2 _ (List.getElem_mem hl)⟩
theorem XK.atB(h:XK q t S F B){s:Nat}(hs:s< S): ∃M,B[s]? =some M∧Sq t M:=by
 have hl:s< B.length:=by rw [h.b.1];exact hs
 exact ⟨B[s],List.getElem?_eq_getElem hl,h.b.2 _ (List.getElem_mem hl)⟩
end
section
variable {p:Par} {t S:Nat} {F B:List (List (List Int))}
theorem PG{x q:Int}{dr:Nat→Int}{t k:Nat}(ht:1≤t)(hq:0< q)(hd: ∀k,0≤dr k):Sq t (NV x q dr t k):=by
 obtain ⟨h1,h2⟩:=QP x q dr t k ht;refine ⟨h1,fun r hr=>⟨h2 r hr,fun y hy=> ?_⟩⟩;obtain ⟨i,_,rfl⟩:=List.mem_map.1 hr;have hy2:y∈Xp x q dr (t*t - 1) k:=List.mem_of_mem_drop (List.mem_of_mem_take hy);simp only [Xp,List.mem_cons,List.mem_map] at hy2;rcases hy2 with rfl|⟨j,_,rfl⟩
 ·exact Int.emod_nonneg _ (by omega)
 ·exact hd _
theorem RL{l:List (Int×Int)}{q:Int}{dr:Nat→Int}{t k n:Nat}(ht:1≤t)(hq:0< q)(hd: ∀k,0≤dr k):XK q t n (xl l q dr t k n) (xm l q dr t k n):=by
 refine ⟨⟨by simp [xl],fun M hM=> ?_⟩,⟨by simp [xm],fun M hM=> ?_⟩⟩
 ·obtain ⟨i,_,rfl⟩:=List.mem_map.1 hM;exact PG ht hq hd
 ·obtain ⟨i,_,rfl⟩:=List.mem_map.1 hM;exact PG ht hq hd
end
end
section
open Go Go.RowKit
end
section
open Go
section
variable {P:Program} {ops:Array Oper} {md:Region.Mode} {C:World→Prop} {n:Nat}
end
end
section
open Go Go.RowKit
end
section
open Go Go.RowKit
section
variable {p:Par} {t S:Nat} {F B:List (List (List Int))}
end
end
section
open Go Go.RowKit
def GO(l:List Int)(s:Nat):Int:=if 0< l.length then l[s%l.length]?.getD 0 else (s:Int)
def IY(l:List Int)(n:Nat):List Int:=(List.range n).map (GO l)
end
section
open Go Go.RowKit Go.Shelf
def EL(l:List Int)(q:Int)(dr:Nat→Int)(T k s:Nat):List Int:=Xp (l[s]?.getD 0) q dr T (k+s*(2*T+1))
def EK(q:Int)(dr:Nat→Int)(T k s:Nat):List Int:=Xp (dr (k+s*(2*T+1)+T)) q dr T (k+s*(2*T+1)+T+1)
def Zk(l:List Int)(q:Int)(dr:Nat→Int)(T k n:Nat):List (List Int):=(List.range n).map (EL l q dr T k)
def Zy(q:Int)(dr:Nat→Int)(T k n:Nat):List (List Int):=(List.range n).map (EK q dr T k)
theorem Ge{α:Type}(f:Nat→α)(n:Nat):(List.range (n+1)).map f=(List.range n).map f++ [f n]:=by simp [List.range_succ]
def Dz(n:Nat)(a b:Int)(v:Value)(w:World):Prop:= ∃g,v= .slice (some ⟨g,0,none⟩) 1 1∧n≤g∧Bk w g 153 #[.int .u64 a, .int .u64 b]
theorem Bk.two{w:World}{b:Nat}{t:TypeId}{u v:Value}(h:Bk w b t #[u,v]): ∀j x, [u,v][j]? =some x→w.cell? ⟨b,j,none⟩=some x:=fun j x hv=>by rw [h.cell j];simpa using hv
def JY(wi:World)(base N:Nat)(v:Value)(xs:List (Int×Int))(y:Int×Int):Lt where
 C vs W:=wi.grownBy W v.ownBlock∧N≤W.heap.size∧match vs with
  | []=>Acc zo base 153 (fun g=>base≤g) W v xs
  | [u]=>Acc zo base 153 (fun g=>base≤g) W u (xs++ [y])
  |_=>False
 R _ _ _:=True
 g:=fun {vs X Y} ⟨h1,h2,h3⟩ hg=>⟨h1.trans (hg.but _),Nat.le_trans h2 hg.size,by
  match vs,h3 with
  | [],h3=>exact h3.kept hg
  | [_],h3=>exact h3.kept hg⟩
def evP{wi:World}{base N0:Nat}{v0:Value}{xs:List (Int×Int)}{y:Int×Int}(N:Nat)(a b:Int):Qv (JY wi base N0 v0 xs y) where
 p vs v W:=vs= []→Dz N a b v W
 fr:=0
 st:=fun h hg e=>by
  obtain ⟨g,e1,hb,hk⟩:=h e;exact ⟨g,e1,hb,hk.grown hg (by simp)⟩
 sr:=fun _ _ _ _ e=>absurd e (by simp)
def TX(p:Par)(F R:List (List Int))(i s:Nat):List (Int×Int):=(List.range s).map fun k=>(zR p.Q (F[k]?.getD []) ((i:Int)+1),zR p.Q (R[k]?.getD []) ((i:Int)+1))
theorem Lv(p:Par)(F R:List (List Int))(i s:Nat):TX p F R i (s+1)=TX p F R i s++ [(zR p.Q (F[s]?.getD []) ((i:Int)+1),zR p.Q (R[s]?.getD []) ((i:Int)+1))]:=Ge _ _
theorem JX(p:Par)(F R:List (List Int))(i:Nat):TX p F R i F.length=Zx p F R ((i:Int)+1):=rfl
theorem Ny(p:Par)(vl:Value)(l:List Int)(X:Nat→Prop)(w:World){g:Nat}{dr:Nat→Int}{TI:Nat→World→Prop}{bl:Nat→Prop}{most:Nat}(hT:Tp g p.Q dr TI bl most)(hp:p.ok)(hm:Va p=true)(hTab:zK w)(h:Sl ze X w vl l)(hX: ∀b,X b→b≠g)(hl:(l.length:Int)=zX p)(k0 T:Nat)(hTT:(T:Int)=p.T)(hI:TI k0 w)(hmost:k0+l.length*(2*T+1)≤most):
  Calls Tryz.prog 45 #[p.v,vl, .pointer (some ⟨g,0,none⟩)] w fun e w'=> ∃vs vc,e= .returned (.tuple #[vs,vc, .int .i64 0])∧Sl (zh zo) (fun b=>w.heap.size≤b) w' vs ((List.range p.N.toNat).map fun i:Nat=>Zx p (Zk l p.Q dr T k0 l.length) (Zy p.Q dr T k0 l.length) ((i:Int)+1))∧Sl (zh ze) (fun b=>w.heap.size≤b) w' vc (yv p (Zk l p.Q dr T k0 l.length) (Zy p.Q dr T k0 l.length))∧TI (k0+l.length*(2*T+1)) w'∧w.grownBy w' (some g):=by
 have HT:=za hT;have HP:=za hp;have HX:=za hX;obtain ⟨hq,_,_,n1,n2,n3,t1,t2,t3,hs,kk1,dd1⟩:=zD hm;have hsec:=Yt hs;have HQ:Hid (U64 p.Q∧0< p.Q):=za ⟨hp.Q,Tu hq⟩;have hL10:l.length≤10:=by omega
 have hT2:T≤2:=by omega
 obtain ⟨N,hN⟩: ∃k:Nat,(k:Int)=p.N:=⟨p.N.toNat,by omega⟩;have hNt:p.N.toNat=N:=by omega
 have hN7:N≤7:=by omega
 have HN:=za hN;obtain ⟨A,c,rfl,hl1,hl2⟩:=h.form;have hGW:g< w.heap.size:=hT.old hI hT.own;have HGW:=za hGW;have HOB:Hid (∀b,bl b→b< w.heap.size):=za (fun b hb=>hT.old hI hb);obtain ⟨w0,hw0⟩: ∃y,y=w.alloc (Obj.cells p.cells 39):=⟨_,rfl⟩;have HG0:Hid (w.grownBy w0 none):=za (by rw [hw0];exact gAl w _ none);have HB0:Hid (Bk w0 w.heap.size 39 p.cells):=za (by rw [hw0];exact Bk.new w _ _);have HI0:Hid (TI k0 w0):=za (hT.keep hI HG0.out (by simp));have HMY:=za (fun (w':World) (hg:w0.grownBy w' none)=>Pi p w' hp (hTab.kept (HG0.out.trans hg)));rw [hm] at HMY;have HMAY:=za hm;have HSEC:=za (XU p);rw [←hl] at HSEC;have HL:=za (h.kept HG0.out);have HTP:=za hTT;have HMO:=za hmost;have HLS:=za hl;rw [hNt];clear hT hp hX hq n1 n2 n3 t1 t2 t3 hs kk1 dd1 hsec hm hTab h hI hTT hmost hl hGW hN hNt;go_enter Tryz.func45,Tryz.ntmps45;go_wp2_with fail;rw [←hw0];have hp0:=HB0.out.prule;clear hw0;go_wp2_with fail;refine (HMY.out _ gRf).mono ?_;rintro e w1 ⟨rfl,hg⟩;have HG1:Hid (w0.grownBy w1 none):=za hg;have hp1:=(HB0.out.grown hg (by simp)).prule;clear hg hp0 HMY;go_wp2_with fail;refine (HSEC.out _).mono ?_;rintro e w2 ⟨rfl,hg⟩;have HG2:Hid (w0.grownBy w2 none):=za (HG1.out.trans hg);clear hg hp1 HSEC;go_upto_region 6 with (fail)
 have HB2:Hid (Bk w2 w.heap.size 39 p.cells):=za (HB0.out.grown HG2.out (by simp));have HI2:Hid (TI k0 w2):=za (HT.out.keep HI0.out HG2.out (by simp));have HW2:Hid (w.heap.size< w2.heap.size∧g< w.heap.size):=za ⟨HB2.out.lt,HGW.out⟩;have HPX:Hid (∀wx,w2.grownBy wx (some g)→Bk wx w.heap.size 39 p.cells):=za (fun wx hg=>HB2.out.grown hg (fun e=>by injection e with e;have:=HW2.out.2;omega));have HLX:Hid (∀wx,w2.grownBy wx (some g)→Sl ze X wx (.slice A l.length c) l):=za (fun wx hg=>(HL.out.kept HG2.out).keep hg (fun b hb e=>HX.out b hb (by injection e with e)));have HBH:Hid (∀(x:Int) (k:Nat) (wx:World),U64 x→k+T≤most→TI k wx→Calls Tryz.prog 99 #[.int .u64 x, .int .i64 p.T, .int .u64 p.Q, .func (.func 98) #[.pointer (some ⟨g,0,none⟩)] #[]] wx fun e w'=> ∃v,e= .returned v∧Sl ze (fun b=>wx.heap.size≤b) w' v (Xp x p.Q dr T k)∧TI (k+T) w'∧wx.grownBy w' (some g)):=za (fun x k wx hx hk hi=>by
  rw [←HTP.out];exact XH HT.out x T k wx hx HQ.out.1 HQ.out.2 (by omega) hk hi)
 have HNX:Hid (∀(k:Nat) (wx:World),k< most→TI k wx→Calls Tryz.prog 98 #[.pointer (some ⟨g,0,none⟩), .int .u64 p.Q] wx fun e w'=>e= .returned (.int .u64 (dr k))∧TI (k+1) w'∧wx.grownBy w' (some g)):=za (fun k wx hk hi=>HT.out.next hk hi);obtain ⟨L,hLL⟩: ∃y,y=l.length:=⟨_,rfl⟩;have HLN:=za hLL;rw [←hLL] at hL10 hl1 HMO HLX ⊢;clear hLL;go_loopg [10,11,31] L (fun gk s10 s11 s31 wx=> ∃s:Nat,s+gk=L∧s31= .int .i64 s∧Hid (xU (zh ze) (zh ze) w2.heap.size 31 31 (fun b=>w2.heap.size≤b) wx s10 s11 (Zk l p.Q dr T k0 s) (Zy p.Q dr T k0 s)∧TI (k0+s*(2*T+1)) wx∧w2.grownBy wx (some g)))
 case atStart=>exact ⟨0,by omega,rfl,za ⟨⟨Acc.nil _ _ _ _ _,Acc.nil _ _ _ _ _⟩,by simpa using HI2.out,World.grownBy.refl _ _⟩⟩
 case round=>
  obtain ⟨s,hsL,rfl,HXX⟩:=hrel;have HS0:=za HXX.out.1;have HI3:=za HXX.out.2.1;have HG3:=za HXX.out.2.2;clear HXX;have hp3:=(HPX.out _ HG3.out).prule;cases gk with
  |zero=>
   have eL:L=s:=by omega
   subst eL;have hno: ¬((L:Int)< (L:Int)):=by omega
   obtain ⟨F,hF⟩: ∃y,y=Zk l p.Q dr T k0 L:=⟨_,rfl⟩;obtain ⟨R,hR⟩: ∃y,y=Zy p.Q dr T k0 L:=⟨_,rfl⟩;rw [←hF, ←hR] at HS0;have HFL:Hid (F.length=L∧R.length=L):=za (by rw [hF,hR];simp [Zk,Zy]);have HFT:Hid ((∀c∈F,c.length=T+1)∧(∀c∈R,c.length=T+1)):=za (by
    rw [hF,hR];refine ⟨fun c hc=> ?_,fun c hc=> ?_⟩
    ·obtain ⟨i,_,rfl⟩:=List.mem_map.1 hc;exact xz _ _ _ _ _
    ·obtain ⟨i,_,rfl⟩:=List.mem_map.1 hc;exact xz _ _ _ _ _)
   have HFE:=za hF;have HRE:=za hR;obtain ⟨AF,cF,eF,_,_⟩:=HS0.out.fst.sl.form;obtain ⟨AR,cR,eR,_,_⟩:=HS0.out.snd.sl.form;rw [HFL.out.1] at eF;rw [HFL.out.2] at eR;subst eF eR;have hmk:=run_make_row' (P:=Tryz.prog) 103 72 (.slice none 0 0) 24 Tryz.underlying103 Yl rfl .i64 .i64 N (by omega) (by omega);rw [HN.out] at hmk;obtain ⟨D0,hD0⟩: ∃y,y=wr.alloc (.cells (madeCells #[.slice none 0 0] N) 72):=⟨_,rfl⟩;obtain ⟨Bs,hBs⟩: ∃y,y=wr.heap.size:=⟨_,rfl⟩;have HGA:Hid (wr.grownBy D0 none):=za (by rw [hD0];exact gAl _ _ none);have HBO:Hid (Bk D0 Bs 72 (List.replicate N (.slice none 0 0)).toArray):=za (by
    rw [hD0,hBs];exact (Bk.new wr 72 (madeCells #[.slice none 0 0] N)).of_eq (Array.toList_inj.1 (by rw [toList_madeCells_one])))
   have HBB:Hid (w2.heap.size≤Bs∧w.heap.size< Bs∧g< w.heap.size):=za (by rw [hBs];have:=HG3.out.size;have:=HW2.out;omega);have HBD:Hid (Bk D0 w.heap.size 39 p.cells):=za ((HPX.out _ HG3.out).grown HGA.out (by simp));have HFD:Hid (Sl (zh ze) (fun b=>b< Bs) D0 (.slice AF L cF) F):=za ((HS0.out.fst.sl.bounded.kept HGA.out).more fun b _ hb=>by rw [hBs];exact hb.2);have HRD:Hid (Sl (zh ze) (fun b=>b< Bs) D0 (.slice AR L cR) R):=za ((HS0.out.snd.sl.bounded.kept HGA.out).more fun b _ hb=>by rw [hBs];exact hb.2);have HID:Hid (TI (k0+L*(2*T+1)) D0):=za (HT.out.keep HI3.out HGA.out (by simp));have HGD:Hid (w.grownBy D0 (some g)):=za (((HG0.out.trans HG2.out).but _).trans (HG3.out.trans (HGA.out.but _)));have HLL:Hid ((List.replicate N (Value.slice none 0 0)).length=N):=za (by simp);have HST:Hid (Bk D0 Bs 72 (List.replicate N (Value.slice none 0 0)).toArray∧(∀i (hi:i< (List.replicate N (Value.slice none 0 0)).length),i< 0→Sl zo (fun b=>Bs< b) D0 (List.replicate N (Value.slice none 0 0))[i] (Zx p F R ((i:Int)+1)))∧(∀i (hi:i< (List.replicate N (Value.slice none 0 0)).length),0≤i→(List.replicate N (Value.slice none 0 0))[i]= .slice none 0 0)∧D0.grownBy D0 (some Bs)):=za ⟨HBO.out,fun i hi h=>absurd h (Nat.not_lt_zero _),fun i hi _=>by simp,World.grownBy.refl _ _⟩;have HPD:Hid (∀wx,D0.grownBy wx (some Bs)→Bk wx w.heap.size 39 p.cells):=za (fun wx hg=>HBD.out.grown hg (fun e=>by injection e with e;have:=HBB.out;omega));have HFX:Hid (∀wx,D0.grownBy wx (some Bs)→Sl (zh ze) (fun b=>b< Bs) wx (.slice AF L cF) F):=za (fun wx hg=>HFD.out.keep hg (fun b hb e=>by injection e with e;omega))
   have HRX:Hid (∀wx,D0.grownBy wx (some Bs)→Sl (zh ze) (fun b=>b< Bs) wx (.slice AR L cR) R):=za (fun wx hg=>HRD.out.keep hg (fun b hb e=>by injection e with e;omega));clear hF hR HS0 HI3 HBH HNX HB0 HB2 HBO HBD HFD HRD HPX HLX HG3 HGA;go_upto_region 13 with (fail)
   rw [←hD0, ←hBs];clear hD0 hBs hmk hp3;go_loopg [64] N (fun gk s64 wx=> ∃(j:Nat) (hs:List Value),j+gk=N∧s64= .int .i64 j∧Hid (hs.length=N)∧Hid (Bk wx Bs 72 hs.toArray∧(∀i (hi:i< hs.length),i< j→Sl zo (fun b=>Bs< b) wx hs[i] (Zx p F R ((i:Int)+1)))∧(∀i (hi:i< hs.length),j≤i→hs[i]= .slice none 0 0)∧D0.grownBy wx (some Bs)))
   case atStart=>exact ⟨0,_,by omega,rfl,HLL,HST⟩
   case round=>
    rename World=>wj
    obtain ⟨i,hs,hiN,rfl,HLH,HX2⟩:=hrel;cases gk with
    |zero=>
     obtain rfl:i=N:=by omega
     have hno2: ¬((i:Int)< (i:Int)):=by omega
     have HRV:Hid (Sl (zh zo) (fun b=>Bs≤b) wj (.slice (some ⟨Bs,0,none⟩) i i) ((List.range i).map fun k:Nat=>Zx p F R ((k:Int)+1))):=za (by
      obtain ⟨h1,h2,_,_⟩:=HX2.out;have hTL:((List.range i).map fun k:Nat=>Zx p F R ((k:Int)+1)).length=i:=by simp
      have:=Sl.block (E:=zh zo) (X:=fun b=>Bs≤b) (xs:=(List.range i).map fun k:Nat=>Zx p F R ((k:Int)+1)) (c:=i) h1 (Nat.le_refl _) (hs.map fun v=> [v]) (by rw [List.length_map,HLH.out,hTL]) (fun k hk hk'=>⟨hs[k]'(by rw [HLH.out];omega),by simp,by
       have hc:=(h2 k (by rw [HLH.out];omega) (by omega)).more (Y:=fun b=>Bs≤b) (fun b _ hb=>by omega);have he:((List.range i).map fun k:Nat=>Zx p F R ((k:Int)+1))[k]=Zx p F R ((k:Int)+1):=by simp
       rw [he];exact hc⟩) (by rw [zV]) (by rw [hTL];exact Nat.le_refl _) (by omega)
      rw [hTL] at this;exact this)
     have HGJ:=za HX2.out.2.2.2;have hpj:=(HPD.out _ HGJ.out).prule;have HCM:=za (callsIn_wide.1 (LP 6 (Nat.le_refl _) p (.slice AF L cF) (.slice AR L cR) F R TT wj HP.out ((HFX.out _ HGJ.out).more fun _ _ _=>trivial) ((HRX.out _ HGJ.out).more fun _ _ _=>trivial) (by rw [HFL.out.1];omega) (by rw [HFL.out.2];omega) (fun c hc=>by
      show c.length≤100000;rw [HFT.out.1 c hc];omega) (fun c hc=>by
      show c.length≤100000;rw [HFT.out.2 c hc];omega)))
     clear HX2 HST HLH;go_wp2_with fail;refine HCM.out.mono ?_;rintro e w9 ⟨vc,rfl,hsc,hgc⟩;have HFIN:Hid (Sl (zh zo) (fun b=>w.heap.size≤b) w9 (.slice (some ⟨Bs,0,none⟩) i i) ((List.range i).map fun k:Nat=>Zx p (Zk l p.Q dr T k0 L) (Zy p.Q dr T k0 L) ((k:Int)+1))∧Sl (zh ze) (fun b=>w.heap.size≤b) w9 vc (yv p (Zk l p.Q dr T k0 L) (Zy p.Q dr T k0 L))∧TI (k0+L*(2*T+1)) w9∧w.grownBy w9 (some g)):=za ⟨by
      rw [←HFE.out, ←HRE.out];exact (HRV.out.kept hgc).more fun b _ hb=>by have:=HBB.out.2.1;omega,by
      rw [←HFE.out, ←HRE.out];exact hsc.more fun b _ hb=>Nat.le_trans (Nat.le_trans HGD.out.size HGJ.out.size) hb,HT.out.keep (HT.out.keep HID.out HGJ.out (fun b e hb=>by injection e with e;have:=HOB.out b hb;have:=HBB.out;omega)) hgc (by simp),HGD.out.andThen (HGJ.out.trans (hgc.but _)) (fun b e=> .inl (by injection e with e;have:=HBB.out;omega))⟩
     clear hsc hgc hpj;go_wp2;go_ret3;refine ⟨_,_,rfl, ?_⟩;rw [←HLN.out];exact HFIN.out
    |succ m=>
     have hiI:(i:Int)< (N:Int):=by omega
     have hih:i< hs.length:=by rw [HLH.out];omega
     have HIH:=za hih;have hjB:Bs< wj.heap.size:=HX2.out.1.lt;have HJB:=za hjB;have HIN:Hid (Acc zo wj.heap.size 153 (fun b=>wj.heap.size≤b) wj (.slice none 0 0) (TX p F R i 0)∧Bk wj Bs 72 (hs.set i (.slice none 0 0)).toArray∧wj.grownBy wj (some Bs)):=za ⟨Acc.nil _ _ _ _ _,by
      have:=HX2.out.2.2.1 i hih (Nat.le_refl _)
      rw [←this,List.set_getElem_self];exact HX2.out.1,World.grownBy.refl _ _⟩
     have HGJ:=za HX2.out.2.2.2;clear hjB hih;go_wp2_with fail;go_loopg [69] L (fun gk s69 wx=> ∃(s:Nat) (v:Value),s+gk=L∧s69= .int .i64 s∧Hid (Acc zo wj.heap.size 153 (fun b=>wj.heap.size≤b) wx v (TX p F R i s)∧Bk wx Bs 72 (hs.set i v).toArray∧wj.grownBy wx (some Bs)))
     case atStart=>exact ⟨0,_,by omega,rfl,HIN⟩
     case round=>
      rename World=>wi
      obtain ⟨s,v,hsL2,rfl,HY⟩:=hrel;cases gk with
      |zero=>
       obtain rfl:s=L:=by omega
       have HFIN:Hid (Bk wi Bs 72 (hs.set i v).toArray∧(∀k (hk:k< (hs.set i v).length),k< i+1→Sl zo (fun b=>Bs< b) wi (hs.set i v)[k] (Zx p F R ((k:Int)+1)))∧(∀k (hk:k< (hs.set i v).length),i+1≤k→(hs.set i v)[k]= .slice none 0 0)∧D0.grownBy wi (some Bs)):=za (by
        obtain ⟨h1,h2,h3⟩:=HY.out;obtain ⟨_,k2,k3,k4⟩:=HX2.out;refine ⟨h2,fun k hk hij=> ?_,fun k hk hij=> ?_,HGJ.out.trans h3⟩
        ·rcases Nat.lt_or_ge k i with hlt|hge
         ·rw [List.getElem_set_ne (by omega)];exact (k2 k (by simpa using hk) hlt).keep h3 (fun b hb e=>by injection e with e;omega)
         ·obtain rfl:k=i:=by omega
          rw [List.getElem_set_self, ←JX p F R k,HFL.out.1];exact h1.sl.more (fun b _ hb=>Nat.lt_of_lt_of_le HJB.out hb)
        ·rw [List.getElem_set_ne (by omega)];exact k3 k (by simpa using hk) (by omega))
       have HLH2:Hid ((hs.set i v).length=N):=za (by rw [List.length_set];exact HLH.out);clear HX2 HY HST HIN;go_wp2_with fail;go_roundg m
       case measure=>omega
       case rel=>exact ⟨i+1,_,by omega,by go_num,HLH2,HFIN⟩
      |succ q=>
       have hsI:(s:Int)< (L:Int):=by omega
       have hsF:s< F.length:=by rw [HFL.out.1];omega
       have hsR:s< R.length:=by rw [HFL.out.2];omega
       obtain ⟨hacc,hbo,hgj⟩:=HY.out;have hgd:D0.grownBy wi (some Bs):=HGJ.out.trans hgj;obtain ⟨gF,oF,cF',uF,eF,_,hgFl,hcF,hslF⟩:=(HFX.out _ hgd).atS hsF;injection eF with eF1 eF2 eF3
       subst eF1 eF3;obtain ⟨gR,oR,cR',uR,eR,_,hgRl,hcR,hslR⟩:=(HRX.out _ hgd).atS hsR;injection eR with eR1 eR2 eR3
       subst eR1 eR3;obtain ⟨Af,nf,cf,ef⟩:=hslF.shape;subst ef;obtain ⟨Ar,nr,cr,er⟩:=hslR.shape;subst er;obtain ⟨Av,nv,cv,ev⟩:=hacc.sl.shape;subst ev;have HSN:=za (Lv p F R i s);rw [List.getElem?_eq_getElem hsF,List.getElem?_eq_getElem hsR] at HSN;have hui:U64 ((i:Int)+1):=⟨by omega,by omega⟩;obtain ⟨ea,hea⟩: ∃y,y=zR p.Q F[s] ((i:Int)+1):=⟨_,rfl⟩;obtain ⟨eb,heb⟩: ∃y,y=zR p.Q R[s] ((i:Int)+1):=⟨_,rfl⟩;simp only [Option.getD_some] at HSN;rw [←hea, ←heb] at HSN;have HUA:Hid (U64 ea):=za (by rw [hea];exact xG _ _ _);have HUB:Hid (U64 eb):=za (by rw [heb];exact xG _ _ _);obtain ⟨NN,hNN⟩: ∃y,y=wi.heap.size:=⟨_,rfl⟩;have HNB:Hid (wj.heap.size≤NN):=za (by rw [hNN];exact hgj.size);have hown: ∀b,(Value.slice Av nv cv).ownBlock=some b→wj.heap.size≤b:=fun b e=>(hacc.lt b e).1
       have hcv0:wi.cell? ⟨Bs,i,none⟩=some (.slice Av nv cv):=by rw [hbo.cell i];simp [HIH.out]
       have hbp:=HPD.out _ hgd;have HNE:Hid (∀b,b≤Bs→some b≠(Value.slice Av nv cv).ownBlock):=za (fun b hb e=>by have:=hown b e.symm;have:=HJB.out;omega);have HC0:Hid ((JY wi wj.heap.size NN (.slice Av nv cv) (TX p F R i s) (ea,eb)).C [] wi.drew):=za ⟨(zb _ 1).but _,by rw [hNN];exact Nat.le_refl _,hacc.kept (zb _ 1)⟩;have HLD:Hid (∀vs W,(JY wi wj.heap.size NN (.slice Av nv cv) (TX p F R i s) (ea,eb)).C vs W→W.cell? ⟨w.heap.size,1,none⟩=some (.int .u64 p.Q)∧W.cell? ⟨gF,oF+s,none⟩=some (.slice Af nf cf)∧W.cell? ⟨gR,oR+s,none⟩=some (.slice Ar nr cr)∧W.cell? ⟨Bs,i,none⟩=some (.slice Av nv cv)):=za (fun vs W hC=>⟨(hbp.grown hC.1 (HNE.out _ (by have:=HBB.out;omega))).cell 1,Xj hcF hC.1 (HNE.out _ (by omega)),Xj hcR hC.1 (HNE.out _ (by omega)),Xj hcv0 hC.1 (HNE.out _ (Nat.le_refl _))⟩);have HE1:Hid (∀vs W,(JY wi wj.heap.size NN (.slice Av nv cv) (TX p F R i s) (ea,eb)).C vs W→Calls Tryz.prog 88 #[.slice Af nf cf, .int .u64 ((i:Int)+1), .int .u64 p.Q] W fun e w'=>e= .returned (.int .u64 ea)∧W.grownBy w' none):=za (fun vs W hC=>by
        rw [hea];exact Ym _ F[s] _ p.Q _ W (hslF.keep hC.1 (fun b hb=>HNE.out b (by omega))) hui)
       have HE2:Hid (∀vs W,(JY wi wj.heap.size NN (.slice Av nv cv) (TX p F R i s) (ea,eb)).C vs W→Calls Tryz.prog 88 #[.slice Ar nr cr, .int .u64 ((i:Int)+1), .int .u64 p.Q] W fun e w'=>e= .returned (.int .u64 eb)∧W.grownBy w' none):=za (fun vs W hC=>by
        rw [heb];exact Ym _ R[s] _ p.Q _ W (hslR.keep hC.1 (fun b hb=>HNE.out b (by omega))) hui)
       have HSZ:Hid (∀vs W,(JY wi wj.heap.size NN (.slice Av nv cv) (TX p F R i s) (ea,eb)).C vs W→NN≤W.heap.size):=za (fun vs W hC=>hC.2.1);have HLB:Hid (((TX p F R i s).length+1)*16≤140737488355328):=za (by simp [TX];omega);have HFR:Hid (∀(W:World) (u0:Value),(JY wi wj.heap.size NN (.slice Av nv cv) (TX p F R i s) (ea,eb)).C [u0] W→Acc zo wj.heap.size 153 (fun b=>wj.heap.size≤b) (W.setCell ⟨Bs,i,none⟩ u0) u0 (TX p F R i (s+1))∧Bk (W.setCell ⟨Bs,i,none⟩ u0) Bs 72 (hs.set i u0).toArray∧wj.grownBy (W.setCell ⟨Bs,i,none⟩ u0) (some Bs)):=za (fun W u0 hC=>by
        obtain ⟨g1,_,g3⟩:=hC;have h3:Acc zo wj.heap.size 153 (fun b=>wj.heap.size≤b) W u0 (TX p F R i (s+1)):=by rw [HSN.out];exact g3
        exact ⟨h3.keep (zi W Bs i u0) (fun b hb e=>by injection e with e;have:=HJB.out;omega),((hbo.grown g1 (HNE.out _ (Nat.le_refl _))).set i u0).of_eq (by simp),((hgj.andThen g1 (fun b e=> .inl (hown b e))).andThen (zi W Bs i u0) (fun b e=> .inr e))⟩)
       have HFRZ:Hid (∀(W:World) (vs:List Value),(JY wi wj.heap.size NN (.slice Av nv cv) (TX p F R i s) (ea,eb)).C vs W→Bk W Bs 72 (hs.set i (.slice Av nv cv)).toArray):=za (fun W vs hC=>hbo.grown hC.1 (HNE.out _ (Nat.le_refl _)));have hcw:IntKind.u64.wrap ((i:Int)+1)=(i:Int)+1:=IntWalk.u64_in _ (by omega);have hci:IntKind.i64.wrap ((i:Int)+1)=(i:Int)+1:=IntWalk.i64_in _ (by omega);have hs0:(0:Int)≤(s:Int):=Int.natCast_nonneg s;have hi0:(0:Int)≤(i:Int):=Int.natCast_nonneg i;clear hacc hbo hgj hgd hslF hslR hcF hcR hea heb hNN hown hcv0 hbp hgFl hgRl eF2 eR2 HY HIN HST hui hsF hsR;go_upto_region 18 with (fail)
       refine wp_region_late (JY wi wj.heap.size NN (.slice Av nv cv) (TX p F R i s) (ea,eb)) [28] 30 (by kernel_rfl) (by kernel_rfl) (by kernel_rfl) HC0.out ?_;refine lS (.slice (some ⟨Bs,0,none⟩) N N) [] (fun vs w' hC=>lQ fun K hK=> ?_) ?_
       ·go_simp;exact hK _ rfl rfl
       refine lS (.int .i64 (i:Int)) [] (fun vs w' hC=>lQ fun K hK=> ?_) ?_
       ·go_simp;exact hK _ rfl rfl
       refine lS (.slice (some ⟨Bs,0,none⟩) N N) [] (fun vs w' hC=>lQ fun K hK=> ?_) ?_
       ·go_simp;exact hK _ rfl rfl
       refine lS (.int .i64 (i:Int)) [] (fun vs w' hC=>lQ fun K hK=> ?_) ?_
       ·go_simp;exact hK _ rfl rfl
       refine LateR.mono (Qv.eq (.pointer (some ⟨Bs,i,none⟩))) [(2,74),(3,75)] (by kernel_rfl) (by rfl) rfl (fun vs w' hC=> ?_) ?_
       ·rintro _ rfl;rintro _ rfl;refine askl_do rfl fun K hK=> ?_
        go_simp;exact hK _ _ rfl ⟨rfl,gRf⟩
       refine LateR.mono (Qv.eq (.slice Av nv cv)) [(4,76)] (by kernel_rfl) (by rfl) rfl (fun vs w' hC=> ?_) ?_
       ·rintro _ rfl;refine askl_do rfl fun K hK=> ?_
        obtain ⟨q0,q1,q2,q3⟩:=HLD.out vs w' hC;go_simp;exact hK _ _ rfl ⟨rfl,gRf⟩
       refine lS (.slice (some ⟨gF,oF,none⟩) L cF) [] (fun vs w' hC=>lQ fun K hK=> ?_) ?_
       ·go_simp;exact hK _ rfl rfl
       refine lS (.int .i64 (s:Int)) [] (fun vs w' hC=>lQ fun K hK=> ?_) ?_
       ·go_simp;exact hK _ rfl rfl
       refine LateR.mono (Qv.eq (.pointer (some ⟨gF,oF+s,none⟩))) [(6,78),(7,79)] (by kernel_rfl) (by rfl) rfl (fun vs w' hC=> ?_) ?_
       ·rintro _ rfl;rintro _ rfl;refine askl_do rfl fun K hK=> ?_
        go_simp;exact hK _ _ rfl ⟨rfl,gRf⟩
       refine LateR.mono (Qv.eq (.slice Af nf cf)) [(8,80)] (by kernel_rfl) (by rfl) rfl (fun vs w' hC=> ?_) ?_
       ·rintro _ rfl;refine askl_do rfl fun K hK=> ?_
        obtain ⟨q0,q1,q2,q3⟩:=HLD.out vs w' hC;go_simp;exact hK _ _ rfl ⟨rfl,gRf⟩
       refine lS (.int .i64 (i:Int)) [] (fun vs w' hC=>lQ fun K hK=> ?_) ?_
       ·go_simp;exact hK _ rfl rfl
       refine LateR.mono (Qv.eq (.int .i64 ((i:Int)+1))) [(10,82)] (by kernel_rfl) (by rfl) rfl (fun vs w' hC=> ?_) ?_
       ·rintro _ rfl;refine askl_do rfl fun K hK=> ?_
        go_simp;exact hK _ _ rfl ⟨rfl,gRf⟩
       refine LateR.mono (Qv.eq (.int .u64 ((i:Int)+1))) [(11,83)] (by kernel_rfl) (by rfl) rfl (fun vs w' hC=> ?_) ?_
       ·rintro _ rfl;refine askl_do rfl fun K hK=> ?_
        go_simp;exact hK _ _ rfl ⟨rfl,gRf⟩
       refine lS (.pointer (some ⟨w.heap.size,1,none⟩)) [] (fun vs w' hC=>lQ fun K hK=> ?_) ?_
       ·go_simp;exact hK _ rfl rfl
       refine LateR.mono (Qv.eq (.int .u64 p.Q)) [(13,85)] (by kernel_rfl) (by rfl) rfl (fun vs w' hC=> ?_) ?_
       ·rintro _ rfl;refine askl_do rfl fun K hK=> ?_
        obtain ⟨q0,q1,q2,q3⟩:=HLD.out vs w' hC;go_simp;exact hK _ _ rfl ⟨rfl,gRf⟩
       refine LateR.mono (Qv.eq (.int .u64 ea)) [(9,81),(12,84),(14,86)] (by kernel_rfl) (by rfl) rfl (fun vs w' hC=> ?_) ?_
       ·rintro _ rfl;rintro _ rfl;rintro _ rfl;refine askl_do rfl fun K hK=> ?_
        go_simp;refine (HE1.out vs w' hC).mono ?_;rintro e w3 ⟨rfl,hg3⟩;exact hK _ _ rfl ⟨rfl,hg3⟩
       refine lS (.slice (some ⟨gR,oR,none⟩) L cR) [] (fun vs w' hC=>lQ fun K hK=> ?_) ?_
       ·go_simp;exact hK _ rfl rfl
       refine lS (.int .i64 (s:Int)) [] (fun vs w' hC=>lQ fun K hK=> ?_) ?_
       ·go_simp;exact hK _ rfl rfl
       refine LateR.mono (Qv.eq (.pointer (some ⟨gR,oR+s,none⟩))) [(16,88),(17,89)] (by kernel_rfl) (by rfl) rfl (fun vs w' hC=> ?_) ?_
       ·rintro _ rfl;rintro _ rfl;refine askl_do rfl fun K hK=> ?_
        go_simp;exact hK _ _ rfl ⟨rfl,gRf⟩
       refine LateR.mono (Qv.eq (.slice Ar nr cr)) [(18,90)] (by kernel_rfl) (by rfl) rfl (fun vs w' hC=> ?_) ?_
       ·rintro _ rfl;refine askl_do rfl fun K hK=> ?_
        obtain ⟨q0,q1,q2,q3⟩:=HLD.out vs w' hC;go_simp;exact hK _ _ rfl ⟨rfl,gRf⟩
       refine lS (.int .i64 (i:Int)) [] (fun vs w' hC=>lQ fun K hK=> ?_) ?_
       ·go_simp;exact hK _ rfl rfl
       refine LateR.mono (Qv.eq (.int .i64 ((i:Int)+1))) [(20,92)] (by kernel_rfl) (by rfl) rfl (fun vs w' hC=> ?_) ?_
       ·rintro _ rfl;refine askl_do rfl fun K hK=> ?_
        go_simp;exact hK _ _ rfl ⟨rfl,gRf⟩
       refine LateR.mono (Qv.eq (.int .u64 ((i:Int)+1))) [(21,93)] (by kernel_rfl) (by rfl) rfl (fun vs w' hC=> ?_) ?_
       ·rintro _ rfl;refine askl_do rfl fun K hK=> ?_
        go_simp;exact hK _ _ rfl ⟨rfl,gRf⟩
       refine lS (.pointer (some ⟨w.heap.size,1,none⟩)) [] (fun vs w' hC=>lQ fun K hK=> ?_) ?_
       ·go_simp;exact hK _ rfl rfl
       refine LateR.mono (Qv.eq (.int .u64 p.Q)) [(23,95)] (by kernel_rfl) (by rfl) rfl (fun vs w' hC=> ?_) ?_
       ·rintro _ rfl;refine askl_do rfl fun K hK=> ?_
        obtain ⟨q0,q1,q2,q3⟩:=HLD.out vs w' hC;go_simp;exact hK _ _ rfl ⟨rfl,gRf⟩
       refine LateR.mono (Qv.eq (.int .u64 eb)) [(19,91),(22,94),(24,96)] (by kernel_rfl) (by rfl) rfl (fun vs w' hC=> ?_) ?_
       ·rintro _ rfl;rintro _ rfl;rintro _ rfl;refine askl_do rfl fun K hK=> ?_
        go_simp;refine (HE2.out vs w' hC).mono ?_;rintro e w3 ⟨rfl,hg3⟩;exact hK _ _ rfl ⟨rfl,hg3⟩
       refine LateR.mono (Qv.eq (.agg #[.int .u64 ea, .int .u64 eb])) [(15,87),(25,97)] (by kernel_rfl) (by rfl) rfl (fun vs w' hC=> ?_) ?_
       ·rintro _ rfl;rintro _ rfl;refine askl_do rfl fun K hK=> ?_
        go_simp;exact hK _ _ rfl ⟨rfl,gRf⟩
       refine LateR.mono (evP NN ea eb) [(26,98)] (by kernel_rfl) (by rfl) rfl (fun vs w' hC=> ?_) ?_
       ·rintro _ rfl;refine askl_do rfl fun K hK=> ?_
        have hsz:=HSZ.out vs w' hC;go_simp;exact hK _ _ rfl ⟨fun _=>⟨_,rfl,hsz,Bk.new w' _ _⟩,gAl w' _ none⟩
       refine LateR.turn 0 [(5,77),(27,99)] (by kernel_rfl) rfl (fun vs w' hl hC=> ?_) ?_
       ·rintro _ rfl;intro x99 h99;have h99:vs= []→Dz NN ea eb x99 w':=h99;refine askl_do rfl fun K hK=> ?_
        obtain rfl:vs= []:=List.eq_nil_of_length_eq_zero hl;obtain ⟨g1,g2,g3⟩:=hC;obtain ⟨b99,e99,hb99,hk99⟩:=h99 rfl;subst e99;refine yj (E:=zo) (y:=(ea,eb)) YE g3 ⟨rfl,HUA.out,HUB.out⟩ (Bk.two hk99) HLB.out (Nat.le_trans HNB.out g2) (fun g hg=>Nat.le_trans (Nat.le_trans HNB.out g2) hg) (.tmp 77) (.tmp 99) rfl rfl rfl ?_;intro v3 w3 ha hgr hm;exact hK _ _ rfl ⟨trivial,g1.trans hgr,Nat.le_trans g2 hgr.size,ha⟩
       refine LateR.mono (Qv.eq (.pointer (some ⟨Bs,i,none⟩))) [(0,72),(1,73)] (by kernel_rfl) (by rfl) rfl (fun vs w' hC=> ?_) ?_
       ·rintro _ rfl;rintro _ rfl;refine askl_do rfl fun K hK=> ?_
        go_simp;exact hK _ _ rfl ⟨rfl,gRf⟩
       intro vs w5 hvl hC5;obtain ⟨u,rfl⟩: ∃u,vs= [u]:=List.length_eq_one_iff.1 hvl;intro y0 k0
       iterate 27 (refine pD ?_;intro _)
       intro y28 k28 y29 k29;show wpList Tryz.prog _ _ _ _ w5;simp only [Act.put,sAa,sAb,sAc];have e28:y28=u:=by have:some u=some y28:=k28;injection this with this;exact this.symm
       have e29:y29= .pointer (some ⟨Bs,i,none⟩):=k29;subst e28 e29;have HF5:=za (HFR.out w5 y28 hC5);have hz5:=HFRZ.out w5 _ hC5;have c5:w5.cell? ⟨Bs,i,none⟩=some (.slice Av nv cv):=by rw [hz5.cell i];simp [HIH.out]
       have f5:=hz5.free;have HA5:Hid (Acc zo wj.heap.size 153 (fun b=>wj.heap.size≤b) w5 y28 (TX p F R i s++ [(ea,eb)])):=za hC5.2.2;obtain ⟨Au,nu,cu,eu⟩:=HA5.out.sl.shape;subst eu;clear hC5 hz5 HA5 k0 k28 k29 HLD HSZ HFR HFRZ HC0 HE1 HE2;go_wp2_with fail;go_roundg q
       case measure=>omega
       case rel=>exact ⟨s+1,_,by omega,by go_num,HF5⟩
  |succ m=>
   have hin:(s:Int)< (L:Int):=by omega
   have hsl:s< l.length:=by have:=HLN.out;omega
   obtain ⟨gl,ol,cl,el,_,_,hcl,hul⟩:=(HLX.out _ HG3.out).atU hsl;injection el with el1 el2 el3
   subst el1 el3;obtain ⟨kb,hkb⟩: ∃y,y=k0+s*(2*T+1):=⟨_,rfl⟩;have hkm:kb+(2*T+1)≤most:=by
    have h1:(s+1)*(2*T+1)≤L*(2*T+1):=Nat.mul_le_mul_right _ (by omega);have h2:=HMO.out;rw [Nat.add_mul,Nat.one_mul] at h1;omega
   have HKN:Hid (k0+(s+1)*(2*T+1)=kb+T+1+T):=za (by rw [hkb,Nat.add_mul,Nat.one_mul];omega);have HFN:Hid (Zk l p.Q dr T k0 (s+1)=Zk l p.Q dr T k0 s++ [Xp l[s] p.Q dr T kb]):=za (by
    rw [hkb];refine (Ge _ _).trans ?_;show _++ [Xp (l[s]?.getD 0) p.Q dr T (k0+s*(2*T+1))]=_;rw [List.getElem?_eq_getElem hsl];rfl)
   have HRN:Hid (Zy p.Q dr T k0 (s+1)=Zy p.Q dr T k0 s++ [Xp (dr (kb+T)) p.Q dr T (kb+T+1)]):=za (by
    rw [hkb];exact Ge _ _)
   rw [←hkb] at HI3;have HB1:=za (HBH.out l[s] kb wr hul (by omega) HI3.out);obtain ⟨y,hy⟩: ∃y,y=Xp l[s] p.Q dr T kb:=⟨_,rfl⟩;rw [←hy] at HFN HB1;obtain ⟨z,hz⟩: ∃y,y=Xp (dr (kb+T)) p.Q dr T (kb+T+1):=⟨_,rfl⟩;rw [←hz] at HRN;have HZ:=za hz;have HLF:Hid (((Zk l p.Q dr T k0 s).length+1)*24≤140737488355328):=za (by simp [Zk];omega);have HLR:Hid (((Zy p.Q dr T k0 s).length+1)*24≤140737488355328):=za (by simp [Zy];omega);have HOWN:Hid ((∀r,u10.ownBlock=some r→r< wr.heap.size)∧(∀r,u11.ownBlock=some r→r< wr.heap.size)):=za ⟨fun r e=>(HS0.out.fst.lt r e).2,fun r e=>(HS0.out.snd.lt r e).2⟩;have HZR:Hid (w2.heap.size≤wr.heap.size):=za HG3.out.size;clear hkb hy hz el2;generalize l[s]=x at *;go_wp2_with fail;refine HB1.out.mono ?_;rintro e w3 ⟨v42,rfl,hs3,hi3,hg3⟩;obtain ⟨A42,n42,c42,rfl⟩:=hs3.shape;have HG4:Hid (w2.grownBy w3 (some g)):=za (HG3.out.trans hg3);have HI4:=za hi3;have HS4:=za (HS0.out.keep hg3 (fun b hb e=>by injection e with e;have:=HW2.out;omega));have HREP:Hid ((zh ze).rep (fun b=>(w2.heap.size≤b∧some b≠u11.ownBlock)∧some b≠u10.ownBlock) w3 [.slice A42 n42 c42] y):=za ⟨_,rfl,hs3.more fun b _ hb=>⟨⟨Nat.le_trans HZR.out hb,fun e=>by have:=HOWN.out.2 b e.symm;omega⟩,fun e=>by have:=HOWN.out.1 b e.symm;omega⟩⟩;have HZ4:Hid (w2.heap.size≤w3.heap.size):=za HG4.out.size;clear hs3 hi3 hg3 hp3 hcl;go_wp2_with (at_builtin;refine zQ rfl (.tmp 35) (.tmp 43) rfl (E:=zh ze) (y:=y) Zb HS4.out.fst rfl rfl HREP.out HLF.out HZ4.out (HS4.out.new1 (fun _ h=>Nat.le_trans HZ4.out h)) ?_);intro v10 w4 ha hg hm
   have HS5:=za (HS4.out.one ha hg hm);have HG5:Hid (w2.grownBy w4 (some g)):=za (HG4.out.andThen hg (fun j e=> .inl (HS4.out.fst.lt j e).1));have HI5:Hid (TI (kb+T) w4):=za (HT.out.keep HI4.out hg (fun b e hb=>by have:=(HS4.out.fst.lt b e).1;have:=HOB.out b hb;have:=HW2.out;omega));obtain ⟨A10,n10,c10,e10⟩:=HS5.out.fst.sl.shape;subst e10;obtain ⟨A11,n11,c11,e11⟩:=HS5.out.snd.sl.shape;subst e11;clear ha hg hm;have hp5: ∀o,w4.drew.cell? ⟨w.heap.size,o,none⟩=(#[.int .u64 p.P, .int .u64 p.Q, .int .u64 p.G, .int .u64 p.H, .int .i64 p.Nodes, .int .i64 p.N, .int .i64 p.T, .int .i64 p.K, .int .i64 p.D, .int .i64 p.R, .int .i64 p.M, .int .i64 p.X]:Array Value)[o]? :=(HPX.out _ HG5.out).prule;have HI6:Hid (TI (kb+T) w4.drew):=za (HT.out.keep HI5.out (zb _ 1) (by simp));have HS6:=za (HS5.out.kept (zb _ 1));have HG6:Hid (w2.grownBy w4.drew (some g)):=za (HG5.out.trans ((zb _ 1).but _));have HN6:=za (HNX.out (kb+T) w4.drew (by omega) HI6.out);have HVU:=za (HT.out.val (kb+T));have hkm2:kb+T+1+T≤most:=by omega
   go_upto_region 9 with (fail)
   go_region_held3 (fun w'=> ∀o,w'.cell? ⟨w.heap.size,o,none⟩=(#[.int .u64 p.P, .int .u64 p.Q, .int .u64 p.G, .int .u64 p.H, .int .i64 p.Nodes, .int .i64 p.N, .int .i64 p.T, .int .i64 p.K, .int .i64 p.D, .int .i64 p.R, .int .i64 p.M, .int .i64 p.X]:Array Value)[o]?) (first|assumption|(refine yP ?_ ?_ _<;>assumption)|go_keep)
    (first
    |(go_at_call 98;(with_reducible refine HN6.out.mono ?_);rintro e w5 ⟨rfl,hi5,hg5⟩;have HI7:=za hi5;have HG7:Hid (w2.grownBy w5 (some g)):=za (HG6.out.trans hg5);have HS7:=za (HS6.out.keep hg5 (fun b hb e=>by injection e with e;have:=HW2.out;omega));have hp7:=(HPX.out _ HG7.out).prule;have HB7:=za (HBH.out (dr (kb+T)) (kb+T+1) w5 HVU.out hkm2 HI7.out);have hz7:w5.heap.size=w5.heap.size:=rfl;clear hi5 hg5)
    |(go_at_call 99;(with_reducible refine HB7.out.mono ?_);rintro e w6 ⟨v55,rfl,hs6,hi6,hg6⟩;obtain ⟨A55,n55,c55,rfl⟩:=hs6.shape;have HI8:=za hi6;have HG8:Hid (w2.grownBy w6 (some g)):=za (HG7.out.trans hg6);have HS8:=za (HS7.out.keep hg6 (fun b hb e=>by injection e with e;have:=HW2.out;omega));have hp8:=(HPX.out _ HG8.out).prule;have lp8:w.heap.size< w6.heap.size:=(HPX.out _ HG8.out).lt;have HZ8:Hid (w2.heap.size≤w6.heap.size):=za HG8.out.size;have HREP2:Hid ((zh ze).rep (fun b=>(w2.heap.size≤b∧some b≠(Value.slice A10 n10 c10).ownBlock)∧some b≠(Value.slice A11 n11 c11).ownBlock) w6 [.slice A55 n55 c55] z):=za ⟨_,rfl,by rw [HZ.out];exact hs6.more fun b _ hb=>⟨⟨Nat.le_trans HG7.out.size hb,fun e=>by have:=(HS7.out.fst.lt b e.symm).2;omega⟩,fun e=>by have:=(HS7.out.snd.lt b e.symm).2;omega⟩⟩;clear hs6 hi6 hg6)
    |(refine yZ rfl (.tmp 45) (.tmp 56) rfl (E:=zh ze) (y:=z) Zb HS8.out.snd rfl rfl HREP2.out HLR.out HZ8.out (HS8.out.new2 (fun _ h=>Nat.le_trans HZ8.out h)) ?_;intro v11 w7 ha hg hm;have HS9:=za (HS8.out.two ha hg hm);have HG9:Hid (w2.grownBy w7 (some g)):=za (HG8.out.andThen hg (fun j e=> .inl (HS8.out.snd.lt j e).1));have HI9:Hid (TI (kb+T+1+T) w7):=za (HT.out.keep HI8.out hg (fun b e hb=>by have:=(HS8.out.snd.lt b e).1;have:=HOB.out b hb;have:=HW2.out;omega));have hp9:=(HPX.out _ HG9.out).prule;clear ha hg hm))
   have HFIN:Hid (xU (zh ze) (zh ze) w2.heap.size 31 31 (fun b=>w2.heap.size≤b) w7 (.slice A10 n10 c10) v11 (Zk l p.Q dr T k0 (s+1)) (Zy p.Q dr T k0 (s+1))∧TI (k0+(s+1)*(2*T+1)) w7∧w2.grownBy w7 (some g)):=za ⟨by rw [HFN.out,HRN.out];exact HS9.out,by rw [HKN.out];exact HI9.out,HG9.out⟩;go_wp2_with fail;go_roundg m
   case measure=>omega
   case rel=>exact ⟨s+1,by omega,by go_num,HFIN⟩
end
section
open Go Go.RowKit
def Vi(p:Par):Nat:=p.K.toNat*(p.D.toNat+1)
def Vd(p:Par):Nat:=p.T.toNat
def Gh(p:Par)(l:List Int):List Int:=IY l (Vi p)
def GC(p:Par)(seed:Int):Nat→Int:=fun k=>Lz p.Q (Rr p.Q seed k)
def Fy(p:Par)(l:List Int)(seed:Int):List (List Int):=Zk (Gh p l) p.Q (GC p seed) (Vd p) 0 (Vi p)
def Dv(p:Par)(seed:Int):List (List Int):=Zy p.Q (GC p seed) (Vd p) 0 (Vi p)
def Gg(p:Par)(l:List Int)(seed i:Int):List (Int×Int):=Zx p (Fy p l seed) (Dv p seed) i
def ED(p:Par)(l:List Int)(seed:Int):List (List Int):=yv p (Fy p l seed) (Dv p seed)
def Fc(p:Par):Nat:=Vi p*(2*Vd p+1)
section
variable {p:Par} (hm:Va p=true)
include hm
theorem VY:1≤Vd p∧Vd p≤2∧2≤Vi p∧Vi p≤10∧(Vi p:Int)=zX p∧(Vd p:Int)=p.T∧4≤p.N∧p.N≤7∧3*p.T+1≤p.N:=by
 obtain ⟨hq,hP,ha,n1,n2,n3,t1,t2,t3,hs,k1,d1⟩:=zD hm;obtain ⟨sk1,sk2,sd1,sd2,_⟩:=RK hm;have hsec:=QV hm;have h1:p.K.toNat*(p.D.toNat+1)≤2*5:=Nat.mul_le_mul (by omega) (by omega);have h2:1*2≤p.K.toNat*(p.D.toNat+1):=Nat.mul_le_mul (by omega) (by omega);unfold Vi Vd;refine ⟨by omega,by omega,by omega,by omega,by rw [hsec],by omega,n1,n2,t3⟩
theorem EC:0< p.Q:=Tu (zD hm).1
end
theorem Ij{p:Par}(hq:U64 p.Q)(seed:Int)(k:Nat):U64 (GC p seed k):=Qd p.Q _ hq
theorem Ih(p:Par)(l:List Int):(Gh p l).length=Vi p:=by simp [Gh,IY]
theorem Ii(p:Par)(l:List Int)(seed:Int):(Fy p l seed).length=Vi p:=by simp [Fy,Zk]
theorem Ig(p:Par)(l:List Int)(seed i:Int):(Gg p l seed i).length=Vi p:=by simp [Gg,Zx,Ii]
section
variable {p:Par} (hm:Va p=true) (hq:U64 p.Q) (l:List Int) (seed i:Int)
include hm hq
end
end
end Go.Proofs.YtkdfjkdphdfclaaGreatDoor

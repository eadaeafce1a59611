/- Part 22 of the proof of a card of AvssOne, AvssAll. -/
import Derived.Test.YtkdfjkdphdfclaaGreatDoorW20
set_option maxRecDepth 100000
set_option maxHeartbeats 16000000
set_option linter.unusedVariables false
set_option linter.unusedSimpArgs false
namespace Go.Proofs.YtkdfjkdphdfclaaGreatDoor
open Tryz
section
open Go Go.RowKit Go.Shelf Go.Maps
theorem Ii{E:zv}{x:zu}(h:Ym E x){s:Nat}(hs:s< E.coms.length): ∃(h1:s< (yy x.m).length) (h2:0< (yy x.m)[s].length),(yy x.m)[s][0]=(zx E.p E.coms E.dealer)[s]'(by rw [Zh];exact hs):=by
 have hb:=h.bond;simp only [yE,Bool.and_eq_true,List.all_eq_true,List.mem_range] at hb;have h1:=hb.2 s hs;simp only [Zz,Bool.and_eq_true,decide_eq_true_eq] at h1;obtain ⟨h1,h2⟩:=h1;have hm:s< x.m.length:=by
  rcases Nat.lt_or_ge s x.m.length with h|h
  ·exact h
  ·rw [List.getElem?_eq_none h] at h1;simp at h1
 rw [List.getElem?_eq_getElem hm,Option.getD_some] at h1 h2;have hsh:s< (zx E.p E.coms E.dealer).length:=by rw [Zh];exact hs
 rw [List.getElem?_eq_getElem hsh,Option.getD_some] at h2;have hc:s< (yy x.m).length:=by unfold yy;rw [lLm];exact hm
 have hce:(yy x.m)[s]=x.m[s].map fun row=>row.headD 0:=by simp [yy]
 refine ⟨hc,by rw [hce,lLm];omega, ?_⟩;rw [←h2];have h0:0< x.m[s].length:=by omega
 simp only [hce,List.getElem_map];unfold Ih;rw [List.getElem?_eq_getElem h0,Option.getD_some];cases x.m[s][0] with
 |nil=>rfl
 |cons a l=>rfl
def CQ(R:Rmm)(sts:Int→ASt)(w:World)(e:Ending)(w':World):Prop:= ∃yes no:Nat,e= .returned (.tuple #[.int .i64 yes, .int .i64 no, .bool true])∧((yes≠0→ ∃j,R.H j∧(sts j).done=true)∧(no≠0→ ∃j,R.H j∧(sts j).done=false))∧w.grownBy w' none
def AgL(R:Rmm)(sts:Int→ASt)(M:List (List (List Int)))(SH:List Int)(v8 v7:Value)(yes no:Nat)(W wx:World):Prop:=W.grownBy wx none∧Sl ze (fun b=>W.heap.size≤b) wx v8 SH∧(yes≠0→(∃j,R.H j∧(sts j).done=true)∧Sl (zh ze) (fun b=>W.heap.size≤b) wx v7 (yy M))∧(no≠0→ ∃j,R.H j∧(sts j).done=false)∧ ∃A n c,v7= .slice A n c
attribute [local go_sem] Oper.semAt_some
theorem Tq(g0:Bool)(d c0:Int)(G0:Int→Bool)(w:World)(ds:List Dl)(E0:List Ts)(vl va vd vc:Value)(g:Nat)(S:List Nat)(L:List (Nat×Nat))(nn:Nat)(sts:Int→ASt)(g1:List yB)(vw:Value)(W:World)(hR:(YD g0 d c0 G0).ok)(hd:1≤d∧d≤7)(h:Rw w (YD g0 d c0 G0) ds E0 vl va vd vc g S L nn sts g1 vw W)(m0:Uc (YD g0 d c0 G0) sts g1):
  Calls prog 13 #[.pointer (some ⟨g,0,none⟩), .int .i64 d] W (CQ (YD g0 d c0 G0) sts W):=by
 obtain ⟨R,J0⟩:=exq (YD g0 d c0 G0);rw [←J0] at hR h m0 ⊢;obtain ⟨p,hp⟩:=exq (p19 g0);have h0:R.p=p:=by rw [J0,hp];rfl
 have o1:R.dealer=d:=by rw [J0];rfl
 have F0:p.ok:=by rw [hp];exact ZY g0
 have T0:=za F0;have A0:=za (And.intro h0 o1);have d1:Hid (R.coms.length≤10):=za (by
  rw [J0];show (Kn (p19 g0) [0] c0).length≤10;rw [Mq];exact (xY (Xs g0)).2.2.2.1)
 obtain ⟨M,hM⟩:=m0.first hR;have HM:=za hM;have z0:=za h;have K1:=za m0;have I1:=za hR;obtain ⟨Aa,ca,rfl, -, -⟩:=h.al.form;rw [yP] at h z0;have S0:=h.len;rw [h0] at S0;obtain ⟨NL,w0⟩:=exq (L.length);have J1:=za w0;rw [←w0] at h z0 S0;have S1:NL≤7:=by
  have:p.N≤7:=by rw [hp];cases g0<;>decide
  omega
 obtain ⟨SH,e0⟩:=exq (zx p R.coms d);have K0:=za e0;have p0:Hid (SH.length=R.coms.length):=za (by rw [e0,Zh]);have q1:Hid (∀V,W.grownBy V none→Calls prog 41 #[p.v,vc, .int .u64 d] V fun e W'=> ∃v,e= .returned v∧Sl ze (fun b=>W.heap.size≤b) W' v SH∧V.grownBy W' none):=za (fun V hV=>by
  refine (YL p vc R.coms d _ V (z0.z.cm.kept hV) ⟨by omega,by omega⟩ (by have:=d1.z;omega)).mono ?_;rintro e W' ⟨v,rfl,k1,k2⟩;exact ⟨v,rfl,by rw [K0.z];exact k1.more fun b _ hb=>nLT hV.size hb,k2⟩)
 obtain ⟨Ac,nc,cc,rfl⟩:=h.cm.shape;have u0:Hid (∀V,W.grownBy V none→ ∀o,V.cell? ⟨g,o,none⟩=(zM p (.slice Aa NL ca) vw vd (.slice Ac nc cc))[o]?):=za (fun V hV=>by
  have:=(z0.z.kept hV).bk.rule
  rw [A0.z.1] at this;exact this)
 have W0:=za S0;have C1:IntKind.u64.wrap d=d:=IntWalk.u64_in _ (by omega);have N0:Hid (W.grownBy W.drew none):=za (zb W 1);clear h m0 hR J0 hp hM h0 o1 F0 w0 e0 S0;go_enter func13,ntmps13;go_upto_region 2 with (fail)
 refine ZR 12 ?_;refine mP0 (.pointer (some ⟨g,0,none⟩)) ?_;refine mP1 (.pointer (some ⟨g,0,none⟩)) 0 14 ?_;refine mP1 (.pointer (some ⟨g,0,none⟩)) 1 15 ?_;refine mQ1 (p.v) 2 16 (fun w' hw' K hK=> ?_) ?_
 ·have hr:=u0.z w' (N0.z.trans hw');go_simp;exact hK _ rfl rfl
 refine mP0 (.pointer (some ⟨g,0,none⟩)) ?_;refine mP1 (.pointer (some ⟨g,0,none⟩)) 4 18 ?_;refine mP1 (.pointer (some ⟨g,15,none⟩)) 5 19 ?_;refine mQ1 (.slice Ac nc cc) 6 20 (fun w' hw' K hK=> ?_) ?_
 ·have hr:=u0.z w' (N0.z.trans hw');go_simp;exact hK _ rfl rfl
 refine mP0 (.int .i64 d) ?_;refine mN1 (Pv.eq (.int .u64 d)) 8 22 (fun w' hw' K hK=> ?_) ?_
 ·go_simp;exact hK _ _ rfl (by first|rfl|simp [C1]) gRf
 refine mN3 (Pv.sl ze (fun b=>W.heap.size≤b) SH) 3 17 7 21 9 23 (fun w' hw' K hK=> ?_) ?_
 ·go_simp;refine (q1.z w' (N0.z.trans hw')).mono ?_;rintro e w3 ⟨v,rfl,hs3,hg3⟩;exact hK _ _ rfl hs3 hg3
 refine mV (Pv.sl ze (fun b=>W.heap.size≤b) SH) [(10,24)] (fun w' hw' x24 x0=>kD fun K hK=> ?_) ?_
 ·have x0:Sl ze (fun b=>W.heap.size≤b) w' x24 SH:=x0;go_simp;exact hK _ _ rfl x0 gRf
 intro w2 i1;intro y0 k0 y1 k1 y2 k2 y3 k3
 iterate 7 (refine pD ?_;intro _)
 intro y11 k11;have e11:Sl ze (fun b=>W.heap.size≤b) w2 y11 SH:=k11;have t1:Hid (AgL R sts M SH y11 (.slice none 0 0) 0 0 W w2):=za ⟨N0.z.trans i1,e11,fun e=>absurd rfl e,fun e=>absurd rfl e,none,0,0,rfl⟩;obtain ⟨A8,c8,e8, -, -⟩:=e11.form;subst e8;clear k0 k1 k2 k3 k11 e11 i1 q1 N0;refine wpList_nil ?_;simp only [Act.put,sAa,sAb,sAc];go_wp2_with fail;go_loopg [4,5,7,9,10,11,12,13] NL (fun gk s4 s5 s7 s9 s10 s11 s12 s13 wx=> ∃i a0 no:Nat,i+gk=NL∧s9= .int .i64 i∧s4= .int .i64 a0∧s5= .int .i64 no∧a0+no≤i∧Hid (AgL R sts M SH (.slice A8 SH.length c8) s7 a0 no W wx))
 case atStart=>exact ⟨0,0,0,by omega,rfl,rfl,rfl,by omega,t1⟩
 case round=>
  obtain ⟨i,a0,no,hi,rfl,rfl,rfl,L1,HX⟩:=hrel;have j0:=u0.z wr HX.z.1;rcases Nat.eq_zero_or_pos gk with hg0|hg0
  ·obtain rfl:i=NL:=by omega
   have HF:Hid (((a0≠0→ ∃j,R.H j∧(sts j).done=true)∧(no≠0→ ∃j,R.H j∧(sts j).done=false))∧W.grownBy wr none):=za ⟨⟨fun e=>(HX.z.2.2.1 e).1,HX.z.2.2.2.1⟩,HX.z.1⟩;clear HX t1 hg0;go_wp2;go_ret3;exact ⟨a0,no,rfl,HF.z⟩
  ·have Q1:(i:Int)< (NL:Int):=by omega
   have R1:(0:Int)≤(i:Int):=iNn i;have O1:IntKind.i64.wrap ((i:Int)+1)=(i:Int)+1:=i6n _ (by omega);have M1:IntKind.i64.wrap ((a0:Int)+1)=(a0:Int)+1:=i6n _ (by omega);have N1:IntKind.i64.wrap ((no:Int)+1)=(no:Int)+1:=i6n _ (by omega);have P1:IntKind.u64.wrap ((i:Int)+1)=(i:Int)+1:=IntWalk.u64_in _ (by omega);have v0:i< L.length:=by rw [←J1.z];omega
   obtain ⟨ga,oa,ca',ea, -, -,o0⟩:=(z0.z.kept HX.z.1).al.atAO (k:=i) (by rw [yP];exact v0);rw [xt R L v0] at o0;injection ea with ea1 ea2 ea3
   subst ea1;clear ea2 ea3;obtain ⟨gm,rfl⟩: ∃gm,gk=gm+1:=⟨gk - 1,by omega⟩;cases hh:R.hon ((i:Int)+1) with
   |false=>
    rw [hh,if_neg (by simp)] at o0;have l1:wr.cell? ⟨ga,oa+i,none⟩=some (.pointer none):=o0;have b0:=HX;clear o0 hh v0;go_wp2_with fail;go_roundg gm
    case measure=>omega
    case rel=>exact ⟨i+1,a0,no,by omega,by go_num,rfl,rfl,by omega,b0⟩
   |true=>
    rw [hh,if_pos rfl] at o0;obtain ⟨gA,R0⟩:=exq ((L[i]'v0).1);have l1:wr.cell? ⟨ga,oa+i,none⟩=some (.pointer (some ⟨gA,0,none⟩)):=by rw [R0];exact o0
    have hH:R.H ((i:Int)+1):=⟨⟨by omega,by rw [A0.z.1, ←W0.z];omega⟩,hh⟩;obtain ⟨av1,av2,av3⟩:=z0.z.rm.av i v0;have av2':=av2.kept HX.z.1;rw [←R0] at av2';clear o0 hh;cases i0:(sts ((i:Int)+1)).done with
    |false=>
     have H1:=av2';obtain ⟨⟨vc',vd',vo',Z0, -⟩, -⟩:=H1;rw [i0] at Z0;have B0:=za (DB _ gA _ vc' vd' vo' wr Z0);have b0:Hid (AgL R sts M SH (.slice A8 SH.length c8) u7 a0 (no+1) W wr):=za ⟨HX.z.1,HX.z.2.1,HX.z.2.2.1,fun _=>⟨_,hH,i0⟩,HX.z.2.2.2.2⟩;clear Z0 av1 av2 av3 av2' hH i0 R0 HX;go_wp2_with fail;refine B0.z.mono ?_;rintro e w3 ⟨rfl,ew⟩;subst w3;clear B0;go_wp2_with fail;go_roundg gm
     case measure=>omega
     case rel=>exact ⟨i+1,a0,no+1,by omega,by go_num,rfl,by go_num,by omega,b0⟩
    |true=>
     obtain ⟨o,Q0,j1,V0,U0⟩:=K1.z.told I1.z hH i0;have H0:o.m=M:=HM.z _ o hH i0 Q0;have l0:=av3.own o Q0;have B0:=za (Qp _ _ gA _ nn o _ wr av1 av2' i0 Q0 l0);rw [A0.z.1,H0] at V0 U0;have z1:=za V0;have X0:=za U0;have P0:Hid ((yy M).length≤100000∧(o.a.map (atP p.Q 0)).length≤100000):=za ⟨by rw [←H0];unfold yy;rw [lLm];have:=l0.m.1;omega,by rw [lLm];have:=l0.a.1;omega⟩;have u1:Hid (∀q (hq:q< SH.length), ∃(h1:q< (yy M).length) (h2:0< (yy M)[q].length),(yy M)[q][0]=SH[q]):=za (fun q hq=>by
      have h:=Ii j1 (s:=q) (by show q< R.coms.length;rw [←p0.z];exact hq);rw [H0] at h;obtain ⟨k1,k2,k3⟩:=h;refine ⟨k1,k2,k3.trans ?_⟩;have e:zx (R.E ((i:Int)+1)).p (R.E ((i:Int)+1)).coms (R.E ((i:Int)+1)).dealer=SH:=by rw [K0.z, ←A0.z.1, ←A0.z.2];rfl
      simp only [e])
     rw [H0] at B0;have q0:Hid (Calls prog 26 #[.pointer (some ⟨gA,0,none⟩)] wr (El wr (o.a.map (atP p.Q 0)) (yy M))):=za (by rw [←A0.z.1];exact B0.z);obtain ⟨LT,p1⟩:=exq (o.a.map (atP p.Q 0));rw [←p1] at q0 X0 P0;clear B0 V0 U0 H0 l0 j1 Q0 av1 av2 av3 av2' R0 p1 v0;go_wp2_with fail;refine q0.z.mono ?_;rintro e w3 ⟨v1,v2,rfl,s1,s2,g3⟩;clear j0 l1 q0;by_cases hy:a0=0
     ·have B1:((a0:Int)==0)=true:=by simp [hy]
      obtain ⟨A1,n1,c1,e1⟩:=s1.shape;subst e1;obtain ⟨A2,c2,e2, -, -⟩:=s2.form;subst e2;have d0:=za s2;have M0:=za s1;have t0:=za (HX.z.1.trans g3);have O0:=za (Mh (.slice A2 (yy M).length c2) (.slice A2 (yy M).length c2) (yy M) _ _ w3 d0.z d0.z);have b0:Hid (∀V,w3.grownBy V none→AgL R sts M SH (.slice A8 SH.length c8) (.slice A2 (yy M).length c2) (a0+1) no W V):=za (fun V hV=>⟨t0.z.trans hV,HX.z.2.1.kept (g3.trans hV),fun _=>⟨⟨_,hH,i0⟩,(d0.z.kept hV).more fun b _ hb=>nLT HX.z.1.size hb⟩,HX.z.2.2.2.1,_,_,_,rfl⟩);have L0:=za (HX.z.2.1.kept g3);clear s1 s2 g3 HX hy hH i0;go_wp2_with fail;refine O0.z.mono ?_;rintro e w4 ⟨rfl,nq,ew⟩;have s0:Hid (w3.grownBy w4 none):=za (by rw [ew];exact zb w3 nq);clear ew O0;have j0:=u0.z w4 (t0.z.trans s0.z);go_wp2_with fail;refine (Yb p _ (yy M) _ w4 T0.z (d0.z.kept s0.z)).mono ?_;rintro e w5 ⟨rfl,hg5⟩;rw [z1.z];have n0:=za (s0.z.trans hg5);clear hg5 j0;have j0:=u0.z w5 (t0.z.trans n0.z);go_wp2_with fail;refine (RX p _ (yy M) ((i:Int)+1) _ _ _ _ w5 T0.z (d0.z.kept n0.z) ⟨by omega,by omega⟩ (M0.z.kept n0.z) P0.z.1 P0.z.2).mono ?_;rintro e w6 ⟨rfl,hg6⟩;rw [X0.z];have r0:=za (n0.z.trans hg6);clear hg6 j0 M0;go_wp2_with fail;go_loopg [4,5,13] SH.length (fun gk s4 s5 s13 wx=> ∃q:Nat,q+gk=SH.length∧s4= .int .i64 ((a0:Int)+1)∧s5= .int .i64 no∧s13= .int .i64 q∧Hid (w6.grownBy wx none))
      case atStart=>exact ⟨0,by omega,by go_num,rfl,rfl,za (gRr _ _)⟩
      case round=>
       rename World=>wy
       obtain ⟨q,hq,rfl,rfl,rfl,HY⟩:=hrel;rcases Nat.eq_zero_or_pos gk with hg0|hg0
       ·obtain rfl:q=SH.length:=by omega
        have b1:=za (b0.z wy (r0.z.trans HY.z));clear HY b0 L0 d0;go_wp2_with fail;go_roundg gm
        case measure=>omega
        case rel=>exact ⟨i+1,a0+1,no,by omega,by go_num,by go_num,rfl,by omega,b1⟩
       ·have D1:(q:Int)< (SH.length:Int):=by omega
        have F1:(0:Int)≤(q:Int):=iNn q;have D0:q< SH.length:=by omega
        have I0:SH.length≤10:=by rw [p0.z];exact d1.z
        obtain ⟨f1,f2,f3⟩:=u1.z q D0;obtain ⟨g8,o8,c8',e8, -, -,h8, -⟩:=(L0.z.kept (r0.z.trans HY.z)).atU D0;injection e8 with e81 e82 e83
        subst e81;clear e82 e83;obtain ⟨g2,o2,c2',u2,e2, -, -,h2,C0⟩:=(d0.z.kept (r0.z.trans HY.z)).atS f1;injection e2 with e21 e22 e23
        subst e21;clear e22 e23;obtain ⟨g9,o9,c9',e9, -, -,h9, -⟩:=C0.atU f2;subst e9;rw [f3] at h9;rw [Nat.add_zero] at h9;obtain ⟨z,hz⟩:=exq (SH[q]);rw [←hz] at h8 h9;have G1:(q:Int)< ((yy M).length:Int):=by omega
        have Y0:(0:Int)< ((yy M)[q].length:Int):=by omega
        obtain ⟨nq2,f0⟩:=exq ((yy M)[q].length);rw [←f0] at h2 Y0;have a1:Hid (∀V,wy.grownBy V none→w6.grownBy V none):=za (fun V hV=>HY.z.trans hV);clear f1 f2 f3 C0 hz f0 HY;go_upto_region 18 with (fail)
        go_quiet (fail);go_wp2_with fail;go_roundg (gk - 1)
        case measure=>omega
        case rel=>exact ⟨q+1,by omega,rfl,rfl,by go_num,za (a1.z _ (zb _ _))⟩
     ·have B1:((a0:Int)==0)=false:=by simp [hy]
      obtain ⟨A1,n1,c1,e1⟩:=s1.shape;subst e1;obtain ⟨A2,c2,e2, -, -⟩:=s2.form;subst e2;have d0:=za s2;have M0:=za s1;have t0:=za (HX.z.1.trans g3);have r1:Hid (Sl (zh ze) (fun b=>W.heap.size≤b) w3 u7 (yy M)):=za ((HX.z.2.2.1 hy).2.kept g3);obtain ⟨A7,n7,c7,e7⟩:=HX.z.2.2.2.2;subst e7;have O0:=za (Mh (.slice A2 (yy M).length c2) (.slice A7 n7 c7) (yy M) _ _ w3 d0.z r1.z);have b0:Hid (∀V,w3.grownBy V none→AgL R sts M SH (.slice A8 SH.length c8) (.slice A7 n7 c7) (a0+1) no W V):=za (fun V hV=>⟨t0.z.trans hV,HX.z.2.1.kept (g3.trans hV),fun _=>⟨⟨_,hH,i0⟩,r1.z.kept hV⟩,HX.z.2.2.2.1,_,_,_,rfl⟩);have L0:=za (HX.z.2.1.kept g3);clear s1 s2 g3 HX hy hH i0;go_wp2_with fail;refine O0.z.mono ?_;rintro e w4 ⟨rfl,nq,ew⟩;have s0:Hid (w3.grownBy w4 none):=za (by rw [ew];exact zb w3 nq);clear ew O0;have j0:=u0.z w4 (t0.z.trans s0.z);go_wp2_with fail;refine (Yb p _ (yy M) _ w4 T0.z (d0.z.kept s0.z)).mono ?_;rintro e w5 ⟨rfl,hg5⟩;rw [z1.z];have n0:=za (s0.z.trans hg5);clear hg5 j0;have j0:=u0.z w5 (t0.z.trans n0.z);go_wp2_with fail;refine (RX p _ (yy M) ((i:Int)+1) _ _ _ _ w5 T0.z (d0.z.kept n0.z) ⟨by omega,by omega⟩ (M0.z.kept n0.z) P0.z.1 P0.z.2).mono ?_;rintro e w6 ⟨rfl,hg6⟩;rw [X0.z];have r0:=za (n0.z.trans hg6);clear hg6 j0 M0;go_wp2_with fail;go_loopg [4,5,13] SH.length (fun gk s4 s5 s13 wx=> ∃q:Nat,q+gk=SH.length∧s4= .int .i64 ((a0:Int)+1)∧s5= .int .i64 no∧s13= .int .i64 q∧Hid (w6.grownBy wx none))
      case atStart=>exact ⟨0,by omega,by go_num,rfl,rfl,za (gRr _ _)⟩
      case round=>
       rename World=>wy
       obtain ⟨q,hq,rfl,rfl,rfl,HY⟩:=hrel;rcases Nat.eq_zero_or_pos gk with hg0|hg0
       ·obtain rfl:q=SH.length:=by omega
        have b1:=za (b0.z wy (r0.z.trans HY.z));clear HY b0 L0 d0;go_wp2_with fail;go_roundg gm
        case measure=>omega
        case rel=>exact ⟨i+1,a0+1,no,by omega,by go_num,by go_num,rfl,by omega,b1⟩
       ·have D1:(q:Int)< (SH.length:Int):=by omega
        have F1:(0:Int)≤(q:Int):=iNn q;have D0:q< SH.length:=by omega
        have I0:SH.length≤10:=by rw [p0.z];exact d1.z
        obtain ⟨f1,f2,f3⟩:=u1.z q D0;obtain ⟨g8,o8,c8',e8, -, -,h8, -⟩:=(L0.z.kept (r0.z.trans HY.z)).atU D0;injection e8 with e81 e82 e83
        subst e81;clear e82 e83;obtain ⟨g2,o2,c2',u2,e2, -, -,h2,C0⟩:=(d0.z.kept (r0.z.trans HY.z)).atS f1;injection e2 with e21 e22 e23
        subst e21;clear e22 e23;obtain ⟨g9,o9,c9',e9, -, -,h9, -⟩:=C0.atU f2;subst e9;rw [f3] at h9;rw [Nat.add_zero] at h9;obtain ⟨z,hz⟩:=exq (SH[q]);rw [←hz] at h8 h9;have G1:(q:Int)< ((yy M).length:Int):=by omega
        have Y0:(0:Int)< ((yy M)[q].length:Int):=by omega
        obtain ⟨nq2,f0⟩:=exq ((yy M)[q].length);rw [←f0] at h2 Y0;have a1:Hid (∀V,wy.grownBy V none→w6.grownBy V none):=za (fun V hV=>HY.z.trans hV);clear f1 f2 f3 C0 hz f0 HY;go_upto_region 18 with (fail)
        go_quiet (fail);go_wp2_with fail;go_roundg (gk - 1)
        case measure=>omega
        case rel=>exact ⟨q+1,by omega,rfl,rfl,by go_num,za (a1.z _ (zb _ _))⟩
end
end Go.Proofs.YtkdfjkdphdfclaaGreatDoor

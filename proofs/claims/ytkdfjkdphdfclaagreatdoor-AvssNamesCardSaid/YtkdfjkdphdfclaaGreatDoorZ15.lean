/- Proves for the statement AvssNamesCardSaid, under no other condition than the statement's own, that the card avssNames holds of the program. Part 15. -/
import Derived.Test.YtkdfjkdphdfclaaGreatDoorZ14
set_option maxRecDepth 100000
set_option maxHeartbeats 16000000
set_option linter.unusedVariables false
set_option linter.unusedSimpArgs false
namespace Go.Proofs.YtkdfjkdphdfclaaGreatDoor
section
open Go Go.RowKit Go.Shelf Go.Maps
theorem rB1:zx (EW 0) (tA 1).1 8 2 (toI 8 1 (tA 2).2)=tB1:=rfl
theorem rB2:zx (EW 0) tB1.1 8 3 (toI 8 1 (tA 3).2)=tB2:=rfl
theorem rB3:zx (EW 0) tB2.1 9 2 (nR 2 1)=tB3:=rfl
theorem rB4:zx (EW 0) tB3.1 9 3 (nR 3 1)=tB4:=rfl
theorem rD1:zx (EW 3) ASt.start 9 2 (nR 2 4)=tD1:=rfl
theorem rD2:zx (EW 3) tD1.1 9 3 (nR 3 4)=tD2:=rfl
theorem DZ:(tA 2).2.length≤100000:=by decide+kernel
theorem DY:(tA 3).2.length≤100000:=by decide+kernel
theorem En:(toI 8 1 (tA 2).2).length≤100000:=by decide+kernel
theorem Em:(toI 8 1 (tA 3).2).length≤100000:=by decide+kernel
theorem DX:tB1.2.length=0:=by decide+kernel
theorem Du:tB2.2.length=3:=by decide+kernel
theorem Ey:toI 9 4 tB2.2≠ []:=by decide+kernel
theorem Ez:tB2.1.done=false:=by decide+kernel
theorem DW:tB3.2.length=0:=by decide+kernel
theorem Dt:tB4.2.length=1:=by decide+kernel
theorem Ew:(toI 10 0 tB4.2).length=4:=by decide+kernel
theorem Ex:tB4.1.done=true:=by decide+kernel
theorem DV:tD1.2.length=0:=by decide+kernel
theorem Fw:tD2.2.length=4:=by decide+kernel
theorem Eu:(tD2.2[3]?.getD (0,0, [])).1=10:=by decide+kernel
theorem Ev:tD2.1.done=true:=by decide+kernel
theorem Et:(tD2.1.own.map fun o=>o.a.map (atP 11 0))=some ((DL5.a[3]?.getD []).map (atP 11 0)):=by decide+kernel
theorem Es:(nR 2 1).length≤100000:=by decide+kernel
theorem Ep:(nR 3 1).length≤100000:=by decide+kernel
theorem Er:(nR 2 4).length≤100000:=by decide+kernel
theorem Eo:(nR 3 4).length≤100000:=by decide+kernel
theorem FT(i:Nat)(h:i< 3):(nD ((i:Int)+1)).length≤100000:=by
 have hi:i=0∨i=1∨i=2:=by omega
 rcases hi with rfl|rfl|rfl<;>decide+kernel
theorem ym(n:Nat)(h:n< 1000000):n< maxLen:=by unfold maxLen;omega
theorem Jg(i:Nat)(h:i< 3):stJ (i+1)=fun j=>if j=i then (tA ((i:Int)+1)).1 else stJ i j:=by
 funext k
 unfold stJ;by_cases hk:k=i
 ·subst hk;rw [if_pos rfl,if_pos ⟨by omega,h⟩]
 ·rw [if_neg hk];by_cases h2:k< i∧k< 3
  ·rw [if_pos ⟨by omega,h2.2⟩,if_pos h2]
  ·rw [if_neg (fun e=>h2 ⟨by omega,e.2⟩),if_neg h2]
attribute [local go_sem] Oper.semAt_some
theorem Ka(w:World)(hT:zK w):Calls Tryz.prog 10 #[] w fun e w'=>e= .returned (.bool true)∧w.grownBy w' none:=by
 have HTB:=za hT;clear hT;go_enter Tryz.func10,Tryz.ntmps10;go_wp2_with fail;refine (Vv false w).mono ?_;rintro e w1 ⟨rfl,hg1⟩;obtain ⟨w2,hw2⟩: ∃y,y=w1.alloc (Obj.cells p4.cells 39):=⟨_,rfl⟩;obtain ⟨gp,hgp⟩: ∃y,y=w1.heap.size:=⟨_,rfl⟩;have HBp:Hid (Bk w2 gp 39 p4.cells):=za (by rw [hw2,hgp];exact Bk.new _ _ _);have HG2:Hid (w.grownBy w2 none):=za (by rw [hw2];exact hg1.trans (gAl _ _ none));have hps:(p19 false).v=p4.v:=rfl;rw [hps];clear hg1 hps;go_upto_region 2 with (fail)
 first|rw [←hw2, ←hgp]|(have hw2':w1.alloc (Obj.cells #[.int .u64 23, .int .u64 11, .int .u64 4, .int .u64 9, .int .i64 4, .int .i64 4, .int .i64 1, .int .i64 1, .int .i64 1, .int .i64 1, .int .i64 1, .int .i64 1] 39)=w2:=hw2.symm;rw [hw2', ←hgp];clear hw2')
 clear hw2 hgp;have hp:=HBp.out.prule;go_wp2_with fail;refine (Yw p4 2 5 1 w2 (xN false) PZ ⟨rfl,rfl⟩ (HTB.out.kept HG2.out) ⟨by decide,by decide⟩ ⟨by decide,by decide⟩ (by decide)).mono ?_;rintro e w3 ⟨vd,vc,rfl,hds,hcm,hg3⟩;have hds1:Sl VV (fun _=>True) w3 vd [DL5]:=by
  have h:=hds;rw [show (List.range 1).map (dlD p4 5 2)= [dlD p4 5 2 0] from rfl,LH] at h;exact h
 rw [IN] at hcm;have HF3:Hid (AwF w gp w3.heap.size vd vc w3):=za ⟨HG2.out.trans hg3,(HG2.out.trans hg3).size,Nat.le_refl _,HBp.out.grown hg3 (by simp),Nat.lt_of_lt_of_le HBp.out.lt hg3.size,hds1.more fun g h _=>h,hcm.more fun g h _=>h⟩;obtain ⟨B,hB⟩: ∃y,y=w3.heap.size:=⟨_,rfl⟩;have HB:=za hB;rw [←hB] at HF3;obtain ⟨Ad,nd,cd,rfl⟩:=hds1.shape;obtain ⟨Ac,nc,cc,rfl⟩:=hcm.shape;have HL0:Hid (AwL w gp B (.slice Ad nd cd) (.slice Ac nc cc) 0 (.slice none 0 0) (.slice none 0 0) w3):=za ⟨[], [],rfl,⟨(fun g h=>absurd h (by simp)),(fun i j hi=>absurd hi (by simp)),(fun i hi=>absurd hi (by simp)),(fun i hi=>absurd hi (by simp))⟩,HF3.out,(fun k hk=>absurd hk (by simp)),Acc.nil _ _ _ _ _,(fun b e=>by simp [Value.ownBlock] at e),Acc.nil _ _ _ _ _,(fun b e=>by simp [Value.ownBlock] at e)⟩;clear hp hds hds1 hcm hg3 hB HBp HG2 HF3;go_wp2_with fail;go_loopg [5,6,7,8,9,10] 4 (fun g s5 s6 s7 s8 s9 s10 wx=> ∃i:Nat,i+g=4∧s7= .int .i64 ((i:Int)+1)∧Hid (AwL w gp B (.slice Ad nd cd) (.slice Ac nc cc) i s5 s6 wx))
 case atStart=>exact ⟨0,by omega,rfl,HL0⟩
 case round=>
  rename World=>wr
  obtain ⟨i,hi,rfl,HX⟩:=hrel;rcases Nat.eq_zero_or_pos gk with hg0|hg0
  ·obtain rfl:i=4:=by omega
   obtain ⟨S,L,hA⟩:=HX.out.fin;have HA:=za hA;clear HX hA hg0;obtain ⟨p0,p1,p2,p3,rfl⟩: ∃p0 p1 p2 p3,L= [p0,p1,p2,p3]:=by
    have h:=HA.out.len
    match L,h with
    | [a,b,c,d],_=>exact ⟨a,b,c,d,rfl⟩
   obtain ⟨g5,o5,c5,e5,_,_,hA0⟩:=HA.out.a5.atA (k:=0) (by simp);subst e5;have hp0:wr.cell? ⟨g5,o5,none⟩=some (.pointer (some ⟨p0.1,0,none⟩)):=hA0;obtain ⟨g6,o6,c6,v61,e6,_,_,h61,s61⟩:=HA.out.a6.atS (k:=1) (by decide);subst e6;have s61:Sl YC _ wr v61 (tA 2).2:=s61;have HT1:=za (YO v61 (tA 2).2 8 1 _ wr s61 DZ);obtain ⟨A61,n61,c61,e61⟩:=s61.shape;subst e61;have HK0:Hid (0< [p0,p1,p2,p3].length∧3< [p0,p1,p2,p3].length):=za ⟨by simp,by simp⟩;clear hA0 s61;go_wp2_with fail;refine HT1.out.mono ?_;rintro e w8 ⟨v8,rfl,ew,hs8⟩;subst w8;have HTK:=za (HA.out.take HK0.out.1 (ym _ (by decide)) (show U8 8 from ⟨by decide,by decide⟩) (show I64 2 from ⟨by decide,by decide⟩) hs8 En (st:=(tA 1).1) rfl (r:=tB1) rB1);obtain ⟨A8,n8,c8,e8⟩:=hs8.shape;subst e8;clear hs8 HT1;go_wp2_with fail;refine HTK.out.mono ?_;rintro e w9 ⟨v9,rfl,hs9,hA9,_⟩;have HA9:=za hA9;obtain ⟨A9,c9,e9,_,_⟩:=hs9.form;rw [DX] at e9;subst e9;obtain ⟨g6',o6',c6',v62,e6,_,_,h62,s62⟩:=HA9.out.a6.atS (k:=2) (by decide);injection e6 with e6a e6b e6c
   injection e6a with e6a
   injection e6a with e6d e6e
   subst e6d e6e;have s62:Sl YC _ w9 v62 (tA 3).2:=s62;have HT2:=za (YO v62 (tA 3).2 8 1 _ w9 s62 DY);obtain ⟨A62,n62,c62,e62⟩:=s62.shape;subst e62;clear hs9 hA9 s62 HTK hp0 h61 e6b e6c;go_wp2_with fail;refine HT2.out.mono ?_;rintro e w10 ⟨v10,rfl,ew,hs10⟩;subst w10;have HTK:=za (HA9.out.take HK0.out.1 (ym _ (by decide)) (show U8 8 from ⟨by decide,by decide⟩) (show I64 3 from ⟨by decide,by decide⟩) hs10 Em (st:=tB1.1) rfl (r:=tB2) rB2);obtain ⟨A10,n10,c10,e10⟩:=hs10.shape;subst e10;clear hs10 HT2 h62;go_wp2_with fail;refine HTK.out.mono ?_;rintro e w11 ⟨v11,rfl,hs11,hA11,_⟩;have HA11:=za hA11;obtain ⟨A11,c11,e11,_,_⟩:=hs11.form;rw [Du] at e11;subst e11;have HT3:=za (YO _ tB2.2 9 4 _ w11 hs11 (by rw [Du];decide));clear hs11 hA11 HTK;go_wp2_with fail;refine HT3.out.mono ?_;rintro e w12 ⟨v12,rfl,ew,hs12⟩;subst w12;have hpos:=List.length_pos_iff.2 Ey;obtain ⟨g12,o12,c12,e12,_⟩:=hs12.atU hpos;subst e12;have hen:(binOp .eql 31 (.slice (some ⟨g12,o12,none⟩) (toI 9 4 tB2.2).length c12) (.slice none 0 0)).run Tryz.prog w11= .ok (.bool false) w11:=Og w11 (some ⟨g12,o12,none⟩) _ _;obtain ⟨_,⟨⟨qc,qd,qo,hqb,_⟩,_,_⟩,_⟩:=HA11.out.rm.av 0 HK0.out.1;have hqb2:Bk w11 p0.1 125 (zu (EW 0) qc qd qo p0.2 tB2.1.done):=hqb;rw [Ez] at hqb2;have HDN:=za (Ui (EW 0) p0.1 p0.2 qc qd qo false w11 hqb2);clear hs12 HT3 hqb hqb2;go_wp2_with fail;refine HDN.out.mono ?_;rintro e w12 ⟨rfl,ew⟩;subst w12;clear HDN;obtain ⟨gb1,hgb1⟩: ∃y,y=w11.heap.size:=⟨_,rfl⟩;obtain ⟨w13,hw13⟩: ∃y,y=(w11.alloc (.cells #[.int .u8 9, .int .i64 2, .int .u8 1, .slice none 0 0] 61)).alloc (.cells #[.int .u8 9, .int .i64 3, .int .u8 1, .slice none 0 0] 61):=⟨_,rfl⟩
   have hg13:w11.grownBy w13 none:=by rw [hw13];exact (gAl _ _ none).trans (gAl _ _ none)
   have HA13:=za (HA11.out.kept hg13);have HBS:Hid (Bk w13 gb1 61 #[.int .u8 9, .int .i64 2, .int .u8 1, .slice none 0 0]∧Bk w13 (gb1+1) 61 #[.int .u8 9, .int .i64 3, .int .u8 1, .slice none 0 0]):=za (by
    rw [hw13,hgb1];refine ⟨(Bk.new w11 _ _).alloc _, ?_⟩;have h:=Bk.new (w11.alloc (.cells #[.int .u8 9, .int .i64 2, .int .u8 1, .slice none 0 0] 61)) 61 #[.int .u8 9, .int .i64 3, .int .u8 1, .slice none 0 0];rw [World.size_alloc] at h;exact h)
   have HBN:Hid ((p0.1< gb1∧p0.2< gb1)∧p3.1< gb1∧p3.2< gb1):=za (by
    rw [hgb1];have h0:=HA11.out.rm.sub 0 HK0.out.1;have h3:=HA11.out.rm.sub 3 HK0.out.2;exact ⟨⟨HA11.out.rm.sz _ h0.1,HA11.out.rm.sz _ h0.2⟩,HA11.out.rm.sz _ h3.1,HA11.out.rm.sz _ h3.2⟩)
   have hpr:=HA11.out.f.par.prule;go_upto_region 27 with (fail)
   rw [←hw13, ←hgb1];clear hw13 hgb1;have hr13:=HBS.out.1.rule;have hp13:=HA13.out.f.par.prule;have HN1:=za (HA13.out.nums 9 2 1 (show U8 9 from ⟨by decide,by decide⟩) (show I64 2 from ⟨by decide,by decide⟩) ⟨by decide,by decide⟩);clear hpr HA11;go_wp2_with fail;refine HN1.out.mono ?_;rintro e w14 ⟨v14,rfl,hs14,hA14,hg14⟩;have hs14':Sl ze (fun _=>True) w14 v14 (nR 2 1):=hs14;have HTK:=za (hA14.take HK0.out.1 (ym _ (by decide)) (show U8 9 from ⟨by decide,by decide⟩) (show I64 2 from ⟨by decide,by decide⟩) hs14' Es (st:=tB2.1) rfl (r:=tB3) rB3);obtain ⟨A14,n14,c14,e14⟩:=hs14.shape;subst e14;clear hs14 hs14' hA14 HN1 hr13 hp13;go_wp2_with fail;refine HTK.out.mono ?_;rintro e w15 ⟨v15,rfl,hs15,hA15,hg15⟩;obtain ⟨A15,c15,e15,_,_⟩:=hs15.form;rw [DW] at e15;subst e15;have hg15':zj p0.1 p0.2 w14 w15:=hg15;have HA15:=za hA15;have HB15:Hid (Bk w15 gb1 61 #[.int .u8 9, .int .i64 2, .int .u8 1, .slice none 0 0]∧Bk w15 (gb1+1) 61 #[.int .u8 9, .int .i64 3, .int .u8 1, .slice none 0 0]):=za (by
    have h:=HBN.out.1;exact ⟨(HBS.out.1.grown hg14 (by simp)).keep2 hg15' (by omega) (by omega),(HBS.out.2.grown hg14 (by simp)).keep2 hg15' (by omega) (by omega)⟩)
   have hr15:=HB15.out.2.rule;have hp15:=HA15.out.f.par.prule;have HN1:=za (HA15.out.nums 9 3 1 (show U8 9 from ⟨by decide,by decide⟩) (show I64 3 from ⟨by decide,by decide⟩) ⟨by decide,by decide⟩);clear hs15 hA15 hg15 hg15' hg14 HTK HBS HA13;go_wp2_with fail;refine HN1.out.mono ?_;rintro e w16 ⟨v16,rfl,hs16,hA16,hg16⟩;have hs16':Sl ze (fun _=>True) w16 v16 (nR 3 1):=hs16;have HTK:=za (hA16.take HK0.out.1 (ym _ (by decide)) (show U8 9 from ⟨by decide,by decide⟩) (show I64 3 from ⟨by decide,by decide⟩) hs16' Ep (st:=tB3.1) rfl (r:=tB4) rB4);obtain ⟨A16,n16,c16,e16⟩:=hs16.shape;subst e16;have HG16:=za hg16;clear hs16 hs16' hA16 HN1 hr15 hp15 hg16;go_wp2_with fail;refine HTK.out.mono ?_;rintro e w17 ⟨v17,rfl,hs17,hA17,hg17⟩;have hg17':zj p0.1 p0.2 w16 w17:=hg17;have HA17:=za hA17;have HB17:Hid (Bk w17 gb1 61 #[.int .u8 9, .int .i64 2, .int .u8 1, .slice none 0 0]∧Bk w17 (gb1+1) 61 #[.int .u8 9, .int .i64 3, .int .u8 1, .slice none 0 0]):=za (by
    have h:=HBN.out.1;exact ⟨(HB15.out.1.grown HG16.out (by simp)).keep2 hg17' (by omega) (by omega),(HB15.out.2.grown HG16.out (by simp)).keep2 hg17' (by omega) (by omega)⟩)
   obtain ⟨g5',o5',c5',e5,_,_,hA3⟩:=HA17.out.a5.atA (k:=3) (by simp);injection e5 with e5a e5b e5c
   injection e5a with e5a
   injection e5a with e5d e5e
   subst e5d e5e;have hp3:w17.cell? ⟨g5,o5+3,none⟩=some (.pointer (some ⟨p3.1,0,none⟩)):=hA3;have HT3:=za (YO v17 tB4.2 10 0 _ w17 hs17 (by rw [Dt];decide));obtain ⟨A17,c17,e17,_,_⟩:=hs17.form;rw [Dt] at e17;subst e17;have hr17:=HB17.out.1.rule;have hp17:=HA17.out.f.par.prule;have HN1:=za (HA17.out.nums 9 2 4 (show U8 9 from ⟨by decide,by decide⟩) (show I64 2 from ⟨by decide,by decide⟩) ⟨by decide,by decide⟩);clear hs17 hA17 hg17 hg17' HTK HA15 HB15 HG16 hA3 e5b e5c;go_wp2_with fail;refine HT3.out.mono ?_;rintro e w18 ⟨v18,rfl,ew,hs18⟩;subst w18;obtain ⟨A18,c18,e18,_,_⟩:=hs18.form;rw [Ew] at e18;subst e18;clear hs18 HT3;go_wp2_with fail;refine HN1.out.mono ?_;rintro e w19 ⟨v19,rfl,hs19,hA19,hg19⟩;have hs19':Sl ze (fun _=>True) w19 v19 (nR 2 4):=hs19;have HTK:=za (hA19.take HK0.out.2 (ym _ (by decide)) (show U8 9 from ⟨by decide,by decide⟩) (show I64 2 from ⟨by decide,by decide⟩) hs19' Er (st:=ASt.start) rfl (r:=tD1) rD1);obtain ⟨A19,n19,c19,e19⟩:=hs19.shape;subst e19;have HG19:=za hg19;clear hs19 hs19' hA19 HN1 hr17 hp17 hg19 hp3;go_wp2_with fail;refine HTK.out.mono ?_;rintro e w20 ⟨v20,rfl,hs20,hA20,hg20⟩;have hg20':zj p3.1 p3.2 w19 w20:=hg20;have HA20:=za hA20;have HB20:Hid (Bk w20 (gb1+1) 61 #[.int .u8 9, .int .i64 3, .int .u8 1, .slice none 0 0]):=za (by
    have h:=HBN.out.2;exact (HB17.out.2.grown HG19.out (by simp)).keep2 hg20' (by omega) (by omega))
   obtain ⟨A20,c20,e20,_,_⟩:=hs20.form;rw [DV] at e20;subst e20;have hr20:=HB20.out.rule;have hp20:=HA20.out.f.par.prule;have HN1:=za (HA20.out.nums 9 3 4 (show U8 9 from ⟨by decide,by decide⟩) (show I64 3 from ⟨by decide,by decide⟩) ⟨by decide,by decide⟩);clear hs20 hA20 hg20 hg20' HTK HA17 HB17 HG19;go_wp2_with fail;refine HN1.out.mono ?_;rintro e w21 ⟨v21,rfl,hs21,hA21,hg21⟩;have hs21':Sl ze (fun _=>True) w21 v21 (nR 3 4):=hs21;have HTK:=za (hA21.take HK0.out.2 (ym _ (by decide)) (show U8 9 from ⟨by decide,by decide⟩) (show I64 3 from ⟨by decide,by decide⟩) hs21' Eo (st:=tD1.1) rfl (r:=tD2) rD2);obtain ⟨A21,n21,c21,e21⟩:=hs21.shape;subst e21;clear hs21 hs21' hA21 HN1 hr20 hp20 hg21;go_wp2_with fail;refine HTK.out.mono ?_;rintro e w22 ⟨v22,rfl,hs22,hA22,_⟩;have HA22:=za hA22;obtain ⟨o,hown,hoa⟩: ∃o,tD2.1.own=some o∧o.a.map (atP 11 0)=(DL5.a[3]?.getD []).map (atP 11 0):=by
    have h:=Et;cases ho:tD2.1.own with
    |none=>rw [ho] at h;cases h
    |some o=>rw [ho] at h;exact ⟨o,rfl,by injection h⟩
   obtain ⟨qE,qA,qS⟩:=HA22.out.rm.av 3 HK0.out.2;have qA':AvW (Ve S) p3.1 p3.2 _ (EW 3) tD2.1 w22:=qA;have qS':yx (EW 3) tD2.1:=qS;have HGO:=za (Ou (EW 3) tD2.1 p3.1 p3.2 _ o _ w22 qE qA' Ev hown (qS'.own o hown));have hQ:(EW 3).p.Q=11:=rfl;rw [hQ,hoa] at HGO;have HS22:=za hs22;obtain ⟨g22,o22,c22,u22,e22,_,_,⟨hm1,_,_⟩,_⟩:=hs22.atO (k:=3) (by rw [Fw];decide);rw [Fw] at e22;subst e22;have hk10:tD2.2[3]'(by rw [Fw];decide)=tD2.2[3]?.getD (0,0, []):=by rw [List.getElem?_eq_getElem (by rw [Fw];decide)];rfl
   rw [hk10,Eu] at hm1;have HM1:=za hm1;obtain ⟨gd,od,cd',vm,va,vb,ed,_,_,⟨_,hd1,_⟩,_,sa,_⟩:=HA22.out.f.ds.atDl (k:=0) (by decide);injection ed with ed1 ed2 ed3
   subst ed1;obtain ⟨ga,oa,ca,u3,ea,_,_,hca,s3⟩:=sa.atS (k:=3) (by decide);have ea:va= .slice (some ⟨ga,oa,none⟩) 4 ca:=ea;subst ea;have s3':Sl (zh zo) (fun g=>g< B) w22 u3 (DL5.a[3]?.getD []):=s3;obtain ⟨RW,hRW⟩: ∃y,y=DL5.a[3]?.getD []:=⟨_,rfl⟩;have HRW:Hid (RW.length≤1000∧ ∀c∈RW,c.length≤1000):=za (by rw [hRW];decide);rw [←hRW] at HGO s3';obtain ⟨PT,hPT⟩: ∃y,y=RW.map (atP 11 0):=⟨_,rfl⟩;have HPL:Hid (PT.length≤100000):=za (by rw [hPT,List.length_map];have:=HRW.out.1;omega);rw [←hPT] at HGO;have HDA:Hid (∀W,w22.grownBy W none→Calls Tryz.prog 38 #[u3, .int .u64 0, .int .u64 11] W (zH zo (fun g=>W.heap.size≤g) W PT)):=za (fun W hW=>by
    rw [hPT];exact XD u3 RW 0 11 _ W (s3'.kept hW) ⟨by decide,by decide⟩ HRW.out.1 HRW.out.2)
   obtain ⟨_,⟨⟨qc,qd,qo,hqb,_⟩,_,_⟩,_⟩:=HA22.out.rm.av 0 HK0.out.1;have hqb2:Bk w22 p0.1 125 (zu (EW 0) qc qd qo p0.2 tB4.1.done):=hqb;rw [Ex] at hqb2;have HDN:Hid (∀W,w22.grownBy W none→Calls Tryz.prog 31 #[.pointer (some ⟨p0.1,0,none⟩)] W fun e w'=>e= .returned (.bool true)∧w'=W):=za (fun W hW=>Ui (EW 0) p0.1 p0.2 qc qd qo true W (hqb2.grown hW (by simp)));have HCE:Hid (∀W,w22.grownBy W none→W.cell? ⟨g22,o22+9,none⟩=some (.int .u8 10)∧W.cell? ⟨gd,od+1,none⟩=some (.slice (some ⟨ga,oa,none⟩) 4 ca)∧W.cell? ⟨ga,oa+3,none⟩=some u3∧ ∀o,W.cell? ⟨gp,o,none⟩=(p4.cells:Array Value)[o]?):=za (fun W hW=>⟨cell_kept hm1 hW (by simp),by have:=cell_kept hd1 hW (by simp);simpa using this,cell_kept hca hW (by simp),(HA22.out.f.par.grown hW (by simp)).prule⟩);have HGW:Hid (w.grownBy w22 none):=za HA22.out.f.g;obtain ⟨A3,n3,c3,e3⟩:=s3'.shape;subst e3;obtain ⟨nd',hnd⟩: ∃y,y= [DL5].length:=⟨_,rfl⟩;have hnd1:nd'=1:=hnd;subst hnd1;clear hs22 hA22 hm1 hca hd1 s3 s3' sa hqb hqb2 HTK qA qA' qS qS' hRW hPT hown hoa hk10 HS22 HM1 HA20 HB20 HA22 hQ hnd;go_wp2_with fail;refine HGO.out.mono ?_;rintro e w23 ⟨v1,v2,rfl,hs1,hs2,hg23⟩;have HS1:=za hs1;have HG23:=za hg23;obtain ⟨A1,n1,c1,e1⟩:=hs1.shape;subst e1;obtain ⟨A2,n2,c2,e2⟩:=hs2.shape;subst e2;clear hs1 hs2 hg23 HGO;go_upto_region 35 with (fail)
   have HRD:Hid (w22.grownBy w23.drew none):=za (HG23.out.trans (zb w23 1));have HPS:Hid (Sl zo (fun g=>w22.heap.size≤g) w23.drew (.slice A1 n1 c1) PT):=za (HS1.out.kept (zb w23 1));refine Zf 31 ?_;refine mP0 (.slice (some ⟨g22,o22,none⟩) 4 c22) ?_;refine mP1 (.int .i64 4) 0 146 ?_;refine mP1 (.bool true) 1 147 ?_;refine mP1 (.bool true) 2 148 ?_;refine Zh (.slice (some ⟨g22,o22,none⟩) 4 c22) 3 149 ?_;refine yI (.pointer (some ⟨g22,o22+9,none⟩)) 3 149 4 150 ?_;refine yI (.pointer (some ⟨g22,o22+9,none⟩)) 3 149 5 151 ?_;refine Yq (.int .u8 10) 3 149 6 152 (fun w' hw' K hK=> ?_) ?_
   ·obtain ⟨hm,hd1,hd2,hpp⟩:=HCE.out w' (HRD.out.trans hw');go_simp;exact hK _ rfl rfl
   refine yI (.bool true) 3 149 7 153 ?_;refine mP2 (.bool true) 3 149 8 154 ?_;refine mP1 (.bool true) 9 155 ?_;refine Zh (.bool true) 10 156 ?_;refine mP2 (.bool true) 10 156 11 157 ?_;refine mP1 (.bool true) 12 158 ?_;refine Zh (.slice A1 n1 c1) 13 159 ?_;refine Zh (.slice (some ⟨gd,od,none⟩) 1 cd') 13 159 ?_;refine yI (.pointer (some ⟨gd,od,none⟩)) 13 159 15 161 ?_;refine yI (.pointer (some ⟨gd,od+1,none⟩)) 13 159 16 162 ?_;refine Yq (.slice (some ⟨ga,oa,none⟩) 4 ca) 13 159 17 163 (fun w' hw' K hK=> ?_) ?_
   ·obtain ⟨hm,hd1,hd2,hpp⟩:=HCE.out w' (HRD.out.trans hw');go_simp;exact hK _ rfl rfl
   refine yI (.pointer (some ⟨ga,oa+3,none⟩)) 13 159 18 164 ?_;refine Yq (.slice A3 n3 c3) 13 159 19 165 (fun w' hw' K hK=> ?_) ?_
   ·obtain ⟨hm,hd1,hd2,hpp⟩:=HCE.out w' (HRD.out.trans hw');go_simp;exact hK _ rfl rfl
   refine Zh (.pointer (some ⟨gp,1,none⟩)) 13 159 ?_;refine Yq (.int .u64 11) 13 159 21 167 (fun w' hw' K hK=> ?_) ?_
   ·obtain ⟨hm,hd1,hd2,hpp⟩:=HCE.out w' (HRD.out.trans hw');go_simp;exact hK _ rfl rfl
   refine Ei (Pv.sl zo (fun g=>w22.heap.size≤g) PT) 13 159 20 166 22 168 (fun w' hw' K hK=> ?_) ?_
   ·go_simp;refine (HDA.out w' (HRD.out.trans hw')).mono ?_;rintro e w3' ⟨v,rfl,hs3,hg3⟩;exact hK _ _ rfl (hs3.more fun g _ hg=>Nat.le_trans (HRD.out.trans hw').size hg) hg3
   refine mS (.bool true) [(13,159),(14,160),(23,169)] (fun w' hw'=>pQ (pQ (fun x169 h169=>kE fun K hK=> ?_))) ?_
   ·have h169:Sl zo (fun g=>w22.heap.size≤g) w' x169 PT:=h169;obtain ⟨A169,n169,c169,e169⟩:=h169.shape;subst e169;go_simp;refine (RG _ _ PT _ _ w' (HPS.out.kept hw') h169 HPL.out).mono ?_;rintro e w3' ⟨rfl,hg3⟩;exact hK _ _ rfl rfl hg3
   refine mP2 (.bool true) 13 159 24 170 ?_;refine mP1 (.bool true) 25 171 ?_;refine Zh (.pointer (some ⟨p0.1,0,none⟩)) 26 172 ?_;refine Yq (.bool true) 26 172 27 173 (fun w' hw' K hK=> ?_) ?_
   ·go_simp;refine (HDN.out w' (HRD.out.trans hw')).mono ?_;rintro e w3' ⟨rfl,ew⟩;subst w3';exact hK _ rfl rfl
   refine mP2 (.bool true) 26 172 28 174 ?_;refine mP1 (.bool true) 29 175 ?_;intro w24 hw24
   iterate 30 (refine pD ?_;intro _)
   intro y30 k30;have e30:y30= .bool true:=k30;subst e30;have HFG:Hid (w.grownBy w24 none):=za (HGW.out.trans (HRD.out.trans hw24));clear k30 hw24;refine wpList_nil ?_;simp only [Act.put,sAa,sAb,sAc];go_wp2_with fail;go_ret;exact ⟨rfl,HFG.out⟩
  ·have hi4:i< 4:=by omega
   have hiI:(i:Int)+1≤4:=by omega
   have hi0:(0:Int)≤(i:Int):=Int.natCast_nonneg i;obtain ⟨S,L,hl,hm⟩:=HX.out;have HE:=za (VT i hi4);have HNW:=za (Vl (EW i) (.slice Ac nc cc) _ wr (xN false) (show I64 2 from ⟨by decide,by decide⟩) (show I64 ((i:Int)+1) from ⟨by omega,by omega⟩) hm.f.cm (HTB.out.kept hm.f.g));have hp:=hm.f.par.prule;have HL:=za hl;have HM:=za hm;clear HX hl hm;go_wp2_with fail;refine HNW.out.mono ?_;rintro e w4 ⟨hg4,hnew⟩;rw [To HE.out,if_pos rfl] at hnew;obtain ⟨gA,gM,he,hA,hM,hav⟩:=hnew;subst he;have HM4:=za (HM.out.new hg4 hA hM (by rw [HL.out];exact HE.out) (by rw [HL.out];exact hav) (by rw [HL.out];exact PP i));have HA54:Hid (Acc Kx B 53 (fun _=>True) w4 u5 (L.map (·.1))):=za (HM4.out.a5.more fun _ _ _=>trivial);have HSZ:Hid (B≤w4.heap.size):=za HM4.out.f.sz;have HLB:Hid (((L.map (·.1)).length+1)*8≤140737488355328):=za (by rw [List.length_map,HL.out];omega);obtain ⟨xs,hxs⟩: ∃y,y=L.map (·.1):=⟨_,rfl⟩;have HXS:=za hxs;rw [←hxs] at HM4 HA54 HLB;clear hp hg4 hav hA hM hxs;go_wp2_with (at_builtin;refine zQ rfl (.tmp 42) (.tmp 44) rfl (E:=Kx) (y:=gA) Fa HA54.out rfl rfl rfl HLB.out HSZ.out (fun _ _=>trivial) ?_);intro v5 w5 hacc5 hg5 hm5;obtain ⟨S5,hM5⟩:=HM4.out.push5 hacc5 hg5 hm5;have HM5:=za hM5;clear hacc5 hg5 hm5 hM5 HM4 HM HNW HA54 HLB;have hp5:=HM5.out.f.par.prule;rcases Nat.lt_or_ge i 3 with hi3|hi3
   ·have hi3I:(i:Int)+1< 4:=by omega
    have HNU:=za (Xy p4 7 0 1 (.slice none 0 0) (.slice Ad nd cd) [] [DL5] ((i:Int)+1) (fun _=>False) _ w5 (xN false) ⟨by decide,by decide⟩ ⟨by decide,by decide⟩ ⟨by decide,by decide⟩ ⟨by decide,by decide⟩ (Sl.nil _ _ _) HM5.out.f.ds (fun d hd=>by rw [List.mem_singleton.1 hd];exact LG) (by decide) ⟨by omega,hiI⟩);go_wp2_with fail;refine HNU.out.mono ?_;rintro e w6 ⟨v6,rfl,hs6,hg6⟩;have hnl:(nD ((i:Int)+1)).length≤100000:=FT i hi3;have hs6':Sl ze (fun _=>True) w6 v6 (nD ((i:Int)+1)):=hs6.more fun _ _ _=>trivial
    have HTK:=za ((HM5.out.kept hg6).take (by rw [HL.out] at *;exact ym _ (by omega)) (show U8 7 from ⟨by decide,by decide⟩) (show I64 0 from ⟨by decide,by decide⟩) hs6' hnl (st:=ASt.start) (by rw [HL.out];exact PP i) (r:=tA ((i:Int)+1)) (by rw [HL.out];rfl));obtain ⟨A6,n6,c6,rfl⟩:=hs6.shape;clear hs6 hs6' hg6 hp5 HM5 HNU hnl;go_wp2_with fail;refine HTK.out.mono ?_;rintro e w7 ⟨v7,rfl,hs7,hM7⟩;have hok:=IH i hi3;obtain ⟨r,hr⟩: ∃y,y=(tA ((i:Int)+1)).2:=⟨_,rfl⟩;rw [←hr] at hs7 hok;have HRE:=za hr;have HM7:=za hM7;have HS7:=za hs7;have HTO:=za (YO v7 r 8 4 _ w7 hs7 (by rw [hok.1];decide));obtain ⟨A7,c7,e7,_,_⟩:=hs7.form;rw [hok.1] at e7;have HOK:=za hok;subst e7;clear hs7 hM7 hr HTK hok;go_wp2_with fail;refine HTO.out.mono ?_;rintro e w8 ⟨v8,rfl,ew,hs8⟩;subst w8;have hpos:=List.length_pos_iff.2 HOK.out.2;obtain ⟨g8,o8,c8,e8,_⟩:=hs8.atU hpos;subst e8;clear hs8 HTO;have HRP:Hid ((zh YC).rep (fun g=>((∀k (h:k< (L++ [(gA,gM)]).length),g≠(L++ [(gA,gM)])[k].1∧g≠(L++ [(gA,gM)])[k].2)∧v5.ownBlock≠some g)∧some g≠u6.ownBlock) w7 [.slice A7 3 c7] r):=za ⟨_,rfl,HS7.out.more fun g _ hg=>⟨⟨fun k hk=>⟨fun e=>hg (by rw [e];exact (HM7.out.rm.sub k hk).1),fun e=>hg (by rw [e];exact (HM7.out.rm.sub k hk).2)⟩,fun e=>hg (HM7.out.o5 g e)⟩,fun e=>hg (HM7.out.o6 g e.symm)⟩⟩;have HA6:=za HM7.out.a6;have HLB:Hid (((IG i).length+1)*24≤140737488355328):=za (by unfold IG;rw [List.length_map,List.length_range];omega);have HSZ7:Hid (B≤w7.heap.size):=za HM7.out.f.sz;have HN7:Hid (∀g,w7.heap.size≤g→(∀k (h:k< (L++ [(gA,gM)]).length),g≠(L++ [(gA,gM)])[k].1∧g≠(L++ [(gA,gM)])[k].2)∧v5.ownBlock≠some g):=za (fun g hg=>by
     have hf:=HM7.out.rm.free hg;exact ⟨fun k hk=>⟨fun e=>hf (by rw [e];exact (HM7.out.rm.sub k hk).1),fun e=>hf (by rw [e];exact (HM7.out.rm.sub k hk).2)⟩,fun e=>hf (HM7.out.o5 g e)⟩)
    obtain ⟨oj,hoj⟩: ∃y,y=IG i:=⟨_,rfl⟩;have HOJ:=za hoj;rw [←hoj] at HA6 HLB HM7;clear hoj;have hen:(binOp .eql 31 (.slice (some ⟨g8,o8,none⟩) (toI 8 4 r).length c8) (.slice none 0 0)).run Tryz.prog w7= .ok (.bool false) w7:=Og w7 (some ⟨g8,o8,none⟩) _ _;go_wp2_with (at_builtin;refine zQ rfl (.tmp 63) (.tmp 65) rfl (E:=zh YC) (y:=r) Gd HA6.out rfl rfl HRP.out HLB.out HSZ7.out HN7.out ?_);intro v9 w9 hacc9 hg9 hm9;obtain ⟨S9,hM9⟩:=HM7.out.push6 (hacc9.more fun g _ hX=>⟨fun k hk=>hX.1 k (by simpa using hk),hX.2⟩) hg9 hm9;have HFIN:Hid (AwL w gp B (.slice Ad nd cd) (.slice Ac nc cc) (i+1) v5 v9 w9):=za (by
     refine ⟨S9,L++ [(gA,gM)],by rw [List.length_append,HL.out];rfl, ?_⟩;rw [MP i hi3, ←HRE.out, ←HOJ.out,List.map_append, ←HXS.out,Jg i hi3,show 3*(i+1)=3*i+3 from rfl, ←HL.out];rw [←HL.out] at hM9;exact hM9)
    clear hacc9 hg9 hm9 hM9;go_wp2_with fail;go_roundg (gk - 1)
    case measure=>omega
    case rel=>exact ⟨i+1,by omega,by go_num,HFIN⟩
   ·obtain rfl:i=3:=by omega
    have HFIN:Hid (AwL w gp B (.slice Ad nd cd) (.slice Ac nc cc) 4 v5 u6 w5):=za (by
     refine ⟨S5,L++ [(gA,gM)],by rw [List.length_append,HL.out];rfl, ?_⟩;have h:=HM5.out;rw [List.map_append, ←HXS.out];have e1:stJ 4=stJ 3:=by
      funext k
      unfold stJ;by_cases hk:k< 3
      ·rw [if_pos ⟨by omega,hk⟩,if_pos ⟨hk,hk⟩]
      ·rw [if_neg (fun e=>hk e.2),if_neg (fun e=>hk e.2)]
     rw [e1];exact ⟨h.rm.up (by decide),h.f,h.bd,h.a5,h.o5,h.a6,h.o6⟩)
    clear hp5 HM5;go_wp2_with fail;go_roundg (gk - 1)
    case measure=>omega
    case rel=>exact ⟨4,by omega,by go_num,HFIN⟩
end
section
open Go Go.RowKit Go.Shelf Go.Maps
theorem ZZ(v1 v2:Value)(xs:List Int)(X Y:Nat→Prop)(w:World)(h1:Sl ze X w v1 xs)(h2:Sl ze Y w v2 xs):
  Calls Tryz.prog 25 #[v1,v2] w (TS w (.bool true)):=by
 have H1:=za h1;have H2:=za h2;obtain ⟨A1,c1,rfl,hc1,hc2⟩:=h1.form;obtain ⟨A2,c2,rfl,_,_⟩:=h2.form;clear h1 h2;have HST:Hid (∃n,w=w.drewN n):=za ⟨0,rfl⟩;go_enter Tryz.func25,Tryz.ntmps25;go_wp2_with fail;go_loopg [5] xs.length (fun g s5 wx=> ∃j:Nat,j+g=xs.length∧s5= .int .i64 j∧Hid (∃n,wx=w.drewN n))
 case atStart=>exact ⟨0,by omega,rfl,HST⟩
 case round=>
  obtain ⟨j,hj,rfl,HX⟩:=hrel;obtain ⟨n0,rfl⟩:=HX.out;cases gk with
  |zero=>
   obtain rfl:j=xs.length:=by omega
   clear HX HST;go_wp2;go_ret;exact ⟨rfl,_,rfl⟩
  |succ m=>
   have hjn:(j:Int)< (xs.length:Int):=by omega
   have hj0:(0:Int)≤(j:Int):=by omega
   have hjN:j< xs.length:=by omega
   obtain ⟨g1,o1,c1',e1,_,_,a1,u1⟩:=H1.out.atU hjN;injection e1 with e11 e12 e13
   subst e11 e13;obtain ⟨g2,o2,c2',e2,_,_,a2,_⟩:=H2.out.atU hjN;injection e2 with e21 e22 e23
   subst e21 e23;clear HX HST e12 e22;generalize xs[j]=y at *;go_wp2_with fail;go_quiet (fail);go_wp2_with fail;go_roundg m
   case measure=>omega
   case rel=>exact ⟨j+1,by omega,by go_num,za ⟨_,rfl⟩⟩
theorem Uu(v1 v2:Value)(xs:List (Int×List Int))(X Y:Nat→Prop)(w:World)(h1:Sl yT X w v1 xs)(h2:Sl yT Y w v2 xs):
  Calls Tryz.prog 65 #[v1,v2] w (TS w (.bool true)):=by
 have H1:=za h1;have H2:=za h2;obtain ⟨A1,c1,rfl,hc1,hc2⟩:=h1.form;obtain ⟨A2,c2,rfl,_,_⟩:=h2.form;clear h1 h2;have HST:Hid (∃n,w=w.drewN n):=za ⟨0,rfl⟩;go_enter Tryz.func65,Tryz.ntmps65;go_wp2_with fail;go_loopg [5] xs.length (fun g s5 wx=> ∃j:Nat,j+g=xs.length∧s5= .int .i64 j∧Hid (∃n,wx=w.drewN n))
 case atStart=>exact ⟨0,by omega,rfl,HST⟩
 case round=>
  obtain ⟨j,hj,rfl,HX⟩:=hrel;obtain ⟨n0,rfl⟩:=HX.out;cases gk with
  |zero=>
   obtain rfl:j=xs.length:=by omega
   clear HX HST;go_wp2;go_ret;exact ⟨rfl,_,rfl⟩
  |succ m=>
   have hjn:(j:Int)< (xs.length:Int):=by omega
   have hj0:(0:Int)≤(j:Int):=by omega
   have hjN:j< xs.length:=by omega
   obtain ⟨g1,o1,c1',t1,e1,_,_,a1,b1,_,k1⟩:=H1.out.atT hjN;injection e1 with e11 e12 e13
   subst e11 e13;obtain ⟨g2,o2,c2',t2,e2,_,_,a2,b2,_,k2⟩:=H2.out.atT hjN;injection e2 with e21 e22 e23
   subst e21 e23;have HN:=za (fun k=>ZZ t1 t2 xs[j].2 X Y (w.drewN k) (k1.kept (zf (World.grownBy.refl w none) k)) (k2.kept (zf (World.grownBy.refl w none) k)));obtain ⟨B1,d1,rfl,_,_⟩:=k1.form;obtain ⟨B2,d2,rfl,_,_⟩:=k2.form;clear HX HST e12 e22 k1 k2;generalize xs[j].2.length=n1 at *;generalize xs[j].1=y at *;go_wp2_with fail;go_quiet ((go_at_call 25;exact Rv (HN.out _)));go_wp2_with fail;go_roundg m
   case measure=>omega
   case rel=>exact ⟨j+1,by omega,by go_num,za ⟨_,rfl⟩⟩
attribute [local go_sem] Oper.semAt_some
theorem Yz(v1 v2:Value)(s:SSt)(X Y:Nat→Prop)(w:World)(h1:xT X w v1 s)(h2:xT Y w v2 s):
  Calls Tryz.prog 28 #[v1,v2] w fun e w'=>e= .returned (.bool true)∧w.grownBy w' none:=by
 obtain ⟨a1,a2,a3,a4,a5,rfl,p1,p2,p3,p4',p5⟩:=h1;obtain ⟨b1,b2,b3,b4,b5,rfl,q1,q2,q3,q4,q5⟩:=h2;obtain ⟨w0,hw0⟩: ∃y,y=(w.alloc (.cells #[.int .i64 s.dealer, .int .i64 s.me,a1,a2,a3,a4,a5, .bool s.done] 78)).alloc (.cells #[.int .i64 s.dealer, .int .i64 s.me,b1,b2,b3,b4,b5, .bool s.done] 78):=⟨_,rfl⟩;have hg0:w.grownBy w0 none:=by rw [hw0];exact (gAl _ _ none).trans (gAl _ _ none)
 have HG0:=za hg0;have HB1:Hid (Bk w0 w.heap.size 78 #[.int .i64 s.dealer, .int .i64 s.me,a1,a2,a3,a4,a5, .bool s.done]):=za (by rw [hw0];exact (Bk.new w _ _).alloc _);have HB2:Hid (Bk w0 (w.heap.size+1) 78 #[.int .i64 s.dealer, .int .i64 s.me,b1,b2,b3,b4,b5, .bool s.done]):=za (by
  rw [hw0];have h:=Bk.new (w.alloc (.cells #[.int .i64 s.dealer, .int .i64 s.me,a1,a2,a3,a4,a5, .bool s.done] 78)) 78 #[.int .i64 s.dealer, .int .i64 s.me,b1,b2,b3,b4,b5, .bool s.done];rw [World.size_alloc] at h;exact h)
 have HL:=za (fun W (hW:w0.grownBy W none)=>JO a1 b1 s.coms X Y W (p1.kept (hg0.trans hW)) (q1.kept (hg0.trans hW)));have HND:=za (fun W (hW:w0.grownBy W none)=>ZZ a2 b2 s.deal X Y W (p2.kept (hg0.trans hW)) (q2.kept (hg0.trans hW)));have HTE:=za (fun W (hW:w0.grownBy W none)=>Uu a3 b3 s.echos X Y W (p3.kept (hg0.trans hW)) (q3.kept (hg0.trans hW)));have HTR:=za (fun W (hW:w0.grownBy W none)=>Uu a4 b4 s.readies X Y W (p4'.kept (hg0.trans hW)) (q4.kept (hg0.trans hW)));have HNO:=za (fun W (hW:w0.grownBy W none)=>ZZ a5 b5 s.own X Y W (p5.kept (hg0.trans hW)) (q5.kept (hg0.trans hW)));obtain ⟨A1,n1,c1,rfl⟩:=p1.shape;obtain ⟨A2,n2,c2,rfl⟩:=p2.shape;obtain ⟨A3,n3,c3,rfl⟩:=p3.shape;obtain ⟨A4,n4,c4,rfl⟩:=p4'.shape;obtain ⟨A5,n5,c5,rfl⟩:=p5.shape;obtain ⟨B1,m1,d1,rfl⟩:=q1.shape;obtain ⟨B2,m2,d2,rfl⟩:=q2.shape;obtain ⟨B3,m3,d3,rfl⟩:=q3.shape;obtain ⟨B4,m4,d4,rfl⟩:=q4.shape;obtain ⟨B5,m5,d5,rfl⟩:=q5.shape;obtain ⟨dn,hdn⟩: ∃y,y=s.done:=⟨_,rfl⟩;obtain ⟨de,hde⟩: ∃y,y=s.dealer:=⟨_,rfl⟩;obtain ⟨me,hme⟩: ∃y,y=s.me:=⟨_,rfl⟩;rw [←hdn, ←hde, ←hme] at HB1 HB2 hw0 ⊢;have hr1:=HB1.out.rule;have hr2:=HB2.out.rule;have HW0:=za hw0;rw [hw0] at hr1 hr2;have HDB:Hid ((dn==dn)=true):=za (by simp);have hdb:=HDB.out;clear p1 p2 p3 p4' p5 q1 q2 q3 q4 q5 hw0 hg0 hdn hde hme;go_enter Tryz.func28,Tryz.ntmps28;go_wp2_with fail;rw [←HW0.out] at hr1 hr2 ⊢;have hg1:w0.grownBy w0 none:=World.grownBy.refl _ _;refine (HL.out w0 hg1).mono ?_;rintro e x2 ⟨rfl,n2',ew2⟩;have hg2:w0.grownBy x2 none:=hg1.trans (by rw [ew2];exact zb _ _)
 clear hr1 hr2 ew2 hg1;have hr1:=(HB1.out.grown hg2 (by simp)).rule;have hr2:=(HB2.out.grown hg2 (by simp)).rule;go_wp2_with fail;refine (HND.out x2 hg2).mono ?_;rintro e x3 ⟨rfl,n3',ew3⟩;have hg3:w0.grownBy x3 none:=hg2.trans (by rw [ew3];exact zb _ _);clear hr1 hr2 ew3 hg2;have hr1:=(HB1.out.grown hg3 (by simp)).rule;have hr2:=(HB2.out.grown hg3 (by simp)).rule;go_wp2_with fail;refine (HTE.out x3 hg3).mono ?_;rintro e x4 ⟨rfl,n4',ew4⟩;have hg4:w0.grownBy x4 none:=hg3.trans (by rw [ew4];exact zb _ _);clear hr1 hr2 ew4 hg3;have hr1:=(HB1.out.grown hg4 (by simp)).rule;have hr2:=(HB2.out.grown hg4 (by simp)).rule;go_wp2_with fail;refine (HTR.out x4 hg4).mono ?_;rintro e x5 ⟨rfl,n5',ew5⟩;have hg5:w0.grownBy x5 none:=hg4.trans (by rw [ew5];exact zb _ _);clear hr1 hr2 ew5 hg4;have hr1:=(HB1.out.grown hg5 (by simp)).rule;have hr2:=(HB2.out.grown hg5 (by simp)).rule;go_wp2_with fail;refine (HNO.out x5 hg5).mono ?_;rintro e x6 ⟨rfl,n6',ew6⟩;have hg6:w0.grownBy x6 none:=hg5.trans (by rw [ew6];exact zb _ _);clear hr1 hr2 ew6 hg5;have hr1:=(HB1.out.grown hg6 (by simp)).rule;have hr2:=(HB2.out.grown hg6 (by simp)).rule;go_wp2_with fail;go_ret;exact ⟨rfl,HG0.out.trans hg6⟩
end
section
open Go Go.RowKit Go.Shelf Go.Maps
theorem Nk:(Tryz.prog.info? 137).map (fun i=>(i.zero,i.size,i.bytes))=some (some (.agg #[.int .i64 0, .slice none 0 0]),2,32):=by kernel_rfl
theorem Oh:zA Tryz.prog 76 137 2 32:=zA.mk' (by decide) Tryz.underlying76 Nk rfl
theorem Uq{fn:Func}{W:World}{B:Nat}{a b c d e f g h:Value}(hr:fn.results= #[.cell 2 78])(tmps:Array Value)(h2:tmps.getD 2 undef= .pointer (some ⟨B,0,none⟩))(hb:Bk W B 78 #[a,b,c,d,e,f,g,h]):(results fn tmps).run Tryz.prog W= .ok (.agg #[a,b,c,d,e,f,g,h]) W:=by
 have r1:=run_loadVar_row (P:=Tryz.prog) W B 78 78 #[a,b,c,d,e,f,g,h] (0,0) _ hb Tryz.underlying78 rfl (by kernel_rfl);have h2':tmps[2]?.getD undef= .pointer (some ⟨B,0,none⟩):=by simpa using h2
 simp [results,hr,h2',asAddr,r1]
theorem yE.sl{α:Type}{E:Enc α}{X:Nat→Prop}{s:Option Nat}{b:Nat}{w w':World}{v:Value}{xs:List α}(h:yE s (some b) w w')(hs: ∀g,X g→some g≠s)(ht: ∀g,X g→g≠b)(k:Sl E X w v xs):Sl E X w' v xs:=by
 cases s with
 |none=>
  have hg:w.grownBy w' (some b):=⟨h.os,h.tape,h.output,h.size,fun i hi hne=>h.block i hi (by simp) hne⟩;exact k.keep hg (fun g hg e=>by injection e with e;exact ht g hg e)
 |some a=>
  have hg:zj a b w w':=⟨h.os,h.tape,h.output,h.size,fun i hi e1 e2=>h.block i hi (by simpa using e1) (by simpa using e2)⟩;exact k.keep2 hg (fun hX=>hs a hX rfl) (fun hX=>ht b hX rfl)
theorem Vu{o:Oper}{a:Act}{K:Act→World→Prop}{Q:Exit→Act→World→Prop}{w:World}(p v:Operand)(ho:o.op= .store 76 p v)(hd:o.dst=none){g k:Nat}{u c0:Value}(hp:a.eval p= .pointer (some ⟨g,k,none⟩))(hv:a.eval v=u)(hu: ∃A n c,u= .slice A n c)(hc:w.cell? ⟨g,k,none⟩=some c0)(hf:w.frozen? ⟨g,k,none⟩=false)(h:K a (w.setCell ⟨g,k,none⟩ u)):o.wp Tryz.prog a w K Q:=by
 obtain ⟨A,n,c,rfl⟩:=hu;unfold Oper.wp execOp;simp only [ho];rw [hp,hv];clear hp hv ho;go_simp;exact h
abbrev Jo:Array Value:= #[.int .i64 0, .int .i64 0, .slice none 0 0, .slice none 0 0, .slice none 0 0, .slice none 0 0, .slice none 0 0, .bool false]
attribute [local go_sem] Oper.semAt_some
theorem YB(v:Value)(s:SSt)(X:Nat→Prop)(w:World)(h:xT X w v s)(hl4:s.echos.length≤100000)(hl5:s.readies.length≤100000):
  Calls Tryz.prog 29 #[v] w fun e w'=> ∃v',e= .returned v'∧xT (fun g=>X g∨w.heap.size≤g) w' v' s∧w.grownBy w' none:=by
 obtain ⟨vc,vd,ve,vr,vo,rfl,s1,s2,s3,s4,s5⟩:=h;have HS:Hid (Sl (zh ze) X w vc s.coms∧Sl ze X w vd s.deal∧Sl ze X w vo s.own):=za ⟨s1,s2,s5⟩;have s3b:Sl yT (fun g=>X g∧g< w.heap.size) w ve s.echos:=s3.more fun g h1 h2=>⟨h2,h1⟩
 have s4b:Sl yT (fun g=>X g∧g< w.heap.size) w vr s.readies:=s4.more fun g h1 h2=>⟨h2,h1⟩
 have HE4:=za s3b;have HE5:=za s4b;have HL4:=za hl4;have HL5:=za hl5;obtain ⟨Ac,nc,cc,rfl⟩:=s1.shape;obtain ⟨Ad,nd,cd,rfl⟩:=s2.shape;obtain ⟨Ae,ce,rfl,_,_⟩:=s3.form;obtain ⟨Ar,cr,rfl,_,_⟩:=s4.form;obtain ⟨Ao,no,co,rfl⟩:=s5.shape;obtain ⟨L4,hL4⟩: ∃y,y=s.echos.length:=⟨_,rfl⟩;obtain ⟨L5,hL5⟩: ∃y,y=s.readies.length:=⟨_,rfl⟩;have HQ4:=za hL4;have HQ5:=za hL5;have hb4:(L4:Int)≤100000:=by omega
 have hb5:(L5:Int)≤100000:=by omega
 rw [←hL4] at HE4 ⊢;rw [←hL5] at HE5 ⊢;obtain ⟨dn,hdn⟩: ∃y,y=s.done:=⟨_,rfl⟩;obtain ⟨de,hde⟩: ∃y,y=s.dealer:=⟨_,rfl⟩;obtain ⟨me,hme⟩: ∃y,y=s.me:=⟨_,rfl⟩;have HSC:Hid (dn=s.done∧de=s.dealer∧me=s.me):=za ⟨hdn,hde,hme⟩;rw [←hdn, ←hde, ←hme];obtain ⟨W0,hW0⟩: ∃y,y=((w.alloc (.cells #[.int .i64 de, .int .i64 me, .slice Ac nc cc, .slice Ad nd cd, .slice Ae L4 ce, .slice Ar L5 cr, .slice Ao no co, .bool dn] 82)).alloc (.cells Jo 78)).alloc (.cells #[.int .i64 de, .int .i64 me, .slice Ac nc cc, .slice Ad nd cd, .slice none 0 0, .slice none 0 0, .slice Ao no co, .bool dn] 78):=⟨_,rfl⟩;have HG0:Hid (w.grownBy W0 none):=za (by rw [hW0];exact ((gAl _ _ none).trans (gAl _ _ none)).trans (gAl _ _ none));have HSZ:Hid (W0.heap.size=w.heap.size+3):=za (by rw [hW0];simp);have HB1:Hid (Bk W0 w.heap.size 82 #[.int .i64 de, .int .i64 me, .slice Ac nc cc, .slice Ad nd cd, .slice Ae L4 ce, .slice Ar L5 cr, .slice Ao no co, .bool dn]):=za (by rw [hW0];exact ((Bk.new w _ _).alloc _).alloc _);have HB2:Hid (Bk W0 (w.heap.size+1) 78 Jo):=za (by
  rw [hW0];have h:=Bk.new (w.alloc (.cells #[.int .i64 de, .int .i64 me, .slice Ac nc cc, .slice Ad nd cd, .slice Ae L4 ce, .slice Ar L5 cr, .slice Ao no co, .bool dn] 82)) 78 Jo;rw [World.size_alloc] at h;exact h.alloc _)
 have HB3:Hid (Bk W0 (w.heap.size+1+1) 78 #[.int .i64 de, .int .i64 me, .slice Ac nc cc, .slice Ad nd cd, .slice none 0 0, .slice none 0 0, .slice Ao no co, .bool dn]):=za (by
  rw [hW0];have h:=Bk.new ((w.alloc (.cells #[.int .i64 de, .int .i64 me, .slice Ac nc cc, .slice Ad nd cd, .slice Ae L4 ce, .slice Ar L5 cr, .slice Ao no co, .bool dn] 82)).alloc (.cells Jo 78)) 78 #[.int .i64 de, .int .i64 me, .slice Ac nc cc, .slice Ad nd cd, .slice none 0 0, .slice none 0 0, .slice Ao no co, .bool dn];rw [World.size_alloc,World.size_alloc] at h;exact h)
 have HW0:=za hW0;clear s1 s2 s3 s3b s4b s4 s5 hl4 hl5 hL4 hL5 hdn hde hme hW0;go_enter Tryz.func29,Tryz.ntmps29;go_upto_region 2 with (fail)
 rw [←HW0.out];have hr1:=HB1.out.rule;go_wp2_with fail;go_loopg [4] L4 (fun g s4 wx=> ∃j:Nat,j+g=L4∧s4= .int .i64 j∧Hid (∃a,Bk wx (w.heap.size+1+1) 78 #[.int .i64 de, .int .i64 me, .slice Ac nc cc, .slice Ad nd cd,a, .slice none 0 0, .slice Ao no co, .bool dn]∧Acc yT W0.heap.size 137 (fun g=>(X g∧g< w.heap.size)∨W0.heap.size≤g) wx a (s.echos.take j)∧W0.grownBy wx (some (w.heap.size+1+1))))
 case atStart=>exact ⟨0,by omega,rfl,za ⟨.slice none 0 0,HB3.out,Acc.nil _ _ _ _ _,World.grownBy.refl _ _⟩⟩
 case round=>
  rename World=>wr
  obtain ⟨j,hj,rfl,HX⟩:=hrel;rcases Nat.eq_zero_or_pos gk with hg0|hg0
  ·obtain rfl:j=L4:=by omega
   obtain ⟨a4,k1,k2,k3⟩:=HX.out;rw [List.take_of_length_le (by rw [←HQ4.out];exact Nat.le_refl _)] at k2;have HA4:=za k2.sl;obtain ⟨W1,hW1⟩: ∃y,y=wr:=⟨_,rfl⟩;have HG3w:=za k3;have HG1:Hid (w.grownBy wr none):=za (HG0.out.andThen k3 (fun b e=> .inl (by injection e with e;omega)));have HBO1:Hid (w.heap.size+1+1< wr.heap.size):=za (by have:=k3.size;have:=HSZ.out;omega);have HB1b:=za (HB1.out.grown k3 (fun e=>by injection e with e;omega));have HB2b:=za (HB2.out.grown k3 (fun e=>by injection e with e;omega));have HB3b:=za k1;have hr1b:=HB1b.out.rule;obtain ⟨A4,n4,c4,e4⟩:=k2.sl.shape;subst e4;clear HX k1 k2 k3 hg0 hr1;have HA4b:Hid (Sl yT (fun g=>((X g∧g< w.heap.size)∨W0.heap.size≤g)∧g< W1.heap.size) W1 (.slice A4 n4 c4) s.echos):=za (by rw [hW1];exact HA4.out.more fun g h1 h2=>⟨h2,h1⟩);rw [←hW1] at HG1 HBO1 HB1b HB2b HB3b hr1b ⊢;have HSW:Hid (w.heap.size+3≤W1.heap.size):=za (by rw [hW1];have:=HG3w.out.size;have:=HSZ.out;omega);obtain ⟨a4,ha4⟩: ∃y:Value,y= .slice A4 n4 c4:=⟨_,rfl⟩;have HA4e:=za ha4;rw [←ha4] at HB3b HA4b;clear hW1 HA4 ha4;go_wp2_with fail;go_loopg [5] L5 (fun g s5 wx=> ∃j:Nat,j+g=L5∧s5= .int .i64 j∧Hid (∃a,Bk wx (w.heap.size+1+1) 78 #[.int .i64 de, .int .i64 me, .slice Ac nc cc, .slice Ad nd cd,a4,a, .slice Ao no co, .bool dn]∧Acc yT W1.heap.size 137 (fun g=>(X g∧g< w.heap.size)∨W1.heap.size≤g) wx a (s.readies.take j)∧W1.grownBy wx (some (w.heap.size+1+1))))
   case atStart=>exact ⟨0,by omega,rfl,za ⟨.slice none 0 0,HB3b.out,Acc.nil _ _ _ _ _,World.grownBy.refl _ _⟩⟩
   case round=>
    rename World=>wr
    obtain ⟨j,hj,rfl,HX⟩:=hrel;rcases Nat.eq_zero_or_pos gk with hg0|hg0
    ·obtain rfl:j=L5:=by omega
     obtain ⟨a5,k1,k2,k3⟩:=HX.out;rw [List.take_of_length_le (by rw [←HQ5.out];exact Nat.le_refl _)] at k2;have HA5:=za k2.sl;have HK3:=za k3;have HB3c:=za k1;have hr1c:=(HB1b.out.grown k3 (fun e=>by injection e with e;omega)).rule;have HB2c:=za (HB2b.out.grown k3 (fun e=>by injection e with e;omega));obtain ⟨A5,n5,c5,e5⟩:=k2.sl.shape;subst e5;have ha4:=HA4e.out;subst ha4;have hr3:=HB3c.out.rule;have f2:=HB2c.out.free;have h2:=HB2c.out.rule;obtain ⟨wF,hwF⟩: ∃y,y=(((((((wr.setCell ⟨w.heap.size+1,0,none⟩ (.int .i64 de)).setCell ⟨w.heap.size+1,1,none⟩ (.int .i64 me)).setCell ⟨w.heap.size+1,2,none⟩ (.slice Ac nc cc)).setCell ⟨w.heap.size+1,3,none⟩ (.slice Ad nd cd)).setCell ⟨w.heap.size+1,4,none⟩ (.slice A4 n4 c4)).setCell ⟨w.heap.size+1,5,none⟩ (.slice A5 n5 c5)).setCell ⟨w.heap.size+1,6,none⟩ (.slice Ao no co)).setCell ⟨w.heap.size+1,7,none⟩ (.bool dn):=⟨_,rfl⟩;have HBF:Hid (Bk wF (w.heap.size+1) 78 #[.int .i64 de, .int .i64 me, .slice Ac nc cc, .slice Ad nd cd, .slice A4 n4 c4, .slice A5 n5 c5, .slice Ao no co, .bool dn]):=za (by rw [hwF];exact ((((((((HB2c.out.set 0 _).set 1 _).set 2 _).set 3 _).set 4 _).set 5 _).set 6 _).set 7 _));have hgs:wr.grownBy wF (some (w.heap.size+1)):=by
      rw [hwF];exact (((((((zi _ _ 0 _).trans (zi _ _ 1 _)).trans (zi _ _ 2 _)).trans (zi _ _ 3 _)).trans (zi _ _ 4 _)).trans (zi _ _ 5 _)).trans (zi _ _ 6 _)).trans (zi _ _ 7 _)
     have hgw:w.grownBy wr none:=HG1.out.andThen k3 (fun b e=> .inl (by injection e with e;omega));have HGF:Hid (w.grownBy wF none):=za (zB hgw hgs (fun b e=>by injection e with e;omega));have HFS:Hid (xT (fun g=>X g∨w.heap.size≤g) wF (.agg #[.int .i64 de, .int .i64 me, .slice Ac nc cc, .slice Ad nd cd, .slice A4 n4 c4, .slice A5 n5 c5, .slice Ao no co, .bool dn]) s):=za (by
      obtain ⟨q1,q2,q5⟩:=HS.out;have hsz:=HSZ.out;have hsw:=HSW.out;refine ⟨_,_,_,_,_,by rw [HSC.out.1,HSC.out.2.1,HSC.out.2.2],(q1.kept HGF.out).more fun g _ h=> .inl h,(q2.kept HGF.out).more fun g _ h=> .inl h, ?_, ?_,(q5.kept HGF.out).more fun g _ h=> .inl h⟩
      ·have r1:=HA4b.out.keep k3 (fun g hg e=>by injection e with e;rcases hg.1 with h|h<;>omega);exact (r1.keep hgs (fun g hg e=>by injection e with e;rcases hg.1 with h|h<;>omega)).more fun g _ hg=>by
        rcases hg.1 with h|h
        ·exact .inl h.1
        ·exact .inr (by omega)
      ·exact (HA5.out.keep hgs (fun g hg e=>by injection e with e;rcases hg with h|h<;>omega)).more fun g _ hg=>by
        rcases hg with h|h
        ·exact .inl h.1
        ·exact .inr (by omega))
     clear HX k1 k2 k3 hg0 hr1b hgs hgw;go_wp2_with fail;rw [←hwF];exact ⟨rfl,_,Uq rfl _ rfl HBF.out,_,rfl,HFS.out,HGF.out⟩
    ·have hjn:(j:Int)< (L5:Int):=by omega
     have hj0:(0:Int)≤(j:Int):=Int.natCast_nonneg j;have hjN:j< s.readies.length:=by rw [←HQ5.out];omega
     obtain ⟨a,k1,k2,k3⟩:=HX.out;have HGW:=za (HG1.out.andThen k3 (fun b e=> .inl (by injection e with e;omega)));obtain ⟨ge,oe,ce',ue,ee,hgl,hgx,hca,hcb,Vh,hsu⟩:=(HE5.out.kept HGW.out).atT hjN;injection ee with ee1 ee2 ee3
     subst ee1 ee3;obtain ⟨y,hy⟩: ∃y,y=s.readies[j]:=⟨_,rfl⟩;rw [←hy] at hca Vh hsu;have HSN:Hid (s.readies.take (j+1)=s.readies.take j++ [y]):=za (by rw [List.take_succ_eq_append_getElem hjN,hy]);obtain ⟨PR,hPR⟩: ∃z,z=s.readies.take j:=⟨_,rfl⟩;have HLB:Hid ((PR.length+1)*32≤140737488355328):=za (by rw [hPR,List.length_take];omega);rw [←hPR] at k2 HSN;obtain ⟨Au,nu,cu,rfl⟩:=hsu.shape;have HU:=za hsu;have HI:=za Vh;have HK1:=za k1;have hrw:=(HB1b.out.grown k3 (fun e=>by injection e with e;omega)).rule;have HK3:=za k3;have HBO:Hid (w.heap.size+1+1< W1.heap.size):=za (HBO1.out);have HOW:Hid (∀g,a.ownBlock=some g→W1.heap.size≤g∧g< wr.drew.heap.size):=za fun g e=>k2.lt g e
     have HOV:Hid ((∀g,a.ownBlock=some g→g< wr.drew.heap.size)∧w.heap.size+1+1< wr.drew.heap.size):=za ⟨fun g e=>(HOW.out g e).2,by have:=HBO.out;have:=k3.size;exact Nat.lt_of_lt_of_le HBO.out k3.size⟩;have HC0:Hid (xO yT W1.heap.size 137 (fun g=>(X g∧g< w.heap.size)∨W1.heap.size≤g) wr.drew a PR y (w.heap.size+1+1) 78 #[.int .i64 de, .int .i64 me, .slice Ac nc cc, .slice Ad nd cd,a4,a, .slice Ao no co, .bool dn] 5 [] wr.drew):=za (xO.start (k2.kept (zb wr 1)) (k1.grown (zb wr 1) (by simp)) HBO.out);have HXB:Hid (∀g,((X g∧g< w.heap.size)∨W1.heap.size≤g)→g≠w.heap.size+1+1):=za (fun g hg e=>by have:=HBO.out;rcases hg with hg|hg<;>omega);have HLD:Hid (∀vs W,xO yT W1.heap.size 137 (fun g=>(X g∧g< w.heap.size)∨W1.heap.size≤g) wr.drew a PR y (w.heap.size+1+1) 78 #[.int .i64 de, .int .i64 me, .slice Ac nc cc, .slice Ad nd cd,a4,a, .slice Ao no co, .bool dn] 5 vs W→(W.cell? ⟨ge,oe+j*2,none⟩=some (.int .i64 y.1)∧W.cell? ⟨ge,oe+j*2+1,none⟩=some (.slice Au nu cu))∧W.cell? ⟨w.heap.size,5,none⟩=some (.slice (some ⟨ge,oe,none⟩) L5 cr)∧wr.drew.heap.size≤W.heap.size∧W1.heap.size≤W.heap.size∧yT.rep (fun g=>((X g∧g< w.heap.size)∨W1.heap.size≤g)∧some g≠a.ownBlock) W [.int .i64 y.1, .slice Au nu cu] y):=za (fun vs W hC=>by
      have hgr:=hC.gr;have hs1:=hgr.size;have n1: ∀g,g< w.heap.size+1→(∀k,a.ownBlock=some k→k≠g)∧g≠w.heap.size+1+1:=fun g hg=>⟨fun k e=>by have:=(HOW.out k e).1;have:=HBO.out;omega,by omega⟩
      obtain ⟨hgx1,hgx2⟩:=hgx;refine ⟨⟨hgr.cell (w:=wr.drew) hca (fun e=>(n1 ge (by omega)).1 _ e.symm rfl) (fun e=>by injection e with e;omega),hgr.cell (w:=wr.drew) hcb (fun e=>(n1 ge (by omega)).1 _ e.symm rfl) (fun e=>by injection e with e;omega)⟩, ?_,hs1,Nat.le_trans HK3.out.size hs1,_,rfl,HI.out, ?_⟩
      ·exact hgr.cell (w:=wr.drew) (by have h:=(HB1b.out.grown HK3.out (fun e=>by injection e with e;omega)).cell 5;exact h) (fun e=>(n1 w.heap.size (by omega)).1 _ e.symm rfl) (fun e=>by injection e with e;omega)
      ·exact (hgr.sl (fun g hg e=>(n1 g (by have:=hg.2;omega)).1 _ e.symm rfl) (fun g hg e=>by have:=hg.2;omega) (HU.out.kept (zb wr 1))).more fun g _ hg=>⟨.inl hg,fun e=>(n1 g (by have:=hg.2;omega)).1 _ e.symm rfl⟩)
     clear HX k1 k2 k3 hca hcb hsu Vh hgl hgx hy hPR hjN ee2;go_upto_region 9 with (fail)
     clear hrw;refine FR.wp_region_late (ON yT W1.heap.size 137 (fun g=>(X g∧g< w.heap.size)∨W1.heap.size≤g) wr.drew a PR y (w.heap.size+1+1) 78 #[.int .i64 de, .int .i64 me, .slice Ac nc cc, .slice Ad nd cd,a4,a, .slice Ao no co, .bool dn] 5) [8,10] 11 (by kernel_rfl) (by kernel_rfl) (by kernel_rfl) HC0.out ?_;refine FR.mS (.pointer (some ⟨w.heap.size+1+1,5,none⟩)) [] (fun vs w' hC=>FR.kD fun K hK=> ?_) ?_
     ·go_simp;exact hK _ _ rfl ⟨rfl,gRf⟩
     refine FR.LateR.monoN (FR.Qv.eq (a)) [(0,43)] [0,1] (by kernel_rfl) (by rfl) (by kernel_rfl) (fun vs w' hq hC=> ?_) ?_
     ·intro x43 h43;have e43:x43= .pointer (some ⟨w.heap.size+1+1,5,none⟩):=h43;clear h43;subst e43;refine FR.askl_do rfl fun K hK=> ?_
      have hC:xO _ _ _ _ _ _ _ _ _ _ _ _ vs w':=hC;obtain ⟨⟨l1,l1'⟩,l2,l3,l4,l5⟩:=HLD.out vs w' hC;have c1:w'.cell? ⟨w.heap.size+1+1,5,none⟩=some a:=(hC.bk0 (hq 1 (by simp))).cell 5;go_simp;exact hK _ _ rfl ⟨rfl,gRf⟩
     refine FR.mS (.pointer (some ⟨w.heap.size,5,none⟩)) [] (fun vs w' hC=>FR.kD fun K hK=> ?_) ?_
     ·go_simp;exact hK _ _ rfl ⟨rfl,gRf⟩
     refine FR.mS (.slice (some ⟨ge,oe,none⟩) L5 cr) [(2,45)] (fun vs w' hC=>FR.pQ (FR.kD fun K hK=> ?_)) ?_
     ·have hC:xO _ _ _ _ _ _ _ _ _ _ _ _ vs w':=hC;obtain ⟨⟨l1,l1'⟩,l2,l3,l4,l5⟩:=HLD.out vs w' hC;go_simp;exact hK _ _ rfl ⟨rfl,gRf⟩
     refine FR.mS (.int .i64 j) [] (fun vs w' hC=>FR.kD fun K hK=> ?_) ?_
     ·go_simp;exact hK _ _ rfl ⟨rfl,gRf⟩
     refine FR.mS (.pointer (some ⟨ge,oe+j*2,none⟩)) [(3,46),(4,47)] (fun vs w' hC=>FR.pQ (FR.pQ (FR.kD fun K hK=> ?_))) ?_
     ·go_simp;exact hK _ _ rfl ⟨rfl,gRf⟩
     refine FR.mS (.agg #[.int .i64 y.1, .slice Au nu cu]) [(5,48)] (fun vs w' hC=>FR.pQ (FR.kD fun K hK=> ?_)) ?_
     ·have hC:xO _ _ _ _ _ _ _ _ _ _ _ _ vs w':=hC;obtain ⟨⟨l1,l1'⟩,l2,l3,l4,l5⟩:=HLD.out vs w' hC;go_simp;exact hK _ _ rfl ⟨rfl,gRf⟩
     refine FR.mV (Hf wr.drew.heap.size 137 #[.int .i64 y.1, .slice Au nu cu] HOV.out.1 HOV.out.2) [(6,49)] (fun vs w' hC=>FR.pQ (FR.kD fun K hK=> ?_)) ?_
     ·have hC:xO _ _ _ _ _ _ _ _ _ _ _ _ vs w':=hC;obtain ⟨⟨l1,l1'⟩,l2,l3,l4,l5⟩:=HLD.out vs w' hC;go_simp;exact hK _ _ rfl ⟨⟨_,rfl,l3,Bk.new w' _ _⟩,gAl w' _ none⟩
     refine FR.LateR.turn 0 [(1,44),(7,50)] (by kernel_rfl) [] rfl (by kernel_rfl) (fun vs w' hn hr hC=> ?_) ?_
     ·intro x44 h44;intro x50 h50;have h50: ∃b,x50= .slice (some ⟨b,0,none⟩) 1 1∧wr.drew.heap.size≤b∧Bk w' b 137 #[.int .i64 y.1, .slice Au nu cu]:=h50;obtain ⟨b50,e50,k50,l50⟩:=h50;subst e50;have e44:x44=a:=h44;clear h44;subst e44;refine FR.askl_do rfl fun K hK=> ?_
      have hC:xO _ _ _ _ _ _ _ _ _ _ _ _ vs w':=hC;obtain ⟨⟨l1,l1'⟩,l2,l3,l4,l5⟩:=HLD.out vs w' hC;refine xO.app hC hn Oh (cx:= [.int .i64 y.1, .slice Au nu cu]) l5 (fun j u hu=>by rw [l50.cell j];simpa using hu) HLB.out l4 (fun g hg=> .inr (Nat.le_trans l4 hg)) (.tmp 44) (.tmp 50) rfl rfl rfl fun v' w2 hr=>hK _ _ rfl hr
     refine FR.mS (.pointer (some ⟨w.heap.size+1+1,5,none⟩)) [] (fun vs w' hC=>FR.kD fun K hK=> ?_) ?_
     ·go_simp;exact hK _ _ rfl ⟨rfl,gRf⟩
     refine FR.LateR.turn 1 [(9,52),(8,51)] (by kernel_rfl) [] rfl (by kernel_rfl) (fun vs w' hn hr hC=> ?_) ?_
     ·intro x52 h52;intro x51 h51;have e52:x52= .pointer (some ⟨w.heap.size+1+1,5,none⟩):=h52;clear h52;subst e52;refine FR.askl_do rfl fun K hK=> ?_
      have hC:xO _ _ _ _ _ _ _ _ _ _ _ _ vs w':=hC;have h51:(0,x51)∈vs:=h51;have hb:=hC.bk0 hn;exact Vu (.tmp 52) (.tmp 51) rfl rfl rfl rfl (hC.shape h51) (hb.cell 5) (hb.free 5) (hK _ _ rfl (hC.put (u:=undef) hn h51 HXB.out (Gb w' (w.heap.size+1+1) 5 _) (hb.set 5 _)))
     intro vs w3 hvl hC3;have hC3:xO _ _ _ _ _ _ _ _ _ _ _ _ vs w3:=hC3;intro y0 k0 y1 k1 y2 k2 y3 k3
     iterate 7 (refine pD ?_;intro _)
     have HF:Hid (∃a,Bk w3 (w.heap.size+1+1) 78 #[.int .i64 de, .int .i64 me, .slice Ac nc cc, .slice Ad nd cd,a4,a, .slice Ao no co, .bool dn]∧Acc yT W1.heap.size 137 (fun g=>(X g∧g< w.heap.size)∨W1.heap.size≤g) w3 a (s.readies.take (j+1))∧W1.grownBy w3 (some (w.heap.size+1+1))):=za (by
      obtain ⟨a1,p1,p2,p3⟩:=hC3.fin hvl.2;refine ⟨a1,p2,by rw [HSN.out];exact p1, ?_⟩;exact ⟨p3.os.trans HK3.out.os,p3.tape.trans HK3.out.tape,p3.output.trans HK3.out.output,Nat.le_trans HK3.out.size p3.size,fun i hi hne=>(p3.block i (Nat.lt_of_lt_of_le hi HK3.out.size) (fun e=>by have:=(HOW.out i e.symm).1;omega) hne).trans (HK3.out.block i hi hne)⟩)
     clear k0 k1 k2 k3 hvl hC3 HLD HC0;simp only [Act.put,sAa,sAb,sAc];show wpList _ _ _ _ _ _;refine wpList_nil ?_;go_wp2_with fail;go_roundg (gk - 1)
     case measure=>omega
     case rel=>exact ⟨j+1,by omega,by go_num,HF⟩
  ·have hjn:(j:Int)< (L4:Int):=by omega
   have hj0:(0:Int)≤(j:Int):=Int.natCast_nonneg j;have hjN:j< s.echos.length:=by rw [←HQ4.out];omega
   obtain ⟨a,k1,k2,k3⟩:=HX.out;have HGW:=za (HG0.out.andThen k3 (fun b e=> .inl (by injection e with e;omega)));obtain ⟨ge,oe,ce',ue,ee,hgl,hgx,hca,hcb,Vh,hsu⟩:=(HE4.out.kept HGW.out).atT hjN;injection ee with ee1 ee2 ee3
   subst ee1 ee3;obtain ⟨y,hy⟩: ∃y,y=s.echos[j]:=⟨_,rfl⟩;rw [←hy] at hca Vh hsu;have HSN:Hid (s.echos.take (j+1)=s.echos.take j++ [y]):=za (by rw [List.take_succ_eq_append_getElem hjN,hy]);obtain ⟨PR,hPR⟩: ∃z,z=s.echos.take j:=⟨_,rfl⟩;have HLB:Hid ((PR.length+1)*32≤140737488355328):=za (by rw [hPR,List.length_take];omega);rw [←hPR] at k2 HSN;obtain ⟨Au,nu,cu,rfl⟩:=hsu.shape;have HU:=za hsu;have HI:=za Vh;have HK1:=za k1;have hrw:=(HB1.out.grown k3 (fun e=>by injection e with e;omega)).rule;have HK3:=za k3;have HBO:Hid (w.heap.size+1+1< W0.heap.size):=za (by rw [HSZ.out];omega);have HOW:Hid (∀g,a.ownBlock=some g→W0.heap.size≤g∧g< wr.drew.heap.size):=za fun g e=>k2.lt g e
   have HOV:Hid ((∀g,a.ownBlock=some g→g< wr.drew.heap.size)∧w.heap.size+1+1< wr.drew.heap.size):=za ⟨fun g e=>(HOW.out g e).2,by have:=HBO.out;have:=k3.size;exact Nat.lt_of_lt_of_le HBO.out k3.size⟩;have HC0:Hid (xO yT W0.heap.size 137 (fun g=>(X g∧g< w.heap.size)∨W0.heap.size≤g) wr.drew a PR y (w.heap.size+1+1) 78 #[.int .i64 de, .int .i64 me, .slice Ac nc cc, .slice Ad nd cd,a, .slice none 0 0, .slice Ao no co, .bool dn] 4 [] wr.drew):=za (xO.start (k2.kept (zb wr 1)) (k1.grown (zb wr 1) (by simp)) HBO.out);have HXB:Hid (∀g,((X g∧g< w.heap.size)∨W0.heap.size≤g)→g≠w.heap.size+1+1):=za (fun g hg e=>by have:=HBO.out;rcases hg with hg|hg<;>omega);have HLD:Hid (∀vs W,xO yT W0.heap.size 137 (fun g=>(X g∧g< w.heap.size)∨W0.heap.size≤g) wr.drew a PR y (w.heap.size+1+1) 78 #[.int .i64 de, .int .i64 me, .slice Ac nc cc, .slice Ad nd cd,a, .slice none 0 0, .slice Ao no co, .bool dn] 4 vs W→(W.cell? ⟨ge,oe+j*2,none⟩=some (.int .i64 y.1)∧W.cell? ⟨ge,oe+j*2+1,none⟩=some (.slice Au nu cu))∧W.cell? ⟨w.heap.size,4,none⟩=some (.slice (some ⟨ge,oe,none⟩) L4 ce)∧wr.drew.heap.size≤W.heap.size∧W0.heap.size≤W.heap.size∧yT.rep (fun g=>((X g∧g< w.heap.size)∨W0.heap.size≤g)∧some g≠a.ownBlock) W [.int .i64 y.1, .slice Au nu cu] y):=za (fun vs W hC=>by
    have hgr:=hC.gr;have hs1:=hgr.size;have n1: ∀g,g< w.heap.size+1→(∀k,a.ownBlock=some k→k≠g)∧g≠w.heap.size+1+1:=fun g hg=>⟨fun k e=>by have:=(HOW.out k e).1;have:=HBO.out;omega,by omega⟩
    obtain ⟨hgx1,hgx2⟩:=hgx;refine ⟨⟨hgr.cell (w:=wr.drew) hca (fun e=>(n1 ge (by omega)).1 _ e.symm rfl) (fun e=>by injection e with e;omega),hgr.cell (w:=wr.drew) hcb (fun e=>(n1 ge (by omega)).1 _ e.symm rfl) (fun e=>by injection e with e;omega)⟩, ?_,hs1,Nat.le_trans HK3.out.size hs1,_,rfl,HI.out, ?_⟩
    ·exact hgr.cell (w:=wr.drew) (by have h:=(HB1.out.grown HK3.out (fun e=>by injection e with e;omega)).cell 4;exact h) (fun e=>(n1 w.heap.size (by omega)).1 _ e.symm rfl) (fun e=>by injection e with e;omega)
    ·exact (hgr.sl (fun g hg e=>(n1 g (by have:=hg.2;omega)).1 _ e.symm rfl) (fun g hg e=>by have:=hg.2;omega) (HU.out.kept (zb wr 1))).more fun g _ hg=>⟨.inl hg,fun e=>(n1 g (by have:=hg.2;omega)).1 _ e.symm rfl⟩)
   clear HX k1 k2 k3 hca hcb hsu Vh hgl hgx hy hPR hjN ee2;go_upto_region 5 with (fail)
   clear hrw;refine FR.wp_region_late (ON yT W0.heap.size 137 (fun g=>(X g∧g< w.heap.size)∨W0.heap.size≤g) wr.drew a PR y (w.heap.size+1+1) 78 #[.int .i64 de, .int .i64 me, .slice Ac nc cc, .slice Ad nd cd,a, .slice none 0 0, .slice Ao no co, .bool dn] 4) [8,10] 11 (by kernel_rfl) (by kernel_rfl) (by kernel_rfl) HC0.out ?_;refine FR.mS (.pointer (some ⟨w.heap.size+1+1,4,none⟩)) [] (fun vs w' hC=>FR.kD fun K hK=> ?_) ?_
   ·go_simp;exact hK _ _ rfl ⟨rfl,gRf⟩
   refine FR.LateR.monoN (FR.Qv.eq (a)) [(0,26)] [0,1] (by kernel_rfl) (by rfl) (by kernel_rfl) (fun vs w' hq hC=> ?_) ?_
   ·intro x26 h26;have e26:x26= .pointer (some ⟨w.heap.size+1+1,4,none⟩):=h26;clear h26;subst e26;refine FR.askl_do rfl fun K hK=> ?_
    have hC:xO _ _ _ _ _ _ _ _ _ _ _ _ vs w':=hC;obtain ⟨⟨l1,l1'⟩,l2,l3,l4,l5⟩:=HLD.out vs w' hC;have c1:w'.cell? ⟨w.heap.size+1+1,4,none⟩=some a:=(hC.bk0 (hq 1 (by simp))).cell 4;go_simp;exact hK _ _ rfl ⟨rfl,gRf⟩
   refine FR.mS (.pointer (some ⟨w.heap.size,4,none⟩)) [] (fun vs w' hC=>FR.kD fun K hK=> ?_) ?_
   ·go_simp;exact hK _ _ rfl ⟨rfl,gRf⟩
   refine FR.mS (.slice (some ⟨ge,oe,none⟩) L4 ce) [(2,28)] (fun vs w' hC=>FR.pQ (FR.kD fun K hK=> ?_)) ?_
   ·have hC:xO _ _ _ _ _ _ _ _ _ _ _ _ vs w':=hC;obtain ⟨⟨l1,l1'⟩,l2,l3,l4,l5⟩:=HLD.out vs w' hC;go_simp;exact hK _ _ rfl ⟨rfl,gRf⟩
   refine FR.mS (.int .i64 j) [] (fun vs w' hC=>FR.kD fun K hK=> ?_) ?_
   ·go_simp;exact hK _ _ rfl ⟨rfl,gRf⟩
   refine FR.mS (.pointer (some ⟨ge,oe+j*2,none⟩)) [(3,29),(4,30)] (fun vs w' hC=>FR.pQ (FR.pQ (FR.kD fun K hK=> ?_))) ?_
   ·go_simp;exact hK _ _ rfl ⟨rfl,gRf⟩
   refine FR.mS (.agg #[.int .i64 y.1, .slice Au nu cu]) [(5,31)] (fun vs w' hC=>FR.pQ (FR.kD fun K hK=> ?_)) ?_
   ·have hC:xO _ _ _ _ _ _ _ _ _ _ _ _ vs w':=hC;obtain ⟨⟨l1,l1'⟩,l2,l3,l4,l5⟩:=HLD.out vs w' hC;go_simp;exact hK _ _ rfl ⟨rfl,gRf⟩
   refine FR.mV (Hf wr.drew.heap.size 137 #[.int .i64 y.1, .slice Au nu cu] HOV.out.1 HOV.out.2) [(6,32)] (fun vs w' hC=>FR.pQ (FR.kD fun K hK=> ?_)) ?_
   ·have hC:xO _ _ _ _ _ _ _ _ _ _ _ _ vs w':=hC;obtain ⟨⟨l1,l1'⟩,l2,l3,l4,l5⟩:=HLD.out vs w' hC;go_simp;exact hK _ _ rfl ⟨⟨_,rfl,l3,Bk.new w' _ _⟩,gAl w' _ none⟩
   refine FR.LateR.turn 0 [(1,27),(7,33)] (by kernel_rfl) [] rfl (by kernel_rfl) (fun vs w' hn hr hC=> ?_) ?_
   ·intro x27 h27;intro x33 h33;have h33: ∃b,x33= .slice (some ⟨b,0,none⟩) 1 1∧wr.drew.heap.size≤b∧Bk w' b 137 #[.int .i64 y.1, .slice Au nu cu]:=h33;obtain ⟨b33,e33,k33,l33⟩:=h33;subst e33;have e27:x27=a:=h27;clear h27;subst e27;refine FR.askl_do rfl fun K hK=> ?_
    have hC:xO _ _ _ _ _ _ _ _ _ _ _ _ vs w':=hC;obtain ⟨⟨l1,l1'⟩,l2,l3,l4,l5⟩:=HLD.out vs w' hC;refine xO.app hC hn Oh (cx:= [.int .i64 y.1, .slice Au nu cu]) l5 (fun j u hu=>by rw [l33.cell j];simpa using hu) HLB.out l4 (fun g hg=> .inr (Nat.le_trans l4 hg)) (.tmp 27) (.tmp 33) rfl rfl rfl fun v' w2 hr=>hK _ _ rfl hr
   refine FR.mS (.pointer (some ⟨w.heap.size+1+1,4,none⟩)) [] (fun vs w' hC=>FR.kD fun K hK=> ?_) ?_
   ·go_simp;exact hK _ _ rfl ⟨rfl,gRf⟩
   refine FR.LateR.turn 1 [(9,35),(8,34)] (by kernel_rfl) [] rfl (by kernel_rfl) (fun vs w' hn hr hC=> ?_) ?_
   ·intro x35 h35;intro x34 h34;have e35:x35= .pointer (some ⟨w.heap.size+1+1,4,none⟩):=h35;clear h35;subst e35;refine FR.askl_do rfl fun K hK=> ?_
    have hC:xO _ _ _ _ _ _ _ _ _ _ _ _ vs w':=hC;have h34:(0,x34)∈vs:=h34;have hb:=hC.bk0 hn;exact Vu (.tmp 35) (.tmp 34) rfl rfl rfl rfl (hC.shape h34) (hb.cell 4) (hb.free 4) (hK _ _ rfl (hC.put (u:=undef) hn h34 HXB.out (Gb w' (w.heap.size+1+1) 4 _) (hb.set 4 _)))
   intro vs w3 hvl hC3;have hC3:xO _ _ _ _ _ _ _ _ _ _ _ _ vs w3:=hC3
   iterate 11 (refine pD ?_;intro _)
   have HF:Hid (∃a,Bk w3 (w.heap.size+1+1) 78 #[.int .i64 de, .int .i64 me, .slice Ac nc cc, .slice Ad nd cd,a, .slice none 0 0, .slice Ao no co, .bool dn]∧Acc yT W0.heap.size 137 (fun g=>(X g∧g< w.heap.size)∨W0.heap.size≤g) w3 a (s.echos.take (j+1))∧W0.grownBy w3 (some (w.heap.size+1+1))):=za (by
    obtain ⟨a1,p1,p2,p3⟩:=hC3.fin hvl.2;refine ⟨a1,p2,by rw [HSN.out];exact p1, ?_⟩;exact ⟨p3.os.trans HK3.out.os,p3.tape.trans HK3.out.tape,p3.output.trans HK3.out.output,Nat.le_trans HK3.out.size p3.size,fun i hi hne=>(p3.block i (Nat.lt_of_lt_of_le hi HK3.out.size) (fun e=>by have:=(HOW.out i e.symm).1;omega) hne).trans (HK3.out.block i hi hne)⟩)
   clear hvl hC3 HLD HC0;simp only [Act.put,sAa,sAb,sAc];show wpList _ _ _ _ _ _;refine wpList_nil ?_;go_wp2_with fail;go_roundg (gk - 1)
   case measure=>omega
   case rel=>exact ⟨j+1,by omega,by go_num,HF⟩
end
section
open Go Go.RowKit Go.Shelf Go.Maps
abbrev Fu:Par:=⟨23,11,5,9,4,4,1,1,1,1,1,1⟩
abbrev Dp:Par:=⟨0,0,0,0,0,0,0,0,0,0,0,0⟩
theorem Hi:Fu.ok:=⟨⟨by decide,by decide⟩,⟨by decide,by decide⟩,⟨by decide,by decide⟩,⟨by decide,by decide⟩,⟨by decide,by decide⟩,⟨by decide,by decide⟩,⟨by decide,by decide⟩,⟨by decide,by decide⟩,⟨by decide,by decide⟩,⟨by decide,by decide⟩,⟨by decide,by decide⟩,⟨by decide,by decide⟩⟩
theorem Hj:Dp.ok:=⟨⟨by decide,by decide⟩,⟨by decide,by decide⟩,⟨by decide,by decide⟩,⟨by decide,by decide⟩,⟨by decide,by decide⟩,⟨by decide,by decide⟩,⟨by decide,by decide⟩,⟨by decide,by decide⟩,⟨by decide,by decide⟩,⟨by decide,by decide⟩,⟨by decide,by decide⟩,⟨by decide,by decide⟩⟩
abbrev E0:zw:=⟨Fu,2,1,CM5⟩
abbrev E1:zw:=⟨p4,0,1,CM5⟩
abbrev E2:zw:=⟨p4,5,1,CM5⟩
abbrev E3:zw:=⟨p4,2,0,CM5⟩
abbrev E4:zw:=⟨p4,2,5,CM5⟩
abbrev E5:zw:=⟨p4, -1,1,CM5⟩
abbrev E6:zw:=⟨p4,2,1, []⟩
abbrev E7:zw:=⟨p4,2,1, [[6,9]]⟩
abbrev E8:zw:=⟨Dp,1,1, []⟩
theorem en0:Xn E0=false:=by decide+kernel
theorem en1:Xn E1=false:=by decide+kernel
theorem en2:Xn E2=false:=by decide+kernel
theorem en3:Xn E3=false:=by decide+kernel
theorem en4:Xn E4=false:=by decide+kernel
theorem en5:Xn E5=false:=by decide+kernel
theorem en6:Xn E6=false:=by decide+kernel
theorem en7:Xn E7=false:=by decide+kernel
theorem en8:Xn E8=false:=by decide+kernel
theorem Hp{E:zw}(hn:Xn E=false)(hp:E.p.ok)(hd:I64 E.dealer)(hm:I64 E.me){v:Value}{X:Nat→Prop}{w:World}(h:Sl (zh ze) X w v E.coms)(hT:zK w):
  Calls Tryz.prog 18 #[E.p.v, .int .i64 E.dealer, .int .i64 E.me,v] w fun e w'=>e= .returned (.tuple #[.pointer none, .int .i64 1])∧w.grownBy w' none:=
 (Vl E v X w hp hd hm h hT).mono (by
  rintro e w' ⟨hg,h⟩;rw [hn] at h;exact ⟨h,hg⟩)
theorem JN{E:zw}(hn:Xn E=false)(hp:E.p.ok)(hd:I64 E.dealer)(hm:I64 E.me){v:Value}{X:Nat→Prop}{w:World}(h:Sl (zh ze) X w v E.coms)(hT:zK w):
  Calls Tryz.prog 34 #[E.p.v, .agg #[.int .i64 E.dealer, .int .i64 E.me,v, .slice none 0 0, .slice none 0 0, .slice none 0 0, .slice none 0 0, .bool false]] w fun e w'=>e= .returned (.tuple #[.pointer none, .int .i64 1])∧w.grownBy w' none:=
 (Qz E ⟨E.dealer,E.me,E.coms, [], [], [], [],false⟩ _ X w hp hd hm ⟨_,_,_,_,_,rfl,h,Sl.nil _ _ _,Sl.nil _ _ _,Sl.nil _ _ _,Sl.nil _ _ _⟩ rfl rfl rfl hT (by simp) (by simp) (by simp) (by simp) (ym _ (by simp))).mono (by
  rintro e w' ⟨hg,h⟩;rw [hn] at h;exact ⟨h,hg⟩)
def yp:List Int:=nD 1
def xr:List Int:=Ur p4 8 3 1 [] [DL5] 1
def xA:List Int:=yp.take 23++ [(yp[23]?.getD 0+1)%11]
theorem rf0:zx (EW 0) ASt.start 7 1 yp=(ASt.start, []):=by kernel_rfl
theorem rf1:zx (EW 0) ASt.start 7 0 xA=(ASt.start, []):=by kernel_rfl
theorem rf2:zx (EW 0) ASt.start 7 0 (yp.drop 1)=(ASt.start, []):=by kernel_rfl
theorem rf3:zx (EW 0) ASt.start 7 0 []=(ASt.start, []):=by kernel_rfl
theorem rf4:zx (EW 0) ASt.start 7 0 (nD 2)=(ASt.start, []):=by kernel_rfl
theorem rf5:zx (EW 0) ASt.start 8 0 xr=(ASt.start, []):=by kernel_rfl
theorem rf6:zx (EW 0) ASt.start 8 5 xr=(ASt.start, []):=by kernel_rfl
theorem rf7:zx (EW 0) ASt.start 8 (-3) xr=(ASt.start, []):=by kernel_rfl
theorem rf8:zx (EW 0) ASt.start 8 2 xr=(ASt.start, []):=by kernel_rfl
theorem rf9:zx (EW 0) ASt.start 8 3 yp=(ASt.start, []):=by kernel_rfl
theorem DL:zx (EW 0) ASt.start 8 3 []=(ASt.start, []):=by kernel_rfl
theorem DK:zx (EW 0) ASt.start 10 3 xr=(ASt.start, []):=by kernel_rfl
theorem DJ:zx (EW 0) ASt.start 11 0 yp=(ASt.start, []):=by kernel_rfl
theorem DI:zx (EW 0) ASt.start 0 3 xr=(ASt.start, []):=by kernel_rfl
theorem rfA:zx (EW 0) ASt.start 7 0 yp=tA 1:=rfl
theorem rfB:zx (EW 0) (tA 1).1 7 0 yp=((tA 1).1, []):=by kernel_rfl
theorem rfC:zx (EW 0) (tA 1).1 8 1 xr=((tA 1).1, []):=by kernel_rfl
theorem Zm:yp.length=24:=by decide+kernel
theorem Lu:xr.length=16:=by decide+kernel
theorem Gc:xA.length=24:=by decide+kernel
theorem Ca:(tA 1).2.length=3:=(IH 0 (by decide)).1
def sN:SSt:=xL (EW 0) (tA 1).1
theorem Gz:sN.echos.length=1:=by decide+kernel
theorem FL:sN.readies= []:=by decide+kernel
theorem DG:sN.own= []:=by decide+kernel
theorem NX:sN.dealer=2∧sN.me=1∧sN.coms=CM5∧sN.done=false:=by decide+kernel
theorem ld0:(yo (EW 0) {sN with deal:=xA}).isNone=true:=by decide+kernel
theorem ld1:(yo (EW 0) {sN with echos:=sN.echos++sN.echos}).isNone=true:=by decide+kernel
theorem ld2:(yo (EW 0) {sN with done:=true}).isNone=true:=by decide+kernel
theorem ld3:(yo (EW 0) {sN with own:=xA}).isNone=true:=by decide+kernel
theorem ld4:(yo (EW 0) {sN with readies:= [(3,xr),(2,xr)]}).isNone=true:=by decide+kernel
theorem ld5:(yo (EW 0) {sN with echos:= [(0,xr)]}).isNone=true:=by decide+kernel
theorem ld6:(yo (EW 0) sN).map (xL (EW 0))=some sN:=by decide+kernel
end
section
open Go Go.RowKit Go.Shelf Go.Maps
def Rst(W:World)(v:Value)(l:List (Int×List Int)):Prop:=(l= []→v= .slice none 0 0)∧(l.length=1→ ∀g c,v= .slice (some ⟨g,0,none⟩) 1 c→ ∀i u,i%2=0→W.cell? ⟨g,i,none⟩=some u→ ∃n,u= .int .i64 n)
structure TZ (b:Nat) (W:World) (v:Value) (l:List (Int×List Int)):Prop where
 acc:Acc yT b 96 (fun g=>b≤g) W v l
 rst:Rst W v l
theorem TZ.nil(b:Nat)(W:World):TZ b W (.slice none 0 0) []:=⟨Acc.nil _ _ _ _ _,fun _=>rfl,fun h=>by cases h⟩
theorem Rst.keep{W W':World}{v:Value}{l:List (Int×List Int)}(h:Rst W v l){row:Option Nat}(hg:W.grownBy W' row)(hl: ∀g,v.ownBlock=some g→g< W.heap.size∧some g≠row):Rst W' v l:=by
 refine ⟨h.1,fun h1 g c e i u hi hu=>h.2 h1 g c e i u hi ?_⟩;obtain ⟨h2,h3⟩:=hl g (by rw [e];rfl);rw [←World.cell?_of_block (hg.block g h2 h3)];exact hu
theorem TZ.keep{b:Nat}{W W':World}{v:Value}{l:List (Int×List Int)}(h:TZ b W v l){row:Option Nat}(hg:W.grownBy W' row)(hr: ∀g,b≤g→some g≠row):TZ b W' v l:=
 ⟨h.acc.keep hg hr,h.rst.keep hg fun g hv=>⟨(h.acc.lt g hv).2,hr g (h.acc.lt g hv).1⟩⟩
theorem TZ.kept{b:Nat}{W W':World}{v:Value}{l:List (Int×List Int)}(h:TZ b W v l)(hg:W.grownBy W' none):TZ b W' v l:=h.keep hg (by simp)
theorem TZ.sl{b:Nat}{W:World}{v:Value}{l:List (Int×List Int)}(h:TZ b W v l):Sl yT (fun g=>b≤g) W v l:=h.acc.sl
def QE(b:Nat)(W:World)(v:Value)(l:List (Int×List Int)):Prop:= ∃b',b≤b'∧TZ b' W v l
theorem QE.sl{b:Nat}{W:World}{v:Value}{l:List (Int×List Int)}(h:QE b W v l):Sl yT (fun g=>b≤g) W v l:=by
 obtain ⟨b',h1,h2⟩:=h;exact h2.sl.more fun g _ hg=>Nat.le_trans h1 hg
theorem QE.fin{a b:Nat}{W W':World}{v:Value}{l:List (Int×List Int)}(h:QE b W v l){row:Option Nat}(hg:W.grownBy W' row)(hr: ∀g,b≤g→some g≠row)(hab:a≤b):QE a W' v l:=by
 obtain ⟨b',h1,h2⟩:=h;exact ⟨b',Nat.le_trans hab h1,h2.keep hg fun g hg=>hr g (Nat.le_trans h1 hg)⟩
def GM(b:Nat)(l:List (Int×List Int)):Pv:=⟨fun v w=>QE b w v l,fun ⟨b',h1,h2⟩ hg=>⟨b',h1,h2.kept hg⟩⟩
def KA(b:Nat)(W:World)(v:Value)(s:SSt):Prop:= ∃vc vd ve vr vo,v= .agg #[.int .i64 s.dealer, .int .i64 s.me,vc,vd,ve,vr,vo, .bool s.done]∧Sl (zh ze) (fun g=>b≤g) W vc s.coms∧Sl ze (fun g=>b≤g) W vd s.deal∧QE b W ve s.echos∧Sl yT (fun g=>b≤g) W vr s.readies∧Sl ze (fun g=>b≤g) W vo s.own
abbrev Fm:=KA
theorem KA.kept{b:Nat}{W W':World}{v:Value}{s:SSt}(h:KA b W v s)(hg:W.grownBy W' none):KA b W' v s:=by
 obtain ⟨vc,vd,ve,vr,vo,e,h1,h2,⟨b',h3,h3'⟩,h4,h5⟩:=h;exact ⟨vc,vd,ve,vr,vo,e,h1.kept hg,h2.kept hg,⟨b',h3,h3'.kept hg⟩,h4.kept hg,h5.kept hg⟩
def Hd(b:Nat)(s:SSt):Pv:=⟨fun v w=>KA b w v s,fun h hg=>h.kept hg⟩
section
variable {P:Program} {w:World} {base:Nat} {e:TypeId} {v:Value}
theorem Mf{o:Oper}{a:Act}{K:Act→World→Prop}{Q:Exit→Act→World→Prop}(s x:Operand)(t:TypeId)
  (ho:o.op= .call {callee:= .builtin .append,args:= #[s,x],argTypes:= #[t,t]}) {size bytes:Nat} (hE:zA P t e size bytes) (hsz:0< size) {n:Nat} {cs:List Value} (hs:a.eval s=v) (hown:w.ownsRow base e size v n cs)
  (A:Option Addr) (m c:Nat) (news:List Value) (hx:a.eval x= .slice A m c) (hl:news.length=m*size) (h0:A=none→m=0) (hc: ∀ad,A=some ad→ ∀j u,news[j]? =some u→w.cell? (ad.add j)=some u)
  (h1: ∀u∈news,u.oneCell'=true) (hbytes:(n+m)*bytes≤140737488355328) (hbase:base≤w.heap.size)
  (h: ∀v' w',(Builtin.append_ #[t,t] o.type #[v, .slice A m c]).run P w= .ok v' w'→w'.ownsRow base e size v' (n+m) (cs++news)→w.grownBy w' v.ownBlock→(v'.ownBlock=v.ownBlock∨v'.ownBlock=some w.heap.size)→K (a.put o.dst v') w'):o.wp P a w K Q:=by
 obtain ⟨v',w',hr,h2,h3,h4⟩:=MC (P:=P) (ty:=o.type) hE hsz hown A m c news hl h0 hc h1 hbytes hbase;unfold Oper.wp execOp;simp only [ho,resolve,invoke,builtin,Sem.run_bind,Sem.run_pure,Result.andThen_ok,List.map_toArray,List.map_cons,List.map_nil,hs,hx,hr];exact h v' w' hr h2 h3 h4
theorem Ow{w:World}{g:Nat}{cs:List Value}{e:TypeId}(hbk:Bk w g e cs.toArray)(j:Nat)(u:Value)(hu:cs[j]? =some u):w.cell? ((⟨g,0,none⟩:Addr).add j)=some u:=by
 have:=hbk.cell j
 rw [List.getElem?_toArray,hu] at this;rw [←this];unfold Addr.add;split
 ·rename_i h0
  have:j=0:=by simpa using h0
  subst this;rfl
 ·simp
theorem OO{α:Type}{E:Enc α}{X:Nat→Prop}{xs:List α}{cs:List Value}{y:α}{t:TypeId}{bytes:Nat}(hE:zA P t e E.size bytes)(hacc:Acc E base e X w v xs)(hrep:E.rep (fun g=>X g∧some g≠v.ownBlock) w cs y)
  (hlen:(xs.length+1)*bytes≤140737488355328) (hb:base≤w.heap.size) (hN: ∀g,w.heap.size≤g→X g)
  {o:Oper} {a:Act} {K:Act→World→Prop} {Q:Exit→Act→World→Prop} (s x:Operand)
  (ho:o.op= .call {callee:= .builtin .append,args:= #[s,x],argTypes:= #[t,t]}) (hs:a.eval s=v) (hx:a.eval x= .slice (some ⟨w.heap.size,0,none⟩) 1 1)
  (h: ∀v' w',(Builtin.append_ #[t,t] o.type #[v, .slice (some ⟨w.heap.size,0,none⟩) 1 1]).run P (w.alloc (.cells cs.toArray e))= .ok v' w'→Acc E base e X w' v' (xs++ [y])→w.grownBy w' v.ownBlock→K (a.put o.dst v') w'):o.wp P a (w.alloc (.cells cs.toArray e)) K Q:=by
 obtain ⟨_,css,h1,_,h3⟩:=id hacc;have hcl:=E.len hrep;have hbk:Bk (w.alloc (.cells cs.toArray e)) w.heap.size e cs.toArray:=Bk.new w _ _;have hga:w.grownBy (w.alloc (.cells cs.toArray e)) v.ownBlock:=gAl w _ _;refine Mf s x t ho (size:=E.size) hE E.pos hs (h3.alloc _) (some ⟨w.heap.size,0,none⟩) 1 1 cs hx (by rw [hcl,Nat.one_mul]) (by simp) ?_ (E.ones hrep) hlen (by simp;omega) ?_
 ·intro ad e' j u hu;injection e' with e'
  subst e';exact Ow hbk j u hu
 ·intro v' w' hrun hown hg hat;have hgg:=hga.trans hg;have hat':xM w v v':=hat.imp id fun e=>⟨_,by simp,e⟩
  refine h v' w' hrun (hacc.app (cs2:= [cs]) (ys:= [y]) rfl (fun i hi hi'=> ?_) (fun css' hc'=> ?_) hgg hat' hN) hgg
  ·have:i=0:=by simp at hi;omega
   subst this;exact hrep
  ·have e1:css'=css.flatten:=YY hc' h3;rw [e1];simpa using hown
end
theorem Ra{w0 w:World}{v:Value}{xs:List (Int×List Int)}{i:Int}{u:Value}{y:Int×List Int}{ops:Array Oper}{rest:List Oper}{o:Oper}{a:Act}{Q:Exit→Act→World→Prop}(hgd:o.guard=none)(s x:Operand)
  (ho:o.op= .call {callee:= .builtin .append,args:= #[s,x],argTypes:= #[80,80]}) (hG:w0.grownBy w none) (ht:TZ w0.heap.size w v xs) (hrep:yT.rep (fun g=>w0.heap.size≤g∧some g≠v.ownBlock) w [.int .i64 i,u] y)
  (hlen:(xs.length+1)*32≤140737488355328) (hs:a.eval s=v) (hx:a.eval x= .slice (some ⟨w.heap.size,0,none⟩) 1 1)
  (h: ∀v' w',TZ w0.heap.size w' v' (xs++ [y])→w0.grownBy w' none→wpList Tryz.prog ops Q rest (a.put o.dst v') w'):wpList Tryz.prog ops Q (o::rest) a (w.alloc (.cells #[.int .i64 i,u] 96)):=
 wpList_plain hgd fun _ hK=>OO (cs:= [.int .i64 i,u]) TD ht.acc hrep hlen hG.size (fun g hg=>Nat.le_trans hG.size hg) s x ho hs hx fun v' w' hrun hacc hg=>by
  refine hK _ _ (h v' w' ⟨hacc,fun e=>absurd e (by simp),fun h1 g c ev j z hj hz=> ?_⟩ (zB hG hg fun g he=>(ht.acc.lt g he).1));have hx0:xs= []:=List.eq_nil_of_length_eq_zero (by simpa using h1);rw [ht.rst.1 hx0] at hrun;obtain ⟨hbp,hun,ti,zz,hi,hz0,hz1,hz2,hz3⟩:=TD;obtain ⟨ti',hi',k0,k1,k2⟩:=info_parts RR;rw [hi] at hi';injection hi' with hi'
  subst hi';have hr2:=run_append_nil (P:=Tryz.prog) (w.alloc (.cells #[.int .i64 i,u] 96)) 80 o.type 96 ti _ hun hi k0 ⟨w.heap.size,0,none⟩ 1 1 [.int .i64 i,u] (by rw [hz1];rfl) (fun j u hu=>Ow (Bk.new w _ _) j u hu) (by decide) (by decide) (by rw [hz2];decide);rw [show (#[Value.int .i64 i,u]:Array Value)= [Value.int .i64 i,u].toArray from rfl] at hr2;rw [hrun] at hr2;injection hr2 with e1 e2
  subst e1 e2;injection ev with ev1 ev2 ev3
  injection ev1 with ev1
  injection ev1 with ev1
  subst ev1
  replace hz:=((Bk.new (w.alloc (.cells #[Value.int .i64 i,u] 96)).drew _ _).cell j).symm.trans hz
  rcases Nat.lt_or_ge j 2 with hj2|hj2
  ·obtain rfl:j=0:=by omega
   rw [Array.getElem?_append_left (by simp)] at hz;exact ⟨i,by simpa using hz.symm⟩
  ·rw [Array.getElem?_append_right (by simpa using hj2)] at hz;obtain ⟨hlt,hz⟩:=Array.getElem?_eq_some_iff.1 hz;refine ⟨0, ?_⟩;rw [←hz];simp only [Builtin.zeroCells,Array.getElem_map,Array.getElem_range];have e0:(j - #[Value.int .i64 i,u].size)%(Value.agg #[.int .i64 0, .slice none 0 0]).cells.size=0:=by
    show (j - 2)%2=0;omega
   rw [e0];rfl
attribute [local go_sem] Oper.semAt_some
theorem KW(E:zw)(st:ASt)(gA gM nn:Nat)(k:Int)(X:Nat→Prop)(w:World)(hE:E.ok)(hA:AvW X gA gM nn E st w)(hS:yx E st)(hk:U8 k):
  Calls Tryz.prog 67 #[.pointer (some ⟨gA,0,none⟩), .int .u8 k] w fun e w'=> ∃v,e= .returned v∧TZ w.heap.size w' v (Ye E st k)∧w.grownBy w' none:=by
 have HA:=za hA;have HS:=za hS;have HK:=za hk;obtain ⟨_,_,_,hN1,hN2,_⟩:=zD hE.may;obtain ⟨⟨vc,vd,vo,hb,_⟩,_,_⟩:=hA;have HB:=za hb;have hr:=hb.rule;rw [←Uv];clear hE hk hb hS;obtain ⟨N,hN⟩: ∃N:Nat,E.p.N=(N:Int):=⟨E.p.N.toNat,by omega⟩;have HNN:Hid (E.p.N.toNat=N∧N≤7):=za ⟨by omega,by omega⟩;rw [HNN.out.1];go_enter Tryz.func67,Tryz.ntmps67;go_wp2_with fail;go_loopg [5,14] N (fun g s5 s14 wx=> ∃j:Nat,j+g=N∧s14= .int .i64 j∧Hid (TZ w.heap.size wx s5 (xX st k j)∧w.grownBy wx none))
 case atStart=>exact ⟨0,by omega,rfl,za ⟨TZ.nil _ _,gRf⟩⟩
 case round=>
  obtain ⟨j,hj,rfl,HX⟩:=hrel;rcases Nat.eq_zero_or_pos gk with hg0|hg0
  ·obtain rfl:j=N:=by omega
   have HR:=HX;clear HX hr hg0;go_wp2;go_ret;exact ⟨_,rfl,HR.out.1,HR.out.2⟩
  ·have hjn:(j:Int)< (N:Int):=by omega
   have hw1:IntKind.i64.wrap ((j:Int)+1)=(j:Int)+1:=IntWalk.i64_in _ (by omega);obtain ⟨hacc,hg⟩:=HX.out;have HW1:=za (HA.out.kept hg);have hr1:=(HB.out.grown hg (by simp)).rule;have HAC:=za hacc;have HG:=za hg;have HSN:=za (Vq st k j);have HLB:Hid (((xX st k j).length+1)*32≤140737488355328):=za (by have:=YM st k j;have:=HNN.out;omega);have HI:Hid (I64 ((j:Int)+1)):=za ⟨by have:=HNN.out;omega,by have:=HNN.out;omega⟩;clear hacc hg HX hr;obtain ⟨v,hlk,hpt⟩:=zO.look HW1.out.heard k ((j:Int)+1) HK.out HI.out;unfold plV at hlk;cases hh:st.heard k ((j:Int)+1) with
   |none=>
    rw [hh] at hlk hpt HSN;obtain rfl:v= .pointer none:=hpt;have HFIN:Hid (TZ w.heap.size wr u5 (xX st k (j+1))∧w.grownBy wr none):=za ⟨by rw [HSN.out,List.append_nil];exact HAC.out,HG.out⟩;clear hh HSN HAC HG;go_wp2_with fail;go_roundg (gk - 1)
    case measure=>omega
    case rel=>exact ⟨j+1,by omega,by go_num,HFIN⟩
   |some x=>
    rw [hh] at hlk hpt HSN;obtain ⟨b,rfl,hp⟩:=hpt;have HNU:=za (VH b x X wr hp (HS.out.heard _ _ _ hh).le);clear hh hp;go_wp2_with fail;refine HNU.out.mono ?_;rintro e w5 ⟨v5,rfl,hs5,hg5⟩;have HG5:=za (HG.out.trans hg5);have HAC5:=za (HAC.out.kept hg5);have HREP:Hid (yT.rep (fun g=>w.heap.size≤g∧some g≠u5.ownBlock) w5 [.int .i64 ((j:Int)+1),v5] ((j:Int)+1,Zv x.m x.a x.b)):=za ⟨_,rfl,HI.out,hs5.more fun g _ hx=>⟨Nat.le_trans HG.out.size hx,fun e=>by have:=(HAC.out.acc.lt g e.symm).2;omega⟩⟩;obtain ⟨A5,n5,c5,e5⟩:=hs5.shape;subst e5;clear hs5 hg5 HAC HG;go_wp2_with (at_builtin;refine Ra rfl (.tmp 30) (.tmp 36) rfl HG5.out HAC5.out HREP.out HLB.out rfl rfl ?_);intro v9 w9 hacc9 hg9;have HFIN:Hid (TZ w.heap.size w9 v9 (xX st k (j+1))∧w.grownBy w9 none):=za ⟨by rw [HSN.out];exact hacc9,hg9⟩;clear hacc9 hg9;go_wp2_with fail;go_roundg (gk - 1)
    case measure=>omega
    case rel=>exact ⟨j+1,by omega,by go_num,HFIN⟩
theorem NK(E:zw)(st:ASt)(gA gM nn:Nat)(X:Nat→Prop)(w:World)(hE:E.ok)(hA:AvW X gA gM nn E st w)(hS:yx E st):
  Calls Tryz.prog 30 #[.pointer (some ⟨gA,0,none⟩)] w fun e w'=> ∃v,e= .returned v∧Fm w.heap.size w' v (xL E st)∧w.grownBy w' none:=by
 have HA:=za hA;have HE:=za hE;have HS:=za hS;obtain ⟨w0,hw0⟩: ∃y,y=w.alloc IC:=⟨_,rfl⟩;have HG0:Hid (w.grownBy w0 none):=za (by rw [hw0];exact gAl _ _ none);have HBR:Hid (Bk w0 w.heap.size 82 #[.int .i64 0, .int .i64 0, .slice none 0 0, .slice none 0 0, .slice none 0 0, .slice none 0 0, .slice none 0 0, .bool false]):=za (by rw [hw0];exact Bk.new _ _ _);have HRD:Hid (w0.grownBy w0.drew none):=za (zb w0 1);obtain ⟨⟨vc,vd,vo,hb,hc,hvd,hvo⟩,_,_⟩:=hA;have HB:=za hb;have HCO:Hid (∀W,w0.grownBy W none→Calls Tryz.prog 47 #[vc] W (zH (zh ze) (fun g=>W.heap.size≤g) W E.coms)):=za (fun W hW=>XE vc E.coms X W (hc.kept (HG0.out.trans hW)) hE.few (fun x hx=>by have:=(xp hE.may hE.formed).2.2 x hx;omega));have HND:Hid (∀W,w0.grownBy W none→Calls Tryz.prog 66 #[vd] W (zH ze (fun g=>W.heap.size≤g) W (xc st.dealt))):=za (fun W hW=>Vf vd st.dealt X W (hvd.keep (HG0.out.trans hW) (by simp)) hS.dealt);have HNO:Hid (∀W,w0.grownBy W none→Calls Tryz.prog 66 #[vo] W (zH ze (fun g=>W.heap.size≤g) W (xc st.own))):=za (fun W hW=>Vf vo st.own X W (hvo.keep (HG0.out.trans hW) (by simp)) hS.own);have HTO:Hid (∀W k,U8 k→w0.grownBy W none→Calls Tryz.prog 67 #[.pointer (some ⟨gA,0,none⟩), .int .u8 k] W (zH yT (fun g=>W.heap.size≤g) W (Ye E st k))):=za (fun W k hk hW=>PI E st gA gM nn k X W hE (HA.out.kept (HG0.out.trans hW)) hS hk);obtain ⟨PD,hPD⟩: ∃y,y=xc st.dealt:=⟨_,rfl⟩;obtain ⟨PO,hPO⟩: ∃y,y=xc st.own:=⟨_,rfl⟩;obtain ⟨T8,hT8⟩: ∃y,y=Ye E st 8:=⟨_,rfl⟩;obtain ⟨T9,hT9⟩: ∃y,y=Ye E st 9:=⟨_,rfl⟩;have HST:Hid (xL E st=⟨E.dealer,E.me,E.coms,PD,T8,T9,PO,st.done⟩):=za (by rw [hPD,hPO,hT8,hT9];rfl)
 rw [←hPD] at HND;rw [←hPO] at HNO;rw [HST.out];have HTA:=za (fun W (hW:w0.grownBy W none)=>KW E st gA gM nn 8 X W HE.out (HA.out.kept (HG0.out.trans hW)) HS.out ⟨by decide,by decide⟩);have HTB:=za (fun W (hW:w0.grownBy W none)=>HTO.out W 9 ⟨by decide,by decide⟩ hW);rw [←hT8] at HTA;rw [←hT9] at HTB;obtain ⟨dn,hdn⟩: ∃y,y=st.done:=⟨_,rfl⟩;rw [←hdn] at HB ⊢;obtain ⟨SS,hSS⟩: ∃y:SSt,y=⟨E.dealer,E.me,E.coms,PD,T8,T9,PO,dn⟩:=⟨_,rfl⟩;have HSS:=za hSS;have HRL:Hid (∀w',w0.grownBy w' none→ ∀o,w'.cell? ⟨gA,o,none⟩=(zu E vc vd vo gM dn)[o]?):=za (fun w' hw'=>(HB.out.grown (HG0.out.trans hw') (by simp)).rule);obtain ⟨Ac,nc,cc,rfl⟩:=hc.shape;have hvd': ∃a,vd= .pointer a:=by
  cases h:st.dealt with
  |none=>rw [h] at hvd;exact ⟨_,hvd⟩
  |some x=>rw [h] at hvd;obtain ⟨b,e,_⟩:=hvd;exact ⟨_,e⟩
 have hvo': ∃a,vo= .pointer a:=by
  cases h:st.own with
  |none=>rw [h] at hvo;exact ⟨_,hvo⟩
  |some x=>rw [h] at hvo;obtain ⟨b,e,_⟩:=hvo;exact ⟨_,e⟩
 obtain ⟨pd,rfl⟩:=hvd';obtain ⟨po,rfl⟩:=hvo';clear hE hS hb hc hvd hvo hPD hPO hT8 hT9 hdn hSS HST HTO;go_enter Tryz.func30,Tryz.ntmps30;go_wp2_with fail;rw [←hw0];clear hw0;refine Zf 32 ?_;refine mP0 (.pointer (some ⟨gA,0,none⟩)) ?_;refine mP1 (.pointer (some ⟨gA,0,none⟩)) 0 6 ?_;refine mP1 (.pointer (some ⟨gA,12,none⟩)) 1 7 ?_;refine mQ1 (.int .i64 E.dealer) 2 8 (fun w' hw' K hK=> ?_) ?_
 ·have hc:=HRL.out w' (HRD.out.trans hw');go_simp;exact hK _ rfl rfl
 refine mP0 (.pointer (some ⟨gA,0,none⟩)) ?_;refine mP1 (.pointer (some ⟨gA,0,none⟩)) 4 10 ?_;refine mP1 (.pointer (some ⟨gA,13,none⟩)) 5 11 ?_;refine mQ1 (.int .i64 E.me) 6 12 (fun w' hw' K hK=> ?_) ?_
 ·have hc:=HRL.out w' (HRD.out.trans hw');go_simp;exact hK _ rfl rfl
 refine mP0 (.pointer (some ⟨gA,0,none⟩)) ?_;refine mP1 (.pointer (some ⟨gA,0,none⟩)) 8 14 ?_;refine mP1 (.pointer (some ⟨gA,14,none⟩)) 9 15 ?_;refine mQ1 (.slice Ac nc cc) 10 16 (fun w' hw' K hK=> ?_) ?_
 ·have hc:=HRL.out w' (HRD.out.trans hw');go_simp;exact hK _ rfl rfl
 refine mN1 (Pv.sl (zh ze) (fun g=>w0.heap.size≤g) E.coms) 11 17 (fun w' hw' K hK=> ?_) ?_
 ·go_simp;refine (HCO.out w' (HRD.out.trans hw')).mono ?_;rintro e w3 ⟨v,rfl,hs3,hg3⟩;exact hK _ _ rfl (hs3.more fun g _ hg=>Nat.le_trans (HRD.out.trans hw').size hg) hg3
 refine mP0 (.pointer (some ⟨gA,0,none⟩)) ?_;refine mP1 (.pointer (some ⟨gA,0,none⟩)) 13 19 ?_;refine mP1 (.pointer (some ⟨gA,15,none⟩)) 14 20 ?_;refine mQ1 (.pointer pd) 15 21 (fun w' hw' K hK=> ?_) ?_
 ·have hc:=HRL.out w' (HRD.out.trans hw');go_simp;exact hK _ rfl rfl
 refine mN1 (Pv.sl (ze) (fun g=>w0.heap.size≤g) PD) 16 22 (fun w' hw' K hK=> ?_) ?_
 ·go_simp;refine (HND.out w' (HRD.out.trans hw')).mono ?_;rintro e w3 ⟨v,rfl,hs3,hg3⟩;exact hK _ _ rfl (hs3.more fun g _ hg=>Nat.le_trans (HRD.out.trans hw').size hg) hg3
 refine mP0 (.pointer (some ⟨gA,0,none⟩)) ?_;refine mN1 (GM w0.heap.size T8) 18 24 (fun w' hw' K hK=> ?_) ?_
 ·go_simp;refine (HTA.out w' (HRD.out.trans hw')).mono ?_;rintro e w3 ⟨v,rfl,hs3,hg3⟩;exact hK _ _ rfl ⟨_,(HRD.out.trans hw').size,hs3⟩ hg3
 refine mP0 (.pointer (some ⟨gA,0,none⟩)) ?_;refine mN1 (Pv.sl (yT) (fun g=>w0.heap.size≤g) T9) 20 26 (fun w' hw' K hK=> ?_) ?_
 ·go_simp;refine (HTB.out w' (HRD.out.trans hw')).mono ?_;rintro e w3 ⟨v,rfl,hs3,hg3⟩;exact hK _ _ rfl (hs3.more fun g _ hg=>Nat.le_trans (HRD.out.trans hw').size hg) hg3
 refine mP0 (.pointer (some ⟨gA,0,none⟩)) ?_;refine mP1 (.pointer (some ⟨gA,0,none⟩)) 22 28 ?_;refine mP1 (.pointer (some ⟨gA,16,none⟩)) 23 29 ?_;refine mQ1 (.pointer po) 24 30 (fun w' hw' K hK=> ?_) ?_
 ·have hc:=HRL.out w' (HRD.out.trans hw');go_simp;exact hK _ rfl rfl
 refine mN1 (Pv.sl (ze) (fun g=>w0.heap.size≤g) PO) 25 31 (fun w' hw' K hK=> ?_) ?_
 ·go_simp;refine (HNO.out w' (HRD.out.trans hw')).mono ?_;rintro e w3 ⟨v,rfl,hs3,hg3⟩;exact hK _ _ rfl (hs3.more fun g _ hg=>Nat.le_trans (HRD.out.trans hw').size hg) hg3
 refine mP0 (.pointer (some ⟨gA,0,none⟩)) ?_;refine mP1 (.pointer (some ⟨gA,0,none⟩)) 27 33 ?_;refine mP1 (.pointer (some ⟨gA,18,none⟩)) 28 34 ?_;refine mQ1 (.bool dn) 29 35 (fun w' hw' K hK=> ?_) ?_
 ·have hc:=HRL.out w' (HRD.out.trans hw');go_simp;exact hK _ rfl rfl
 refine mV (Hd w0.heap.size SS) [(3,9),(7,13),(12,18),(17,23),(19,25),(21,27),(26,32),(30,36)] (fun w' hw'=>pQ (pQ (fun x18 h18 x23 h23 x25 h25 x27 h27 x32 h32=>pQ (kD fun K hK=> ?_)))) ?_
 ·have h18:Sl (zh ze) (fun g=>w0.heap.size≤g) w' x18 E.coms:=h18;obtain ⟨A18,n18,c18,e18⟩:=h18.shape;subst e18;have h23:Sl (ze) (fun g=>w0.heap.size≤g) w' x23 PD:=h23;obtain ⟨A23,n23,c23,e23⟩:=h23.shape;subst e23;have h25:QE w0.heap.size w' x25 T8:=h25;obtain ⟨A25,n25,c25,e25⟩:=h25.sl.shape;subst e25;have h27:Sl (yT) (fun g=>w0.heap.size≤g) w' x27 T9:=h27;obtain ⟨A27,n27,c27,e27⟩:=h27.shape;subst e27;have h32:Sl (ze) (fun g=>w0.heap.size≤g) w' x32 PO:=h32;obtain ⟨A32,n32,c32,e32⟩:=h32.shape;subst e32;go_simp;exact hK _ _ rfl (show KA _ _ _ SS by rw [HSS.out];exact ⟨_,_,_,_,_,rfl,h18,h23,h25,h27,h32⟩) gRf
 intro w3 hw3
 iterate 31 (refine pD ?_;intro _)
 intro y31 k31;show wpList Tryz.prog _ _ _ _ w3;simp only [Act.put,sAa,sAb,sAc];have e31:KA w0.heap.size w3 y31 SS:=k31;rw [HSS.out] at e31;obtain ⟨v1,v2,v3,v4,v5,e,s1,s2,s3,s4,s5⟩:=e31;dsimp only at e;obtain ⟨A1,n1,c1,rfl⟩:=s1.shape;obtain ⟨A2,n2,c2,rfl⟩:=s2.shape;obtain ⟨A3,n3,c3,rfl⟩:=s3.sl.shape;obtain ⟨A4,n4,c4,rfl⟩:=s4.shape;obtain ⟨A5,n5,c5,rfl⟩:=s5.shape;subst e;have hb3:=HBR.out.grown (HRD.out.trans hw3) (by simp);have d0:=hb3.rule;have f3:=hb3.free;have HBE:Hid (w.heap.size≤w.heap.size):=za (Nat.le_refl _);obtain ⟨wF,hwF⟩: ∃y,y=(((((((w3.setCell ⟨w.heap.size,0,none⟩ (.int .i64 E.dealer)).setCell ⟨w.heap.size,1,none⟩ (.int .i64 E.me)).setCell ⟨w.heap.size,2,none⟩ (.slice A1 n1 c1)).setCell ⟨w.heap.size,3,none⟩ (.slice A2 n2 c2)).setCell ⟨w.heap.size,4,none⟩ (.slice A3 n3 c3)).setCell ⟨w.heap.size,5,none⟩ (.slice A4 n4 c4)).setCell ⟨w.heap.size,6,none⟩ (.slice A5 n5 c5)).setCell ⟨w.heap.size,7,none⟩ (.bool dn):=⟨_,rfl⟩;have HBF:Hid (Bk wF w.heap.size 82 #[.int .i64 E.dealer, .int .i64 E.me, .slice A1 n1 c1, .slice A2 n2 c2, .slice A3 n3 c3, .slice A4 n4 c4, .slice A5 n5 c5, .bool dn]):=za (by rw [hwF];exact ((((((((hb3.set 0 _).set 1 _).set 2 _).set 3 _).set 4 _).set 5 _).set 6 _).set 7 _));have hgs:w3.grownBy wF (some w.heap.size):=by
  rw [hwF];exact (((((((zi _ _ 0 _).trans (zi _ _ 1 _)).trans (zi _ _ 2 _)).trans (zi _ _ 3 _)).trans (zi _ _ 4 _)).trans (zi _ _ 5 _)).trans (zi _ _ 6 _)).trans (zi _ _ 7 _)
 have HGF:Hid (w.grownBy wF none):=za (zB (HG0.out.trans (HRD.out.trans hw3)) hgs (fun b e=>by injection e with e;omega));have hne: ∀g,w0.heap.size≤g→some g≠some w.heap.size:=fun g hg e=>by
  injection e with e
  have:=HBR.out.lt
  omega
 have hle: ∀g,g< wF.heap.size→w0.heap.size≤g→w.heap.size≤g:=fun g _ hg=>Nat.le_trans HG0.out.size hg
 have HFS:Hid (Fm w.heap.size wF (.agg #[.int .i64 E.dealer, .int .i64 E.me, .slice A1 n1 c1, .slice A2 n2 c2, .slice A3 n3 c3, .slice A4 n4 c4, .slice A5 n5 c5, .bool dn]) ⟨E.dealer,E.me,E.coms,PD,T8,T9,PO,dn⟩):=za ⟨_,_,_,_,_,rfl,(s1.keep hgs hne).more hle,(s2.keep hgs hne).more hle,s3.fin hgs hne HG0.out.size,(s4.keep hgs hne).more hle,(s5.keep hgs hne).more hle⟩;clear k31 s1 s2 s3 s4 s5 hw3 hb3 hgs hne hle;go_wp2_with fail;rw [←hwF];exact ⟨rfl,_,ZI rfl _ rfl HBF.out,_,rfl,HFS.out,HGF.out⟩
end
section
open Go Go.RowKit Go.Shelf Go.Maps
def Off(gA gM g:Nat):Prop:=g≠gA∧g≠gM
structure NmW (w:World) (gp B:Nat) (vd vc:Value) (gA gM nn:Nat) (st:ASt) (W:World):Prop where
 f:AwF w gp B vd vc W
 bA:B≤gA
 bM:B≤gM
 av:AvW (Off gA gM) gA gM nn (EW 0) st W
 ok:yx (EW 0) st
section
variable {w W W':World} {gp B:Nat} {vd vc:Value} {gA gM nn:Nat} {st:ASt}
theorem Sl.off2{α:Type}{E:Enc α}{v:Value}{xs:List α}(h:Sl E (Off gA gM) W v xs)(hg:zj gA gM W W'):Sl E (Off gA gM) W' v xs:=h.keep2 hg (fun e=>e.1 rfl) (fun e=>e.2 rfl)
theorem xT.off2{v:Value}{s:SSt}(h:xT (Off gA gM) W v s)(hg:zj gA gM W W'):xT (Off gA gM) W' v s:=by
 obtain ⟨vc,vd,ve,vr,vo,e,h1,h2,h3,h4,h5⟩:=h;exact ⟨vc,vd,ve,vr,vo,e,h1.off2 hg,h2.off2 hg,h3.off2 hg,h4.off2 hg,h5.off2 hg⟩
theorem NmW.kept(h:NmW w gp B vd vc gA gM nn st W)(hg:W.grownBy W' none):NmW w gp B vd vc gA gM nn st W':=⟨h.f.kept hg,h.bA,h.bM,h.av.kept hg,h.ok⟩
theorem NmW.off(h:NmW w gp B vd vc gA gM nn st W){g:Nat}(hg:W.heap.size≤g):Off gA gM g:=⟨fun e=>by have:=h.av.ltA;omega,fun e=>by have:=h.av.ltM;omega⟩
theorem NmW.take(h:NmW w gp B vd vc gA gM nn st W)(hn:nn+3< maxLen){kind i:Int}(hk8:U8 kind)(hi:I64 i){v:Value}{l:List Int}{Y:Nat→Prop}(hl:Sl ze Y W v l)(hll:l.length≤100000){r:ASt×List yL}(hr:zx (EW 0) st kind i l=r):
  Calls Tryz.prog 21 #[.pointer (some ⟨gA,0,none⟩), .int .u8 kind, .int .i64 i,v] W fun e W'=> ∃v',e= .returned v'∧Sl YC (Off gA gM) W' v' r.2∧NmW w gp B vd vc gA gM (nn+3) r.1 W'∧zj gA gM W W':=by
 refine (Qw (EW 0) st gA gM nn (nn+3) kind i v l (Off gA gM) Y W (VT 0 (by decide)) h.av h.ok hk8 hi (fun e=>e.1 rfl) (fun e=>e.2 rfl) (fun g hg=>h.off hg) ⟨Nat.le_refl _,hn⟩ hl hll).mono ?_;rintro e W' ⟨v',Z,rfl,z1,z2,z3,z4⟩;rw [Vk (VT 0 (by decide)) rfl,hr] at z2 z3;refine ⟨v',rfl,z2.sl.more fun g _ hg=>h.off (z1 g hg),⟨h.f.keep2 z4 h.bA h.bM,h.bA,h.bM,z3.more fun g _ hg=>hg.1, ?_⟩,z4⟩;rw [←hr, ←Vk (VT 0 (by decide)) rfl];exact yx.take (VT 0 (by decide)) h.ok kind i l
theorem NmW.state(h:NmW w gp B vd vc gA gM nn st W):Calls Tryz.prog 30 #[.pointer (some ⟨gA,0,none⟩)] W fun e W'=> ∃v,e= .returned v∧xT (Off gA gM) W' v (xL (EW 0) st)∧W.grownBy W' none:=by
 refine (UX (EW 0) st gA gM nn (Off gA gM) W (VT 0 (by decide)) h.av h.ok).mono ?_;rintro e W' ⟨v,rfl,h1,h2⟩;exact ⟨v,rfl,h1.more fun g _ hg=>h.off hg,h2⟩
theorem AwF.nums(h:AwF w gp B vd vc W)(kind f me:Int)(hk:U8 kind)(hf:I64 f)(hme:1≤me∧me≤4):Calls Tryz.prog 20 #[.agg #[.int .u8 kind, .int .i64 f, .int .u8 1, .slice none 0 0],p4.v,vd, .int .i64 me] W fun e W'=> ∃v',e= .returned v'∧Sl ze (fun g=>W.heap.size≤g) W' v' (Ur p4 kind f 1 [] [DL5] me)∧W.grownBy W' none:=
 (Xy p4 kind f 1 (.slice none 0 0) vd [] [DL5] me (fun _=>False) _ W (xN false) ⟨by decide,by decide⟩ ⟨by decide,by decide⟩ hk hf (Sl.nil _ _ _) h.ds (fun d hd=>by rw [List.mem_singleton.1 hd];exact LG) (by decide) hme).mono (by
  rintro e W' ⟨v',rfl,h1,h2⟩;exact ⟨v',rfl,h1.more fun _ _ hg=>hg.resolve_left id,h2⟩)
theorem RY(h:NmW w gp B vd vc gA gM nn st W){v:Value}{s:SSt}(hs:xT (Off gA gM) W v s)(h1:s.echos.length≤100000)(h2:s.readies.length≤100000):Calls Tryz.prog 29 #[v] W fun e W'=> ∃v',e= .returned v'∧xT (Off gA gM) W' v' s∧W.grownBy W' none:=
 (YB v s _ W hs h1 h2).mono (by
  rintro e W' ⟨v',rfl,k1,k2⟩;exact ⟨v',rfl,k1.more fun g _ hg=>hg.elim id h.off,k2⟩)
theorem NmW.new(h:AwF w gp B vd vc W)(hT:zK W):Calls Tryz.prog 18 #[p4.v, .int .i64 2, .int .i64 1,vc] W fun e W'=> ∃gA gM,e= .returned (.tuple #[.pointer (some ⟨gA,0,none⟩), .int .i64 0])∧NmW w gp B vd vc gA gM 0 ASt.start W'∧W.grownBy W' none:=
 (Vl (EW 0) vc _ W (xN false) (show I64 2 from ⟨by decide,by decide⟩) (show I64 1 from ⟨by decide,by decide⟩) h.cm hT).mono (by
  rintro e W' ⟨hg,h2⟩;rw [if_pos (To (VT 0 (by decide)))] at h2;obtain ⟨gA,gM,rfl,k1,k2,k3⟩:=h2;exact ⟨gA,gM,rfl,⟨h.kept hg,Nat.le_trans h.sz k1,Nat.le_trans h.sz k2,k3.more fun g _ hg=>hg.2,yx.start _⟩,hg⟩)
end
theorem QN{α:Type}{P:Program}{E:Enc α}{base:Nat}{e:TypeId}{X:Nat→Prop}{w:World}{xs:List α}{t:TypeId}{bytes g c:Nat}{ops:Array Oper}{rest:List Oper}{o:Oper}{a:Act}{Q:Exit→Act→World→Prop}(hgd:o.guard=none)(s x:Operand)
  (ho:o.op= .call {callee:= .builtin .append,args:= #[s,x],argTypes:= #[t,t]}) (hE:zA P t e E.size bytes) (hacc:Acc E base e X w (.slice (some ⟨g,0,none⟩) xs.length c) xs) (hs:a.eval s= .slice (some ⟨g,0,none⟩) xs.length c) (hx:a.eval x= .slice (some ⟨g,0,none⟩) xs.length c)
  (hlen:(xs.length+xs.length)*bytes≤140737488355328) (hb:base≤w.heap.size) (hN: ∀g,w.heap.size≤g→X g)
  (h: ∀v' w',Acc E base e X w' v' (xs++xs)→w.grownBy w' (some g)→(v'= .slice (some ⟨g,0,none⟩) (xs.length+xs.length) c∨w.grownBy w' none)→wpList P ops Q rest (a.put o.dst v') w'):wpList P ops Q (o::rest) a w:=
 wpList_plain hgd fun _ hK=>by
  obtain ⟨_,css,h1,h2,h3⟩:=id hacc;have hcl: ∀i (hi:i< css.length),css[i].length=E.size:=fun i hi=>E.len (h2 i (by omega) hi)
  have hcells:=h3.cells (g:=g) rfl;refine Mf s x t ho (size:=E.size) hE E.pos hs h3 (some ⟨g,0,none⟩) xs.length c css.flatten hx h3.1 (by simp) (fun ad e' j u hu=>by injection e' with e';subst e';exact hcells j u hu) (fun u hu=> ?_) hlen hb ?_
  ·obtain ⟨cs,hcs,huc⟩:=List.mem_flatten.1 hu;obtain ⟨i,hi,rfl⟩:=List.mem_iff_getElem.1 hcs;exact E.ones (h2 i (by omega) hi) u huc
  ·intro v' w' hrun hown hg hat;have hat':xM w (.slice (some ⟨g,0,none⟩) xs.length c) v':=hat.imp id fun e=>⟨_,Nat.le_refl _,e⟩
   refine hK _ _ (h v' w' (hacc.app (cs2:=css) (ys:=xs) h1 (fun i hi hi'=>h2 i hi hi') (fun css' hc'=> ?_) hg hat' hN) hg ?_)
   ·have e1:css'=css.flatten:=YY hc' h3;rw [e1];exact hown
   ·obtain ⟨hbp,hun,ti,zz,hi,hz0,hz1,hz2,hz3⟩:=hE;rcases h3.2 with ⟨e0,_⟩|⟨g',cap,cur,e0,hbg,hg0,hnc,hcm,hcs,htake⟩
    ·cases e0
    ·injection e0 with e1 e2 e3
     injection e1 with e1
     injection e1 with e1
     subst e1 e3;by_cases hroom:xs.length+xs.length≤c
     ·have hr:=run_append_room (P:=P) w t o.type e ti hun hi g xs.length c cur hg0 ⟨g,0,none⟩ xs.length c css.flatten (by rw [hz1];exact h3.1) hcells (fun u hu=>by
       obtain ⟨cs,hcs,huc⟩:=List.mem_flatten.1 hu;obtain ⟨i,hi,rfl⟩:=List.mem_iff_getElem.1 hcs;exact E.ones (h2 i (by omega) hi) u huc) hroom (by rw [hz1,h3.1,hcs, ←Nat.add_mul];exact Nat.mul_le_mul_right _ hroom)
      rw [hrun] at hr;injection hr with r1 r2
      exact .inl r1
     ·have hr:=run_append_grow (P:=P) w t o.type e ti zz hun hi hz0 ⟨g,0,none⟩ xs.length c css.flatten (by rw [hz1];exact h3.1) hcells ⟨g,0,none⟩ xs.length c css.flatten (by rw [hz1];exact h3.1) hcells (by omega) (by
       have:(xs.length+xs.length)*1≤(xs.length+xs.length)*bytes:=Nat.mul_le_mul_left _ hbp
       omega) (by rw [hz2];exact growslice_fits (by omega) hlen)
      rw [hrun] at hr;injection hr with r1 r2
      exact .inr (by rw [r2];exact (show w.grownBy w.drew none from zb w 1).trans (gAl _ _ none))
theorem Sl.apart2{X:Nat→Prop}{W:World}{v:Value}{xs:List Int}(h:Sl ze X W v xs)(hn:xs.length≠1){g:Nat}(hg: ∀i u,i%2=0→W.cell? ⟨g,i,none⟩=some u→ ∃n,u= .int .i64 n):Sl ze (fun k=>X k∧k≠g) W v xs:=by
 obtain ⟨A,c,e,h1,h2,h3⟩:=h;refine ⟨A,c,e,h1,h2,fun hx=> ?_⟩;obtain ⟨g',o,eA,hl,hX,hc⟩:=h3 hx;refine ⟨g',o,eA,hl,⟨hX,fun eg=> ?_⟩,hc⟩;subst eg;have hpos:1< xs.length:=by
  have:=List.length_pos_iff.2 hx
  omega
 have key: ∀k (hk:k< xs.length),W.cell? ⟨g',o+k,none⟩=some (.int .u64 xs[k]):=fun k hk=>by
  obtain ⟨cs,⟨rfl,_⟩,hcell⟩:=hc k hk
  have:=hcell 0 _ rfl
  simpa [ze] using this
 rcases Nat.mod_two_eq_zero_or_one o with h0|h0
 ·obtain ⟨n,hn⟩:=hg (o+0) _ (by omega) (key 0 (by omega));cases hn
 ·obtain ⟨n,hn⟩:=hg (o+1) _ (by omega) (key 1 (by omega));cases hn
theorem Sl.apartS2{X:Nat→Prop}{W:World}{v:Value}{xs:List (List Int)}(h:Sl (zh ze) X W v xs)(hn:xs.length≠1)(hi: ∀x∈xs,x.length≠1){g:Nat}(hg: ∀i u,i%2=0→W.cell? ⟨g,i,none⟩=some u→ ∃n,u= .int .i64 n):Sl (zh ze) (fun k=>X k∧k≠g) W v xs:=by
 obtain ⟨A,c,e,h1,h2,h3⟩:=h;refine ⟨A,c,e,h1,h2,fun hx=> ?_⟩;obtain ⟨g',o,eA,hl,hX,hc⟩:=h3 hx;refine ⟨g',o,eA,hl,⟨hX,fun eg=> ?_⟩,fun i hii=> ?_⟩
 ·subst eg;have hpos:1< xs.length:=by
   have:=List.length_pos_iff.2 hx
   omega
  have key: ∀k (hk:k< xs.length), ∃A c n,W.cell? ⟨g',o+k,none⟩=some (.slice A n c):=fun k hk=>by
   obtain ⟨cs,⟨v',rfl,hv⟩,hcell⟩:=hc k hk;obtain ⟨A',n',c',rfl⟩:=hv.shape
   have:=hcell 0 _ rfl
   exact ⟨A',c',n',by simpa [zh] using this⟩
  rcases Nat.mod_two_eq_zero_or_one o with h0|h0
  ·obtain ⟨_,_,_,k0⟩:=key 0 (by omega);obtain ⟨n,hn⟩:=hg (o+0) _ (by omega) k0;cases hn
  ·obtain ⟨_,_,_,k0⟩:=key 1 (by omega);obtain ⟨n,hn⟩:=hg (o+1) _ (by omega) k0;cases hn
 ·obtain ⟨cs,⟨v',rfl,hv⟩,hcell⟩:=hc i hii;exact ⟨[v'],⟨v',rfl,hv.apart2 (hi _ (List.getElem_mem hii)) hg⟩,hcell⟩
end
end Go.Proofs.YtkdfjkdphdfclaaGreatDoor

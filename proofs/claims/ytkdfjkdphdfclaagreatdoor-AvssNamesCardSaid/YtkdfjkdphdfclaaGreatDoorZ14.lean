/- Proves for the statement AvssNamesCardSaid, under no other condition than the statement's own, that the card avssNames holds of the program. Part 14. -/
import Derived.Test.YtkdfjkdphdfclaaGreatDoorZ13
set_option maxRecDepth 100000
set_option maxHeartbeats 16000000
set_option linter.unusedVariables false
set_option linter.unusedSimpArgs false
namespace Go.Proofs.YtkdfjkdphdfclaaGreatDoor
section
open Go Go.RowKit Go.Shelf
theorem IR{pa:Option Addr}{g:Nat}{dr:Nat→Int}{TI:Nat→World→Prop}{bl:Nat→Prop}{most:Nat}(p:Par)(hT:TpP pa g p.Q dr TI bl most)(x:Int)(t k:Nat)(w:World)(hx:U64 x)(hq:U64 p.Q)(hq0:0< p.Q)(ht:(t:Int)=p.T+1)(h2:t=2∨t=3)(hk:k+(t*t - 1)≤most)(hI:TI k w):
  Calls Tryz.prog 101 #[p.v, .int .u64 x, .func (.func 98) #[.pointer pa] #[]] w fun e w'=> ∃v,e= .returned v∧Sl (zh ze) (fun b=>w.heap.size≤b) w' v (NV x p.Q dr t k)∧TI (k+(t*t - 1)) w'∧w.grownBy w' (some g):=by
 rcases h2 with rfl|rfl
 ·exact KN p hT x k w hx hq hq0 (by omega) hk hI
 ·exact KM p hT x k w hx hq hq0 (by omega) hk hI
theorem LD(p:Par)(vl:Value)(l:List (Int×Int))(n:Nat)(X:Nat→Prop)(w:World){pa:Option Addr}{g:Nat}{dr:Nat→Int}{TI:Nat→World→Prop}{bl:Nat→Prop}{most:Nat}(hT:TpP pa g p.Q dr TI bl most)(hp:p.ok)(hm:Va p=true)(hTab:zK w)(h:Sl zo X w vl l)(hX: ∀b,X b→b≠g)(hl:(l.length:Int)=zX p)(hn:1≤n∧n≤7)(k0 t:Nat)(ht:(t:Int)=p.T+1)(hI:TI k0 w)(hmost:k0+l.length*(2*(t*t - 1))≤most):
  Calls Tryz.prog 46 #[p.v,vl, .int .i64 n, .pointer pa] w fun e w'=> ∃vm vr vc,e= .returned (.tuple #[.agg #[vm,vr,vc], .int .i64 0])∧Sl (zh (zh ze)) (fun b=>w.heap.size≤b) w' vm (Hr p (xl l p.Q dr t k0 l.length) (xm l p.Q dr t k0 l.length))∧Sl (zh (zh zo)) (fun b=>w.heap.size≤b) w' vr ((List.range n).map fun j:Nat=>Vz p.Q (xl l p.Q dr t k0 l.length) (xm l p.Q dr t k0 l.length) t ((j:Int)+1))∧Sl (zh (zh zo)) (fun b=>w.heap.size≤b) w' vc ((List.range n).map fun j:Nat=>Ub p.Q (xl l p.Q dr t k0 l.length) (xm l p.Q dr t k0 l.length) t ((j:Int)+1))∧TI (k0+l.length*(2*(t*t - 1))) w'∧w.grownBy w' (some g):=by
 have HT:=za hT;have HP:=za hp;have HX:=za hX;obtain ⟨hq,_,_,n1,n2,n3,t1,t2,t3,hs,kk1,dd1⟩:=zD hm;have hsec:=Yt hs;have HQ:Hid (U64 p.Q∧0< p.Q):=za ⟨hp.Q,Tu hq⟩;have hL10:l.length≤10:=by omega
 have ht23:t=2∨t=3:=by omega
 have HT23:=za ht23;obtain ⟨hn1,hn7⟩:=hn;obtain ⟨dd,hdd⟩: ∃y,y=t*t - 1:=⟨_,rfl⟩;rw [←hdd] at hmost ⊢;have HDD:=za hdd;obtain ⟨A,c,rfl,hl1,hl2⟩:=h.form;have hGW:g< w.heap.size:=hT.old hI hT.own;have HGW:=za hGW;have HOB:Hid (∀b,bl b→b< w.heap.size):=za (fun b hb=>hT.old hI hb);obtain ⟨w0,hw0⟩: ∃y,y=(w.alloc (Obj.cells p.cells 39)).alloc (Obj.cells #[.slice none 0 0, .slice none 0 0, .slice none 0 0] 107):=⟨_,rfl⟩;have HG0:Hid (w.grownBy w0 none):=za (by rw [hw0];exact VQ);have HB0:Hid (Bk w0 w.heap.size 39 p.cells):=za (by rw [hw0];exact (Bk.new w _ _).alloc _);have HR0:Hid (Bk w0 (w.heap.size+1) 107 #[.slice none 0 0, .slice none 0 0, .slice none 0 0]):=za (by
  rw [hw0];have h:=Bk.new (w.alloc (Obj.cells p.cells 39)) 107 #[.slice none 0 0, .slice none 0 0, .slice none 0 0];rw [World.size_alloc] at h;exact h)
 have HI0:Hid (TI k0 w0):=za (hT.keep hI HG0.out (by simp));have HMY:=za (fun (w':World) (hg:w0.grownBy w' none)=>Pi p w' hp (hTab.kept (HG0.out.trans hg)));rw [hm] at HMY;have HMAY:=za hm;have HSEC:=za (XU p);rw [←hl] at HSEC;have HL:=za (h.kept HG0.out);have HTP:=za ht;have HMO:=za hmost;clear hT hp hX hq n1 n2 n3 t1 t2 t3 hs kk1 dd1 hsec hm hTab h hI ht hmost hl hGW hdd ht23;go_enter Tryz.func46,Tryz.ntmps46;go_wp2_with fail;rw [←hw0];have hp0:=HB0.out.prule;clear hw0;go_wp2_with fail;refine (HMY.out _ gRf).mono ?_;rintro e w1 ⟨rfl,hg⟩;have HG1:Hid (w0.grownBy w1 none):=za hg;have hp1:=(HB0.out.grown hg (by simp)).prule;clear hg hp0 HMY;go_wp2_with fail;refine (HSEC.out _).mono ?_;rintro e w2 ⟨rfl,hg⟩;have HG2:Hid (w0.grownBy w2 none):=za (HG1.out.trans hg);clear hg hp1 HSEC;have hn7': ¬((n:Int)>7):=by omega
 have hn1': ¬((n:Int)< 1):=by omega
 go_upto_region 5 with (fail)
 have HB2:Hid (Bk w2 w.heap.size 39 p.cells):=za (HB0.out.grown HG2.out (by simp));have HR2:Hid (Bk w2 (w.heap.size+1) 107 #[.slice none 0 0, .slice none 0 0, .slice none 0 0]):=za (HR0.out.grown HG2.out (by simp));have HI2:Hid (TI k0 w2):=za (HT.out.keep HI0.out HG2.out (by simp));have HW2:Hid (w.heap.size+1< w2.heap.size∧g< w.heap.size):=za ⟨HR2.out.lt,HGW.out⟩;have HPX:Hid (∀wx,w2.grownBy wx (some g)→Bk wx w.heap.size 39 p.cells):=za (fun wx hg=>HB2.out.grown hg (fun e=>by injection e with e;have:=HW2.out.2;omega));have HLX:Hid (∀wx,w2.grownBy wx (some g)→Sl zo X wx (.slice A l.length c) l):=za (fun wx hg=>(HL.out.kept HG2.out).keep hg (fun b hb e=>HX.out b hb (by injection e with e)));have HTW:Hid (∀(x:Int) (k:Nat) (wx:World),U64 x→k+dd≤most→TI k wx→Calls Tryz.prog 101 #[p.v, .int .u64 x, .func (.func 98) #[.pointer pa] #[]] wx fun e w'=> ∃v,e= .returned v∧Sl (zh ze) (fun b=>wx.heap.size≤b) w' v (NV x p.Q dr t k)∧TI (k+dd) w'∧wx.grownBy w' (some g)):=za (fun x k wx hx hk hi=>by
  rw [HDD.out] at hk ⊢;exact IR p HT.out x t k wx hx HQ.out.1 HQ.out.2 HTP.out HT23.out hk hi)
 obtain ⟨L,hLL⟩: ∃y,y=l.length:=⟨_,rfl⟩;have HLN:=za hLL;rw [←hLL] at hL10 hl1 HMO HLX ⊢;clear hLL;go_loopg [10,11,40] L (fun gk s10 s11 s40 wx=> ∃s:Nat,s+gk=L∧s40= .int .i64 s∧Hid (xU (zh (zh ze)) (zh (zh ze)) w2.heap.size 43 43 (fun b=>w2.heap.size≤b) wx s10 s11 (xl l p.Q dr t k0 s) (xm l p.Q dr t k0 s)∧TI (k0+s*(2*dd)) wx∧w2.grownBy wx (some g)))
 case atStart=>exact ⟨0,by omega,rfl,za ⟨⟨Acc.nil _ _ _ _ _,Acc.nil _ _ _ _ _⟩,by simpa using HI2.out,World.grownBy.refl _ _⟩⟩
 case round=>
  obtain ⟨s,hsL,rfl,HXX⟩:=hrel;have HS0:=za HXX.out.1;have HI3:=za HXX.out.2.1;have HG3:=za HXX.out.2.2;clear HXX;have hp3:=(HPX.out _ HG3.out).prule;cases gk with
  |zero=>
   have eL:L=s:=by omega
   subst eL;have hno: ¬((L:Int)< (L:Int)):=by omega
   obtain ⟨F,hF⟩: ∃y,y=xl l p.Q dr t k0 L:=⟨_,rfl⟩;obtain ⟨R,hR⟩: ∃y,y=xm l p.Q dr t k0 L:=⟨_,rfl⟩;rw [←hF, ←hR] at HS0;have HFL:Hid (F.length=L∧R.length=L):=za (by rw [hF,hR];simp [xl,xm]);have HSQ:Hid ((∀M∈F,SqL t M)∧(∀M∈R,SqL t M)):=za (by rw [hF,hR];exact ⟨Ld _ _ _ _ _ _ (by have:=HT23.out;omega),Le _ _ _ _ _ _ (by have:=HT23.out;omega)⟩);have HFE:=za hF;have HRE:=za hR;obtain ⟨AF,cF,eF,_,_⟩:=HS0.out.fst.sl.form;obtain ⟨AR,cR,eR,_,_⟩:=HS0.out.snd.sl.form;rw [HFL.out.1] at eF;rw [HFL.out.2] at eR;subst eF eR;have HMX:=za (callsIn_wide.1<|Lc 6 (Nat.le_refl _) p (.slice AF L cF) (.slice AR L cR) F R TT wr HP.out (HS0.out.fst.sl.more fun _ _ _=>trivial) (HS0.out.snd.sl.more fun _ _ _=>trivial) (by rw [HFL.out.1];omega) (by rw [HFL.out.2];omega) (fun M hM=>⟨by rw [(HSQ.out.1 M hM).1];have:=HT23.out;omega,fun c hc=>by rw [(HSQ.out.1 M hM).2 c hc];have:=HT23.out;omega⟩) (fun M hM=>⟨by rw [(HSQ.out.2 M hM).1];have:=HT23.out;omega,fun c hc=>by rw [(HSQ.out.2 M hM).2 c hc];have:=HT23.out;omega⟩));clear hF hR HTW HLX HMO;go_wp2_with fail;refine HMX.out.mono ?_;rintro e w3 ⟨vm,rfl,hsm,hgm⟩;obtain ⟨Am,nm,cm,rfl⟩:=hsm.shape;obtain ⟨w4,hw4⟩: ∃y,y=w3.alloc (Obj.cells #[.slice Am nm cm, .slice none 0 0, .slice none 0 0] 107):=⟨_,rfl⟩;obtain ⟨Bd,hBd⟩: ∃y,y=w3.heap.size:=⟨_,rfl⟩;have HG34:Hid (wr.grownBy w4 none):=za (by rw [hw4];exact hgm.trans (gAl _ _ none));have HBD:Hid (Bk w4 Bd 107 #[.slice Am nm cm, .slice none 0 0, .slice none 0 0]):=za (by rw [hw4,hBd];exact Bk.new _ _ _);have HSZ4:Hid (w4.heap.size=Bd+1∧wr.heap.size≤Bd∧w2.heap.size≤wr.heap.size):=za (by rw [hw4,hBd,World.size_alloc];exact ⟨rfl,hgm.size,HG3.out.size⟩)
   have HSM:Hid (Sl (zh (zh ze)) (fun b=>w2.heap.size≤b∧b< Bd) w4 (.slice Am nm cm) (Hr p F R)):=za (by
    rw [hw4,hBd];exact (hsm.bounded.kept (gAl _ _ none)).more fun b _ hb=>⟨Nat.le_trans HG3.out.size hb.1,hb.2⟩)
   have HF4:Hid (Sl (zh (zh ze)) (fun b=>b< Bd) w4 (.slice AF L cF) F):=za ((HS0.out.fst.sl.bounded.kept HG34.out).more fun b _ hb=>Nat.lt_of_lt_of_le hb.2 HSZ4.out.2.1);have HR4:Hid (Sl (zh (zh ze)) (fun b=>b< Bd) w4 (.slice AR L cR) R):=za ((HS0.out.snd.sl.bounded.kept HG34.out).more fun b _ hb=>Nat.lt_of_lt_of_le hb.2 HSZ4.out.2.1);have HI4:Hid (TI (k0+L*(2*dd)) w4):=za (HT.out.keep HI3.out HG34.out (by simp));have HG4:Hid (w2.grownBy w4 (some g)):=za (HG3.out.trans (HG34.out.but _));have HPD:Hid (∀wx,w4.grownBy wx (some Bd)→Bk wx w.heap.size 39 p.cells):=za (fun wx hg=>(HPX.out _ HG4.out).grown hg (fun e=>by injection e with e;have:=HW2.out;have:=HSZ4.out;omega));have HFX:Hid (∀wx,w4.grownBy wx (some Bd)→Sl (zh (zh ze)) (fun b=>b< Bd) wx (.slice AF L cF) F):=za (fun wx hg=>HF4.out.keep hg (fun b hb e=>by injection e with e;omega));have HRX:Hid (∀wx,w4.grownBy wx (some Bd)→Sl (zh (zh ze)) (fun b=>b< Bd) wx (.slice AR L cR) R):=za (fun wx hg=>HR4.out.keep hg (fun b hb e=>by injection e with e;omega));have HST:Hid (∃vr vc,Bk w4 Bd 107 #[.slice Am nm cm,vr,vc]∧xU (zh (zh zo)) (zh (zh zo)) w4.heap.size 103 103 (fun b=>w4.heap.size≤b) w4 vr vc ((List.range 0).map fun k:Nat=>Vz p.Q F R t ((k:Int)+1)) ((List.range 0).map fun k:Nat=>Ub p.Q F R t ((k:Int)+1))∧w4.grownBy w4 (some Bd)):=za ⟨_,_,HBD.out,⟨Acc.nil _ _ _ _ _,Acc.nil _ _ _ _ _⟩,World.grownBy.refl _ _⟩;clear hsm hgm HMX HS0 HF4 HR4 HI3 HBD HG34 HPX HG3;go_upto_region 12 with (fail)
   rw [←hw4, ←hBd];clear hw4 hBd hp3;go_loopg [15] n (fun gk s15 wx=> ∃j:Nat,j+gk=n∧s15= .int .u64 ((j:Int)+1)∧Hid (∃vr vc,Bk wx Bd 107 #[.slice Am nm cm,vr,vc]∧xU (zh (zh zo)) (zh (zh zo)) w4.heap.size 103 103 (fun b=>w4.heap.size≤b) wx vr vc ((List.range j).map fun k:Nat=>Vz p.Q F R t ((k:Int)+1)) ((List.range j).map fun k:Nat=>Ub p.Q F R t ((k:Int)+1))∧w4.grownBy wx (some Bd)))
   case atStart=>exact ⟨0,by omega,rfl,HST⟩
   case round=>
    rename World=>wj
    obtain ⟨j,hjn,rfl,HDX⟩:=hrel;obtain ⟨vr,vc,hbd,hsd,hgd⟩:=HDX.out;have HBd:=za hbd;have HSd:=za hsd;have HGd:=za hgd;clear hbd hsd hgd HDX HST;obtain ⟨Ar1,nr1,cr1,rfl⟩:=HSd.out.fst.sl.shape;obtain ⟨Ac1,nc1,cc1,rfl⟩:=HSd.out.snd.sl.shape;have hwn:IntKind.u64.wrap (n:Int)=(n:Int):=IntWalk.u64_in _ (by omega);cases gk with
    |zero=>
     obtain rfl:j=n:=by omega
     have hno2: ¬((j:Int)+1≤(j:Int)):=by omega
     have HG24:Hid (w2.grownBy wj (some g)):=za (HG4.out.andThen HGd.out (fun b e=> .inl (by injection e with e;have:=HSZ4.out;omega)));have HR8:Hid (Bk wj (w.heap.size+1) 107 #[.slice none 0 0, .slice none 0 0, .slice none 0 0]):=za (HR2.out.grown HG24.out (fun e=>by injection e with e;have:=HW2.out;omega));have c0:=HBd.out.cell 0;have c1:=HBd.out.cell 1;have c2:=HBd.out.cell 2;have r0:=HR8.out.cell 0;have r1:=HR8.out.cell 1;have r2:=HR8.out.cell 2;have f8:=HR8.out.free;simp at c0 c1 c2 r0 r1 r2;obtain ⟨wF,hwF⟩: ∃x,x=((wj.setCell ⟨w.heap.size+1,0,none⟩ (.slice Am nm cm)).setCell ⟨w.heap.size+1,1,none⟩ (.slice Ar1 nr1 cr1)).setCell ⟨w.heap.size+1,2,none⟩ (.slice Ac1 nc1 cc1):=⟨_,rfl⟩;have HF8:Hid (Bk wF (w.heap.size+1) 107 #[.slice Am nm cm, .slice Ar1 nr1 cr1, .slice Ac1 nc1 cc1]):=za (by rw [hwF];exact ((HR8.out.set 0 _).set 1 _).set 2 _);have HGF:Hid (wj.grownBy wF (some (w.heap.size+1))):=za (by rw [hwF];exact ((zi wj (w.heap.size+1) 0 _).trans (zi _ (w.heap.size+1) 1 _)).trans (zi _ (w.heap.size+1) 2 _));have HFIN:Hid (Sl (zh (zh ze)) (fun b=>w.heap.size≤b) wF (.slice Am nm cm) (Hr p (xl l p.Q dr t k0 L) (xm l p.Q dr t k0 L))∧Sl (zh (zh zo)) (fun b=>w.heap.size≤b) wF (.slice Ar1 nr1 cr1) ((List.range j).map fun k:Nat=>Vz p.Q (xl l p.Q dr t k0 L) (xm l p.Q dr t k0 L) t ((k:Int)+1))∧Sl (zh (zh zo)) (fun b=>w.heap.size≤b) wF (.slice Ac1 nc1 cc1) ((List.range j).map fun k:Nat=>Ub p.Q (xl l p.Q dr t k0 L) (xm l p.Q dr t k0 L) t ((k:Int)+1))∧TI (k0+L*(2*dd)) wF∧w.grownBy wF (some g)):=za (by
      rw [←HFE.out, ←HRE.out];have h2:=HW2.out;have h4:=HSZ4.out;refine ⟨?_, ?_, ?_, ?_, ?_⟩
      ·exact ((HSM.out.keep HGd.out (fun b hb e=>by injection e with e;omega)).keep HGF.out (fun b hb e=>by injection e with e;omega)).more fun b _ hb=>by have:=hb.1;omega
      ·exact (HSd.out.fst.sl.keep HGF.out (fun b hb e=>by injection e with e;have:=hb.1;omega)).more fun b _ hb=>by have:=hb.1;omega
      ·exact (HSd.out.snd.sl.keep HGF.out (fun b hb e=>by injection e with e;have:=hb.1;omega)).more fun b _ hb=>by have:=hb.1;omega
      ·exact HT.out.keep (HT.out.keep HI4.out HGd.out (fun b e hb=>by injection e with e;have:=HOB.out b hb;omega)) HGF.out (fun b e hb=>by injection e with e;have:=HOB.out b hb;omega)
      ·exact (((HG0.out.trans HG2.out).but _).trans HG24.out).andThen HGF.out (fun b e=> .inl (by injection e with e;omega)))
     clear HBd HSd HG24 HR8 HGF HSM;go_wp2_with fail;rw [←hwF];refine ⟨rfl,_,Ru rfl _ rfl rfl HF8.out, ?_⟩;refine ⟨_,_,_,rfl, ?_⟩;rw [←HLN.out];exact HFIN.out
    |succ m=>
     have hj1:(j:Int)+1≤(n:Int):=by omega
     have hj0:(0:Int)≤(j:Int):=Int.natCast_nonneg j;have HIN:Hid (xU (zh zo) (zh zo) wj.heap.size 72 72 (fun b=>wj.heap.size≤b) wj (.slice none 0 0) (.slice none 0 0) ((List.range 0).map (Jk p.Q F R t ((j:Int)+1))) ((List.range 0).map (In p.Q F R t ((j:Int)+1)))∧wj.grownBy wj none):=za ⟨⟨Acc.nil _ _ _ _ _,Acc.nil _ _ _ _ _⟩,World.grownBy.refl _ _⟩;go_upto_region 16 with (fail)
     go_loopg [16,17,76] L (fun gk s16 s17 s76 wx=> ∃i:Nat,i+gk=L∧s76= .int .i64 i∧Hid (xU (zh zo) (zh zo) wj.heap.size 72 72 (fun b=>wj.heap.size≤b) wx s16 s17 ((List.range i).map (Jk p.Q F R t ((j:Int)+1))) ((List.range i).map (In p.Q F R t ((j:Int)+1)))∧wj.grownBy wx none))
     case atStart=>exact ⟨0,by omega,rfl,HIN⟩
     case round=>
      rename World=>wi
      obtain ⟨i,hiL,rfl,HY⟩:=hrel;have HSi:=za HY.out.1;have HGi:=za HY.out.2;clear HY HIN;obtain ⟨A16,n16,c16,rfl⟩:=HSi.out.fst.sl.shape;obtain ⟨A17,n17,c17,rfl⟩:=HSi.out.snd.sl.shape;cases gk with
      |zero=>
       have eI:L=i:=by omega
       subst eI;have hno3: ¬((L:Int)< (L:Int)):=by omega
       obtain ⟨y,hy⟩: ∃y,y=Vz p.Q F R t ((j:Int)+1):=⟨_,rfl⟩;obtain ⟨z,hz⟩: ∃z,z=Ub p.Q F R t ((j:Int)+1):=⟨_,rfl⟩;obtain ⟨xs,hxs⟩: ∃xs,xs=(List.range j).map fun k:Nat=>Vz p.Q F R t ((k:Int)+1):=⟨_,rfl⟩
       obtain ⟨ys,hys⟩: ∃ys,ys=(List.range j).map fun k:Nat=>Ub p.Q F R t ((k:Int)+1):=⟨_,rfl⟩
       have HXS:Hid ((List.range (j+1)).map (fun k:Nat=>Vz p.Q F R t ((k:Int)+1))=xs++ [y]):=za (by rw [Nm,hxs,hy]);have HYS:Hid ((List.range (j+1)).map (fun k:Nat=>Ub p.Q F R t ((k:Int)+1))=ys++ [z]):=za (by rw [Nm,hys,hz]);have HGw:Hid (wj.grownBy wi.drew none):=za (HGi.out.trans (zb wi 1));obtain ⟨hi,hhi⟩: ∃y,y=wi.drew.heap.size:=⟨_,rfl⟩;have HR1:Hid ((zh (zh zo)).rep (fun b=>wj.heap.size≤b∧b< hi) wi.drew [.slice A16 n16 c16] y):=za ⟨_,rfl,by
        rw [hy];unfold Vz;rw [HFL.out.1,hhi];exact ((HSi.out.fst.sl.kept (zb wi 1)).bounded).more fun b _ hb=>⟨hb.1.1,hb.2⟩⟩
       have HR2':Hid ((zh (zh zo)).rep (fun b=>wj.heap.size≤b∧b< hi) wi.drew [.slice A17 n17 c17] z):=za ⟨_,rfl,by
        rw [hz];unfold Ub;rw [HFL.out.1,hhi];exact ((HSi.out.snd.sl.kept (zb wi 1)).bounded).more fun b _ hb=>⟨hb.1.1,hb.2⟩⟩
       have HWL:Hid (∀b,(Value.slice Ar1 nr1 cr1).ownBlock=some b→b< wj.heap.size):=za (fun b e=>(HSd.out.fst.lt b e).2);have HBL:Hid (∀b,(Value.slice Ac1 nc1 cc1).ownBlock=some b→b< wj.heap.size):=za (fun b e=>(HSd.out.snd.lt b e).2);have HD4:Hid (Bd< w4.heap.size∧w4.heap.size≤wj.heap.size):=za ⟨by have:=HSZ4.out;omega,HGd.out.size⟩;rw [←hxs, ←hys] at HSd;have HC0:Hid ((NW (zh (zh zo)) 107 103 w4 Bd wj.heap.size hi #[.slice Am nm cm, .slice Ar1 nr1 cr1, .slice Ac1 nc1 cc1] (.slice Ar1 nr1 cr1) (.slice Ac1 nc1 cc1) (.slice A16 n16 c16) (.slice A17 n17 c17) xs ys y z).C [] wi.drew):=za ⟨HGd.out.trans (HGw.out.but _),HBd.out.grown HGw.out (by simp),by rw [hhi];exact Nat.le_refl _,HR1.out,HR2'.out,HSd.out.kept HGw.out⟩;have HLD:Hid (∀vs W,(NW (zh (zh zo)) 107 103 w4 Bd wj.heap.size hi #[.slice Am nm cm, .slice Ar1 nr1 cr1, .slice Ac1 nc1 cc1] (.slice Ar1 nr1 cr1) (.slice Ac1 nc1 cc1) (.slice A16 n16 c16) (.slice A17 n17 c17) xs ys y z).C vs W→W.cell? ⟨Bd,1,none⟩=some (.slice Ar1 nr1 cr1)∧W.cell? ⟨Bd,2,none⟩=some (.slice Ac1 nc1 cc1)):=za (fun vs W hC=>⟨hC.2.1.cell 1,hC.2.1.cell 2⟩);have HSZ:Hid (∀vs W,(NW (zh (zh zo)) 107 103 w4 Bd wj.heap.size hi #[.slice Am nm cm, .slice Ar1 nr1 cr1, .slice Ac1 nc1 cc1] (.slice Ar1 nr1 cr1) (.slice Ac1 nc1 cc1) (.slice A16 n16 c16) (.slice A17 n17 c17) xs ys y z).C vs W→wj.heap.size≤W.heap.size):=za (fun vs W hC=>Nat.le_trans (by rw [hhi];exact HGw.out.size) hC.2.2.1);have HLX1:Hid ((xs.length+1)*24≤140737488355328):=za (by rw [hxs];simp;omega)
       have HLX2:Hid ((ys.length+1)*24≤140737488355328):=za (by rw [hys];simp;omega);clear hy hz hxs hys hhi HR1 HR2' HSi HBd;go_upto_region 21 with (fail)
       refine wp_region_late (NW (zh (zh zo)) 107 103 w4 Bd wj.heap.size hi #[.slice Am nm cm, .slice Ar1 nr1 cr1, .slice Ac1 nc1 cc1] (.slice Ar1 nr1 cr1) (.slice Ac1 nc1 cc1) (.slice A16 n16 c16) (.slice A17 n17 c17) xs ys y z) [4,9] 11 (by kernel_rfl) (by kernel_rfl) (by kernel_rfl) HC0.out ?_;refine lS (.pointer (some ⟨Bd,1,none⟩)) [] (fun vs w' hC=>lQ fun K hK=> ?_) ?_
       ·go_simp;exact hK _ rfl rfl
       refine LateR.mono (Qv.eq (.slice Ar1 nr1 cr1)) [(0,120)] (by kernel_rfl) (by rfl) rfl (fun vs w' hC=> ?_) ?_
       ·rintro _ rfl;refine askl_do rfl fun K hK=> ?_
        obtain ⟨q0,q1⟩:=HLD.out vs w' hC;go_simp;exact hK _ _ rfl ⟨rfl,gRf⟩
       refine lS (.slice A16 n16 c16) [] (fun vs w' hC=>lQ fun K hK=> ?_) ?_
       ·go_simp;exact hK _ rfl rfl
       refine LateR.mono (twQ HWL.out HBL.out 103 (.slice A16 n16 c16)) [(2,122)] (by kernel_rfl) (by rfl) rfl (fun vs w' hC=> ?_) ?_
       ·rintro _ rfl;refine askl_do rfl fun K hK=> ?_
        have hsz:=HSZ.out vs w' hC;go_simp;exact hK _ _ rfl ⟨⟨_,rfl,hsz,Bk.new w' _ _⟩,gAl w' _ none⟩
       refine LateR.turn 0 [(1,121),(3,123)] (by kernel_rfl) rfl (fun vs w' hl hC=> ?_) ?_
       ·rintro _ rfl;intro x123 h123;have h123:De wj.heap.size 103 (.slice A16 n16 c16) x123 w':=h123;obtain ⟨b123,e123,hb123,hk123⟩:=h123;subst e123;refine askl_do rfl fun K hK=> ?_
        obtain rfl:vs= []:=List.eq_nil_of_length_eq_zero hl;have hsz:=HSZ.out _ w' hC;have hS1:xU (zh (zh zo)) (zh (zh zo)) w4.heap.size 103 103 (fun b=>w4.heap.size≤b) w' (.slice Ar1 nr1 cr1) (.slice Ac1 nc1 cc1) xs ys:=hC.2.2.2.2.2;refine yj (E:=zh (zh zo)) (y:=y) Qc hS1.fst (Mj hC HWL.out HBL.out HD4.out.2) (Bk.one hk123) HLX1.out (Nat.le_trans HD4.out.2 hsz) (hS1.new1 (fun b hb=>Nat.le_trans HD4.out.2 (Nat.le_trans hsz hb))) (.tmp 121) (.tmp 123) rfl rfl rfl ?_;intro v3 w3 ha hgr hm;exact hK _ _ rfl ⟨hgr,KP hC ha hgr hm HWL.out HD4.out.1⟩
       refine lS (.pointer (some ⟨Bd,2,none⟩)) [] (fun vs w' hC=>lQ fun K hK=> ?_) ?_
       ·go_simp;exact hK _ rfl rfl
       refine LateR.mono (Qv.eq (.slice Ac1 nc1 cc1)) [(5,125)] (by kernel_rfl) (by rfl) rfl (fun vs w' hC=> ?_) ?_
       ·rintro _ rfl;refine askl_do rfl fun K hK=> ?_
        obtain ⟨q0,q1⟩:=HLD.out vs w' hC;go_simp;exact hK _ _ rfl ⟨rfl,gRf⟩
       refine lS (.slice A17 n17 c17) [] (fun vs w' hC=>lQ fun K hK=> ?_) ?_
       ·go_simp;exact hK _ rfl rfl
       refine LateR.mono (twQ HWL.out HBL.out 103 (.slice A17 n17 c17)) [(7,127)] (by kernel_rfl) (by rfl) rfl (fun vs w' hC=> ?_) ?_
       ·rintro _ rfl;refine askl_do rfl fun K hK=> ?_
        have hsz:=HSZ.out vs w' hC;go_simp;exact hK _ _ rfl ⟨⟨_,rfl,hsz,Bk.new w' _ _⟩,gAl w' _ none⟩
       refine LateR.turn 1 [(6,126),(8,128)] (by kernel_rfl) rfl (fun vs w' hl hC=> ?_) ?_
       ·rintro _ rfl;intro x128 h128;have h128:De wj.heap.size 103 (.slice A17 n17 c17) x128 w':=h128;obtain ⟨b128,e128,hb128,hk128⟩:=h128;subst e128;refine askl_do rfl fun K hK=> ?_
        obtain ⟨u,rfl⟩: ∃u,vs= [u]:=List.length_eq_one_iff.1 hl;have hsz:=HSZ.out _ w' hC;have hS1:xU (zh (zh zo)) (zh (zh zo)) w4.heap.size 103 103 (fun b=>w4.heap.size≤b) w' u (.slice Ac1 nc1 cc1) _ _:=hC.2.2.2.2.2.1;refine yj (E:=zh (zh zo)) (y:=z) Qc hS1.snd (Mi hC HBL.out HD4.out.2) (Bk.one hk128) HLX2.out (Nat.le_trans HD4.out.2 hsz) (hS1.new2 (fun b hb=>Nat.le_trans HD4.out.2 (Nat.le_trans hsz hb))) (.tmp 126) (.tmp 128) rfl rfl rfl ?_;intro v3 w3 ha hgr hm;exact hK _ _ rfl ⟨hgr,KO hC ha hgr hm HBL.out HD4.out.1⟩
       refine lS (.pointer (some ⟨Bd,1,none⟩)) [] (fun vs w' hC=>lQ fun K hK=> ?_) ?_
       ·go_simp;exact hK _ rfl rfl
       intro vs w5 hvl hC5;obtain ⟨u,u2,rfl⟩: ∃u u2,vs= [u,u2]:=by
        match vs,hvl with
        | [u,u2],_=>exact ⟨u,u2,rfl⟩
       iterate 4 (refine pD ?_;intro _)
       intro y4 k4
       iterate 4 (refine pD ?_;intro _)
       intro y9 k9 y10 k10;show wpList Tryz.prog _ _ _ _ w5;simp only [Act.put,sAa,sAb,sAc];have e4:y4=u:=by have:some u=some y4:=k4;injection this with this;exact this.symm
       have e9:y9=u2:=by have:some u2=some y9:=k9;injection this with this;exact this.symm
       have e10:y10= .pointer (some ⟨Bd,1,none⟩):=k10;subst e4 e9 e10;have HE5:=za (KQ hC5 HD4.out.1);have hS5:xU (zh (zh zo)) (zh (zh zo)) w4.heap.size 103 103 (fun b=>w4.heap.size≤b) w5 y4 y9 _ _:=hC5.2.2.2.2.2;obtain ⟨Au,nu,cu,rfl⟩:=hS5.fst.sl.shape;obtain ⟨Av,nv,cv,rfl⟩:=hS5.snd.sl.shape;have d0:=hC5.2.1.cell 0;have d1:=hC5.2.1.cell 1;have d2:=hC5.2.1.cell 2;have fd:=hC5.2.1.free;simp at d0 d1 d2;have HFIN:Hid (∃vr vc,Bk ((w5.setCell ⟨Bd,1,none⟩ (.slice Au nu cu)).setCell ⟨Bd,2,none⟩ (.slice Av nv cv)) Bd 107 #[.slice Am nm cm,vr,vc]∧xU (zh (zh zo)) (zh (zh zo)) w4.heap.size 103 103 (fun b=>w4.heap.size≤b) ((w5.setCell ⟨Bd,1,none⟩ (.slice Au nu cu)).setCell ⟨Bd,2,none⟩ (.slice Av nv cv)) vr vc ((List.range (j+1)).map fun k:Nat=>Vz p.Q F R t ((k:Int)+1)) ((List.range (j+1)).map fun k:Nat=>Ub p.Q F R t ((k:Int)+1))∧w4.grownBy ((w5.setCell ⟨Bd,1,none⟩ (.slice Au nu cu)).setCell ⟨Bd,2,none⟩ (.slice Av nv cv)) (some Bd)):=za (by
        rw [HXS.out,HYS.out];exact ⟨_,_,HE5.out⟩)
       clear hC5 hS5 HE5 k4 k9 k10 HLD HSZ HC0 HSd;have hwj:IntKind.u64.wrap ((j:Int)+1+1)=(j:Int)+1+1:=IntWalk.u64_in _ (by omega);go_wp2_with fail;go_roundg m
       case measure=>omega
       case rel=>exact ⟨j+1,by omega,by go_num,HFIN⟩
      |succ q=>
       have hiI:(i:Int)< (L:Int):=by omega
       have hi0:(0:Int)≤(i:Int):=Int.natCast_nonneg i;have hiF:i< F.length:=by rw [HFL.out.1];omega
       have hiR:i< R.length:=by rw [HFL.out.2];omega
       obtain ⟨gF,oF,cF',uF,eF,q1,q2,hcF,hslF⟩:=(HFX.out _ HGd.out).atS hiF;clear q1 q2;injection eF with eF1 eF2 eF3
       clear eF2;subst eF1 eF3;obtain ⟨gR,oR,cR',uR,eR,q1,q2,hcR,hslR⟩:=(HRX.out _ HGd.out).atS hiR;clear q1 q2;injection eR with eR1 eR2 eR3
       clear eR2;subst eR1 eR3;obtain ⟨Af,cf,ef,q1,q2⟩:=hslF.form;clear q1 q2;obtain ⟨Ab,cb,eb,q1,q2⟩:=hslR.form;clear q1 q2;have HS1:Hid (SqL t F[i]):=za (HSQ.out.1 _ (List.getElem_mem hiF));have HS2:Hid (SqL t R[i]):=za (HSQ.out.2 _ (List.getElem_mem hiR));rw [HS1.out.1] at ef;rw [HS2.out.1] at eb;subst ef eb;have HN16:Hid ((List.range (i+1)).map (Jk p.Q F R t ((j:Int)+1))=(List.range i).map (Jk p.Q F R t ((j:Int)+1))++ [NY (UE p.Q F[i] ((j:Int)+1)) (UE p.Q R[i] ((j:Int)+1)) t]):=za (by
        rw [Nm];unfold Jk;rw [List.getElem?_eq_getElem hiF,List.getElem?_eq_getElem hiR];rfl)
       have HN17:Hid ((List.range (i+1)).map (In p.Q F R t ((j:Int)+1))=(List.range i).map (In p.Q F R t ((j:Int)+1))++ [NY (UT p.Q F[i] ((j:Int)+1)) (UT p.Q R[i] ((j:Int)+1)) t]):=za (by
        rw [Nm];unfold In;rw [List.getElem?_eq_getElem hiF,List.getElem?_eq_getElem hiR];rfl)
       have HUX:Hid (U64 ((j:Int)+1)):=za ⟨by omega,by omega⟩;have HT100:Hid (t≤3):=za (by have:=HT23.out;omega);have HRo1:Hid (∀W,wj.grownBy W none→Calls Tryz.prog 104 #[.slice Af t cf, .int .u64 ((j:Int)+1), .int .u64 p.Q] W (zH ze (fun b=>W.heap.size≤b) W (UE p.Q F[i] ((j:Int)+1)))):=za (fun W hW=>callsIn_wide.1 (ID 6 (Nat.le_refl _) _ _ _ _ _ W (hslF.kept hW) HUX.out (by rw [HS1.out.1];have:=HT100.out;omega) (fun c hc=>by rw [HS1.out.2 c hc];have:=HT100.out;omega)));have HRo2:Hid (∀W,wj.grownBy W none→Calls Tryz.prog 104 #[.slice Ab t cb, .int .u64 ((j:Int)+1), .int .u64 p.Q] W (zH ze (fun b=>W.heap.size≤b) W (UE p.Q R[i] ((j:Int)+1)))):=za (fun W hW=>callsIn_wide.1 (ID 6 (Nat.le_refl _) _ _ _ _ _ W (hslR.kept hW) HUX.out (by rw [HS2.out.1];have:=HT100.out;omega) (fun c hc=>by rw [HS2.out.2 c hc];have:=HT100.out;omega)));have HCo1:Hid (∀W,wj.grownBy W none→Calls Tryz.prog 105 #[.slice Af t cf, .int .u64 ((j:Int)+1), .int .u64 p.Q] W (zH ze (fun b=>W.heap.size≤b) W (UT p.Q F[i] ((j:Int)+1)))):=za (fun W hW=>LR _ _ _ _ _ W (hslF.kept hW) HUX.out (by rw [HS1.out.1];have:=HT100.out;omega));have HCo2:Hid (∀W,wj.grownBy W none→Calls Tryz.prog 105 #[.slice Ab t cb, .int .u64 ((j:Int)+1), .int .u64 p.Q] W (zH ze (fun b=>W.heap.size≤b) W (UT p.Q R[i] ((j:Int)+1)))):=za (fun W hW=>LR _ _ _ _ _ W (hslR.kept hW) HUX.out (by rw [HS2.out.1];have:=HT100.out;omega));obtain ⟨a1,ha1⟩: ∃y,y=UE p.Q F[i] ((j:Int)+1):=⟨_,rfl⟩;obtain ⟨a2,ha2⟩: ∃y,y=UE p.Q R[i] ((j:Int)+1):=⟨_,rfl⟩;obtain ⟨b1,hb1⟩: ∃y,y=UT p.Q F[i] ((j:Int)+1):=⟨_,rfl⟩
       obtain ⟨b2,hb2⟩: ∃y,y=UT p.Q R[i] ((j:Int)+1):=⟨_,rfl⟩;have HL1:Hid (a1.length=t∧a2.length=t∧b1.length=t∧b2.length=t):=za ⟨by rw [ha1];exact PU HS1.out _ _,by rw [ha2];exact PU HS2.out _ _,by rw [hb1];exact Oj HS1.out _ _,by rw [hb2];exact Oj HS2.out _ _⟩;rw [←ha1] at HRo1 HN16;rw [←ha2] at HRo2 HN16;rw [←hb1] at HCo1 HN17;rw [←hb2] at HCo2 HN17;obtain ⟨yr,hyr⟩: ∃y,y=NY a1 a2 t:=⟨_,rfl⟩;obtain ⟨yc,hyc⟩: ∃y,y=NY b1 b2 t:=⟨_,rfl⟩;have HPr:Hid (∀v1 v2 W,Sl ze TT W v1 a1→Sl ze TT W v2 a2→Calls Tryz.prog 103 #[v1,v2] W (zH zo (fun b=>W.heap.size≤b) W yr)):=za (fun v1 v2 W h1 h2=>by rw [hyr];exact VX v1 v2 a1 a2 t TT TT W h1 h2 HL1.out.1 HL1.out.2.1 (by have:=HT100.out;omega));have HPc:Hid (∀v1 v2 W,Sl ze TT W v1 b1→Sl ze TT W v2 b2→Calls Tryz.prog 103 #[v1,v2] W (zH zo (fun b=>W.heap.size≤b) W yc)):=za (fun v1 v2 W h1 h2=>by rw [hyc];exact VX v1 v2 b1 b2 t TT TT W h1 h2 HL1.out.2.2.1 HL1.out.2.2.2 (by have:=HT100.out;omega));rw [←hyr] at HN16;rw [←hyc] at HN17;have hbp:=HPD.out _ HGd.out;have HLD:Hid (∀W,wj.grownBy W none→W.cell? ⟨w.heap.size,1,none⟩=some (.int .u64 p.Q)∧W.cell? ⟨gF,oF+i,none⟩=some (.slice Af t cf)∧W.cell? ⟨gR,oR+i,none⟩=some (.slice Ab t cb)):=za (fun W hW=>⟨(hbp.grown hW (by simp)).cell 1,Xj hcF hW (by simp),Xj hcR hW (by simp)⟩);have HLN16:Hid ((((List.range i).map (Jk p.Q F R t ((j:Int)+1))).length+1)*24≤140737488355328):=za (by simp;omega);have HLN17:Hid ((((List.range i).map (In p.Q F R t ((j:Int)+1))).length+1)*24≤140737488355328):=za (by simp;omega)
       have HGw:Hid (wj.grownBy wi.drew none):=za (HGi.out.trans (zb wi 1));have HSw:=za (HSi.out.kept (zb wi 1));obtain ⟨N1,hN1⟩: ∃y,y=wi.drew.heap.size:=⟨_,rfl⟩;have HN1:Hid (N1=wi.drew.heap.size):=za hN1;clear ha1 ha2 hb1 hb2 hyr hyc hbp hcF hcR hslF hslR hN1 HSi HGi HS1 HS2;clear hiF hiR;go_upto_region 18 with (fail)
       refine Zf 19 ?_;refine mP0 (.slice A16 n16 c16) ?_;refine mP0 (.slice (some ⟨gF,oF,none⟩) L cF) ?_;refine mP0 (.int .i64 (i:Int)) ?_;refine zn.step (Pv.eq (.pointer (some ⟨gF,oF+i,none⟩))) [(1,80),(2,81)] (by kernel_rfl) (fun w' hw'=> ?_) ?_
       ·rintro _ rfl;rintro _ rfl;refine zq rfl fun K hK=> ?_
        go_simp;exact hK _ _ rfl rfl gRf
       refine zn.step (Pv.eq (.slice Af t cf)) [(3,82)] (by kernel_rfl) (fun w' hw'=> ?_) ?_
       ·rintro _ rfl;refine zq rfl fun K hK=> ?_
        obtain ⟨q0,q1,q2⟩:=HLD.out w' (HGw.out.trans hw');go_simp;exact hK _ _ rfl rfl gRf
       refine mP0 (.int .u64 ((j:Int)+1)) ?_;refine mP0 (.pointer (some ⟨w.heap.size,1,none⟩)) ?_;refine zn.step (Pv.eq (.int .u64 p.Q)) [(6,85)] (by kernel_rfl) (fun w' hw'=> ?_) ?_
       ·rintro _ rfl;refine zq rfl fun K hK=> ?_
        obtain ⟨q0,q1,q2⟩:=HLD.out w' (HGw.out.trans hw');go_simp;exact hK _ _ rfl rfl gRf
       refine zn.step (slU a1) [(4,83),(5,84),(7,86)] (by kernel_rfl) (fun w' hw'=> ?_) ?_
       ·rintro _ rfl;rintro _ rfl;rintro _ rfl;refine zq rfl fun K hK=> ?_
        go_simp;refine (HRo1.out w' (HGw.out.trans hw')).mono ?_;rintro e w3 ⟨v3,rfl,hs3,hg3⟩;exact hK _ _ rfl (hs3.more fun _ _ _=>trivial) hg3
       refine mP0 (.slice (some ⟨gR,oR,none⟩) L cR) ?_;refine mP0 (.int .i64 (i:Int)) ?_;refine zn.step (Pv.eq (.pointer (some ⟨gR,oR+i,none⟩))) [(9,88),(10,89)] (by kernel_rfl) (fun w' hw'=> ?_) ?_
       ·rintro _ rfl;rintro _ rfl;refine zq rfl fun K hK=> ?_
        go_simp;exact hK _ _ rfl rfl gRf
       refine zn.step (Pv.eq (.slice Ab t cb)) [(11,90)] (by kernel_rfl) (fun w' hw'=> ?_) ?_
       ·rintro _ rfl;refine zq rfl fun K hK=> ?_
        obtain ⟨q0,q1,q2⟩:=HLD.out w' (HGw.out.trans hw');go_simp;exact hK _ _ rfl rfl gRf
       refine mP0 (.int .u64 ((j:Int)+1)) ?_;refine mP0 (.pointer (some ⟨w.heap.size,1,none⟩)) ?_;refine zn.step (Pv.eq (.int .u64 p.Q)) [(14,93)] (by kernel_rfl) (fun w' hw'=> ?_) ?_
       ·rintro _ rfl;refine zq rfl fun K hK=> ?_
        obtain ⟨q0,q1,q2⟩:=HLD.out w' (HGw.out.trans hw');go_simp;exact hK _ _ rfl rfl gRf
       refine zn.step (slU a2) [(12,91),(13,92),(15,94)] (by kernel_rfl) (fun w' hw'=> ?_) ?_
       ·rintro _ rfl;rintro _ rfl;rintro _ rfl;refine zq rfl fun K hK=> ?_
        go_simp;refine (HRo2.out w' (HGw.out.trans hw')).mono ?_;rintro e w3 ⟨v3,rfl,hs3,hg3⟩;exact hK _ _ rfl (hs3.more fun _ _ _=>trivial) hg3
       refine mV (slP N1 yr) [(8,87),(16,95)] (fun w' hw' x87 h87 x95 h95=>kD fun K hK=> ?_) ?_
       ·have h87:Sl ze TT w' x87 a1:=h87;obtain ⟨A87,c87,e87,k87,l87⟩:=h87.form;subst e87;have h95:Sl ze TT w' x95 a2:=h95;obtain ⟨A95,c95,e95,k95,l95⟩:=h95.form;subst e95;go_simp;refine (HPr.out _ _ w' h87 h95).mono ?_;rintro e w3 ⟨v3,rfl,hs3,hg3⟩;exact hK _ _ rfl (hs3.more fun b _ hb=>Nat.le_trans (by rw [HN1.out];exact hw'.size) hb) hg3
       refine mV (Dx N1 yr) [(17,96)] (fun w' hw' x96 h96=>kD fun K hK=> ?_) ?_
       ·have h96:Sl zo (fun b=>N1≤b) w' x96 yr:=h96;obtain ⟨A96,c96,e96,k96,l96⟩:=h96.form;subst e96;go_simp;exact hK _ _ rfl ⟨_,_,_,_,rfl,Bk.new w' _ _,h96.kept (gAl w' _ none)⟩ (gAl w' _ none)
       intro w5 hw5;intro y0 k0
       iterate 17 (refine pD ?_;intro _)
       intro y18 k18;show wpList Tryz.prog _ _ _ _ w5;simp only [Act.put,sAa,sAb,sAc];have e0:y0= .slice A16 n16 c16:=k0;subst e0;have k18': ∃A n c b,y18= .slice (some ⟨b,0,none⟩) 1 1∧Bk w5 b 72 #[.slice A n c]∧Sl zo (fun b=>N1≤b) w5 (.slice A n c) yr:=k18;obtain ⟨Ay,ny,cy,by',ey,hky,hsy⟩:=k18';subst ey;have HS5:=za (HSw.out.kept hw5);have HG5:Hid (wj.grownBy w5 none):=za (HGw.out.trans hw5);have HZ5:Hid (wj.heap.size≤w5.heap.size):=za HG5.out.size;have HKY:=za hky;have HREP:Hid ((zh zo).rep (fun b=>(wj.heap.size≤b∧some b≠(Value.slice A17 n17 c17).ownBlock)∧some b≠(Value.slice A16 n16 c16).ownBlock) w5 [.slice Ay ny cy] yr):=za ⟨_,rfl,hsy.more fun b _ hb=>by
        rw [HN1.out] at hb;exact ⟨⟨Nat.le_trans HGw.out.size hb,fun e=>absurd hb (Nat.not_le_of_lt (HSw.out.snd.lt b e.symm).2)⟩,fun e=>absurd hb (Nat.not_le_of_lt (HSw.out.fst.lt b e.symm).2)⟩⟩
       clear hky hsy k0 k18 hw5 HSw HGw HN1;refine wpList_plain rfl fun K hK=> ?_
       refine yj (E:=zh zo) (y:=yr) Yn HS5.out.fst HREP.out (Bk.one HKY.out) HLN16.out HZ5.out (HS5.out.new1 (fun _ h=>Nat.le_trans HZ5.out h)) (.tmp 79) (.tmp 97) rfl rfl rfl ?_;intro v6 w6 ha hgr hm;refine hK _ _ ?_;clear hK;have HS6:=za ((HS5.out.one ha hgr hm).kept (zb w6 1));have HG6:Hid (wj.grownBy w6.drew none):=za ((zB HG5.out hgr (fun b e=>(HS5.out.fst.lt b e).1)).trans (zb w6 1));rw [←HN16.out] at HS6;obtain ⟨A18,n18,c18,rfl⟩:=HS6.out.fst.sl.shape;clear ha hgr hm HS5 HG5 HREP HKY HZ5 HN16;obtain ⟨N2,hN2⟩: ∃y,y=w6.drew.heap.size:=⟨_,rfl⟩;have HN2:Hid (N2=w6.drew.heap.size):=za hN2;clear hN2;go_upto_region 19 with (fail)
       refine Zf 19 ?_;refine mP0 (.slice A17 n17 c17) ?_;refine mP0 (.slice (some ⟨gF,oF,none⟩) L cF) ?_;refine mP0 (.int .i64 (i:Int)) ?_;refine zn.step (Pv.eq (.pointer (some ⟨gF,oF+i,none⟩))) [(1,100),(2,101)] (by kernel_rfl) (fun w' hw'=> ?_) ?_
       ·rintro _ rfl;rintro _ rfl;refine zq rfl fun K hK=> ?_
        go_simp;exact hK _ _ rfl rfl gRf
       refine zn.step (Pv.eq (.slice Af t cf)) [(3,102)] (by kernel_rfl) (fun w' hw'=> ?_) ?_
       ·rintro _ rfl;refine zq rfl fun K hK=> ?_
        obtain ⟨q0,q1,q2⟩:=HLD.out w' (HG6.out.trans hw');go_simp;exact hK _ _ rfl rfl gRf
       refine mP0 (.int .u64 ((j:Int)+1)) ?_;refine mP0 (.pointer (some ⟨w.heap.size,1,none⟩)) ?_;refine zn.step (Pv.eq (.int .u64 p.Q)) [(6,105)] (by kernel_rfl) (fun w' hw'=> ?_) ?_
       ·rintro _ rfl;refine zq rfl fun K hK=> ?_
        obtain ⟨q0,q1,q2⟩:=HLD.out w' (HG6.out.trans hw');go_simp;exact hK _ _ rfl rfl gRf
       refine zn.step (slU b1) [(4,103),(5,104),(7,106)] (by kernel_rfl) (fun w' hw'=> ?_) ?_
       ·rintro _ rfl;rintro _ rfl;rintro _ rfl;refine zq rfl fun K hK=> ?_
        go_simp;refine (HCo1.out w' (HG6.out.trans hw')).mono ?_;rintro e w3 ⟨v3,rfl,hs3,hg3⟩;exact hK _ _ rfl (hs3.more fun _ _ _=>trivial) hg3
       refine mP0 (.slice (some ⟨gR,oR,none⟩) L cR) ?_;refine mP0 (.int .i64 (i:Int)) ?_;refine zn.step (Pv.eq (.pointer (some ⟨gR,oR+i,none⟩))) [(9,108),(10,109)] (by kernel_rfl) (fun w' hw'=> ?_) ?_
       ·rintro _ rfl;rintro _ rfl;refine zq rfl fun K hK=> ?_
        go_simp;exact hK _ _ rfl rfl gRf
       refine zn.step (Pv.eq (.slice Ab t cb)) [(11,110)] (by kernel_rfl) (fun w' hw'=> ?_) ?_
       ·rintro _ rfl;refine zq rfl fun K hK=> ?_
        obtain ⟨q0,q1,q2⟩:=HLD.out w' (HG6.out.trans hw');go_simp;exact hK _ _ rfl rfl gRf
       refine mP0 (.int .u64 ((j:Int)+1)) ?_;refine mP0 (.pointer (some ⟨w.heap.size,1,none⟩)) ?_;refine zn.step (Pv.eq (.int .u64 p.Q)) [(14,113)] (by kernel_rfl) (fun w' hw'=> ?_) ?_
       ·rintro _ rfl;refine zq rfl fun K hK=> ?_
        obtain ⟨q0,q1,q2⟩:=HLD.out w' (HG6.out.trans hw');go_simp;exact hK _ _ rfl rfl gRf
       refine zn.step (slU b2) [(12,111),(13,112),(15,114)] (by kernel_rfl) (fun w' hw'=> ?_) ?_
       ·rintro _ rfl;rintro _ rfl;rintro _ rfl;refine zq rfl fun K hK=> ?_
        go_simp;refine (HCo2.out w' (HG6.out.trans hw')).mono ?_;rintro e w3 ⟨v3,rfl,hs3,hg3⟩;exact hK _ _ rfl (hs3.more fun _ _ _=>trivial) hg3
       refine mV (slP N2 yc) [(8,107),(16,115)] (fun w' hw' x107 h107 x115 h115=>kD fun K hK=> ?_) ?_
       ·have h107:Sl ze TT w' x107 b1:=h107;obtain ⟨A107,c107,e107,k107,l107⟩:=h107.form;subst e107;have h115:Sl ze TT w' x115 b2:=h115;obtain ⟨A115,c115,e115,k115,l115⟩:=h115.form;subst e115;go_simp;refine (HPc.out _ _ w' h107 h115).mono ?_;rintro e w3 ⟨v3,rfl,hs3,hg3⟩;exact hK _ _ rfl (hs3.more fun b _ hb=>Nat.le_trans (by rw [HN2.out];exact hw'.size) hb) hg3
       refine mV (Dx N2 yc) [(17,116)] (fun w' hw' x116 h116=>kD fun K hK=> ?_) ?_
       ·have h116:Sl zo (fun b=>N2≤b) w' x116 yc:=h116;obtain ⟨A116,c116,e116,k116,l116⟩:=h116.form;subst e116;go_simp;exact hK _ _ rfl ⟨_,_,_,_,rfl,Bk.new w' _ _,h116.kept (gAl w' _ none)⟩ (gAl w' _ none)
       intro w7 hw7;intro y0 k0
       iterate 17 (refine pD ?_;intro _)
       intro y18 k18;show wpList Tryz.prog _ _ _ _ w7;simp only [Act.put,sAa,sAb,sAc];have e0:y0= .slice A17 n17 c17:=k0;subst e0;have k18': ∃A n c b,y18= .slice (some ⟨b,0,none⟩) 1 1∧Bk w7 b 72 #[.slice A n c]∧Sl zo (fun b=>N2≤b) w7 (.slice A n c) yc:=k18;obtain ⟨Ay,ny,cy,by',ey,hky,hsy⟩:=k18';subst ey;have HS7:=za (HS6.out.kept hw7);have HG7:Hid (wj.grownBy w7 none):=za (HG6.out.trans hw7);have HZ7:Hid (wj.heap.size≤w7.heap.size):=za HG7.out.size;have HKY:=za hky;have HREP:Hid ((zh zo).rep (fun b=>(wj.heap.size≤b∧some b≠(Value.slice A18 n18 c18).ownBlock)∧some b≠(Value.slice A17 n17 c17).ownBlock) w7 [.slice Ay ny cy] yc):=za ⟨_,rfl,hsy.more fun b _ hb=>by
        rw [HN2.out] at hb;exact ⟨⟨Nat.le_trans HG6.out.size hb,fun e=>absurd hb (Nat.not_le_of_lt (HS6.out.fst.lt b e.symm).2)⟩,fun e=>absurd hb (Nat.not_le_of_lt (HS6.out.snd.lt b e.symm).2)⟩⟩
       clear hky hsy k0 k18 hw7 HS6 HG6 HN2;refine wpList_plain rfl fun K hK=> ?_
       refine yj (E:=zh zo) (y:=yc) Yn HS7.out.snd HREP.out (Bk.one HKY.out) HLN17.out HZ7.out (HS7.out.new2 (fun _ h=>Nat.le_trans HZ7.out h)) (.tmp 99) (.tmp 117) rfl rfl rfl ?_;intro v8 w8 ha hgr hm;refine hK _ _ ?_;clear hK;have HFIN:Hid (xU (zh zo) (zh zo) wj.heap.size 72 72 (fun b=>wj.heap.size≤b) w8 (.slice A18 n18 c18) v8 ((List.range (i+1)).map (Jk p.Q F R t ((j:Int)+1))) ((List.range (i+1)).map (In p.Q F R t ((j:Int)+1)))∧wj.grownBy w8 none):=za ⟨by
        rw [HN17.out];exact HS7.out.two ha hgr hm,zB HG7.out hgr (fun b e=>(HS7.out.snd.lt b e).1)⟩
       clear ha hgr hm HS7 HG7 HREP HKY HZ7 HN17 HRo1 HRo2 HCo1 HCo2 HPr HPc HLD;go_wp2_with fail;go_roundg q
       case measure=>omega
       case rel=>exact ⟨i+1,by omega,by go_num,HFIN⟩
  |succ m=>
   have hin:(s:Int)< (L:Int):=by omega
   have hsl:s< l.length:=by have:=HLN.out;omega
   obtain ⟨gl,ol,cl,el,_,_,hcl0,hcl1,hul1,hul2⟩:=(HLX.out _ HG3.out).atP hsl;injection el with el1 el2 el3
   subst el1 el3;obtain ⟨kb,hkb⟩: ∃y,y=k0+s*(2*dd):=⟨_,rfl⟩;have hkm:kb+2*dd≤most:=by
    have h1:(s+1)*(2*dd)≤L*(2*dd):=Nat.mul_le_mul_right _ (by omega);have h2:=HMO.out;rw [Nat.add_mul,Nat.one_mul] at h1;omega
   have HKN:Hid (k0+(s+1)*(2*dd)=kb+dd+dd):=za (by rw [hkb,Nat.add_mul,Nat.one_mul];omega);have HFN:Hid (xl l p.Q dr t k0 (s+1)=xl l p.Q dr t k0 s++ [NV l[s].1 p.Q dr t kb]):=za (by
    rw [hkb,HDD.out];refine (Nm _ _).trans ?_;show _++ [NV (l[s]?.getD (0,0)).1 p.Q dr t (k0+s*(2*(t*t - 1)))]=_;rw [List.getElem?_eq_getElem hsl];rfl)
   have HRN:Hid (xm l p.Q dr t k0 (s+1)=xm l p.Q dr t k0 s++ [NV l[s].2 p.Q dr t (kb+dd)]):=za (by
    rw [hkb,HDD.out];refine (Nm _ _).trans ?_;show _++ [NV (l[s]?.getD (0,0)).2 p.Q dr t (k0+s*(2*(t*t - 1))+(t*t - 1))]=_;rw [List.getElem?_eq_getElem hsl];rfl)
   rw [←hkb] at HI3;obtain ⟨x,hx⟩: ∃y,y=l[s]:=⟨_,rfl⟩;rw [←hx] at HFN HRN hcl0 hcl1 hul1 hul2;obtain ⟨x1,x2⟩:=x;simp only at HFN HRN hcl0 hcl1 hul1 hul2;obtain ⟨wa,hwa⟩: ∃y,y=wr.alloc (Obj.cells #[.int .u64 x1, .int .u64 x2] 153):=⟨_,rfl⟩;obtain ⟨Bb,hBb⟩: ∃y,y=wr.heap.size:=⟨_,rfl⟩;have HGA:Hid (wr.grownBy wa none):=za (by rw [hwa];exact gAl _ _ none);have HBA:Hid (Bk wa Bb 153 #[.int .u64 x1, .int .u64 x2]):=za (by rw [hwa,hBb];exact Bk.new _ _ _);have HIA:Hid (TI kb wa):=za (HT.out.keep HI3.out HGA.out (by simp));have HSA:=za (HS0.out.kept HGA.out);have HGa:Hid (w2.grownBy wa (some g)):=za (HG3.out.trans (HGA.out.but _));have HB1:=za (HTW.out x1 kb wa hul1 (by omega) HIA.out);have HU2:=za hul2;obtain ⟨y,hy⟩: ∃y,y=NV x1 p.Q dr t kb:=⟨_,rfl⟩;rw [←hy] at HFN HB1;obtain ⟨z,hz⟩: ∃y,y=NV x2 p.Q dr t (kb+dd):=⟨_,rfl⟩;rw [←hz] at HRN;have HZ:=za hz;have HLF:Hid (((xl l p.Q dr t k0 s).length+1)*24≤140737488355328):=za (by simp [xl];omega);have HLR:Hid (((xm l p.Q dr t k0 s).length+1)*24≤140737488355328):=za (by simp [xm];omega);have HBb:Hid (w2.heap.size≤Bb∧(∀r,u10.ownBlock=some r→r< Bb)∧(∀r,u11.ownBlock=some r→r< Bb)):=za (by rw [hBb];exact ⟨HG3.out.size,fun r e=>(HS0.out.fst.lt r e).2,fun r e=>(HS0.out.snd.lt r e).2⟩);have HBs:Hid (Bb< wa.heap.size):=za HBA.out.lt;have hpa: ∀o,(wr.alloc (Obj.cells #[.int .u64 x1, .int .u64 x2] 153)).cell? ⟨w.heap.size,o,none⟩=(#[.int .u64 p.P, .int .u64 p.Q, .int .u64 p.G, .int .u64 p.H, .int .i64 p.Nodes, .int .i64 p.N, .int .i64 p.T, .int .i64 p.K, .int .i64 p.D, .int .i64 p.R, .int .i64 p.M, .int .i64 p.X]:Array Value)[o]? :=by rw [←hwa];exact (HPX.out _ HGa.out).prule
   have d0:(wr.alloc (Obj.cells #[.int .u64 x1, .int .u64 x2] 153)).cell? ⟨wr.heap.size,0,none⟩=some (.int .u64 x1):=by rw [←hwa, ←hBb];simpa using HBA.out.cell 0
   clear hkb hy hz el2 hx hul1 hul2 hsl;go_wp2_with fail;rw [←hwa, ←hBb];clear hwa hBb hp3 hcl0 hcl1;refine HB1.out.mono ?_;rintro e w3 ⟨v50,rfl,hs3,hi3,hg3⟩;obtain ⟨A50,n50,c50,rfl⟩:=hs3.shape;have HG4:Hid (w2.grownBy w3 (some g)):=za (HGa.out.trans hg3);have HI4:=za hi3;have HS4:=za (HSA.out.keep hg3 (fun b hb e=>by injection e with e;have:=HW2.out;omega));have HBA4:=za (HBA.out.grown hg3 (fun e=>by injection e with e;have:=HW2.out;have:=HBb.out.1;omega));have HREP:Hid ((zh (zh ze)).rep (fun b=>(w2.heap.size≤b∧some b≠u11.ownBlock)∧some b≠u10.ownBlock) w3 [.slice A50 n50 c50] y):=za ⟨_,rfl,hs3.more fun b _ hb=>⟨⟨by have:=HBb.out.1;have:=HBs.out;omega,fun e=>by have:=HBb.out.2.2 b e.symm;have:=HBs.out;omega⟩,fun e=>by have:=HBb.out.2.1 b e.symm;have:=HBs.out;omega⟩⟩;have HZ4:Hid (w2.heap.size≤w3.heap.size):=za HG4.out.size;clear hs3 hi3 hg3 hpa d0;go_wp2_with (at_builtin;refine zQ rfl (.tmp 44) (.tmp 51) rfl (E:=zh (zh ze)) (y:=y) YD HS4.out.fst rfl rfl HREP.out HLF.out HZ4.out (HS4.out.new1 (fun _ h=>Nat.le_trans HZ4.out h)) ?_);intro v10 w4 ha hg hm;have HS5:=za (HS4.out.one ha hg hm);have HG5:Hid (w2.grownBy w4 (some g)):=za (HG4.out.andThen hg (fun j e=> .inl (HS4.out.fst.lt j e).1));have HI5:Hid (TI (kb+dd) w4):=za (HT.out.keep HI4.out hg (fun b e hb=>by have:=(HS4.out.fst.lt b e).1;have:=HOB.out b hb;have:=HW2.out;omega));have HBA5:=za (HBA4.out.grown hg (fun e=>by have:=HBb.out.2.1 _ e.symm;omega));clear ha hg hm;have hp5:=(HPX.out _ HG5.out).prule;have d1:=HBA5.out.cell 1
   simp at d1;have HB7:=za (HTW.out x2 (kb+dd) w4 HU2.out (by omega) HI5.out);rw [←HZ.out] at HB7;go_wp2_with fail;refine HB7.out.mono ?_;rintro e w6 ⟨v59,rfl,hs6,hi6,hg6⟩;obtain ⟨A59,n59,c59,rfl⟩:=hs6.shape;have HG8:Hid (w2.grownBy w6 (some g)):=za (HG5.out.trans hg6);have HI8:=za hi6;have HS8:=za (HS5.out.keep hg6 (fun b hb e=>by injection e with e;have:=HW2.out;omega));have HZ8:Hid (w2.heap.size≤w6.heap.size):=za HG8.out.size;have HREP2:Hid ((zh (zh ze)).rep (fun b=>(w2.heap.size≤b∧some b≠v10.ownBlock)∧some b≠u11.ownBlock) w6 [.slice A59 n59 c59] z):=za ⟨_,rfl,hs6.more fun b _ hb=>⟨⟨Nat.le_trans HG5.out.size hb,fun e=>by have:=(HS5.out.fst.lt b e.symm).2;omega⟩,fun e=>by have:=(HS5.out.snd.lt b e.symm).2;omega⟩⟩;clear hs6 hi6 hg6 hp5 d1;go_wp2_with (at_builtin;refine zQ rfl (.tmp 53) (.tmp 60) rfl (E:=zh (zh ze)) (y:=z) YD HS8.out.snd rfl rfl HREP2.out HLR.out HZ8.out (HS8.out.new2 (fun _ h=>Nat.le_trans HZ8.out h)) ?_);intro v11 w7 ha hg hm;have HFIN:Hid (xU (zh (zh ze)) (zh (zh ze)) w2.heap.size 43 43 (fun b=>w2.heap.size≤b) w7 v10 v11 (xl l p.Q dr t k0 (s+1)) (xm l p.Q dr t k0 (s+1))∧TI (k0+(s+1)*(2*dd)) w7∧w2.grownBy w7 (some g)):=za ⟨by rw [HFN.out,HRN.out];exact HS8.out.two ha hg hm,by
    rw [HKN.out];exact HT.out.keep HI8.out hg (fun b e hb=>by have:=(HS8.out.snd.lt b e).1;have:=HOB.out b hb;have:=HW2.out;omega),HG8.out.andThen hg (fun j e=> .inl (HS8.out.snd.lt j e).1)⟩
   clear ha hg hm;go_wp2_with fail;go_roundg m
   case measure=>omega
   case rel=>exact ⟨s+1,by omega,by go_num,HFIN⟩
end
section
open Go Go.RowKit
def Far{α:Type}(E:Enc α)(good:α→Prop)(u0:Value):Prop:=
 ∀{X:Nat→Prop} {W:World} {cs:List Value} {x:α} (b:Nat),(∀i u,W.cell? ⟨b,i,none⟩=some u→u=u0)→E.rep X W cs x→good x→E.rep (fun g=>X g∧g≠b) W cs x∧ ∃u,cs[0]? =some u∧u≠u0
theorem DT(A:Option Addr)(n c:Nat):Far ze (fun _=>True) (.slice A n c):=fun b _ h _=>by
 obtain ⟨rfl,h2⟩:=h;exact ⟨⟨rfl,h2⟩,_,rfl,by simp⟩
theorem Ds(A:Option Addr)(n c:Nat):Far zo (fun _=>True) (.slice A n c):=fun b _ h _=>by
 obtain ⟨rfl,h2⟩:=h;exact ⟨⟨rfl,h2⟩,_,rfl,by simp⟩
theorem Far.sl{α:Type}{E:Enc α}{good:α→Prop}{u0:Value}(h:Far E good u0){X:Nat→Prop}{W:World}{v:Value}{xs:List α}{b:Nat}(hb: ∀i u,W.cell? ⟨b,i,none⟩=some u→u=u0)(hs:Sl E X W v xs)(hg: ∀x∈xs,good x):Sl E (fun g=>X g∧g≠b) W v xs:=by
 obtain ⟨A,c,e,h1,h2,h3⟩:=hs;refine ⟨A,c,e,h1,h2,fun hne=> ?_⟩;obtain ⟨g,o,eA,hlt,hX,hi⟩:=h3 hne;refine ⟨g,o,eA,hlt,⟨hX,fun e=> ?_⟩,fun i hi'=> ?_⟩
 ·have h0:0< xs.length:=List.length_pos_iff.2 hne;obtain ⟨cs,hr,hc⟩:=hi 0 h0;obtain ⟨_,u,hu,hne'⟩:=h b hb hr (hg _ (List.getElem_mem h0))
  have:=hc 0 u hu
  rw [e] at this;exact hne' (hb _ u this)
 ·obtain ⟨cs,hr,hc⟩:=hi i hi';exact ⟨cs,(h b hb hr (hg _ (List.getElem_mem hi'))).1,hc⟩
theorem GB{α:Type}{E:Enc α}{good:α→Prop}(h:Far E good (.slice none 0 0)):Far (zh E) (fun xs=>xs≠ []∧ ∀x∈xs,good x) (.slice none 0 0):=fun b hb hr hg=>by
 obtain ⟨v,rfl,hs⟩:=hr;refine ⟨⟨v,rfl,h.sl hb hs hg.2⟩,v,rfl,fun e=> ?_⟩;obtain ⟨A,c,e',_⟩:=hs;rw [e] at e';injection e' with _ e2 _
 exact hg.1 (List.length_eq_zero_iff.1 (by omega))
theorem MV{W:World}{b:Nat}{t:TypeId}(h:Bk W b t #[.slice none 0 0, .slice none 0 0, .slice none 0 0]): ∀i u,W.cell? ⟨b,i,none⟩=some u→u= .slice none 0 0:=fun i u hu=>by
 rw [h.cell i] at hu
 match i,hu with
 |0,hu=>simpa using hu.symm
 |1,hu=>simpa using hu.symm
 |2,hu=>simpa using hu.symm
 |i+3,hu=>simp at hu
end
section
open Go Go.RowKit Go.Shelf
def dE0(v x:Value):Prop:= ∃b,x= .tuple #[v,b, .int .i64 0]
def dE1(v x:Value):Prop:= ∃a,x= .tuple #[a,v, .int .i64 0]
def dF0(v x:Value):Prop:=x= .tuple #[v, .int .i64 0]
theorem Ff{v u:Value}(h:dF0 v (.tuple #[u, .int .i64 0])):v=u:=by
 unfold dF0 at h;injection h with h
 injection h with h
 injection h with h _
 exact h.symm
theorem Dg{a b c x y z:Value}(h:Value.tuple #[a,b,c]= .tuple #[x,y,z]):a=x∧b=y∧c=z:=by
 injection h with h
 injection h with h
 injection h with h1 h
 injection h with h2 h
 injection h with h3 _
 exact ⟨h1,h2,h3⟩
structure Fq (M:List (List (List Int))) (Rs Cs:List (List (List (Int×Int)))):Prop where
 m: ∀x∈M,x≠ []∧ ∀y∈x,y≠ []∧ ∀z∈y,True
 r: ∀x∈Rs,x≠ []∧ ∀y∈x,y≠ []∧ ∀z∈y,True
 c: ∀x∈Cs,x≠ []∧ ∀y∈x,y≠ []∧ ∀z∈y,True
theorem Vw{α:Type}{E:Enc α}{good:α→Prop}(hf:Far E good (.slice none 0 0)){X:Nat→Prop}{W W':World}{v:Value}{xs:List α}{g:Nat}{ty:TypeId}(h:Sl E X W v xs)(hgd: ∀x∈xs,good x)(hb:Bk W g ty #[.slice none 0 0, .slice none 0 0, .slice none 0 0])(hg:W.grownBy W' (some g)):Sl E X W' v xs:=
 ((hf.sl (MV hb) h hgd).keep hg (fun b hb e=>hb.2 (by injection e))).more fun _ _ hb=>hb.1
def ZE(p:Par)(seed:Int)(gt k:Nat)(W:World):Prop:=Bk W gt 174 #[.int .u64 (Rr p.Q seed k), .slice none 0 0, .int .i64 k]
def Fe(p:Par)(N gt:Nat)(seed:Int)(k:Nat)(SH:List (List (Int×Int)))(CM:List (List Int))(x:Value)(W:World):Prop:= ∃a b,x= .tuple #[a,b, .int .i64 0]∧Sl (zh zo) (fun k=>N≤k) W a SH∧Sl (zh ze) (fun k=>N≤k) W b CM∧ZE p seed gt k W
theorem Cc(p:Par)(D:World)(gt:Nat)(hgt:gt< D.heap.size)(seed:Int)(k:Nat)(SH:List (List (Int×Int)))(CM:List (List Int)):QG D (some gt) (ZE p seed gt 0) (Fe p D.heap.size gt seed k SH CM) where
 row:=fun r e=>by injection e with e;omega
 pre:=fun h hg=>h.grown hg (by simp)
 told:=fun ⟨a,b,e,h1,h2,h3⟩ hg=>⟨a,b,e,h1.kept hg,h2.kept hg,h3.grown hg (by simp)⟩
end
section
open Go Go.RowKit Go.Shelf
def dlK(p:Par)(j:Nat):Nat:=Fc p+j*(Vi p*(2*((Vd p+1)*(Vd p+1) - 1)))
def Fz(p:Par)(seed i:Int)(j:Nat):List (List (List Int)):=xl (Gg p [0] seed i) p.Q (GC p seed) (Vd p+1) (dlK p j) (Vi p)
def FC(p:Par)(seed i:Int)(j:Nat):List (List (List Int)):=xm (Gg p [0] seed i) p.Q (GC p seed) (Vd p+1) (dlK p j) (Vi p)
def dlD(p:Par)(seed i:Int)(j:Nat):Dl:=⟨Hr p (Fz p seed i j) (FC p seed i j),(List.range p.N.toNat).map fun x:Nat=>Vz p.Q (Fz p seed i j) (FC p seed i j) (Vd p+1) ((x:Int)+1),(List.range p.N.toNat).map fun x:Nat=>Ub p.Q (Fz p seed i j) (FC p seed i j) (Vd p+1) ((x:Int)+1)⟩
section
variable {p:Par} (hm:Va p=true) (hq:U64 p.Q) (seed i:Int) (j:Nat)
include hm hq
theorem Yo:XK p.Q (Vd p+1) (Vi p) (Fz p seed i j) (FC p seed i j):=RL (by omega) (EC hm) (fun k=>(Ij hq seed k).1)
theorem Gj:(dlD p seed i j).m.length=Vi p:=by
 have h:=Yo hm hq seed i j;simp [dlD,Hr,Zc,h.f.1,h.b.1]
theorem Oi: ∀M∈(dlD p seed i j).m,M.length=Vd p+1∧ ∀r∈M,r.length=Vd p+1:=fun M hM=>by
 have h:=Yo hm hq seed i j;simp only [dlD,Hr,Zc,List.map_map,h.f.1,h.b.1,Nat.max_self,List.mem_map,List.mem_range,Function.comp] at hM;obtain ⟨s,hs,rfl⟩:=hM;obtain ⟨a,e1,s1⟩:=h.atF hs;obtain ⟨b,e2,s2⟩:=h.atB hs;simp only [e1,e2,Option.getD_some];exact LO s1 s2
theorem Qe: ∀r∈(dlD p seed i j).a,r.length=Vi p∧ ∀c∈r,c.length=Vd p+1:=fun r hr=>by
 have h:=Yo hm hq seed i j;obtain ⟨x,_,rfl⟩:=List.mem_map.1 hr;refine ⟨by simp [Vz,h.f.1],fun c hc=> ?_⟩;obtain ⟨s,_,rfl⟩:=List.mem_map.1 hc;simp [Jk,NY]
theorem Qf: ∀r∈(dlD p seed i j).b,r.length=Vi p∧ ∀c∈r,c.length=Vd p+1:=fun r hr=>by
 have h:=Yo hm hq seed i j;obtain ⟨x,_,rfl⟩:=List.mem_map.1 hr;refine ⟨by simp [Ub,h.f.1],fun c hc=> ?_⟩;obtain ⟨s,_,rfl⟩:=List.mem_map.1 hc;simp [In,NY]
theorem EF:Dc p.N.toNat (dlD p seed i j):=by
 obtain ⟨h1,h2,h3,h4,h5,h6,h7,h8,h9⟩:=VY hm;refine ⟨⟨by rw [Gj hm hq];exact h4,fun M hM=> ?_⟩,⟨by simp [dlD],fun r hr=> ?_⟩,⟨by simp [dlD],fun r hr=> ?_⟩⟩
 ·obtain ⟨a,b⟩:=Oi hm hq seed i j M hM;exact ⟨by omega,fun y hy=>by rw [b y hy];omega⟩
 ·obtain ⟨a,b⟩:=Qe hm hq seed i j r hr;exact ⟨by omega,fun y hy=>by rw [b y hy];omega⟩
 ·obtain ⟨a,b⟩:=Qf hm hq seed i j r hr;exact ⟨by omega,fun y hy=>by rw [b y hy];omega⟩
theorem Gi:Fq (dlD p seed i j).m (dlD p seed i j).a (dlD p seed i j).b:=by
 obtain ⟨h1,h2,h3,h4,_⟩:=VY hm;refine ⟨fun M hM=> ?_,fun M hM=> ?_,fun M hM=> ?_⟩
 ·obtain ⟨a,b⟩:=Oi hm hq seed i j M hM;exact ⟨fun e=>by subst e;simp at a,fun y hy=>⟨fun e=>by subst e;have:=b _ hy;simp at this,fun _ _=>trivial⟩⟩
 ·obtain ⟨a,b⟩:=Qe hm hq seed i j M hM;exact ⟨fun e=>by subst e;simp at a;omega,fun y hy=>⟨fun e=>by subst e;have:=b _ hy;simp at this,fun _ _=>trivial⟩⟩
 ·obtain ⟨a,b⟩:=Qf hm hq seed i j M hM;exact ⟨fun e=>by subst e;simp at a;omega,fun y hy=>⟨fun e=>by subst e;have:=b _ hy;simp at this,fun _ _=>trivial⟩⟩
end
theorem LE(p:Par):Gh p [0]=List.replicate (Vi p) 0:=by
 unfold Gh IY;rw [List.eq_replicate_iff];refine ⟨by simp,fun b hb=> ?_⟩;obtain ⟨a,_,rfl⟩:=List.mem_map.1 hb;simp [GO,Nat.mod_one]
end
section
open Go Go.RowKit Go.Shelf
theorem Hy:(Tryz.prog.info? 107).map (fun i=>(i.zero,i.size,i.bytes))=some (some (.agg #[.slice none 0 0, .slice none 0 0, .slice none 0 0]),3,72):=by kernel_rfl
theorem EA:zA Tryz.prog 42 107 3 72:=zA.mk' (by decide) Tryz.underlying42 Hy rfl
def DLn(B:Nat)(W:World)(a b c:Value)(d:Dl):Prop:=Sl (zh (zh ze)) (fun g=>B≤g) W a d.m∧Sl (zh (zh zo)) (fun g=>B≤g) W b d.a∧Sl (zh (zh zo)) (fun g=>B≤g) W c d.b
def Fd(p:Par)(seed:Int)(gt k B:Nat)(d:Dl)(x:Value)(cs:Array Value)(W:World):Prop:= ∃a b c,x= .tuple #[.agg #[a,b,c], .int .i64 0]∧cs= #[a,b,c]∧DLn B W a b c d∧ZE p seed gt k W
theorem Cb(p:Par)(D:World)(gt:Nat)(hgt:gt< D.heap.size)(seed:Int)(k k':Nat){d:Dl}(hd:Fq d.m d.a d.b):QH D (some gt) 107 #[.slice none 0 0, .slice none 0 0, .slice none 0 0] (ZE p seed gt k) (Fd p seed gt k' D.heap.size d) where
 row:=fun r e=>by injection e with e;omega
 pre:=fun h hg=>h.grown hg (by simp)
 told:=fun ⟨a,b,c,e,e2,h,ht⟩ hg=>⟨a,b,c,e,e2,⟨h.1.kept hg,h.2.1.kept hg,h.2.2.kept hg⟩,ht.grown hg (by simp)⟩
 store:=fun ⟨a,b,c,e,e2,h,ht⟩ hb hgd hg=>⟨a,b,c,e,e2,⟨Vw (GB (GB (DT none 0 0))) h.1 hd.m hb hg,Vw (GB (GB (Ds none 0 0))) h.2.1 hd.r hb hg,Vw (GB (GB (Ds none 0 0))) h.2.2 hd.c hb hg⟩,ht.grown hg (fun e=>by injection e with e;omega)⟩
theorem DE(w:World)(N:Nat)(hN:N≤w.heap.size):Sl ze (fun k=>N≤k) (w.alloc (.cells (madeCells #[.int .u64 0] 2) 22)) (.slice (some ⟨w.heap.size,0,none⟩) 2 2) [0,0]:=
 Sl.block (E:=ze) (X:=fun k=>N≤k) (xs:= [0,0]) (c:=2) (Bk.new w _ _) hN [[.int .u64 0], [.int .u64 0]] rfl (fun i hi hi'=>by
  have h:i=0∨i=1:=by simp at hi;omega
  rcases h with rfl|rfl
  ·exact ⟨rfl,(show U64 0 from ⟨by decide,by decide⟩)⟩
  ·exact ⟨rfl,(show U64 0 from ⟨by decide,by decide⟩)⟩) (by rw [toList_madeCells_one];rfl) (by decide) (by decide)
attribute [local go_sem] Oper.semAt_some
def Gx(w:World)(ds:List Dl)(cm:List (List Int))(e:Ending)(w':World):Prop:= ∃vd vc,e= .returned (.tuple #[vd,vc, .bool true])∧Sl VV (fun _=>True) w' vd ds∧Sl (zh ze) (fun _=>True) w' vc cm∧w.grownBy w' none
theorem Yw(p:Par)(dl seed:Int)(n:Nat)(w:World)(hp:p.ok)(hm:Va p=true)(hKD:p.K=1∧p.D=1)(hT:zK w)(hsd:U64 seed)(hdl:1≤dl∧dl≤p.N)(hn:n≤2):
  Calls Tryz.prog 17 #[p.v, .int .i64 dl, .int .u64 seed, .int .i64 n] w (Gx w ((List.range n).map (dlD p seed dl)) (ED p [0] seed)):=by
 have HP:=za hp;have HMAY:=za hm;have HTB:=za hT;have HSD:=za hsd;have HQ:Hid (U64 p.Q):=za hp.Q;have HSZ:=za (VY hm);have hN2:Vi p=2:=by unfold Vi;rw [hKD.1,hKD.2];rfl
 have HN2:=za hN2;obtain ⟨i0,rfl⟩: ∃k:Nat,dl=(k:Int)+1:=⟨(dl - 1).toNat,by omega⟩;obtain ⟨NN,hNN⟩: ∃k:Nat,k=p.N.toNat:=⟨_,rfl⟩;have HNN:Hid (p.N.toNat=NN∧i0< NN∧NN≤7∧p.N=(NN:Int)):=za (by have:=HSZ.out;omega);have hiN:(i0:Int)< (NN:Int):=by have:=HNN.out;omega
 have hi0:(0:Int)≤(i0:Int):=Int.natCast_nonneg i0;have hwi:IntKind.i64.wrap (i0:Int)=(i0:Int):=IntWalk.i64_in _ (by have:=HNN.out;omega);have hw2:IntKind.i64.wrap (p.D+1)=2:=by rw [hKD.2];decide
 have hw3:IntKind.i64.wrap (p.K*2)=2:=by rw [hKD.1];decide
 have hg1: ¬((i0:Int)+1< 1):=by omega
 have hg2: ¬((NN:Int)< (i0:Int)+1):=by omega
 obtain ⟨S,hS⟩: ∃y,y=Gh p [0]:=⟨_,rfl⟩;have HSS:Hid (S=Gh p [0]∧S.length=Vi p∧S= [0,0]):=za ⟨hS,by rw [hS];exact Ih p _,by rw [hS,LE,hN2];rfl⟩;obtain ⟨SH,hSH⟩: ∃y,y=(List.range NN).map fun i:Nat=>Gg p [0] seed ((i:Int)+1):=⟨_,rfl⟩
 have HSH:=za hSH;obtain ⟨CM,hCM⟩: ∃y,y=ED p [0] seed:=⟨_,rfl⟩;have HCM:=za hCM;rw [←hCM];obtain ⟨X,hX⟩: ∃y,y=Gg p [0] seed ((i0:Int)+1):=⟨_,rfl⟩;have HX:Hid (X=Gg p [0] seed ((i0:Int)+1)∧X.length=Vi p):=za ⟨hX,by rw [hX];exact Ig _ _ _ _⟩;obtain ⟨w0,hw0⟩: ∃y,y=w.alloc (Obj.cells p.cells 39):=⟨_,rfl⟩;have HG0:Hid (w.grownBy w0 none):=za (by rw [hw0];exact gAl _ _ none);have HB0:Hid (Bk w0 w.heap.size 39 p.cells):=za (by rw [hw0];exact Bk.new w _ _);have HW0:Hid (w0.heap.size=w.heap.size+1):=za (by rw [hw0,World.size_alloc]);have HN9:=za hn;clear hp hm hT hsd hdl hn hNN hS hSH hCM hX hKD hN2;go_enter Tryz.func17,Tryz.ntmps17;go_wp2_with fail;rw [←hw0];clear hw0;obtain ⟨gt,hgt⟩: ∃y,y=w0.heap.size:=⟨_,rfl⟩;refine (MW seed w0).mono ?_;rintro e w1 ⟨rfl,hw1⟩;rw [←hgt];have HBT:Hid (ZE p seed gt 0 w1):=za (by rw [hw1,hgt];exact Bk.new w0 _ _);have HG1:Hid (w0.grownBy w1 none):=za (by rw [hw1];exact gAl _ _ none);have HGT:Hid (gt=w.heap.size+1∧w1.heap.size=w.heap.size+2):=za ⟨by rw [hgt,HW0.out],by rw [hw1,World.size_alloc,HW0.out]⟩;clear hw1 hgt;go_upto_region 2 with (fail)
 have HG1d:Hid (w.grownBy w1.drew none):=za ((HG0.out.trans HG1.out).trans (zb w1 1));have HNW:Hid (w1.drew.heap.size=w.heap.size+2):=za HGT.out.2;have HOK:=za (Cc p w1.drew gt (by rw [HNW.out,HGT.out.1];omega) seed (Fc p) SH CM);have HB1:Hid (Bk w1.drew w.heap.size 39 p.cells):=za (HB0.out.grown (HG1.out.trans (zb w1 1)) (by simp));have HLD:Hid (∀vs W,(Qo HOK.out).C vs W→ ∀o,W.cell? ⟨w.heap.size,o,none⟩=(#[.int .u64 p.P, .int .u64 p.Q, .int .u64 p.G, .int .u64 p.H, .int .i64 p.Nodes, .int .i64 p.N, .int .i64 p.T, .int .i64 p.K, .int .i64 p.D, .int .i64 p.R, .int .i64 p.M, .int .i64 p.X]:Array Value)[o]?):=za (fun vs W hC=>by
  have hC:YJ _ _ _ _ vs W:=hC;exact (HB1.out.grown hC.g (fun e=>by injection e with e;have:=HGT.out.1;omega)).prule)
 have HTP:Hid (Tp gt p.Q (GC p seed) (fun k=>ZE p seed gt k) (fun b=>b=gt) 1000000):=za (GH gt p.Q seed HSD.out HQ.out);have HDM:Hid (∀v W,w1.drew.grownBy W (some gt)→ZE p seed gt 0 W→Sl ze (fun k=>w1.drew.heap.size≤k) W v S→Calls Tryz.prog 45 #[p.v,v, .pointer (some ⟨gt,0,none⟩)] W fun e w'=> ∃a b,e= .returned (.tuple #[a,b, .int .i64 0])∧Sl (zh zo) (fun k=>w1.drew.heap.size≤k) w' a SH∧Sl (zh ze) (fun k=>w1.drew.heap.size≤k) w' b CM∧ZE p seed gt (Fc p) w'∧W.grownBy w' (some gt)):=za (fun v W hg hb hs=>by
  refine (Ny p v S _ W HTP.out HP.out HMAY.out (HTB.out.kept (zB HG1d.out hg (fun r e=>by injection e with e;have:=HGT.out.1;omega))) hs (fun b hb=>by have:=HGT.out.1;have:=HNW.out;omega) (by rw [HSS.out.2.1,HSZ.out.2.2.2.2.1]) 0 (Vd p) HSZ.out.2.2.2.2.2.1 hb (by
   have h1:=HSZ.out.2.2.2.1;have h2:=HSZ.out.2.1;have h3:S.length*(2*Vd p+1)≤10*5:=Nat.mul_le_mul (by rw [HSS.out.2.1];exact h1) (by omega);omega)).mono ?_
  rintro e w' ⟨vs,vc,rfl,k1,k2,k3,k4⟩;refine ⟨vs,vc,rfl, ?_, ?_, ?_,k4⟩
  ·rw [HSH.out, ←HNN.out.1];rw [HSS.out.2.1,HSS.out.1] at k1;exact k1.more fun k _ hk=>Nat.le_trans hg.size hk
  ·rw [HCM.out];rw [HSS.out.2.1,HSS.out.1] at k2;exact k2.more fun k _ hk=>Nat.le_trans hg.size hk
  ·rw [HSS.out.2.1] at k3;unfold Fc;simpa using k3)
 have HSE:Hid (S= [0,0]):=za HSS.out.2.2;refine FR.wp_region_late (Qo HOK.out) [9] 17 (by kernel_rfl) (by kernel_rfl) (by kernel_rfl) (YJ.start HBT.out) ?_;refine FR.mS (p.v) [] (fun vs w' hC=>FR.kD fun K hK=> ?_) ?_
 ·have hp:=HLD.out vs w' hC;go_simp;exact hK _ _ rfl ⟨rfl,gRf⟩
 refine FR.mS (.pointer (some ⟨w.heap.size,7,none⟩)) [] (fun vs w' hC=>FR.kD fun K hK=> ?_) ?_
 ·go_simp;exact hK _ _ rfl ⟨rfl,gRf⟩
 refine FR.mS (.int .i64 p.K) [(1,23)] (fun vs w' hC=>FR.pQ (FR.kD fun K hK=> ?_)) ?_
 ·have hp:=HLD.out vs w' hC;go_simp;exact hK _ _ rfl ⟨rfl,gRf⟩
 refine FR.mS (.pointer (some ⟨w.heap.size,8,none⟩)) [] (fun vs w' hC=>FR.kD fun K hK=> ?_) ?_
 ·go_simp;exact hK _ _ rfl ⟨rfl,gRf⟩
 refine FR.mS (.int .i64 p.D) [(3,25)] (fun vs w' hC=>FR.pQ (FR.kD fun K hK=> ?_)) ?_
 ·have hp:=HLD.out vs w' hC;go_simp;exact hK _ _ rfl ⟨rfl,gRf⟩
 refine FR.mS (.int .i64 2) [(4,26)] (fun vs w' hC=>FR.pQ (FR.kD fun K hK=> ?_)) ?_
 ·go_simp;exact hK _ _ rfl ⟨rfl,gRf⟩
 refine FR.mS (.int .i64 2) [(2,24),(5,27)] (fun vs w' hC=>FR.pQ (FR.pQ (FR.kD fun K hK=> ?_))) ?_
 ·go_simp;exact hK _ _ rfl ⟨rfl,gRf⟩
 refine FR.mV (EO ze S) [(6,28)] (fun vs w' hC=>FR.pQ (FR.kD fun K hK=> ?_)) ?_
 ·have hC:YJ _ _ _ _ vs w':=hC;have hsz:=hC.g.size;go_simp;exact hK _ _ rfl ⟨show Sl ze (fun k=>w1.drew.heap.size≤k) _ _ S from HSE.out ▸ DE w' _ hsz,gAl w' _ none⟩
 refine FR.mS (.pointer (some ⟨gt,0,none⟩)) [] (fun vs w' hC=>FR.kD fun K hK=> ?_) ?_
 ·go_simp;exact hK _ _ rfl ⟨rfl,gRf⟩
 refine FR.LateR.turn 0 [(0,22),(7,29),(8,30)] (by kernel_rfl) [] rfl (by kernel_rfl) (fun vs w' hn hr hC=> ?_) ?_
 ·intro x22 h22;intro x29 h29;have h29:Sl ze (fun k=>w1.drew.heap.size≤k) w' x29 S:=h29;intro x30 h30;have e22:x22=p.v:=h22;clear h22;subst e22;have e30:x30= .pointer (some ⟨gt,0,none⟩):=h30;clear h30;subst e30;refine FR.askl_do rfl fun K hK=> ?_
  have hC:YJ _ _ _ _ vs w':=hC;obtain ⟨A29,n29,c29,e29⟩:=h29.shape;subst e29;go_simp;refine (HDM.out _ w' hC.g (hC.pre hn) h29).mono ?_;rintro e w3 ⟨va,vb,rfl,k1,k2,k3,k4⟩;exact hK _ _ rfl ⟨k4,YJ.call hC hn ⟨va,vb,rfl,k1,k2,k3⟩ k4⟩
 refine FR.mV (EN) [(9,31)] (fun vs w' hC x31 h31=>FR.kD fun K hK=> ?_) ?_
 ·go_simp;exact hK _ _ rfl ⟨h31,gRf⟩
 refine FR.mV (Iq dE0) [(10,21)] (fun vs w' hC x21 h21=>FR.kD fun K hK=> ?_) ?_
 ·have h21:(0,x21)∈vs:=h21;have hC:YJ _ _ _ _ vs w':=hC;obtain ⟨va,vb,rfl,hta,htb,htt⟩:=hC.told _ h21;go_simp;exact hK _ _ rfl ⟨⟨_,h21,vb,rfl⟩,gRf⟩
 refine FR.mV (Iq dE1) [(10,21)] (fun vs w' hC x21 h21=>FR.kD fun K hK=> ?_) ?_
 ·have h21:(0,x21)∈vs:=h21;have hC:YJ _ _ _ _ vs w':=hC;obtain ⟨va,vb,rfl,hta,htb,htt⟩:=hC.told _ h21;go_simp;exact hK _ _ rfl ⟨⟨_,h21,va,rfl⟩,gRf⟩
 refine FR.mS (.int .i64 0) [(10,21)] (fun vs w' hC x21 h21=>FR.kD fun K hK=> ?_) ?_
 ·have h21:(0,x21)∈vs:=h21;have hC:YJ _ _ _ _ vs w':=hC;obtain ⟨va,vb,rfl,hta,htb,htt⟩:=hC.told _ h21;go_simp;exact hK _ _ rfl ⟨rfl,gRf⟩
 refine FR.mV (Iq dE0) [(11,32)] (fun vs w' hC x32 h32=>FR.kD fun K hK=> ?_) ?_
 ·have h32: ∃x,(0,x)∈vs∧dE0 x32 x:=h32;go_simp;exact hK _ _ rfl ⟨h32,gRf⟩
 refine FR.mV (Iq dE1) [(12,33)] (fun vs w' hC x33 h33=>FR.kD fun K hK=> ?_) ?_
 ·have h33: ∃x,(0,x)∈vs∧dE1 x33 x:=h33;go_simp;exact hK _ _ rfl ⟨h33,gRf⟩
 refine FR.mS (.int .i64 0) [(13,34)] (fun vs w' hC=>FR.pQ (FR.kD fun K hK=> ?_)) ?_
 ·go_simp;exact hK _ _ rfl ⟨rfl,gRf⟩
 intro vs w2 hvl hC2;have hC2:YJ _ _ _ _ vs w2:=hC2;intro y0 k0 y1 k1 y2 k2 y3 k3 y4 k4 y5 k5
 iterate 8 (refine pD ?_;intro _)
 intro y14 k14 y15 k15 y16 k16;show wpList Tryz.prog _ _ _ _ w2;simp only [Act.put,sAa,sAb,sAc];have e16:y16= .int .i64 0:=k16;subst e16;obtain ⟨x10,hx10,b10,e10⟩: ∃x,(0,x)∈vs∧dE0 y14 x:=k14;obtain ⟨x11,hx11,a11,e11⟩: ∃x,(0,x)∈vs∧dE1 y15 x:=k15;obtain ⟨va,vb,eab,hsh,hcm,hti⟩:=hC2.told _ hx10;obtain ⟨va',vb',eab',hsh',hcm',hti'⟩:=hC2.told _ hx11;obtain ⟨q1,_,_⟩:=Dg (e10.symm.trans eab);obtain ⟨_,q2,_⟩:=Dg (e11.symm.trans eab');subst q1 q2;have HG2:=za hC2.g;have HTI:=za hti;clear k0 k1 k2 k3 k4 k5 k16 hvl hC2 e10 e11 eab eab' hsh' hcm hti' hx10 hx11 HLD HDM hti;have HSHL:Hid (SH.length=NN):=za (by rw [HSH.out];simp);obtain ⟨AS,cS,eS,_,_⟩:=hsh.form;rw [HSHL.out] at eS;subst eS;obtain ⟨Ak,nk,ck,rfl⟩:=hcm'.shape;have HSL:=za hsh;have HCM2:=za hcm';clear hsh hcm';have HNWs:Hid (w.heap.size+2≤w2.heap.size):=za (by have:=HG2.out.size;rw [HNW.out] at this;exact this);have HSHX:Hid (∃g o,AS=some ⟨g,o,none⟩∧w1.drew.heap.size≤g∧ ∀W,w2.grownBy W (some gt)→ ∃u,W.cell? ⟨g,o+i0,none⟩=some u∧Sl zo (fun k=>w1.drew.heap.size≤k) W u X):=za (by
  have hiS:i0< SH.length:=by rw [HSHL.out];exact HNN.out.2.1
  obtain ⟨gS,oS,cS',uS,eS,_,hSX,hcS,hsS⟩:=HSL.out.atS hiS;injection eS with e1 _ _
  have hSX0:SH[i0]=X:=by
   rw [HX.out.1];simp [HSH.out]
  rw [hSX0] at hsS;exact ⟨gS,oS,e1,hSX,fun W hW=>⟨uS,Xj hcS hW (fun e=>by injection e with e;have:=HGT.out.1;have:=HNW.out;omega),hsS.keep hW (fun b hb e=>by injection e with e;have:=HGT.out.1;have:=HNW.out;omega)⟩⟩)
 go_wp2_with fail;go_loopg [15,16,17,18] n (fun g s15 s16 s17 s18 wx=> ∃j:Nat,j+g=n∧s16= .int .i64 j∧Hid (Acc VV w2.heap.size 107 (fun g=>w2.heap.size≤g) wx s15 ((List.range j).map (dlD p seed ((i0:Int)+1)))∧ZE p seed gt (dlK p j) wx∧w2.grownBy wx (some gt)))
 case atStart=>exact ⟨0,by omega,rfl,za ⟨Acc.nil _ _ _ _ _,by unfold dlK;rw [Nat.zero_mul,Nat.add_zero];exact HTI.out,World.grownBy.refl _ _⟩⟩
 case round=>
  rename World=>wr
  obtain ⟨j,hj,rfl,HL⟩:=hrel;rcases Nat.eq_zero_or_pos gk with hg0|hg0
  ·obtain rfl:j=n:=by omega
   have HR:Hid (Sl VV (fun _=>True) wr u15 ((List.range j).map (dlD p seed ((i0:Int)+1)))∧Sl (zh ze) (fun _=>True) wr (.slice Ak nk ck) CM∧w.grownBy wr none):=za ⟨HL.out.1.sl.more fun _ _ _=>trivial,(HCM2.out.keep HL.out.2.2 (fun b hb e=>by injection e with e;have:=HGT.out.1;have:=HNW.out;omega)).more fun _ _ _=>trivial,zB (HG1d.out) (HG2.out.trans HL.out.2.2) (fun r e=>by injection e with e;have:=HGT.out.1;omega)⟩;obtain ⟨A15,n15,c15,e15⟩:=HR.out.1.shape;subst e15;clear HL hg0;go_wp2_with fail;go_ret3;exact ⟨_,_,rfl,HR.out⟩
  ·have hjn:(j:Int)< (n:Int):=by omega
   have hn2:(n:Int)≤2:=by have:=HN9.out;omega
   have hj0:(0:Int)≤(j:Int):=Int.natCast_nonneg j;have HJ2:Hid (j< 2):=za (by have:=HN9.out;omega);have HAC:=za HL.out.1;have HTJ:=za HL.out.2.1;have HGJ:=za HL.out.2.2;obtain ⟨gS,oS,eS,hSX,hSW⟩:=HSHX.out;have HSW:=za hSW;have HSX:=za hSX;obtain ⟨uS,hcS,hsS⟩:=hSW wr HL.out.2.2;subst eS;obtain ⟨Ax,nx,cx,rfl⟩:=hsS.shape;have HCS:=za hcS;have HSS2:=za hsS;clear hSW hSX hcS hsS HL;go_upto_region 9 with (fail)
   have HD2:Hid (wr.grownBy wr.drew none):=za (zb wr 1);have HWD:Hid (w.heap.size+2≤wr.drew.heap.size):=za (by have:=HGJ.out.size;have:=HNWs.out;exact Nat.le_trans HNWs.out HGJ.out.size);have HOK:=za (Cb p wr.drew gt (by have:=HGT.out.1;have:=HWD.out;omega) seed (dlK p j) (dlK p (j+1)) (Gi HMAY.out HQ.out seed ((i0:Int)+1) j));have HTI2:Hid (ZE p seed gt (dlK p j) wr.drew):=za (HTJ.out.grown HD2.out (by simp));have HGR:Hid (w1.drew.grownBy wr.drew (some gt)):=za ((HG2.out.trans HGJ.out).trans (HD2.out.but _));have HB2:Hid (Bk wr.drew w.heap.size 39 p.cells):=za (HB1.out.grown HGR.out (fun e=>by injection e with e;have:=HGT.out.1;omega));have HLD:Hid (∀vs W,(Ir HOK.out).C vs W→(∀o,W.cell? ⟨w.heap.size,o,none⟩=(#[.int .u64 p.P, .int .u64 p.Q, .int .u64 p.G, .int .u64 p.H, .int .i64 p.Nodes, .int .i64 p.N, .int .i64 p.T, .int .i64 p.K, .int .i64 p.D, .int .i64 p.R, .int .i64 p.M, .int .i64 p.X]:Array Value)[o]?)∧W.cell? ⟨gS,oS+i0,none⟩=some (.slice Ax nx cx)):=za (fun vs W hC=>by
    have hC:Xq _ _ _ _ _ _ vs W:=hC;exact ⟨(HB2.out.grown hC.g (fun e=>by injection e with e;have:=HGT.out.1;omega)).prule,Xj (Xj HCS.out HD2.out (by simp)) hC.g (fun e=>by injection e with e;have:=HGT.out.1;have:=HSX.out;have:=HNW.out;omega)⟩)
   have HMK:Hid (∀W,wr.drew.grownBy W (some gt)→ZE p seed gt (dlK p j) W→Calls Tryz.prog 46 #[p.v, .slice Ax nx cx, .int .i64 p.N, .pointer (some ⟨gt,0,none⟩)] W fun e w'=> ∃a b c,e= .returned (.tuple #[.agg #[a,b,c], .int .i64 0])∧DLn wr.drew.heap.size w' a b c (dlD p seed ((i0:Int)+1) j)∧ZE p seed gt (dlK p (j+1)) w'∧W.grownBy w' (some gt)):=za (fun W hg hb=>by
    have hne: ∀b,w1.drew.heap.size≤b→some b≠some gt:=fun b hb e=>by injection e with e;have:=HGT.out.1;have:=HNW.out;omega
    have hNn:p.N=((NN:Nat):Int):=HNN.out.2.2.2;rw [hNn];refine (LD p (.slice Ax nx cx) X NN _ W HTP.out HP.out HMAY.out (HTB.out.kept (zB HG1d.out (HGR.out.trans hg) (fun r e=>by injection e with e;have:=HGT.out.1;omega))) ((HSS2.out.kept HD2.out).keep hg hne) (fun b hb e=>hne b hb (by rw [e])) (by rw [HX.out.2,HSZ.out.2.2.2.2.1]) ⟨by have:=HNN.out;omega,by have:=HNN.out;omega⟩ (dlK p j) (Vd p+1) (by have:=HSZ.out.2.2.2.2.2.1;omega) hb (by
     have h1:=HSZ.out.2.2.2.1;have h2:=HSZ.out.1;have h3:=HSZ.out.2.1;have h4:=HJ2.out;rw [HX.out.2];unfold dlK Fc;rw [HN2.out];have ht:Vd p=1∨Vd p=2:=by omega
     have hjj:j=0∨j=1:=by omega
     rcases ht with ht|ht<;>rcases hjj with hjj|hjj<;>rw [ht,hjj]<;>omega)).mono ?_
    rintro e w' ⟨vm,vr,vc,rfl,k1,k2,k3,k4,k5⟩;rw [HX.out.2,HX.out.1] at k1 k2 k3;rw [HX.out.2] at k4;have hk:dlK p (j+1)=dlK p j+Vi p*(2*((Vd p+1)*(Vd p+1) - 1)):=by unfold dlK;rw [Nat.add_mul,Nat.one_mul,Nat.add_assoc]
    refine ⟨vm,vr,vc,rfl,⟨?_, ?_, ?_⟩, ?_,k5⟩
    ·exact k1.more fun k _ hk=>Nat.le_trans hg.size hk
    ·have h:=k2.more (Y:=fun g=>wr.drew.heap.size≤g) fun k _ hk=>Nat.le_trans hg.size hk
     unfold dlD;rw [HNN.out.1];exact h
    ·have h:=k3.more (Y:=fun g=>wr.drew.heap.size≤g) fun k _ hk=>Nat.le_trans hg.size hk
     unfold dlD;rw [HNN.out.1];exact h
    ·rw [hk];exact k4)
   refine FR.wp_region_late (Ir HOK.out) [9,13,14] 16 (by kernel_rfl) (by kernel_rfl) (by kernel_rfl) (Xq.start HTI2.out) ?_;refine FR.mS (p.v) [] (fun vs w' hC=>FR.kD fun K hK=> ?_) ?_
   ·have qq:=HLD.out vs w' hC;have hp:=qq.1;have hs:=qq.2;clear qq;go_simp;exact hK _ _ rfl ⟨rfl,gRf⟩
   refine FR.mS (.slice (some ⟨gS,oS,none⟩) NN cS) [] (fun vs w' hC=>FR.kD fun K hK=> ?_) ?_
   ·go_simp;exact hK _ _ rfl ⟨rfl,gRf⟩
   refine FR.mS (.int .i64 ((i0:Int)+1)) [] (fun vs w' hC=>FR.kD fun K hK=> ?_) ?_
   ·go_simp;exact hK _ _ rfl ⟨rfl,gRf⟩
   refine FR.mS (.int .i64 (i0:Int)) [(2,55)] (fun vs w' hC=>FR.pQ (FR.kD fun K hK=> ?_)) ?_
   ·go_simp;exact hK _ _ rfl ⟨rfl,gRf⟩
   refine FR.mS (.pointer (some ⟨gS,oS+i0,none⟩)) [(1,54),(3,56)] (fun vs w' hC=>FR.pQ (FR.pQ (FR.kD fun K hK=> ?_))) ?_
   ·go_simp;exact hK _ _ rfl ⟨rfl,gRf⟩
   refine FR.mS (.slice Ax nx cx) [(4,57)] (fun vs w' hC=>FR.pQ (FR.kD fun K hK=> ?_)) ?_
   ·have qq:=HLD.out vs w' hC;have hp:=qq.1;have hs:=qq.2;clear qq;go_simp;exact hK _ _ rfl ⟨rfl,gRf⟩
   refine FR.mS (.pointer (some ⟨w.heap.size,5,none⟩)) [] (fun vs w' hC=>FR.kD fun K hK=> ?_) ?_
   ·go_simp;exact hK _ _ rfl ⟨rfl,gRf⟩
   refine FR.mS (.int .i64 p.N) [(6,59)] (fun vs w' hC=>FR.pQ (FR.kD fun K hK=> ?_)) ?_
   ·have qq:=HLD.out vs w' hC;have hp:=qq.1;have hs:=qq.2;clear qq;go_simp;exact hK _ _ rfl ⟨rfl,gRf⟩
   refine FR.mS (.pointer (some ⟨gt,0,none⟩)) [] (fun vs w' hC=>FR.kD fun K hK=> ?_) ?_
   ·go_simp;exact hK _ _ rfl ⟨rfl,gRf⟩
   refine FR.LateR.turn 0 [(0,53),(5,58),(7,60),(8,61)] (by kernel_rfl) [] rfl (by kernel_rfl) (fun vs w' hn hr hC=> ?_) ?_
   ·intro x53 h53;intro x58 h58;intro x60 h60;intro x61 h61;have e53:x53=p.v:=h53;clear h53;subst e53;have e58:x58= .slice Ax nx cx:=h58;clear h58;subst e58;have e60:x60= .int .i64 p.N:=h60;clear h60;subst e60;have e61:x61= .pointer (some ⟨gt,0,none⟩):=h61;clear h61;subst e61;refine FR.askl_do rfl fun K hK=> ?_
    have hC:Xq _ _ _ _ _ _ vs w':=hC;go_simp;refine (HMK.out w' hC.g (hC.pre hn)).mono ?_;rintro e w3 ⟨va,vb,vc,rfl,k1,k2,k3⟩;exact hK _ _ rfl ⟨trivial,Xq.call HOK.out hC hn (cs:= #[va,vb,vc]) ⟨va,vb,vc,rfl,rfl,k1,k2⟩ k3⟩
   refine FR.mV (Cd) [(9,62)] (fun vs w' hC x62 h62=>FR.kD fun K hK=> ?_) ?_
   ·go_simp;exact hK _ _ rfl ⟨h62,gRf⟩
   refine FR.mV (Ce dF0) [(10,52)] (fun vs w' hC x52 h52=>FR.kD fun K hK=> ?_) ?_
   ·have h52:(0,x52)∈vs:=h52;have hC:Xq _ _ _ _ _ _ vs w':=hC;obtain ⟨cs,va,vb,vc,rfl,htt⟩:=hC.told _ h52;go_simp;exact hK _ _ rfl ⟨⟨_,h52,rfl⟩,gRf⟩
   refine FR.mS (.int .i64 0) [(10,52)] (fun vs w' hC x52 h52=>FR.kD fun K hK=> ?_) ?_
   ·have h52:(0,x52)∈vs:=h52;have hC:Xq _ _ _ _ _ _ vs w':=hC;obtain ⟨cs,va,vb,vc,rfl,htt⟩:=hC.told _ h52;go_simp;exact hK _ _ rfl ⟨rfl,gRf⟩
   refine FR.LateR.turn 1 [] (by kernel_rfl) [] rfl (by kernel_rfl) (fun vs w' hn hr hC=> ?_) ?_
   ·refine FR.askl_do rfl fun K hK=> ?_
    have hC:Xq _ _ _ _ _ _ vs w':=hC;go_simp;exact hK _ _ rfl ⟨trivial,Xq.alloc HOK.out hC hn⟩
   refine FR.LateR.turn 2 [(13,17),(11,63)] (by kernel_rfl) [0,1] rfl (by kernel_rfl) (fun vs w' hn hr hC=> ?_) ?_
   ·intro x17 h17;intro x63 h63;have h63: ∃x,(0,x)∈vs∧dF0 x63 x:=h63;refine FR.askl_do rfl fun K hK=> ?_
    have hC:Xq _ _ _ _ _ _ vs w':=hC;obtain ⟨x,hx,hfx⟩:=h63;obtain ⟨cs,ht⟩:=hC.told _ hx;have ht':=ht;obtain ⟨va,vb,vc,e1,e2,hd,_⟩:=ht;subst e1;obtain rfl:x63= .agg #[va,vb,vc]:=Ff hfx;obtain ⟨g,eg,hl,hz,_⟩:=hC.box _ h17;subst eg;have hb:=hz hn;have f0:=hb.cell 0;have f1:=hb.cell 1;have f2:=hb.cell 2;have ff:=hb.free;simp at f0 f1 f2;have hst:=Xq.stored HOK.out hC hn (u:=undef) hx ht' h17 (e2 ▸ ((hb.set 0 va).set 1 vb).set 2 vc) (((zi w' g 0 va).trans (zi _ g 1 vb)).trans (zi _ g 2 vc));obtain ⟨A1,n1,c1,rfl⟩:=hd.1.shape;obtain ⟨A2,n2,c2,rfl⟩:=hd.2.1.shape;obtain ⟨A3,n3,c3,rfl⟩:=hd.2.2.shape;clear ht' hfx hx hd;go_simp;exact hK _ _ rfl ⟨trivial,hst⟩
   refine FR.mS (.int .i64 0) [(12,64)] (fun vs w' hC=>FR.pQ (FR.kD fun K hK=> ?_)) ?_
   ·go_simp;exact hK _ _ rfl ⟨rfl,gRf⟩
   intro vs w5 hvl hC5;have hC5:Xq _ _ _ _ _ _ vs w5:=hC5
   iterate 13 (refine pD ?_;intro _)
   intro y13 k13 y14 k14 y15 k15;show wpList Tryz.prog _ _ _ _ w5;simp only [Act.put,sAa,sAb,sAc];have e15:y15= .int .i64 0:=k15;subst e15;obtain ⟨g17,x17,cs17,e17,hl17,hx17,ht17,hb17,hg17⟩:=hC5.fin hvl.2 k13;subst e17;obtain ⟨va,vb,vc,_,ec,hd,hti5⟩:=ht17;subst ec;have HD5:=za hd;obtain ⟨Am,nm,cm,rfl⟩:=hd.1.shape;obtain ⟨Ar,nr,cr,rfl⟩:=hd.2.1.shape;obtain ⟨Ac,nc,cc,rfl⟩:=hd.2.2.shape;have hr17:=hb17.rule;have HG5:Hid (wr.grownBy w5 (some gt)):=za ((HD2.out.but _).trans hg17);have HTI5:=za hti5;have HAC5:=za (HAC.out.keep HG5.out (fun b hb e=>by injection e with e;have:=HGT.out.1;have:=HNWs.out;omega));have HGJ5:=za (HGJ.out.trans HG5.out);have HREP:Hid (VV.rep (fun g=>w2.heap.size≤g∧some g≠u15.ownBlock) w5 [.slice Am nm cm, .slice Ar nr cr, .slice Ac nc cc] (dlD p seed ((i0:Int)+1) j)):=za (by
    have hmo: ∀g,g< w5.heap.size→wr.drew.heap.size≤g→w2.heap.size≤g∧some g≠u15.ownBlock:=fun g _ hg=>⟨Nat.le_trans (Nat.le_trans HGJ.out.size HD2.out.size) hg,fun e=>by have:=(HAC.out.lt g e.symm).2;have:wr.heap.size≤g:=hg;omega⟩
    exact ⟨_,_,_,rfl,HD5.out.1.more hmo,HD5.out.2.1.more hmo,HD5.out.2.2.more hmo⟩)
   have HLB:Hid ((((List.range j).map (dlD p seed ((i0:Int)+1))).length+1)*72≤140737488355328):=za (by rw [List.length_map,List.length_range];have:=HJ2.out;omega);have HSN:Hid ((List.range (j+1)).map (dlD p seed ((i0:Int)+1))=(List.range j).map (dlD p seed ((i0:Int)+1))++ [dlD p seed ((i0:Int)+1) j]):=za (by rw [List.range_succ,List.map_append];rfl);obtain ⟨PR,hPR⟩: ∃y,y=(List.range j).map (dlD p seed ((i0:Int)+1)):=⟨_,rfl⟩;rw [←hPR] at HAC5 HLB HSN;have HB5:Hid (w2.heap.size≤w5.heap.size):=za HGJ5.out.size;have HN5:Hid (∀g,w5.heap.size≤g→w2.heap.size≤g):=za (fun g hg=>Nat.le_trans HGJ5.out.size hg);clear k13 k14 k15 hvl hC5 hl17 hx17 hd hb17 hg17 hti5 HLD HMK HTI2 hPR;go_wp2_with (at_builtin;refine zQ rfl (.tmp 67) (.tmp 69) rfl (E:=VV) (y:=dlD p seed ((i0:Int)+1) j) EA HAC5.out rfl rfl HREP.out HLB.out HB5.out HN5.out ?_);intro v9 w9 hacc9 hg9 hm9;have HFIN:Hid (Acc VV w2.heap.size 107 (fun g=>w2.heap.size≤g) w9 v9 ((List.range (j+1)).map (dlD p seed ((i0:Int)+1)))∧ZE p seed gt (dlK p (j+1)) w9∧w2.grownBy w9 (some gt)):=za ⟨by rw [HSN.out];exact hacc9,HTI5.out.grown hg9 (fun e=>by have:=(HAC.out.lt gt e.symm).1;have:=HGT.out.1;have:=HNWs.out;omega),HGJ5.out.andThen hg9 (fun g e=> .inl (HAC.out.lt g e).1)⟩;clear hacc9 hg9 hm9;go_wp2_with fail;go_roundg (gk - 1)
   case measure=>omega
   case rel=>exact ⟨j+1,by omega,by go_num,HFIN⟩
end
section
open Go Go.RowKit Go.Shelf
abbrev p4:Par:=⟨23,11,4,9,4,4,1,1,1,1,1,1⟩
def CM5:List (List Int):= [[6,9], [6,9]]
def DL5:Dl:=⟨[[[3,1], [2,1]], [[3,12], [16,8]]], [[[(9,7),(1,4)], [(2,6),(6,9)]], [[(5,0),(5,9)], [(4,6),(7,7)]], [[(1,4),(9,3)], [(6,6),(8,5)]], [[(8,8),(2,8)], [(8,6),(9,3)]]], [[[(10,2),(0,9)], [(5,6),(3,9)]], [[(7,1),(4,3)], [(10,6),(4,7)]], [[(4,0),(8,8)], [(4,6),(5,5)]], [[(1,10),(1,2)], [(9,6),(6,3)]]]⟩
theorem IN:ED p4 [0] 5=CM5:=by decide+kernel
theorem EG:(dlD p4 5 2 0).m=DL5.m:=by decide+kernel
theorem EI:(dlD p4 5 2 0).a=DL5.a:=by decide+kernel
theorem EH:(dlD p4 5 2 0).b=DL5.b:=by decide+kernel
theorem LH:dlD p4 5 2 0=DL5:=by
 have h: ∀d:Dl,d=⟨d.m,d.a,d.b⟩:=fun _=>rfl
 rw [h (dlD p4 5 2 0),EG,EI,EH]
def EE(j:Int):zw:=⟨p4,2,j,CM5⟩
theorem PZ:Va p4=true:=by decide+kernel
theorem EB(j:Int)(h:1≤j∧j≤4):(EE j).ok:=⟨xN false,PZ,⟨show (1:Int)≤2 by decide,show (2:Int)≤4 by decide⟩,h,by show Za p4 CM5=true;decide+kernel,by show CM5.length≤100000;decide⟩
def nD(j:Int):List Int:=Ur p4 7 0 1 [] [DL5] j
def nR(f j:Int):List Int:=Ur p4 9 f 1 [] [DL5] j
def tA(j:Int):ASt×List yL:=zx (EE j) ASt.start 7 0 (nD j)
def tB1:ASt×List yL:=zx (EE 1) (tA 1).1 8 2 (toI 8 1 (tA 2).2)
def tB2:ASt×List yL:=zx (EE 1) tB1.1 8 3 (toI 8 1 (tA 3).2)
def tB3:ASt×List yL:=zx (EE 1) tB2.1 9 2 (nR 2 1)
def tB4:ASt×List yL:=zx (EE 1) tB3.1 9 3 (nR 3 1)
def tD1:ASt×List yL:=zx (EE 4) ASt.start 9 2 (nR 2 4)
def tD2:ASt×List yL:=zx (EE 4) tD1.1 9 3 (nR 3 4)
def okA(j:Int):Bool:=decide ((tA j).2.length=3) && decide ((toI 8 4 (tA j).2).length≠0)
def awB:Bool:=okA 1 && okA 2 && okA 3 && decide (tB1.2.length=0) && decide (tB2.2.length=3) && decide ((toI 9 4 tB2.2).length≠0) && (tB2.1.done==false)
theorem Fj:awB=true:=by decide+kernel
end
section
open Go Go.RowKit Go.Shelf Go.Maps
def Kx:Enc Nat where
 size:=1
 pos:=by decide
 rep:=fun _ _ cs g=>cs= [.pointer (some ⟨g,0,none⟩)]
 len:=fun h=>by rw [h];rfl
 ones:=fun h u hu=>by rw [h] at hu;simp at hu;subst hu;rfl
 keep:=fun h _ _=>h
 more:=fun h _=>h
 keepc:=fun h _ _=>h
theorem Sl.atA{X:Nat→Prop}{w:World}{v:Value}{xs:List Nat}(h:Sl Kx X w v xs){k:Nat}(hk:k< xs.length):
  ∃g o c,v= .slice (some ⟨g,o,none⟩) xs.length c∧g< w.heap.size∧X g∧w.cell? ⟨g,o+k,none⟩=some (.pointer (some ⟨xs[k],0,none⟩)):=by
 obtain ⟨g,o,c,cs,e,hg,hX,rfl,hc⟩:=h.at hk;have h0:=hc 0 _ rfl;rw [show Kx.size=1 from rfl,Nat.mul_one] at h0;exact ⟨g,o,c,e,hg,hX,h0⟩
theorem JT:(Tryz.prog.info? 53).map (fun i=>(i.zero,i.size,i.bytes))=some (some (.pointer none),1,8):=by kernel_rfl
theorem Fa:zA Tryz.prog 40 53 1 8:=zA.mk' (by decide) Tryz.underlying40 JT rfl
theorem Lp:(Tryz.prog.info? 63).map (fun i=>(i.zero,i.size,i.bytes))=some (some (.slice none 0 0),1,24):=by kernel_rfl
theorem Gd:zA Tryz.prog 100 63 1 24:=zA.mk' (by decide) Tryz.underlying100 Lp rfl
def Ve(S:List Nat)(g:Nat):Prop:=g ∉ S
theorem Acc.neAv{α:Type}{E:Enc α}{base:Nat}{e:TypeId}{X Y:Nat→Prop}{W:World}{v:Value}{xs:List α}{gA gM nn:Nat}{E':zw}{st:ASt}(h:Acc E base e X W v xs)(hA:AvW Y gA gM nn E' st W)(he:e≠125):v.ownBlock≠some gA∧v.ownBlock≠some gM:=by
 obtain ⟨⟨vc,vd,vo,hb,_⟩,⟨D,⟨es,cl,hm,_⟩,_⟩,_⟩:=hA;refine ⟨h.ne_bk hb he,fun ev=> ?_⟩;obtain ⟨_,css,_,_,h3⟩:=h;rcases h3.2 with ⟨rfl,_⟩|⟨g',cap,cur,rfl,_,hh,_⟩
 ·simp [Value.ownBlock] at ev
 ·obtain rfl:g'=gM:=by simpa [Value.ownBlock] using ev
  rw [hh] at hm;cases hm
theorem Acc.neAcc{α β:Type}{E:Enc α}{F:Enc β}{b b':Nat}{e f:TypeId}{X Y:Nat→Prop}{W:World}{v u:Value}{xs:List α}{ys:List β}(h:Acc E b e X W v xs)(k:Acc F b' f Y W u ys)(he:e≠f){g:Nat}(hg:v.ownBlock=some g):u.ownBlock≠some g:=fun hu=>by
 obtain ⟨_,css,_,_,h3⟩:=h;obtain ⟨_,dss,_,_,k3⟩:=k;rcases h3.2 with ⟨rfl,_⟩|⟨g1,cap,cur,rfl,_,hh,_⟩
 ·simp [Value.ownBlock] at hg
 ·rcases k3.2 with ⟨rfl,_⟩|⟨g2,cap2,cur2,rfl,_,kh,_⟩
  ·simp [Value.ownBlock] at hu
  ·obtain rfl:g1=g:=by simpa [Value.ownBlock] using hg
   obtain rfl:g2=g1:=by simpa [Value.ownBlock] using hu
   rw [hh] at kh;injection kh with kh
   injection kh with _ k2 _
   exact he k2
structure Rm (EV:Nat→zw) (S:List Nat) (L:List (Nat×Nat)) (sts:Nat→ASt) (nn:Nat) (W:World):Prop where
 sz: ∀g∈S,g< W.heap.size
 nd: ∀i j (hi:i< L.length) (hj:j< L.length),i≠j→(L[i].1≠L[j].1∧L[i].1≠L[j].2)∧L[i].2≠L[j].1∧L[i].2≠L[j].2
 sub: ∀i (h:i< L.length),L[i].1∈S∧L[i].2∈S
 av: ∀i (h:i< L.length),(EV i).ok∧AvW (Ve S) L[i].1 L[i].2 nn (EV i) (sts i) W∧yx (EV i) (sts i)
section
variable {EV:Nat→zw} {S:List Nat} {L:List (Nat×Nat)} {sts:Nat→ASt} {nn:Nat} {W W':World}
theorem Rm.keep(h:Rm EV S L sts nn W){row:Option Nat}(hg:W.grownBy W' row)(hr: ∀b,row=some b→b∈S∧ ∀i (h:i< L.length),L[i].1≠b∧L[i].2≠b):Rm EV S L sts nn W' where
 sz:=fun g hgS=>Nat.lt_of_lt_of_le (h.sz g hgS) hg.size
 nd:=h.nd
 sub:=h.sub
 av:=fun i hi=>by
  obtain ⟨h1,h2,h3⟩:=h.av i hi;exact ⟨h1,h2.keep hg (fun g hX e=>hX (hr g e.symm).1) (fun e=>((hr _ e.symm).2 i hi).1 rfl) (fun e=>((hr _ e.symm).2 i hi).2 rfl),h3⟩
theorem Rm.kept(h:Rm EV S L sts nn W)(hg:W.grownBy W' none):Rm EV S L sts nn W':=h.keep hg (fun b e=>by cases e)
theorem Rm.up(h:Rm EV S L sts nn W){m:Nat}(hm:nn≤m):Rm EV S L sts m W:=⟨h.sz,h.nd,h.sub,fun i hi=>⟨(h.av i hi).1,(h.av i hi).2.1.upN hm,(h.av i hi).2.2⟩⟩
theorem Rm.free(h:Rm EV S L sts nn W){g:Nat}(hg:W.heap.size≤g):Ve S g:=fun e=>by have:=h.sz g e;omega
theorem Rm.add(h:Rm EV S L sts nn W){gA gM:Nat}(hg:W.grownBy W' none)(hA:W.heap.size≤gA)(hM:W.heap.size≤gM)(hE:(EV L.length).ok)(hv:AvW (fun g=>W.heap.size≤g∧g≠gA∧g≠gM) gA gM 0 (EV L.length) ASt.start W')(hs:sts L.length=ASt.start):Rm EV (gA::gM::S) (L++ [(gA,gM)]) sts nn W' where
 sz:=fun g hgS=>by
  rcases List.mem_cons.1 hgS with rfl|hgS
  ·exact hv.ltA
  ·rcases List.mem_cons.1 hgS with rfl|hgS
   ·exact hv.ltM
   ·exact Nat.lt_of_lt_of_le (h.sz g hgS) hg.size
 nd:=fun i j hi hj hij=>by
  have old: ∀k (hk:k< L.length),L[k].1< W.heap.size∧L[k].2< W.heap.size:=fun k hk=>⟨h.sz _ (h.sub k hk).1,h.sz _ (h.sub k hk).2⟩
  simp only [List.length_append,List.length_cons,List.length_nil] at hi hj;rcases Nat.lt_or_ge i L.length with h1|h1<;>rcases Nat.lt_or_ge j L.length with h2|h2
  ·rw [List.getElem_append_left h1,List.getElem_append_left h2];exact h.nd i j h1 h2 hij
  ·obtain rfl:j=L.length:=by omega
   rw [List.getElem_append_left h1,List.getElem_append_right (Nat.le_refl _)]
   have:=old i h1
   simp;omega
  ·obtain rfl:i=L.length:=by omega
   rw [List.getElem_append_left h2,List.getElem_append_right (Nat.le_refl _)]
   have:=old j h2
   simp;omega
  ·omega
 sub:=fun i hi=>by
  simp only [List.length_append,List.length_cons,List.length_nil] at hi;rcases Nat.lt_or_ge i L.length with h1|h1
  ·rw [List.getElem_append_left h1];exact ⟨by simp [(h.sub i h1).1],by simp [(h.sub i h1).2]⟩
  ·obtain rfl:i=L.length:=by omega
   rw [List.getElem_append_right (Nat.le_refl _)];simp
 av:=fun i hi=>by
  simp only [List.length_append,List.length_cons,List.length_nil] at hi;rcases Nat.lt_or_ge i L.length with h1|h1
  ·rw [List.getElem_append_left h1];obtain ⟨k1,k2,k3⟩:=h.av i h1;refine ⟨k1,(k2.more (Y:=Ve (gA::gM::S)) fun g hl hX e=> ?_).kept hg,k3⟩;rcases List.mem_cons.1 e with e|e
   ·omega
   ·rcases List.mem_cons.1 e with e|e
    ·omega
    ·exact hX e
  ·obtain rfl:i=L.length:=by omega
   rw [List.getElem_append_right (Nat.le_refl _)];simp only [Nat.sub_self,List.getElem_cons_zero];rw [hs];refine ⟨hE,(hv.more fun g _ hX e=> ?_).upN (Nat.zero_le _),yx.start _⟩;rcases List.mem_cons.1 e with e|e
   ·exact hX.2.1 e
   ·rcases List.mem_cons.1 e with e|e
    ·exact hX.2.2 e
    ·have:=h.sz g e
     omega
theorem Rm.take(h:Rm EV S L sts nn W){k:Nat}(hk:k< L.length)(hn:nn+3< maxLen){kind i:Int}(hk8:U8 kind)(hi:I64 i){v:Value}{l:List Int}{Y:Nat→Prop}(hl:Sl ze Y W v l)(hll:l.length≤100000):
  Calls Tryz.prog 21 #[.pointer (some ⟨L[k].1,0,none⟩), .int .u8 kind, .int .i64 i,v] W fun e W'=> ∃v',e= .returned v'∧Sl YC (Ve S) W' v' (yA (EV k) (sts k) kind i l).2∧Rm EV S L (fun j=>if j=k then (yA (EV k) (sts k) kind i l).1 else sts j) (nn+3) W'∧zj L[k].1 L[k].2 W W':=by
 obtain ⟨k1,k2,k3⟩:=h.av k hk;have hXA: ¬Ve S L[k].1:=fun e=>e (h.sub k hk).1
 have hXM: ¬Ve S L[k].2:=fun e=>e (h.sub k hk).2
 refine (Qw (EV k) (sts k) L[k].1 L[k].2 nn (nn+3) kind i v l (Ve S) Y W k1 k2 k3 hk8 hi hXA hXM (fun g hg=>h.free hg) ⟨Nat.le_refl _,hn⟩ hl hll).mono ?_;rintro e W' ⟨v',Z,rfl,z1,z2,z3,z4⟩;refine ⟨v',rfl,z2.sl.more fun g _ hg=>h.free (z1 g hg),⟨fun g hg=>Nat.lt_of_lt_of_le (h.sz g hg) z4.size,h.nd,h.sub,fun j hj=> ?_⟩,z4⟩;by_cases hjk:j=k
 ·subst hjk;rw [if_pos rfl];exact ⟨k1,z3.more fun g _ hg=>hg.1,yx.take k1 k3 _ _ _⟩
 ·rw [if_neg hjk];obtain ⟨q1,q2,q3⟩:=h.av j hj;have hd:=h.nd j k hj hk hjk;exact ⟨q1,(q2.keep2 z4 hXA hXM hd.1 hd.2).upN (by omega),q3⟩
end
end
section
open Go Go.RowKit Go.Shelf Go.Maps
structure AwF (w:World) (gp B:Nat) (vd vc:Value) (W:World):Prop where
 g:w.grownBy W none
 b:w.heap.size≤B
 sz:B≤W.heap.size
 par:Bk W gp 39 p4.cells
 gpl:gp< B
 ds:Sl VV (fun g=>g< B) W vd [DL5]
 cm:Sl (zh ze) (fun g=>g< B) W vc CM5
section
variable {w W W':World} {gp B:Nat} {vd vc:Value}
theorem AwF.keep(h:AwF w gp B vd vc W){row:Option Nat}(hg:W.grownBy W' row)(hr: ∀b,row=some b→B≤b):AwF w gp B vd vc W' where
 g:=zB h.g hg (fun b e=>Nat.le_trans h.b (hr b e))
 b:=h.b
 sz:=Nat.le_trans h.sz hg.size
 par:=h.par.grown hg (fun e=>by have:=hr _ e.symm;have:=h.gpl;omega)
 gpl:=h.gpl
 ds:=h.ds.keep hg (fun g hg e=>by have:=hr _ e.symm;omega)
 cm:=h.cm.keep hg (fun g hg e=>by have:=hr _ e.symm;omega)
theorem AwF.kept(h:AwF w gp B vd vc W)(hg:W.grownBy W' none):AwF w gp B vd vc W':=h.keep hg (fun b e=>by cases e)
theorem AwF.keep2(h:AwF w gp B vd vc W){gA gM:Nat}(hg:zj gA gM W W')(hA:B≤gA)(hM:B≤gM):AwF w gp B vd vc W':=by
 obtain ⟨u,k1,k2⟩:=hg.split;exact (h.keep k1 (fun b e=>by injection e with e;omega)).keep k2 (fun b e=>by injection e with e;omega)
end
noncomputable def stJ(i k:Nat):ASt:=if k< i∧k< 3 then (tA ((k:Int)+1)).1 else ASt.start
noncomputable def IG(i:Nat):List (List yL):=(List.range (min i 3)).map fun k:Nat=>(tA ((k:Int)+1)).2
abbrev EW(k:Nat):zw:=EE ((k:Int)+1)
theorem VT(k:Nat)(h:k< 4):(EW k).ok:=EB _ ⟨by omega,by omega⟩
theorem PP(i:Nat):stJ i i=ASt.start:=by unfold stJ;rw [if_neg (by omega)]
theorem IH(i:Nat)(h:i< 3):(tA ((i:Int)+1)).2.length=3∧toI 8 4 (tA ((i:Int)+1)).2≠ []:=by
 have h0:=Fj;simp only [awB,Bool.and_eq_true] at h0;have key: ∀j,okA j=true→(tA j).2.length=3∧toI 8 4 (tA j).2≠ []:=fun j hj=>by
  simp only [okA,Bool.and_eq_true,decide_eq_true_eq] at hj;exact ⟨hj.1,fun e=>hj.2 (by rw [e];rfl)⟩
 have hi:i=0∨i=1∨i=2:=by omega
 rcases hi with rfl|rfl|rfl
 ·exact key 1 h0.1.1.1.1.1.1
 ·exact key 2 h0.1.1.1.1.1.2
 ·exact key 3 h0.1.1.1.1.2
theorem MP(i:Nat)(h:i< 3):IG (i+1)=IG i++ [(tA ((i:Int)+1)).2]:=by
 unfold IG;rw [Nat.min_eq_left (by omega),Nat.min_eq_left (by omega),List.range_succ,List.map_append];rfl
theorem LG:Dc 4 DL5:=by
 have h:=EF (p:=p4) PZ ⟨by decide,by decide⟩ 5 2 0;rw [LH] at h;exact h
theorem Iy{b:Nat}{e:TypeId}{X:Nat→Prop}{W:World}{v:Value}{xs:List Nat}(h:Acc Kx b e X W v xs):Acc Kx b e (fun g=>v.ownBlock=some g) W v xs:=by
 obtain ⟨hb,css,r1,r2,r3⟩:=h;exact ⟨fun g e=>e,css,r1,fun i hi hi'=>r2 i hi hi',r3⟩
theorem Acc.keep2{α:Type}{E:Enc α}{b:Nat}{e:TypeId}{X:Nat→Prop}{W W':World}{v:Value}{xs:List α}{gA gM:Nat}(h:Acc E b e X W v xs)(hg:zj gA gM W W')(hA: ¬X gA)(hM: ¬X gM):Acc E b e X W' v xs:=by
 obtain ⟨u,k1,k2⟩:=hg.split;exact (h.keep k1 (fun g hx e=>by injection e with e;rw [e] at hx;exact hM hx)).keep k2 (fun g hx e=>by injection e with e;rw [e] at hx;exact hA hx)
theorem Rm.push{EV:Nat→zw}{S:List Nat}{L:List (Nat×Nat)}{sts:Nat→ASt}{nn:Nat}{W W':World}(h:Rm EV S L sts nn W){α:Type}{E:Enc α}{base base':Nat}{e:TypeId}{X X':Nat→Prop}{v v':Value}{xs xs':List α}(ha:Acc E base e X W v xs)(he:e≠125)(ho: ∀b,v.ownBlock=some b→b∈S)(hg:W.grownBy W' v.ownBlock)(hm:xM W v v')(ha':Acc E base' e X' W' v' xs'):
  ∃S',Rm EV S' L sts nn W'∧(∀b,v'.ownBlock=some b→b∈S')∧ ∀g,g∈S→g∈S':=by
 have hk:Rm EV S L sts nn W':=h.keep hg fun b e=>⟨ho b e,fun i hi=>by
  have:=ha.neAv (h.av i hi).2.1 he
  rw [e] at this;exact ⟨fun e2=>this.1 (by rw [e2]),fun e2=>this.2 (by rw [e2])⟩⟩
 rcases hm with hm|⟨n,hn,hm⟩
 ·exact ⟨S,hk,fun b e=>ho b (by rw [←hm];exact e),fun g h=>h⟩
 ·refine ⟨n::S,⟨fun g hgS=> ?_,h.nd,fun i hi=>⟨List.mem_cons_of_mem _ (h.sub i hi).1,List.mem_cons_of_mem _ (h.sub i hi).2⟩,fun i hi=> ?_⟩,fun b e=> ?_,fun g h=>List.mem_cons_of_mem _ h⟩
  ·rcases List.mem_cons.1 hgS with rfl|hgS
   ·exact (ha'.lt _ hm).2
   ·exact hk.sz g hgS
  ·obtain ⟨h1,h2,h3⟩:=h.av i hi;have hne:=ha.neAv h2 he;refine ⟨h1,(h2.more (Y:=Ve (n::S)) fun g hl hX e=> ?_).keep hg (fun g hX e=>hX (List.mem_cons_of_mem _ (ho g e.symm))) (fun e=>hne.1 e.symm) (fun e=>hne.2 e.symm),h3⟩;rcases List.mem_cons.1 e with e|e
   ·omega
   ·exact hX e
  ·rw [hm] at e;injection e with e
   rw [←e];exact List.mem_cons_self
theorem Rm.take_last{EV:Nat→zw}{S:List Nat}{L:List (Nat×Nat)}{sts:Nat→ASt}{nn gA gM:Nat}{W:World}(h:Rm EV S (L++ [(gA,gM)]) sts nn W)(hn:nn+3< maxLen){kind i:Int}(hk8:U8 kind)(hi:I64 i){v:Value}{l:List Int}{Y:Nat→Prop}(hl:Sl ze Y W v l)(hll:l.length≤100000):
  Calls Tryz.prog 21 #[.pointer (some ⟨gA,0,none⟩), .int .u8 kind, .int .i64 i,v] W fun e W'=> ∃v',e= .returned v'∧Sl YC (Ve S) W' v' (yA (EV L.length) (sts L.length) kind i l).2∧Rm EV S (L++ [(gA,gM)]) (fun j=>if j=L.length then (yA (EV L.length) (sts L.length) kind i l).1 else sts j) (nn+3) W'∧zj gA gM W W':=by
 have h2:=h.take (k:=L.length) (by simp) hn hk8 hi hl hll;have e:(L++ [(gA,gM)])[L.length]'(by simp)=(gA,gM):=by simp
 rw [e] at h2;exact h2
structure AwM (w:World) (gp B:Nat) (vd vc:Value) (S:List Nat) (L:List (Nat×Nat)) (xs:List Nat) (s5 s6:Value) (sts:Nat→ASt) (nn:Nat) (outs:List (List yL)) (W:World):Prop where
 rm:Rm EW S L sts nn W
 f:AwF w gp B vd vc W
 bd: ∀k (h:k< L.length),B≤L[k].1∧B≤L[k].2
 a5:Acc Kx B 53 (fun g=>s5.ownBlock=some g) W s5 xs
 o5: ∀b,s5.ownBlock=some b→b∈S
 a6:Acc (zh YC) B 63 (fun g=>(∀k (h:k< L.length),g≠L[k].1∧g≠L[k].2)∧s5.ownBlock≠some g) W s6 outs
 o6: ∀b,s6.ownBlock=some b→b∈S
section
variable {w W W':World} {gp B:Nat} {vd vc s5 s6:Value} {S:List Nat} {L:List (Nat×Nat)} {xs:List Nat} {sts:Nat→ASt} {nn:Nat} {outs:List (List yL)}
theorem AwM.kept(h:AwM w gp B vd vc S L xs s5 s6 sts nn outs W)(hg:W.grownBy W' none):AwM w gp B vd vc S L xs s5 s6 sts nn outs W':=⟨h.rm.kept hg,h.f.kept hg,h.bd,h.a5.kept hg,h.o5,h.a6.kept hg,h.o6⟩
theorem AwM.new(h:AwM w gp B vd vc S L xs s5 s6 sts nn outs W){gA gM:Nat}(hg:W.grownBy W' none)(hA:W.heap.size≤gA)(hM:W.heap.size≤gM)(hE:(EW L.length).ok)(hv:AvW (fun g=>W.heap.size≤g∧g≠gA∧g≠gM) gA gM 0 (EW L.length) ASt.start W')(hs:sts L.length=ASt.start):AwM w gp B vd vc (gA::gM::S) (L++ [(gA,gM)]) xs s5 s6 sts nn outs W' where
 rm:=h.rm.add hg hA hM hE hv hs
 f:=h.f.kept hg
 bd:=fun k hk=>by
  simp only [List.length_append,List.length_cons,List.length_nil] at hk;have hB:=h.f.sz;rcases Nat.lt_or_ge k L.length with h1|h1
  ·rw [List.getElem_append_left h1];exact h.bd k h1
  ·obtain rfl:k=L.length:=by omega
   rw [List.getElem_append_right (Nat.le_refl _)];simp;omega
 a5:=h.a5.kept hg
 o5:=fun b e=>by simp [h.o5 b e]
 a6:=(h.a6.more fun g hl hX=>⟨fun k hk=>by
  simp only [List.length_append,List.length_cons,List.length_nil] at hk;rcases Nat.lt_or_ge k L.length with h1|h1
  ·rw [List.getElem_append_left h1];exact hX.1 k h1
  ·obtain rfl:k=L.length:=by omega
   rw [List.getElem_append_right (Nat.le_refl _)];simp;omega,hX.2⟩).kept hg
 o6:=fun b e=>by simp [h.o6 b e]
theorem AwM.push5(h:AwM w gp B vd vc S L xs s5 s6 sts nn outs W){v:Value}{x:Nat}(ha:Acc Kx B 53 (fun _=>True) W' v (xs++ [x]))(hg:W.grownBy W' s5.ownBlock)(hm:xM W s5 v): ∃S',AwM w gp B vd vc S' L (xs++ [x]) v s6 sts nn outs W':=by
 have h5:Acc Kx B 53 (fun _=>True) W s5 xs:=h.a5.more fun _ _ _=>trivial
 obtain ⟨S',r1,r2,r3⟩:=h.rm.push h5 (by decide) h.o5 hg hm ha;refine ⟨S',r1,h.f.keep hg (fun b e=>(h.a5.lt b e).1),h.bd,Iy ha,r2, ?_,fun b e=>r3 b (h.o6 b e)⟩;refine (h.a6.more (Y:=fun g=>((∀k (hk:k< L.length),g≠L[k].1∧g≠L[k].2)∧v.ownBlock≠some g)∧s5.ownBlock≠some g) fun g hl hX=>⟨⟨hX.1,hm.ne hl hX.2⟩,hX.2⟩).keep hg (fun g hX e=>hX.2 e.symm)|>.more fun g _ hX=>hX.1
theorem AwM.push6(h:AwM w gp B vd vc S L xs s5 s6 sts nn outs W){v:Value}{x:List yL}(ha:Acc (zh YC) B 63 (fun g=>(∀k (h:k< L.length),g≠L[k].1∧g≠L[k].2)∧s5.ownBlock≠some g) W' v (outs++ [x]))(hg:W.grownBy W' s6.ownBlock)(hm:xM W s6 v): ∃S',AwM w gp B vd vc S' L xs s5 v sts nn (outs++ [x]) W':=by
 obtain ⟨S',r1,r2,r3⟩:=h.rm.push h.a6 (by decide) h.o6 hg hm ha;refine ⟨S',r1,h.f.keep hg (fun b e=>(h.a6.lt b e).1),h.bd,h.a5.keep hg (fun g hX e=>(h.a5.neAcc h.a6 (by decide) hX) e.symm),fun b e=>r3 b (h.o5 b e),ha,r2⟩
end
theorem AwM.take{w W:World}{gp B:Nat}{vd vc s5 s6:Value}{S:List Nat}{L:List (Nat×Nat)}{xs:List Nat}{sts:Nat→ASt}{nn gA gM:Nat}{outs:List (List yL)}(h:AwM w gp B vd vc S (L++ [(gA,gM)]) xs s5 s6 sts nn outs W)(hn:nn+3< maxLen){kind i:Int}(hk8:U8 kind)(hi:I64 i){v:Value}{l:List Int}{Y:Nat→Prop}(hl:Sl ze Y W v l)(hll:l.length≤100000){st:ASt}(hst:sts L.length=st){r:ASt×List yL}(hr:zx (EW L.length) st kind i l=r):
  Calls Tryz.prog 21 #[.pointer (some ⟨gA,0,none⟩), .int .u8 kind, .int .i64 i,v] W fun e W'=> ∃v',e= .returned v'∧Sl YC (Ve S) W' v' r.2∧AwM w gp B vd vc S (L++ [(gA,gM)]) xs s5 s6 (fun j=>if j=L.length then r.1 else sts j) (nn+3) outs W':=by
 have hlast:L.length< (L++ [(gA,gM)]).length:=by simp
 have hav:=h.rm.av L.length hlast;have e0:(L++ [(gA,gM)])[L.length]'hlast=(gA,gM):=by simp
 have hbd:=h.bd L.length hlast;rw [e0] at hav hbd;refine (h.rm.take_last hn hk8 hi hl hll).mono ?_;rintro e W' ⟨v',rfl,z1,z2,z3⟩;have e1:yA (EW L.length) (sts L.length) kind i l=r:=by rw [hst,Vk hav.1 rfl,hr]
 rw [e1] at z1 z2;have n5:=h.a5.neAv hav.2.1 (by decide);refine ⟨v',rfl,z1,z2,h.f.keep2 z3 hbd.1 hbd.2,h.bd,h.a5.keep2 z3 n5.1 n5.2,h.o5,h.a6.keep2 z3 (fun e=> ?_) (fun e=> ?_),h.o6⟩
 ·have:=e.1 L.length hlast
  rw [e0] at this;exact this.1 rfl
 ·have:=e.1 L.length hlast
  rw [e0] at this;exact this.2 rfl
def AwL(w:World)(gp B:Nat)(vd vc:Value)(i:Nat)(s5 s6:Value)(W:World):Prop:= ∃(S:List Nat) (L:List (Nat×Nat)),L.length=i∧AwM w gp B vd vc S L (L.map (·.1)) s5 s6 (stJ i) (3*i) (IG i) W
structure Aw2 (w:World) (gp B:Nat) (vd vc:Value) (S:List Nat) (L:List (Nat×Nat)) (s5 s6:Value) (sts:Nat→ASt) (nn:Nat) (W:World):Prop where
 len:L.length=4
 rm:Rm EW S L sts nn W
 f:AwF w gp B vd vc W
 bd: ∀k (h:k< L.length),B≤L[k].1∧B≤L[k].2
 a5:Sl Kx (fun g=> ∀k (h:k< L.length),g≠L[k].1∧g≠L[k].2) W s5 (L.map (·.1))
 a6:Sl (zh YC) (fun g=> ∀k (h:k< L.length),g≠L[k].1∧g≠L[k].2) W s6 (IG 4)
theorem AwL.fin{w W:World}{gp B:Nat}{vd vc s5 s6:Value}(h:AwL w gp B vd vc 4 s5 s6 W): ∃S L,Aw2 w gp B vd vc S L s5 s6 (stJ 4) 12 W:=by
 obtain ⟨S,L,h1,h⟩:=h;refine ⟨S,L,h1,h.rm,h.f,h.bd,h.a5.sl.more fun g _ e k hk=> ?_,h.a6.sl.more fun g _ e=>e.1⟩;have hn:=h.a5.neAv (h.rm.av k hk).2.1 (by decide);exact ⟨fun e2=>hn.1 (by rw [←e2];exact e),fun e2=>hn.2 (by rw [←e2];exact e)⟩
section
variable {w W W':World} {gp B:Nat} {vd vc s5 s6:Value} {S:List Nat} {L:List (Nat×Nat)} {sts:Nat→ASt} {nn:Nat}
theorem Aw2.kept(h:Aw2 w gp B vd vc S L s5 s6 sts nn W)(hg:W.grownBy W' none):Aw2 w gp B vd vc S L s5 s6 sts nn W':=⟨h.len,h.rm.kept hg,h.f.kept hg,h.bd,h.a5.kept hg,h.a6.kept hg⟩
theorem Aw2.take(h:Aw2 w gp B vd vc S L s5 s6 sts nn W){k:Nat}(hk:k< L.length)(hn:nn+3< maxLen){kind i:Int}(hk8:U8 kind)(hi:I64 i){v:Value}{l:List Int}{Y:Nat→Prop}(hl:Sl ze Y W v l)(hll:l.length≤100000){st:ASt}(hst:sts k=st){r:ASt×List yL}(hr:zx (EW k) st kind i l=r):
  Calls Tryz.prog 21 #[.pointer (some ⟨L[k].1,0,none⟩), .int .u8 kind, .int .i64 i,v] W fun e W'=> ∃v',e= .returned v'∧Sl YC (Ve S) W' v' r.2∧Aw2 w gp B vd vc S L s5 s6 (fun j=>if j=k then r.1 else sts j) (nn+3) W'∧zj L[k].1 L[k].2 W W':=by
 refine (h.rm.take hk hn hk8 hi hl hll).mono ?_;rintro e W' ⟨v',rfl,z1,z2,z3⟩;have e:yA (EW k) (sts k) kind i l=r:=by rw [hst,Vk (h.rm.av k hk).1 rfl,hr]
 rw [e] at z1 z2;have hb:=h.bd k hk;exact ⟨v',rfl,z1,⟨h.len,z2,h.f.keep2 z3 hb.1 hb.2,h.bd,h.a5.keep2 z3 (fun e=>(e k hk).1 rfl) (fun e=>(e k hk).2 rfl),h.a6.keep2 z3 (fun e=>(e k hk).1 rfl) (fun e=>(e k hk).2 rfl)⟩,z3⟩
theorem Aw2.nums(h:Aw2 w gp B vd vc S L s5 s6 sts nn W)(kind f me:Int)(hk:U8 kind)(hf:I64 f)(hme:1≤me∧me≤4):Calls Tryz.prog 20 #[.agg #[.int .u8 kind, .int .i64 f, .int .u8 1, .slice none 0 0],p4.v,vd, .int .i64 me] W fun e W'=> ∃v',e= .returned v'∧Sl ze (fun _=>True) W' v' (Ur p4 kind f 1 [] [DL5] me)∧Aw2 w gp B vd vc S L s5 s6 sts nn W'∧W.grownBy W' none:=
 (Xy p4 kind f 1 (.slice none 0 0) vd [] [DL5] me (fun _=>False) _ W (xN false) ⟨by decide,by decide⟩ ⟨by decide,by decide⟩ hk hf (Sl.nil _ _ _) h.f.ds (fun d hd=>by rw [List.mem_singleton.1 hd];exact LG) (by decide) hme).mono (by
  rintro e W' ⟨v',rfl,h1,h2⟩;exact ⟨v',rfl,h1.more fun _ _ _=>trivial,h.kept h2,h2⟩)
end
end
end Go.Proofs.YtkdfjkdphdfclaaGreatDoor

/- Proves for the statement AvssNamesCardSaid, under no other condition than the statement's own, that the card avssNames holds of the program. Part 2. -/
import Derived.Test.YtkdfjkdphdfclaaGreatDoorZ1
import Derived.Deep.RegionHeld3
import Derived.Deep.OwnRows
import Derived.IntWalk
import Derived.RangeFuncNested
import Derived.RangeFuncCalls
import Derived.OwnWalkIn
import Derived.OrdersIn
import Derived.RangeFuncBound
import Derived.RangeFuncLeaves
import Derived.Shelf.Abstract
import Derived.Shelf.RegionOpen
import Derived.TacticsInMore
import Derived.LoopNIn
import Derived.LoopIn
import Derived.Stop.RegionWithIn
set_option maxRecDepth 100000
set_option maxHeartbeats 16000000
set_option linter.unusedVariables false
set_option linter.unusedSimpArgs false
namespace Go.Proofs.YtkdfjkdphdfclaaGreatDoor
section
open Go.RowKit
theorem Xh(v:Value)(l:List Int)(n k:Nat)(X Y:Nat→Prop)(w:World)(h:Sl ze X w v l)(hn:1≤n)(hl:l.length=k*n)(hb:l.length≤100000)(hY: ∀g,w.heap.size≤g→Y g)(hXY: ∀cs y w',Enc.rep ze (fun g=>X g∧g< w.heap.size) w' cs y→Enc.rep ze (fun g=>Y g∧g< w.heap.size) w' cs y):
  Calls Tryz.prog 200 #[v, .int .i64 n] w (zH (xJ ze) Y w (chk n l k)):=by
 have hk:k≤100000:=by
  have:k*1≤k*n:=Nat.mul_le_mul_left k hn
  omega
 have hn2:k≠0→n≤100000:=fun h0=>by
  have:1*n≤k*n:=Nat.mul_le_mul_right n (by omega)
  omega
 have HL:=za hl;have HN2:=za hn2;have HY:=za hY;have HXY:=za hXY;have HST:Hid (Sl ze X w v (l.drop (0*n))∧Acc (xJ ze) w.heap.size 31 Y w (.slice none 0 0) (chk n l 0)∧w.grownBy w none):=za ⟨by simpa using h,Acc.nil _ _ _ _ _,World.grownBy.refl w none⟩;clear h hl hn2 hY hXY hb;go_enter Tryz.func200,Tryz.ntmps200;go_wp2_with fail;go_loopg [0,5] k (fun g s0 s5 wx=> ∃j:Nat,j+g=k∧Hid (Sl ze X w s0 (l.drop (j*n))∧Acc (xJ ze) w.heap.size 31 Y wx s5 (chk n l j)∧w.grownBy wx none))
 case atStart=>exact ⟨0,by omega,HST⟩
 case round=>
  obtain ⟨j,hj,HX⟩:=hrel;cases gk with
  |zero=>
   obtain rfl:j=k:=by omega
   obtain ⟨hs,hacc,hg⟩:=HX.out;obtain ⟨A,c,rfl,_,_⟩:=hs.form;have h0:(l.drop (j*n)).length=0:=by rw [List.length_drop,HL.out];omega
   rw [h0];have HR:Hid (Sl (xJ ze) Y wr u5 (chk n l j)):=za hacc.sl;have HG:=za hg;clear hs hacc hg HX h0 HST;go_wp2;go_ret;exact ⟨_,rfl,HR.out,HG.out⟩
  |succ m=>
   obtain ⟨hs,hacc,hg⟩:=HX.out;have hmul:(j+1+m)*n=j*n+n+m*n:=by rw [Nat.add_mul,Nat.add_mul,Nat.one_mul]
   have hlen:l.length=j*n+n+m*n:=by rw [HL.out, ←hj, ←hmul];congr 1;omega
   have hd:(l.drop (j*n)).length=n+m*n:=by rw [List.length_drop];omega
   obtain ⟨A,c,e0,hc1,hc2⟩:=hs.form;subst e0;obtain ⟨ga,oa,eA,hga,_⟩:=hs.addr (by omega);subst eA;have HTK:Hid (Sl ze X w (.slice (some ⟨ga,oa,none⟩) n c) ((l.drop (j*n)).take n)):=za (hs.take n (by omega));have HDR:Hid (Sl ze X w (.slice (some ⟨ga,oa+n,none⟩) (n+m*n - n) (c - n)) (l.drop ((j+1)*n))):=za (by
    rw [hd] at hs
    have:=hs.drop n (by omega)
    rwa [List.drop_drop,show j*n+n=(j+1)*n by rw [Nat.add_mul,Nat.one_mul],show n*Enc.size ze=n from Nat.mul_one n] at this)
   have HD0:Hid (m=0→l.drop ((j+1)*n)= []):=za (fun hm=>List.drop_eq_nil_of_le (by rw [hlen,hm,Nat.add_mul];omega));have HTL:Hid (((l.drop (j*n)).take n).length=n):=za (by rw [List.length_take,hd];omega);rw [hd] at hc1 ⊢;have hn3:n≤100000:=HN2.out (by omega);have HAC:=za hacc;have HG:=za hg;have HSN:=za (TH n l j);have HCL:=za (zF n l j);obtain ⟨q,hq⟩: ∃q,q=n+m*n:=⟨_,rfl⟩;rw [←hq] at hc1 ⊢;have hqn:n≤q:=by omega
   clear hs hacc hg HX hd hlen hmul HST;have HQ:=za hq;have i1:(0:Int)< (q:Int):=by omega
   have i2:(n:Int)≤(q:Int):=by omega
   have i3:(n:Int)≤(c:Int):=by omega
   have i4:(0:Int)≤(n:Int):=by omega
   clear hq;have HOW:Hid (∀g,u5.ownBlock=some g→w.heap.size≤g∧g< wr.heap.size):=za HAC.out.lt;have HZ:Hid (∀cs y,Enc.rep ze (fun g=>X g∧g< w.heap.size) (wr.alloc (.cells #[] 22)) cs y→Enc.rep ze (fun g=>(Y g∧some g≠u5.ownBlock)∧some g≠(Value.slice (some ⟨wr.heap.size,0,none⟩) 0 0).ownBlock) (wr.alloc (.cells #[] 22)) cs y):=
    za (fun cs y hr=>Enc.more _ (HXY.out _ _ _ hr) fun g _ hg=>⟨⟨hg.1,fun e=>by have:=HOW.out g e.symm;have:=hg.2;omega⟩,fun e=>by simp [Value.ownBlock] at e;have:=hg.2;have:=HG.out.size;omega⟩)
   have HSB:Hid (Sl ze (fun g=>X g∧g< w.heap.size) (wr.alloc (.cells #[] 22)) (.slice (some ⟨ga,oa,none⟩) n c) ((l.drop (j*n)).take n)):=za (HTK.out.bounded.kept (HG.out.trans (gAl wr _ none)));have HBY:Hid ((([]:List Int).length+((l.drop (j*n)).take n).length)*8≤140737488355328):=za (by rw [HTL.out];simp;omega);have HNX:Hid (∀g,(wr.alloc (.cells #[] 22)).heap.size≤g→Y g∧some g≠u5.ownBlock):=za (fun g hg=>⟨HY.out g (by have:=HG.out.size;simp at hg;omega),fun e=>by have:=HOW.out g e.symm;simp at hg;omega⟩);go_wp2_with (at_builtin;refine xo rfl (.tmp 13) (.tmp 16) rfl (E:=ze) xd (Acc.made _ wr 22 (Nat.le_refl _) (fun g=>Y g∧some g≠u5.ownBlock) ⟨HY.out _ HG.out.size,fun e=>by have:=HOW.out _ e.symm;omega⟩) rfl rfl HSB.out HZ.out HBY.out (by simp) HNX.out ?_);intro v1 w1 hacc1 hg1 hm1;obtain ⟨A1,c1,e1,_,_⟩:=hacc1.sl.form;rw [HTL.out] at e1;subst e1;have HA1:=za hacc1;have HG1:Hid (wr.grownBy w1 none):=za (zB (gAl wr _ none) hg1 (fun g e=>by simp [Value.ownBlock] at e;omega));have HREP:Hid (Enc.rep (xJ ze) (fun g=>Y g∧some g≠u5.ownBlock) w1 [.slice A1 n c1] ((l.drop (j*n)).take n)):=za (by
    have hn0:0< ((l.drop (j*n)).take n).length:=by rw [HTL.out];omega
    exact ⟨_,rfl,hacc1.sl,hacc1.wr hn0⟩)
   clear hacc1 hg1 hm1;have HLB:Hid (((chk n l j).length+1)*24≤140737488355328):=za (by rw [HCL.out];omega);have HAC1:=za (HAC.out.kept HG1.out);have HG2:=za (HG.out.trans HG1.out);have HBS:Hid (w.heap.size≤w1.heap.size):=za HG2.out.size;have HNY:Hid (∀g,w1.heap.size≤g→Y g):=za (fun g hg=>HY.out g (Nat.le_trans HBS.out hg));go_wp2_with (at_builtin;refine zQ rfl (.tmp 12) (.tmp 18) rfl (E:=xJ ze) Zb HAC1.out rfl rfl HREP.out HLB.out HBS.out HNY.out ?_);intro v2 w2 hacc2 hg2 hm2;have HG3:Hid (w.grownBy w2 none):=za (zB HG2.out hg2 (fun g e=>(HAC1.out.lt g e).1));have HG4:Hid (wr.grownBy w2 u5.ownBlock):=za ((yS HG1.out).trans hg2);have HA2:Hid (Acc (xJ ze) w.heap.size 31 Y w2 v2 (chk n l (j+1))):=za (by rw [HSN.out];exact hacc2);clear hacc2 hg2 hm2;have HE:Hid (c=n→l.drop ((j+1)*n)= []):=za (fun hcn=>HD0.out (by
    rcases Nat.eq_zero_or_pos m with h|h
    ·exact h
    ·have:=Nat.mul_le_mul h (Nat.le_refl n)
     have:=HQ.out
     omega))
   have HDR2:Hid (Sl ze X w (.slice (some ⟨ga,oa+n,none⟩) (q - n) (c - n)) (l.drop ((j+1)*n))):=za (by rw [HQ.out];exact HDR.out);clear HDR;go_wp2_with fail
   all_goals
    go_roundg m
    case measure=>omega
    case rel=>first|exact ⟨j+1,by omega,za ⟨HDR2.out,HA2.out,HG3.out⟩⟩|exact ⟨j+1,by omega,za ⟨by rw [HE.out (by assumption),show q - n=0 by omega];exact Sl.empty _ _ _ _ _ (by omega),HA2.out,HG3.out⟩⟩
theorem Vj(v:Value)(l:List (List Int))(n k:Nat)(X Y:Nat→Prop)(w:World)(h:Sl (xJ ze) X w v l)(hn:1≤n)(hl:l.length=k*n)(hb:l.length≤100000)(hY: ∀g,w.heap.size≤g→Y g)(hXY: ∀cs y w',Enc.rep (xJ ze) (fun g=>X g∧g< w.heap.size) w' cs y→Enc.rep (xJ ze) (fun g=>Y g∧g< w.heap.size) w' cs y):
  Calls Tryz.prog 199 #[v, .int .i64 n] w (zH (xJ (xJ ze)) Y w (chk n l k)):=by
 have hk:k≤100000:=by
  have:k*1≤k*n:=Nat.mul_le_mul_left k hn
  omega
 have hn2:k≠0→n≤100000:=fun h0=>by
  have:1*n≤k*n:=Nat.mul_le_mul_right n (by omega)
  omega
 have HL:=za hl;have HN2:=za hn2;have HY:=za hY;have HXY:=za hXY;have HST:Hid (Sl (xJ ze) X w v (l.drop (0*n))∧Acc (xJ (xJ ze)) w.heap.size 43 Y w (.slice none 0 0) (chk n l 0)∧w.grownBy w none):=za ⟨by simpa using h,Acc.nil _ _ _ _ _,World.grownBy.refl w none⟩;clear h hl hn2 hY hXY hb;go_enter Tryz.func199,Tryz.ntmps199;go_wp2_with fail;go_loopg [0,5] k (fun g s0 s5 wx=> ∃j:Nat,j+g=k∧Hid (Sl (xJ ze) X w s0 (l.drop (j*n))∧Acc (xJ (xJ ze)) w.heap.size 43 Y wx s5 (chk n l j)∧w.grownBy wx none))
 case atStart=>exact ⟨0,by omega,HST⟩
 case round=>
  obtain ⟨j,hj,HX⟩:=hrel;cases gk with
  |zero=>
   obtain rfl:j=k:=by omega
   obtain ⟨hs,hacc,hg⟩:=HX.out;obtain ⟨A,c,rfl,_,_⟩:=hs.form;have h0:(l.drop (j*n)).length=0:=by rw [List.length_drop,HL.out];omega
   rw [h0];have HR:Hid (Sl (xJ (xJ ze)) Y wr u5 (chk n l j)):=za hacc.sl;have HG:=za hg;clear hs hacc hg HX h0 HST;go_wp2;go_ret;exact ⟨_,rfl,HR.out,HG.out⟩
  |succ m=>
   obtain ⟨hs,hacc,hg⟩:=HX.out;have hmul:(j+1+m)*n=j*n+n+m*n:=by rw [Nat.add_mul,Nat.add_mul,Nat.one_mul]
   have hlen:l.length=j*n+n+m*n:=by rw [HL.out, ←hj, ←hmul];congr 1;omega
   have hd:(l.drop (j*n)).length=n+m*n:=by rw [List.length_drop];omega
   obtain ⟨A,c,e0,hc1,hc2⟩:=hs.form;subst e0;obtain ⟨ga,oa,eA,hga,_⟩:=hs.addr (by omega);subst eA;have HTK:Hid (Sl (xJ ze) X w (.slice (some ⟨ga,oa,none⟩) n c) ((l.drop (j*n)).take n)):=za (hs.take n (by omega));have HDR:Hid (Sl (xJ ze) X w (.slice (some ⟨ga,oa+n,none⟩) (n+m*n - n) (c - n)) (l.drop ((j+1)*n))):=za (by
    rw [hd] at hs
    have:=hs.drop n (by omega)
    rwa [List.drop_drop,show j*n+n=(j+1)*n by rw [Nat.add_mul,Nat.one_mul],show n*Enc.size (xJ ze)=n from Nat.mul_one n] at this)
   have HD0:Hid (m=0→l.drop ((j+1)*n)= []):=za (fun hm=>List.drop_eq_nil_of_le (by rw [hlen,hm,Nat.add_mul];omega));have HTL:Hid (((l.drop (j*n)).take n).length=n):=za (by rw [List.length_take,hd];omega);rw [hd] at hc1 ⊢;have hn3:n≤100000:=HN2.out (by omega);have HAC:=za hacc;have HG:=za hg;have HSN:=za (TH n l j);have HCL:=za (zF n l j);obtain ⟨q,hq⟩: ∃q,q=n+m*n:=⟨_,rfl⟩;rw [←hq] at hc1 ⊢;have hqn:n≤q:=by omega
   clear hs hacc hg HX hd hlen hmul HST;have HQ:=za hq;have i1:(0:Int)< (q:Int):=by omega
   have i2:(n:Int)≤(q:Int):=by omega
   have i3:(n:Int)≤(c:Int):=by omega
   have i4:(0:Int)≤(n:Int):=by omega
   clear hq;have HOW:Hid (∀g,u5.ownBlock=some g→w.heap.size≤g∧g< wr.heap.size):=za HAC.out.lt;have HZ:Hid (∀cs y,Enc.rep (xJ ze) (fun g=>X g∧g< w.heap.size) (wr.alloc (.cells #[] 31)) cs y→Enc.rep (xJ ze) (fun g=>(Y g∧some g≠u5.ownBlock)∧some g≠(Value.slice (some ⟨wr.heap.size,0,none⟩) 0 0).ownBlock) (wr.alloc (.cells #[] 31)) cs y):=
    za (fun cs y hr=>Enc.more _ (HXY.out _ _ _ hr) fun g _ hg=>⟨⟨hg.1,fun e=>by have:=HOW.out g e.symm;have:=hg.2;omega⟩,fun e=>by simp [Value.ownBlock] at e;have:=hg.2;have:=HG.out.size;omega⟩)
   have HSB:Hid (Sl (xJ ze) (fun g=>X g∧g< w.heap.size) (wr.alloc (.cells #[] 31)) (.slice (some ⟨ga,oa,none⟩) n c) ((l.drop (j*n)).take n)):=za (HTK.out.bounded.kept (HG.out.trans (gAl wr _ none)));have HBY:Hid ((([]:List (List Int)).length+((l.drop (j*n)).take n).length)*24≤140737488355328):=za (by rw [HTL.out];simp;omega);have HNX:Hid (∀g,(wr.alloc (.cells #[] 31)).heap.size≤g→Y g∧some g≠u5.ownBlock):=za (fun g hg=>⟨HY.out g (by have:=HG.out.size;simp at hg;omega),fun e=>by have:=HOW.out g e.symm;simp at hg;omega⟩);go_wp2_with (at_builtin;refine xo rfl (.tmp 13) (.tmp 16) rfl (E:=(xJ ze)) Zb (Acc.made _ wr 31 (Nat.le_refl _) (fun g=>Y g∧some g≠u5.ownBlock) ⟨HY.out _ HG.out.size,fun e=>by have:=HOW.out _ e.symm;omega⟩) rfl rfl HSB.out HZ.out HBY.out (by simp) HNX.out ?_);intro v1 w1 hacc1 hg1 hm1;obtain ⟨A1,c1,e1,_,_⟩:=hacc1.sl.form;rw [HTL.out] at e1;subst e1;have HA1:=za hacc1;have HG1:Hid (wr.grownBy w1 none):=za (zB (gAl wr _ none) hg1 (fun g e=>by simp [Value.ownBlock] at e;omega));have HREP:Hid (Enc.rep (xJ (xJ ze)) (fun g=>Y g∧some g≠u5.ownBlock) w1 [.slice A1 n c1] ((l.drop (j*n)).take n)):=za (by
    have hn0:0< ((l.drop (j*n)).take n).length:=by rw [HTL.out];omega
    exact ⟨_,rfl,hacc1.sl,hacc1.wr hn0⟩)
   clear hacc1 hg1 hm1;have HLB:Hid (((chk n l j).length+1)*24≤140737488355328):=za (by rw [HCL.out];omega);have HAC1:=za (HAC.out.kept HG1.out);have HG2:=za (HG.out.trans HG1.out);have HBS:Hid (w.heap.size≤w1.heap.size):=za HG2.out.size;have HNY:Hid (∀g,w1.heap.size≤g→Y g):=za (fun g hg=>HY.out g (Nat.le_trans HBS.out hg));go_wp2_with (at_builtin;refine zQ rfl (.tmp 12) (.tmp 18) rfl (E:=xJ (xJ ze)) YD HAC1.out rfl rfl HREP.out HLB.out HBS.out HNY.out ?_);intro v2 w2 hacc2 hg2 hm2;have HG3:Hid (w.grownBy w2 none):=za (zB HG2.out hg2 (fun g e=>(HAC1.out.lt g e).1));have HG4:Hid (wr.grownBy w2 u5.ownBlock):=za ((yS HG1.out).trans hg2);have HA2:Hid (Acc (xJ (xJ ze)) w.heap.size 43 Y w2 v2 (chk n l (j+1))):=za (by rw [HSN.out];exact hacc2);clear hacc2 hg2 hm2;have HE:Hid (c=n→l.drop ((j+1)*n)= []):=za (fun hcn=>HD0.out (by
    rcases Nat.eq_zero_or_pos m with h|h
    ·exact h
    ·have:=Nat.mul_le_mul h (Nat.le_refl n)
     have:=HQ.out
     omega))
   have HDR2:Hid (Sl (xJ ze) X w (.slice (some ⟨ga,oa+n,none⟩) (q - n) (c - n)) (l.drop ((j+1)*n))):=za (by rw [HQ.out];exact HDR.out);clear HDR;go_wp2_with fail
   all_goals
    go_roundg m
    case measure=>omega
    case rel=>first|exact ⟨j+1,by omega,za ⟨HDR2.out,HA2.out,HG3.out⟩⟩|exact ⟨j+1,by omega,za ⟨by rw [HE.out (by assumption),show q - n=0 by omega];exact Sl.empty _ _ _ _ _ (by omega),HA2.out,HG3.out⟩⟩
theorem Ik(v:Value)(l:List (Int×Int))(n k:Nat)(X Y:Nat→Prop)(w:World)(h:Sl zo X w v l)(hn:1≤n)(hl:l.length=k*n)(hb:l.length≤100000)(hY: ∀g,w.heap.size≤g→Y g)(hXY: ∀cs y w',Enc.rep zo (fun g=>X g∧g< w.heap.size) w' cs y→Enc.rep zo (fun g=>Y g∧g< w.heap.size) w' cs y):
  Calls Tryz.prog 224 #[v, .int .i64 n] w (zH (xJ zo) Y w (chk n l k)):=by
 have hk:k≤100000:=by
  have:k*1≤k*n:=Nat.mul_le_mul_left k hn
  omega
 have hn2:k≠0→n≤100000:=fun h0=>by
  have:1*n≤k*n:=Nat.mul_le_mul_right n (by omega)
  omega
 have HL:=za hl;have HN2:=za hn2;have HY:=za hY;have HXY:=za hXY;have HST:Hid (Sl zo X w v (l.drop (0*n))∧Acc (xJ zo) w.heap.size 72 Y w (.slice none 0 0) (chk n l 0)∧w.grownBy w none):=za ⟨by simpa using h,Acc.nil _ _ _ _ _,World.grownBy.refl w none⟩;clear h hl hn2 hY hXY hb;go_enter Tryz.func224,Tryz.ntmps224;go_wp2_with fail;go_loopg [0,5] k (fun g s0 s5 wx=> ∃j:Nat,j+g=k∧Hid (Sl zo X w s0 (l.drop (j*n))∧Acc (xJ zo) w.heap.size 72 Y wx s5 (chk n l j)∧w.grownBy wx none))
 case atStart=>exact ⟨0,by omega,HST⟩
 case round=>
  obtain ⟨j,hj,HX⟩:=hrel;cases gk with
  |zero=>
   obtain rfl:j=k:=by omega
   obtain ⟨hs,hacc,hg⟩:=HX.out;obtain ⟨A,c,rfl,_,_⟩:=hs.form;have h0:(l.drop (j*n)).length=0:=by rw [List.length_drop,HL.out];omega
   rw [h0];have HR:Hid (Sl (xJ zo) Y wr u5 (chk n l j)):=za hacc.sl;have HG:=za hg;clear hs hacc hg HX h0 HST;go_wp2;go_ret;exact ⟨_,rfl,HR.out,HG.out⟩
  |succ m=>
   obtain ⟨hs,hacc,hg⟩:=HX.out;have hmul:(j+1+m)*n=j*n+n+m*n:=by rw [Nat.add_mul,Nat.add_mul,Nat.one_mul]
   have hlen:l.length=j*n+n+m*n:=by rw [HL.out, ←hj, ←hmul];congr 1;omega
   have hd:(l.drop (j*n)).length=n+m*n:=by rw [List.length_drop];omega
   obtain ⟨A,c,e0,hc1,hc2⟩:=hs.form;subst e0;obtain ⟨ga,oa,eA,hga,_⟩:=hs.addr (by omega);subst eA;have HTK:Hid (Sl zo X w (.slice (some ⟨ga,oa,none⟩) n c) ((l.drop (j*n)).take n)):=za (hs.take n (by omega));have HDR:Hid (Sl zo X w (.slice (some ⟨ga,oa+n*2,none⟩) (n+m*n - n) (c - n)) (l.drop ((j+1)*n))):=za (by
    rw [hd] at hs
    have:=hs.drop n (by omega)
    rwa [List.drop_drop,show j*n+n=(j+1)*n by rw [Nat.add_mul,Nat.one_mul]] at this)
   have HD0:Hid (m=0→l.drop ((j+1)*n)= []):=za (fun hm=>List.drop_eq_nil_of_le (by rw [hlen,hm,Nat.add_mul];omega));have HTL:Hid (((l.drop (j*n)).take n).length=n):=za (by rw [List.length_take,hd];omega);rw [hd] at hc1 ⊢;have hn3:n≤100000:=HN2.out (by omega);have HAC:=za hacc;have HG:=za hg;have HSN:=za (TH n l j);have HCL:=za (zF n l j);obtain ⟨q,hq⟩: ∃q,q=n+m*n:=⟨_,rfl⟩;rw [←hq] at hc1 ⊢;have hqn:n≤q:=by omega
   clear hs hacc hg HX hd hlen hmul HST;have HQ:=za hq;have i1:(0:Int)< (q:Int):=by omega
   have i2:(n:Int)≤(q:Int):=by omega
   have i3:(n:Int)≤(c:Int):=by omega
   have i4:(0:Int)≤(n:Int):=by omega
   clear hq;have HOW:Hid (∀g,u5.ownBlock=some g→w.heap.size≤g∧g< wr.heap.size):=za HAC.out.lt;have HZ:Hid (∀cs y,Enc.rep zo (fun g=>X g∧g< w.heap.size) (wr.alloc (.cells #[] 153)) cs y→Enc.rep zo (fun g=>(Y g∧some g≠u5.ownBlock)∧some g≠(Value.slice (some ⟨wr.heap.size,0,none⟩) 0 0).ownBlock) (wr.alloc (.cells #[] 153)) cs y):=
    za (fun cs y hr=>Enc.more _ (HXY.out _ _ _ hr) fun g _ hg=>⟨⟨hg.1,fun e=>by have:=HOW.out g e.symm;have:=hg.2;omega⟩,fun e=>by simp [Value.ownBlock] at e;have:=hg.2;have:=HG.out.size;omega⟩)
   have HSB:Hid (Sl zo (fun g=>X g∧g< w.heap.size) (wr.alloc (.cells #[] 153)) (.slice (some ⟨ga,oa,none⟩) n c) ((l.drop (j*n)).take n)):=za (HTK.out.bounded.kept (HG.out.trans (gAl wr _ none)));have HBY:Hid ((([]:List (Int×Int)).length+((l.drop (j*n)).take n).length)*16≤140737488355328):=za (by rw [HTL.out];simp;omega);have HNX:Hid (∀g,(wr.alloc (.cells #[] 153)).heap.size≤g→Y g∧some g≠u5.ownBlock):=za (fun g hg=>⟨HY.out g (by have:=HG.out.size;simp at hg;omega),fun e=>by have:=HOW.out g e.symm;simp at hg;omega⟩);go_wp2_with (at_builtin;refine xo rfl (.tmp 13) (.tmp 16) rfl (E:=zo) YE (Acc.made _ wr 153 (Nat.le_refl _) (fun g=>Y g∧some g≠u5.ownBlock) ⟨HY.out _ HG.out.size,fun e=>by have:=HOW.out _ e.symm;omega⟩) rfl rfl HSB.out HZ.out HBY.out (by simp) HNX.out ?_);intro v1 w1 hacc1 hg1 hm1;obtain ⟨A1,c1,e1,_,_⟩:=hacc1.sl.form;rw [HTL.out] at e1;subst e1;have HA1:=za hacc1;have HG1:Hid (wr.grownBy w1 none):=za (zB (gAl wr _ none) hg1 (fun g e=>by simp [Value.ownBlock] at e;omega));have HREP:Hid (Enc.rep (xJ zo) (fun g=>Y g∧some g≠u5.ownBlock) w1 [.slice A1 n c1] ((l.drop (j*n)).take n)):=za (by
    have hn0:0< ((l.drop (j*n)).take n).length:=by rw [HTL.out];omega
    exact ⟨_,rfl,hacc1.sl,hacc1.wr hn0⟩)
   clear hacc1 hg1 hm1;have HLB:Hid (((chk n l j).length+1)*24≤140737488355328):=za (by rw [HCL.out];omega);have HAC1:=za (HAC.out.kept HG1.out);have HG2:=za (HG.out.trans HG1.out);have HBS:Hid (w.heap.size≤w1.heap.size):=za HG2.out.size;have HNY:Hid (∀g,w1.heap.size≤g→Y g):=za (fun g hg=>HY.out g (Nat.le_trans HBS.out hg));go_wp2_with (at_builtin;refine zQ rfl (.tmp 12) (.tmp 18) rfl (E:=xJ zo) Yn HAC1.out rfl rfl HREP.out HLB.out HBS.out HNY.out ?_);intro v2 w2 hacc2 hg2 hm2;have HG3:Hid (w.grownBy w2 none):=za (zB HG2.out hg2 (fun g e=>(HAC1.out.lt g e).1));have HG4:Hid (wr.grownBy w2 u5.ownBlock):=za ((yS HG1.out).trans hg2);have HA2:Hid (Acc (xJ zo) w.heap.size 72 Y w2 v2 (chk n l (j+1))):=za (by rw [HSN.out];exact hacc2);clear hacc2 hg2 hm2;have HE:Hid (c=n→l.drop ((j+1)*n)= []):=za (fun hcn=>HD0.out (by
    rcases Nat.eq_zero_or_pos m with h|h
    ·exact h
    ·have:=Nat.mul_le_mul h (Nat.le_refl n)
     have:=HQ.out
     omega))
   have HDR2:Hid (Sl zo X w (.slice (some ⟨ga,oa+n*2,none⟩) (q - n) (c - n)) (l.drop ((j+1)*n))):=za (by rw [HQ.out];exact HDR.out);clear HDR;go_wp2_with fail
   all_goals
    go_roundg m
    case measure=>omega
    case rel=>first|exact ⟨j+1,by omega,za ⟨HDR2.out,HA2.out,HG3.out⟩⟩|exact ⟨j+1,by omega,za ⟨by rw [HE.out (by assumption),show q - n=0 by omega];exact Sl.empty _ _ _ _ _ (by omega),HA2.out,HG3.out⟩⟩
end
section
open Go.RowKit
theorem YK(w:World)(n:Nat):((w.drewN n).alloc (Obj.cells #[.int .u64 0, .int .u64 0] 153)).cell? ⟨w.heap.size,0,none⟩=some (.int .u64 0)∧((w.drewN n).alloc (Obj.cells #[.int .u64 0, .int .u64 0] 153)).cell? ⟨w.heap.size,1,none⟩=some (.int .u64 0)∧
  ((w.drewN n).alloc (Obj.cells #[.int .u64 0, .int .u64 0] 153)).frozen? ⟨w.heap.size,0,none⟩=false∧((w.drewN n).alloc (Obj.cells #[.int .u64 0, .int .u64 0] 153)).frozen? ⟨w.heap.size,1,none⟩=false:=
 have h:Bk ((w.drewN n).alloc (Obj.cells #[.int .u64 0, .int .u64 0] 153)) w.heap.size 153 #[.int .u64 0, .int .u64 0]:=Bk.new (w.drewN n) _ _
 ⟨h.cell 0,h.cell 1,h.free 0,h.free 1⟩
end
section
open Go.RowKit
def Zn(p:Par):Bool:=decide (0≤p.K) && decide (p.K≤2) && decide (0≤p.D) && decide (p.D≤4) && decide (0≤p.T) && decide (p.T≤2)
theorem xt(p:Par):Zn p=true↔0≤p.K∧p.K≤2∧0≤p.D∧p.D≤4∧0≤p.T∧p.T≤2:=by
 simp [Zn,and_assoc]
theorem Mv(p:Par)(w:World)(h:Zn p=true):Calls Tryz.prog 198 #[p.v] w fun e w'=>e= .returned (.bool true)∧w.grownBy w' none:=by
 obtain ⟨a,b,c,d,e,f⟩:=(xt p).1 h;clear h;go_enter Tryz.func198,Tryz.ntmps198;go_wp2_with fail
 all_goals
  go_ret;exact ⟨rfl,gAl w _ none⟩
theorem Jh(p:Par)(w:World)(h:Zn p=false):Calls Tryz.prog 198 #[p.v] w fun e w'=>e= .returned (.bool false)∧w.grownBy w' none:=by
 have hn: ¬(0≤p.K∧p.K≤2∧0≤p.D∧p.D≤4∧0≤p.T∧p.T≤2):=fun k=>by rw [(xt p).2 k] at h;cases h
 clear h;by_cases a:0≤p.K
 ·by_cases c:0≤p.D
  ·by_cases e:0≤p.T
   ·by_cases b:p.K≤2
    ·by_cases d:p.D≤4
     ·have f: ¬p.T≤2:=by omega
      clear hn;go_enter Tryz.func198,Tryz.ntmps198;go_wp2_with fail
      all_goals (first|(go_ret;exact ⟨rfl,gAl w _ none⟩)|(exfalso;omega))
     ·clear hn;go_enter Tryz.func198,Tryz.ntmps198;go_wp2_with fail
      all_goals (first|(go_ret;exact ⟨rfl,gAl w _ none⟩)|(exfalso;omega))
    ·clear hn;go_enter Tryz.func198,Tryz.ntmps198;go_wp2_with fail
     all_goals (first|(go_ret;exact ⟨rfl,gAl w _ none⟩)|(exfalso;omega))
   ·clear hn;go_enter Tryz.func198,Tryz.ntmps198;go_wp2_with fail
    all_goals (first|(go_ret;exact ⟨rfl,gAl w _ none⟩)|(exfalso;omega))
  ·clear hn;go_enter Tryz.func198,Tryz.ntmps198;go_wp2_with fail
   all_goals (first|(go_ret;exact ⟨rfl,gAl w _ none⟩)|(exfalso;omega))
 ·clear hn;go_enter Tryz.func198,Tryz.ntmps198;go_wp2_with fail
  all_goals (first|(go_ret;exact ⟨rfl,gAl w _ none⟩)|(exfalso;omega))
theorem LF{a b:Int}(h:a=b):Ending.returned (.int .i64 a)= .returned (.int .i64 b):=by rw [h]
def ZU(p:Par):Int:=p.K*(p.D+1)
theorem PQ{p:Par}(h:Zn p=true):0≤ZU p∧ZU p≤10:=by
 obtain ⟨a,b,c,d,e,f⟩:=(xt p).1 h;have h1:p.K*(p.D+1)≤2*5:=Int.mul_le_mul b (by omega) (by omega) (by omega);have h2:0≤p.K*(p.D+1):=Int.mul_nonneg a (by omega);unfold ZU;omega
theorem TF(p:Par)(w:World)(h:Zn p=true):Calls Tryz.prog 97 #[p.v] w fun e w'=>e= .returned (.int .i64 (ZU p))∧w.grownBy w' none:=by
 obtain ⟨a,b,c,d,e,f⟩:=(xt p).1 h;have HE:Hid (p.K*(p.D+1)=ZU p):=za rfl;have h1:p.K*(p.D+1)≤2*5:=Int.mul_le_mul b (by omega) (by omega) (by omega);have h2:0≤p.K*(p.D+1):=Int.mul_nonneg a (by omega);clear h;go_enter Tryz.func97,Tryz.ntmps97;go_wp2_with fail;go_ret;exact ⟨LF HE.out,gAl w _ none⟩
theorem Pa(v:Value)(a b:Int)(X:Nat→Prop)(w:World)(h:Sl ze X w v [a,b]):Calls Tryz.prog 226 #[v] w fun e w'=>e= .returned (.agg #[.int .u64 a, .int .u64 b])∧w.grownBy w' none:=by
 have H:=za h;obtain ⟨A,c,rfl,hc1,hc2⟩:=h.form;obtain ⟨g,o,c',e,hg,_,h0,_⟩:=H.out.atU (k:=0) (by simp);injection e with e1 e2 e3
 subst e1 e3;obtain ⟨g',o',c'',e,_,_,h1,_⟩:=H.out.atU (k:=1) (by simp);injection e with e1 e2 e3
 injection e1 with e1
 injection e1 with e1 e4
 subst e1 e4;simp only [List.getElem_cons_zero,List.getElem_cons_succ,Nat.add_zero] at h0 h1;have h2:([a,b].length:Nat)=2:=rfl;rw [h2];have n0:=World.new_ne w _ h0;have n1:=World.new_ne w _ h1;have z0:=fun n=>(YK w n).1
 have z1:=fun n=>(YK w n).2.1
 have z2:=fun n=>(YK w n).2.2.1
 have z3:=fun n=>(YK w n).2.2.2
 clear h e2 e3 h2 hc1;go_enter Tryz.func226,Tryz.ntmps226;go_wp2_with fail;go_region_held3 (fun w'=>w'.cell? ⟨g,o,none⟩=some (.int .u64 a)∧w'.cell? ⟨g,o+1,none⟩=some (.int .u64 b)) (go_keep) (fail);go_wp2_with fail;refine bodyPost_ret (v:= .agg #[.int .u64 a, .int .u64 b]) (by simp [results,Tryz.results226,go_sem]) rfl ⟨rfl, ?_⟩;exact zf (gAl w _ none) 1
def xE(l:List Int):Int×Int:=(l[0]?.getD 0,l[1]?.getD 0)
theorem Tv{α β:Type}(f:α→β)(l:List α)(j:Nat)(h:j< l.length):(l.take (j+1)).map f=(l.take j).map f++ [f l[j]]:=by
 rw [List.take_succ_eq_append_getElem h,List.map_append];rfl
theorem UJ{X:Nat→Prop}{w:World}{v:Value}{l:List Int}(h:Sl ze X w v l)(h2:l.length=2):U64 (xE l).1∧U64 (xE l).2∧l= [(xE l).1,(xE l).2]:=by
 match l,h2 with
 | [a,b],_=>
  obtain ⟨_,_,_,_,_,_,_,u0⟩:=h.atU (k:=0) (by simp);obtain ⟨_,_,_,_,_,_,_,u1⟩:=h.atU (k:=1) (by simp);exact ⟨u0,u1,rfl⟩
theorem OU(v:Value)(l:List Int)(X:Nat→Prop)(w:World)(h:Sl ze X w v l)(h2:l.length=2):Calls Tryz.prog 226 #[v] w fun e w'=>e= .returned (.agg #[.int .u64 (xE l).1, .int .u64 (xE l).2])∧w.grownBy w' none:=by
 obtain ⟨_,_,q⟩:=UJ h h2;exact Pa v _ _ X w (q ▸ h)
theorem Lx(v:Value)(ls:List (List Int))(X:Nat→Prop)(w:World)(h:Sl (zh ze) X w v ls)(h2: ∀l∈ls,l.length=2)(hb:ls.length≤100000):
  Calls Tryz.prog 225 #[v, .func (.func 226) #[] #[]] w (zH zo (fun g=>w.heap.size≤g) w (ls.map xE)):=by
 have H:=za h;have H2:=za h2;have HST:Hid (Acc zo w.heap.size 153 (fun g=>w.heap.size≤g) w (.slice none 0 0) ((ls.take 0).map xE)∧w.grownBy w none):=za ⟨Acc.nil _ _ _ _ _,World.grownBy.refl w none⟩;obtain ⟨A,c,rfl,hc1,hc2⟩:=h.form;clear h h2;go_enter Tryz.func225,Tryz.ntmps225;go_wp2_with fail;go_loopg [5,10] ls.length (fun g s5 s10 wx=> ∃j:Nat,j+g=ls.length∧s10= .int .i64 j∧Hid (Acc zo w.heap.size 153 (fun g=>w.heap.size≤g) wx s5 ((ls.take j).map xE)∧w.grownBy wx none))
 case atStart=>exact ⟨0,by omega,rfl,HST⟩
 case round=>
  obtain ⟨j,hj,rfl,HX⟩:=hrel;cases gk with
  |zero=>
   obtain rfl:j=ls.length:=by omega
   have HR:Hid (Sl zo (fun g=>w.heap.size≤g) wr u5 (ls.map xE)):=za (by have:=HX.out.1.sl;rwa [List.take_length] at this);have HG:=za HX.out.2;clear HX HST;go_wp2;go_ret;exact ⟨_,rfl,HR.out,HG.out⟩
  |succ m=>
   have hjn:(j:Int)< (ls.length:Int):=by omega
   have hjN:j< ls.length:=by omega
   obtain ⟨hacc,hg⟩:=HX.out;obtain ⟨g,o,c',u,e,_,_,hcu,hsu⟩:=(H.out.kept hg).atS hjN;injection e with e1 e2 e3
   subst e1 e3;obtain ⟨A1,c1,e1,_,_⟩:=hsu.form;have h2j:=H2.out _ (List.getElem_mem hjN);rw [h2j] at e1;subst e1;obtain ⟨q1,q2,_⟩:=UJ hsu h2j;have HSN:=za (Tv xE ls j hjN);have HF:=za (OU _ ls[j] X wr hsu h2j);have HREP:Hid (U64 (xE ls[j]).1∧U64 (xE ls[j]).2):=za ⟨q1,q2⟩;have HAC:=za hacc;have HG:=za hg;have HLB:Hid ((((ls.take j).map xE).length+1)*16≤140737488355328):=za (by simp;omega);clear hacc hg hsu e2 q1 q2 h2j HX HST;generalize xE ls[j]=pj at *;go_wp2_with fail;refine HF.out.mono ?_;rintro e' w1 ⟨rfl,hg1⟩;have HG1:=za hg1;have HG2:=za (HG.out.trans hg1);have HA1:=za (HAC.out.kept hg1);clear hg1;go_wp2_with (at_builtin;refine zC rfl (.tmp 14) (.tmp 18) rfl (E:=zo) YE HG2.out HA1.out (fun _ h=>h) ⟨rfl,HREP.out⟩ HLB.out rfl rfl ?_);intro v2 w2 hacc2 hg2 _;have HFIN:Hid (Acc zo w.heap.size 153 (fun g=>w.heap.size≤g) w2 v2 ((ls.take (j+1)).map xE)∧w.grownBy w2 none):=za ⟨by rw [HSN.out];simpa using hacc2,hg2⟩;clear hacc2 hg2;go_wp2_with fail;go_roundg m
   case measure=>omega
   case rel=>exact ⟨j+1,by omega,by go_num,HFIN⟩
def Kv(l:List Int)(k:Nat):List (Int×Int):=(chk 2 l k).map xE
theorem yk(l:List Int)(k:Nat):(Kv l k).length=k:=by simp [Kv,zF]
theorem yQ(v:Value)(l:List Int)(k:Nat)(X:Nat→Prop)(w:World)(h:Sl ze X w v l)(hl:l.length=k*2)(hb:l.length≤100000):
  Calls Tryz.prog 202 #[v] w (zH zo (fun g=>w.heap.size≤g) w (Kv l k)):=by
 have HC:=za (Xh v l 2 k X (fun _=>True) w h (by decide) hl hb (fun _ _=>trivial) (fun _ _ _ h=>h));have HK:Hid (k≤100000):=za (by omega);have H2:Hid (∀x∈chk 2 l k,x.length=2):=za (fun x hx=>by
  obtain ⟨j,hj,rfl⟩:=List.mem_map.1 hx;have hj':j< k:=by simpa using hj
  rw [List.length_take,List.length_drop,hl];omega)
 clear h hl hb;go_enter Tryz.func202,Tryz.ntmps202;go_wp2_with fail;refine HC.out.mono ?_;rintro e w1 ⟨v1,rfl,hs,hg⟩;have HG:=za hg;have HE:=za (Lx v1 (chk 2 l k) _ w1 hs.plain H2.out (by rw [zF];exact HK.out));clear hs hg;go_wp2_with fail;refine HE.out.mono ?_;rintro e w2 ⟨v2,rfl,hs,hg⟩;have HFIN:Hid (Sl zo (fun g=>w.heap.size≤g) w2 v2 (Kv l k)∧w.grownBy w2 none):=za ⟨hs.more (fun g _ hg'=>Nat.le_trans HG.out.size hg'),HG.out.trans hg⟩;clear hs hg;go_wp2;go_ret;exact ⟨_,rfl,HFIN.out.1,HFIN.out.2⟩
end
section
open Go.RowKit
theorem Xa(v:Value)(l:List (Int×Int))(n k:Nat)(X Y:Nat→Prop)(w:World)(h:Sl zo X w v l)(hl:l.length=n*k)(hn:n≤100)(hk:k≤100)(hY: ∀g,w.heap.size≤g→Y g):
  Calls Tryz.prog 201 #[v, .int .i64 n, .int .i64 k] w (zH (zh zo) Y w (chk k l n)):=by
 have hlb:l.length≤100000:=by
  have:n*k≤100*100:=Nat.mul_le_mul hn hk
  omega
 by_cases h0:k=0
 ·subst h0;have HE:Hid (chk 0 l n=List.replicate n []):=za (by simp [chk,List.map_const']);obtain ⟨A,c,rfl,_,_⟩:=h.form;have hmk:=run_make_row' (P:=Tryz.prog) 103 72 (.slice none 0 0) 24 Tryz.underlying103 Yl rfl .i64 .i64 n (by omega) (by omega);have HN:=za (And.intro hn (hY _ (Nat.le_refl _)));clear h hl hlb hY;go_enter Tryz.func201,Tryz.ntmps201;go_wp2;go_ret;have hb:Bk (w.alloc (.cells (madeCells #[.slice none 0 0] n) 72)) w.heap.size 72 (madeCells #[.slice none 0 0] n):=Bk.new w _ _;exact ⟨_,rfl,by rw [HE.out];exact Sl.nils zo Y hb HN.out.2 (by have:=HN.out.1;omega),gAl w _ none⟩
 ·have hk1:1≤k:=by omega
  have hkI:((k:Int)==0)=false:=by simp;omega
  have HC:=za (Ik v l k n X Y w h hk1 hl hlb hY (fun _ _ _ h=>h));clear h hl hY hlb h0;go_enter Tryz.func201,Tryz.ntmps201;go_wp2_with fail;refine HC.out.mono ?_;rintro e w1 ⟨v1,rfl,hs,hg⟩;have HS:=za hs.plain;have HG:=za hg;clear hs hg;go_wp2;go_ret;exact ⟨_,rfl,HS.out,HG.out⟩
theorem Mz{p:Par}(h:Zn p=true): ∃q t:Nat,ZU p=(q:Int)∧p.T+1=(t:Int)∧q≤10∧1≤t∧t≤3:=by
 obtain ⟨a,b,c,d,e,f⟩:=(xt p).1 h;obtain ⟨h1,h2⟩:=PQ h;exact ⟨(ZU p).toNat,(p.T+1).toNat,by omega,by omega,by omega,by omega,by omega⟩
def Tn(p:Par)(n:Nat)(k:Int):Int:=if Zn p=true∧0≤k∧k≤3 then (if (n:Int)=ZU p*(p.T+1)*(p.T+1)+2*(2*ZU p*k) then 0 else 4) else 1
def TV(p:Par)(l:List Int)(k:Int):List (List (List Int)):=if Tn p l.length k=0 then chk (p.T+1).toNat (chk (p.T+1).toNat (l.take ((ZU p).toNat*(p.T+1).toNat*(p.T+1).toNat)) ((ZU p).toNat*(p.T+1).toNat)) (ZU p).toNat else []
def Pd(p:Par)(l:List Int)(k:Int):List (List (Int×Int)):=if Tn p l.length k=0 then chk k.toNat (Kv ((l.drop ((ZU p).toNat*(p.T+1).toNat*(p.T+1).toNat)).take (2*(ZU p).toNat*k.toNat)) ((ZU p).toNat*k.toNat)) (ZU p).toNat else []
def Pc(p:Par)(l:List Int)(k:Int):List (List (Int×Int)):=if Tn p l.length k=0 then chk k.toNat (Kv (l.drop ((ZU p).toNat*(p.T+1).toNat*(p.T+1).toNat+2*(ZU p).toNat*k.toNat)) ((ZU p).toNat*k.toNat)) (ZU p).toNat else []
def Fp(Y:Nat→Prop)(w:World)(m:List (List (List Int)))(a b:List (List (Int×Int)))(n:Int)(e:Ending)(w':World):Prop:=
 ∃vm va vb,e= .returned (.tuple #[vm,va,vb, .int .i64 n])∧Sl (xJ (xJ ze)) Y w' vm m∧Sl (zh zo) Y w' va a∧Sl (zh zo) Y w' vb b∧w.grownBy w' none
theorem Jw(p:Par)(v:Value)(l:List Int)(k:Int)(X:Nat→Prop)(w:World)(h:Sl ze X w v l)(hb:l.length≤100000)(hk:I64 k):
  Calls Tryz.prog 160 #[p.v,v, .int .i64 k] w (Fp (fun g=>w.heap.size≤g) w (TV p l k) (Pd p l k) (Pc p l k) (Tn p l.length k)):=by
 have H:=za h;obtain ⟨A,c,rfl,hlc,hcm⟩:=h.form;have HB0:Hid (Bk (w.alloc (Obj.cells p.cells 39)) w.heap.size 39 p.cells):=za (Bk.new w _ _);have HG0:Hid (w.grownBy (w.alloc (Obj.cells p.cells 39)) none):=za (gAl w _ none);have hp0:=HB0.out.prule;obtain ⟨k0,k1⟩:=hk;clear h;cases hs:Zn p with
 |false=>
  have HE:Hid (Tn p l.length k=1∧TV p l k= []∧Pd p l k= []∧Pc p l k= []):=za (by simp [TV,Pd,Pc,Tn,hs]);have HC:=za (fun w=>Jh p w hs);clear hs;go_enter Tryz.func160,Tryz.ntmps160;go_wp2_with fail;refine (HC.out _).mono ?_;rintro e w1 ⟨rfl,hg⟩;have HG:=zE hg HG0;clear hg;go_wp2;refine bodyPost_ret (v:= .tuple #[.slice none 0 0, .slice none 0 0, .slice none 0 0, .int .i64 1]) (by simp [results,Tryz.results160,go_sem]) rfl ?_;rw [HE.out.1,HE.out.2.1,HE.out.2.2.1,HE.out.2.2.2];exact ⟨_,_,_,rfl,Sl.nil _ _ _,Sl.nil _ _ _,Sl.nil _ _ _,HG.out⟩
 |true=>
  have HC:=za (fun w=>Mv p w hs);by_cases hk3:0≤k∧k≤3
  ·obtain ⟨k2,k3⟩:=hk3;have HS:=za (fun w=>TF p w hs);obtain ⟨kk,rfl⟩:=Int.eq_ofNat_of_zero_le k2;obtain ⟨q,t,hq,ht,q1,t1,t2⟩:=Mz hs;obtain ⟨qt,hqt⟩: ∃n,n=q*t:=⟨_,rfl⟩;obtain ⟨F,hF⟩: ∃n,n=qt*t:=⟨_,rfl⟩;obtain ⟨M,hM⟩: ∃n,n=2*q*kk:=⟨_,rfl⟩;have bqt:qt≤30:=by rw [hqt];exact Nat.mul_le_mul q1 t2
   have bF:F≤90:=by rw [hF];exact Nat.mul_le_mul bqt t2
   have bM:M≤60:=by rw [hM];exact Nat.mul_le_mul (Nat.mul_le_mul_left 2 q1) (show kk≤3 by omega)
   have k1':IntKind.i64.wrap (p.T+1)=(t:Int):=by rw [ht];exact IntWalk.i64_in _ (by omega)
   have e1:(q:Int)*(t:Int)=(qt:Int):=by rw [hqt];simp
   have e2:(qt:Int)*(t:Int)=(F:Int):=by rw [hF];simp
   have e3:2*(q:Int)*(kk:Int)=(M:Int):=by rw [hM];simp
   rw [hq] at HS;have HC4:Tn p l.length (kk:Int)=if (l.length:Int)=F+2*M then 0 else 4:=by
    simp only [Tn,hs,hq,ht,e1,e2,e3];simp [k2,k3]
   have ht1:(p.T+1).toNat=t:=by omega
   have hq1:(ZU p).toNat=q:=by omega
   by_cases hl:(l.length:Int)=F+2*M
   ·rw [if_pos hl] at HC4;have HEM:Hid (TV p l kk=chk t (chk t (l.take F) qt) q):=za (by simp only [TV,HC4,ht1,hq1,if_true];rw [←hqt, ←hF]);have HEA:Hid (Pd p l kk=chk kk (Kv ((l.drop F).take M) (q*kk)) q):=za (by simp only [Pd,HC4,ht1,hq1,if_true,Int.toNat_natCast];rw [←hqt, ←hF, ←hM]);have HEB:Hid (Pc p l kk=chk kk (Kv (l.drop (F+M)) (q*kk)) q):=za (by simp only [Pc,HC4,ht1,hq1,if_true,Int.toNat_natCast];rw [←hqt, ←hF, ←hM]);have HE0:=za HC4;have hll:l.length=F+2*M:=by omega
    have hMq:M=(q*kk)*2:=by rw [hM,Nat.mul_assoc,Nat.mul_comm]
    have hqk:q*kk≤30:=Nat.mul_le_mul q1 (show kk≤3 by omega);have hd0:l.drop F= []→l.length≤F:=fun h=>by have:=congrArg List.length h;simp at this;omega
    by_cases hz:l.length=0
    ·obtain rfl:F=0:=by omega
     obtain rfl:M=0:=by omega
     have hl0:l= []:=List.eq_nil_of_length_eq_zero hz;have HS1:Hid (Sl ze X w (.slice A 0 c) (l.take 0)):=za (Sl.empty _ _ _ _ _ hcm);clear hd0;by_cases hc0:c=0
     ·subst hc0;have e2':(qt:Int)*(t:Int)=0:=e2;have e3':2*(q:Int)*(kk:Int)=0:=e3;clear e2 e3 bF bM;have HS2:Hid (Sl ze X w (.slice A 0 0) ((l.drop 0).take 0)):=za (by rw [hl0];exact Sl.empty _ _ _ _ _ (by omega));have HS3:Hid (Sl ze X w (.slice A 0 0) (l.drop (0+0))):=za (by rw [hl0];exact Sl.empty _ _ _ _ _ (by omega));have H1:=za (fun (w':World) (hw:w.grownBy w' none)=>Xh _ (l.take 0) t qt X (fun g=>w.heap.size≤g) w' (HS1.out.kept hw) t1 (by rw [List.length_take, ←hF];simp) (by rw [List.length_take];omega) (fun g h=>Nat.le_trans hw.size h) (fun _ _ _ h=>h));have H2:=za (fun (v:Value) (w':World) (hw:w.grownBy w' none) (hv:Sl (xJ ze) (fun g=>w.heap.size≤g) w' v (chk t (l.take 0) qt))=>Vj v _ t q _ (fun g=>w.heap.size≤g) w' hv t1 (by rw [zF,hqt]) (by rw [zF];omega) (fun g h=>Nat.le_trans hw.size h) (fun _ _ _ h=>h));have H3:=za (fun (w':World) (hw:w.grownBy w' none)=>yQ _ ((l.drop 0).take 0) (q*kk) X w' (HS2.out.kept hw) (by rw [List.length_take, ←hMq];simp) (by rw [List.length_take,List.length_drop];omega));have H4:=za (fun (w':World) (hw:w.grownBy w' none)=>yQ _ (l.drop (0+0)) (q*kk) X w' (HS3.out.kept hw) (by rw [List.length_drop, ←hMq];omega) (by rw [List.length_drop];omega));have H5:=za (fun (v:Value) (ps:List (Int×Int)) (w':World) (hw:w.grownBy w' none) (Z:Nat→Prop) (hv:Sl zo Z w' v ps) (hps:ps.length=q*kk)=>Xa v ps q kk Z (fun g=>w.heap.size≤g) w' hv hps (by omega) (by omega) (fun g h=>Nat.le_trans hw.size h));have hd:((l.length:Int) !=0)=false:=by simpa using hl
      have i1:(0:Int)≤(l.length:Int):=by omega
      have i2:(0:Int)+(0:Int)≤(l.length:Int):=by omega
      have i3:(l.length:Int)≤((0:Nat):Int):=by omega
      have i4:(0:Int)+2*(0:Int)≤((0:Nat):Int):=by omega
      have HMM:=za hMq;clear hs hl hq ht hqt hF hM HC4 ht1 hq1 hll hMq hz hlc;go_enter Tryz.func160,Tryz.ntmps160;go_wp2_with fail;refine (HC.out _).mono ?_;rintro e w1 ⟨rfl,hg⟩;have HG1:=zE hg HG0;have HB1:=xf hg HB0;have hp1:=HB1.out.prule;have hs1:=HB1.out.lt;clear hg hp0;go_wp2_with fail;have HG4:Hid (w.grownBy w1.drew none):=za (zf HG1.out 1);have HB4:Hid (Bk w1.drew w.heap.size 39 p.cells):=za (HB1.out.drewN 1);go_region_held3 (fun w'=> ∀o,w'.cell? ⟨w.heap.size,o,none⟩=(#[.int .u64 p.P, .int .u64 p.Q, .int .u64 p.G, .int .u64 p.H, .int .i64 p.Nodes, .int .i64 p.N, .int .i64 p.T, .int .i64 p.K, .int .i64 p.D, .int .i64 p.R, .int .i64 p.M, .int .i64 p.X]:Array Value)[o]?) (first|assumption|exact yP (by assumption) (by assumption) _|go_keep) (first
       |(go_at_call 97;(with_reducible refine (HS.out _).mono ?_);rintro e' w' ⟨rfl,hg⟩;have HGx:=zE hg (by assumption);have HBx:=xf hg (by assumption);have hpx:=HBx.out.prule;have hsx:=HBx.out.lt;clear hg))
      go_wp2_with fail;refine (H1.out _ HGx.out).mono ?_;rintro e w3 ⟨v3,rfl,hs3,hg3⟩;have HG3:=za (HGx.out.trans hg3);have HV3:=za hs3;clear hs3 hg3;go_wp2_with fail;refine (H2.out _ _ HG3.out HV3.out).mono ?_;rintro e w4 ⟨v4,rfl,hs4,hg4⟩;have HG4:=za (HG3.out.trans hg4);have HV4:=za hs4;clear hs4 hg4 HV3;go_wp2_with fail;refine (H3.out _ HG4.out).mono ?_;rintro e w5 ⟨v5,rfl,hs5,hg5⟩;have HG5:=za (HG4.out.trans hg5);have HV5:=za hs5;have HV4':=za (HV4.out.kept hg5);clear hs5 hg5 HV4;go_wp2_with fail;refine (H5.out _ _ _ HG5.out _ HV5.out (yk _ _)).mono ?_;rintro e w6 ⟨v6,rfl,hs6,hg6⟩;have HG6:=za (HG5.out.trans hg6);have HV6:=za hs6;have HV4:=za (HV4'.out.kept hg6);clear hs6 hg6 HV4' HV5;go_wp2_with fail;refine (H4.out _ HG6.out).mono ?_;rintro e w7 ⟨v7,rfl,hs7,hg7⟩;have HG7:=za (HG6.out.trans hg7);have HV7:=za hs7;have HV4':=za (HV4.out.kept hg7);have HV6':=za (HV6.out.kept hg7);clear hs7 hg7 HV4 HV6;go_wp2_with fail;refine (H5.out _ _ _ HG7.out _ HV7.out (yk _ _)).mono ?_;rintro e w8 ⟨v8,rfl,hs8,hg8⟩;have HG8:=za (HG7.out.trans hg8);have HV8:=za hs8;have HV4:=za (HV4'.out.kept hg8);have HV6:=za (HV6'.out.kept hg8);clear hs8 hg8 HV4' HV6' HV7;go_wp2;refine bodyPost_ret (v:= .tuple #[v4,v6,v8, .int .i64 0]) (by simp [results,Tryz.results160,go_sem]) rfl ?_;rw [HE0.out,HEM.out,HEA.out,HEB.out];exact ⟨_,_,_,rfl,HV4.out,HV6.out,HV8.out,HG8.out⟩
     ·have x0: ¬c=0:=hc0;have e2':(qt:Int)*(t:Int)=0:=e2;have e3':2*(q:Int)*(kk:Int)=0:=e3;clear e2 e3 bF bM;have HS2:Hid (Sl ze X w (.slice A 0 c) ((l.drop 0).take 0)):=za (by rw [hl0];exact Sl.empty _ _ _ _ _ hcm);have HS3:Hid (Sl ze X w (.slice A 0 c) (l.drop (0+0))):=za (by rw [hl0];exact Sl.empty _ _ _ _ _ hcm);have H1:=za (fun (w':World) (hw:w.grownBy w' none)=>Xh _ (l.take 0) t qt X (fun g=>w.heap.size≤g) w' (HS1.out.kept hw) t1 (by rw [List.length_take, ←hF];simp) (by rw [List.length_take];omega) (fun g h=>Nat.le_trans hw.size h) (fun _ _ _ h=>h));have H2:=za (fun (v:Value) (w':World) (hw:w.grownBy w' none) (hv:Sl (xJ ze) (fun g=>w.heap.size≤g) w' v (chk t (l.take 0) qt))=>Vj v _ t q _ (fun g=>w.heap.size≤g) w' hv t1 (by rw [zF,hqt]) (by rw [zF];omega) (fun g h=>Nat.le_trans hw.size h) (fun _ _ _ h=>h));have H3:=za (fun (w':World) (hw:w.grownBy w' none)=>yQ _ ((l.drop 0).take 0) (q*kk) X w' (HS2.out.kept hw) (by rw [List.length_take, ←hMq];simp) (by rw [List.length_take,List.length_drop];omega));have H4:=za (fun (w':World) (hw:w.grownBy w' none)=>yQ _ (l.drop (0+0)) (q*kk) X w' (HS3.out.kept hw) (by rw [List.length_drop, ←hMq];omega) (by rw [List.length_drop];omega));have H5:=za (fun (v:Value) (ps:List (Int×Int)) (w':World) (hw:w.grownBy w' none) (Z:Nat→Prop) (hv:Sl zo Z w' v ps) (hps:ps.length=q*kk)=>Xa v ps q kk Z (fun g=>w.heap.size≤g) w' hv hps (by omega) (by omega) (fun g h=>Nat.le_trans hw.size h));have hd:((l.length:Int) !=0)=false:=by simpa using hl
      have i1:(0:Int)≤(l.length:Int):=by omega
      have i2:(0:Int)+(0:Int)≤(l.length:Int):=by omega
      have i3:(l.length:Int)≤(c:Int):=by omega
      have i4:(0:Int)+2*(0:Int)≤(c:Int):=by omega
      have HMM:=za hMq;clear hs hl hq ht hqt hF hM HC4 ht1 hq1 hll hMq hz hlc;go_enter Tryz.func160,Tryz.ntmps160;go_wp2_with fail;refine (HC.out _).mono ?_;rintro e w1 ⟨rfl,hg⟩;have HG1:=zE hg HG0;have HB1:=xf hg HB0;have hp1:=HB1.out.prule;have hs1:=HB1.out.lt;clear hg hp0;go_wp2_with fail;have HG4:Hid (w.grownBy w1.drew none):=za (zf HG1.out 1);have HB4:Hid (Bk w1.drew w.heap.size 39 p.cells):=za (HB1.out.drewN 1);go_region_held3 (fun w'=> ∀o,w'.cell? ⟨w.heap.size,o,none⟩=(#[.int .u64 p.P, .int .u64 p.Q, .int .u64 p.G, .int .u64 p.H, .int .i64 p.Nodes, .int .i64 p.N, .int .i64 p.T, .int .i64 p.K, .int .i64 p.D, .int .i64 p.R, .int .i64 p.M, .int .i64 p.X]:Array Value)[o]?) (first|assumption|exact yP (by assumption) (by assumption) _|go_keep) (first
       |(go_at_call 97;(with_reducible refine (HS.out _).mono ?_);rintro e' w' ⟨rfl,hg⟩;have HGx:=zE hg (by assumption);have HBx:=xf hg (by assumption);have hpx:=HBx.out.prule;have hsx:=HBx.out.lt;clear hg))
      go_wp2_with fail;refine (H1.out _ HGx.out).mono ?_;rintro e w3 ⟨v3,rfl,hs3,hg3⟩;have HG3:=za (HGx.out.trans hg3);have HV3:=za hs3;clear hs3 hg3;go_wp2_with fail;refine (H2.out _ _ HG3.out HV3.out).mono ?_;rintro e w4 ⟨v4,rfl,hs4,hg4⟩;have HG4:=za (HG3.out.trans hg4);have HV4:=za hs4;clear hs4 hg4 HV3;go_wp2_with fail;refine (H3.out _ HG4.out).mono ?_;rintro e w5 ⟨v5,rfl,hs5,hg5⟩;have HG5:=za (HG4.out.trans hg5);have HV5:=za hs5;have HV4':=za (HV4.out.kept hg5);clear hs5 hg5 HV4;go_wp2_with fail;refine (H5.out _ _ _ HG5.out _ HV5.out (yk _ _)).mono ?_;rintro e w6 ⟨v6,rfl,hs6,hg6⟩;have HG6:=za (HG5.out.trans hg6);have HV6:=za hs6;have HV4:=za (HV4'.out.kept hg6);clear hs6 hg6 HV4' HV5;go_wp2_with fail;refine (H4.out _ HG6.out).mono ?_;rintro e w7 ⟨v7,rfl,hs7,hg7⟩;have HG7:=za (HG6.out.trans hg7);have HV7:=za hs7;have HV4':=za (HV4.out.kept hg7);have HV6':=za (HV6.out.kept hg7);clear hs7 hg7 HV4 HV6;go_wp2_with fail;refine (H5.out _ _ _ HG7.out _ HV7.out (yk _ _)).mono ?_;rintro e w8 ⟨v8,rfl,hs8,hg8⟩;have HG8:=za (HG7.out.trans hg8);have HV8:=za hs8;have HV4:=za (HV4'.out.kept hg8);have HV6:=za (HV6'.out.kept hg8);clear hs8 hg8 HV4' HV6' HV7;go_wp2;refine bodyPost_ret (v:= .tuple #[v4,v6,v8, .int .i64 0]) (by simp [results,Tryz.results160,go_sem]) rfl ?_;rw [HE0.out,HEM.out,HEA.out,HEB.out];exact ⟨_,_,_,rfl,HV4.out,HV6.out,HV8.out,HG8.out⟩
    ·obtain ⟨ga,oa,eA,_,_⟩:=H.out.addr (by omega);subst eA;have HS1:Hid (Sl ze X w (.slice (some ⟨ga,oa,none⟩) F c) (l.take F)):=za (H.out.take F (by omega));clear hd0;by_cases hcF:F=c
     ·obtain rfl:M=0:=by omega
      subst hcF;have e3':2*(q:Int)*(kk:Int)=0:=e3;clear e3 bM;have HS2:Hid (Sl ze X w (.slice (some ⟨ga,oa,none⟩) 0 0) ((l.drop F).take 0)):=za (by rw [List.take_zero];exact Sl.empty _ _ _ _ _ (by omega));have HS3:Hid (Sl ze X w (.slice (some ⟨ga,oa,none⟩) (l.length - F) 0) (l.drop (F+0))):=za (by rw [List.drop_eq_nil_of_le (by omega),show l.length - F=0 by omega];exact Sl.empty _ _ _ _ _ (by omega));have H1:=za (fun (w':World) (hw:w.grownBy w' none)=>Xh _ (l.take F) t qt X (fun g=>w.heap.size≤g) w' (HS1.out.kept hw) t1 (by rw [List.length_take, ←hF];omega) (by rw [List.length_take];omega) (fun g h=>Nat.le_trans hw.size h) (fun _ _ _ h=>h));have H2:=za (fun (v:Value) (w':World) (hw:w.grownBy w' none) (hv:Sl (xJ ze) (fun g=>w.heap.size≤g) w' v (chk t (l.take F) qt))=>Vj v _ t q _ (fun g=>w.heap.size≤g) w' hv t1 (by rw [zF,hqt]) (by rw [zF];omega) (fun g h=>Nat.le_trans hw.size h) (fun _ _ _ h=>h));have H3:=za (fun (w':World) (hw:w.grownBy w' none)=>yQ _ ((l.drop F).take 0) (q*kk) X w' (HS2.out.kept hw) (by rw [List.length_take, ←hMq];simp) (by rw [List.length_take,List.length_drop];omega));have H4:=za (fun (w':World) (hw:w.grownBy w' none)=>yQ _ (l.drop (F+0)) (q*kk) X w' (HS3.out.kept hw) (by rw [List.length_drop, ←hMq];omega) (by rw [List.length_drop];omega));have H5:=za (fun (v:Value) (ps:List (Int×Int)) (w':World) (hw:w.grownBy w' none) (Z:Nat→Prop) (hv:Sl zo Z w' v ps) (hps:ps.length=q*kk)=>Xa v ps q kk Z (fun g=>w.heap.size≤g) w' hv hps (by omega) (by omega) (fun g h=>Nat.le_trans hw.size h))
      have hd:((l.length:Int) !=(F:Int))=false:=by simpa using hl
      have i1:(F:Int)≤(l.length:Int):=by omega
      have i2:(F:Int)+(0:Int)≤(l.length:Int):=by omega
      have i3:(l.length:Int)≤(F:Int):=by omega
      have i4:(F:Int)+2*(0:Int)≤(F:Int):=by omega
      have HMM:=za hMq;clear hs hl hq ht hqt hF hM HC4 ht1 hq1 hll hMq hz hlc;go_enter Tryz.func160,Tryz.ntmps160;go_wp2_with fail;refine (HC.out _).mono ?_;rintro e w1 ⟨rfl,hg⟩;have HG1:=zE hg HG0;have HB1:=xf hg HB0;have hp1:=HB1.out.prule;have hs1:=HB1.out.lt;clear hg hp0;go_wp2_with fail;have HG4:Hid (w.grownBy w1.drew none):=za (zf HG1.out 1);have HB4:Hid (Bk w1.drew w.heap.size 39 p.cells):=za (HB1.out.drewN 1);go_region_held3 (fun w'=> ∀o,w'.cell? ⟨w.heap.size,o,none⟩=(#[.int .u64 p.P, .int .u64 p.Q, .int .u64 p.G, .int .u64 p.H, .int .i64 p.Nodes, .int .i64 p.N, .int .i64 p.T, .int .i64 p.K, .int .i64 p.D, .int .i64 p.R, .int .i64 p.M, .int .i64 p.X]:Array Value)[o]?) (first|assumption|exact yP (by assumption) (by assumption) _|go_keep) (first
       |(go_at_call 97;(with_reducible refine (HS.out _).mono ?_);rintro e' w' ⟨rfl,hg⟩;have HGx:=zE hg (by assumption);have HBx:=xf hg (by assumption);have hpx:=HBx.out.prule;have hsx:=HBx.out.lt;clear hg))
      go_wp2_with fail;refine (H1.out _ HGx.out).mono ?_;rintro e w3 ⟨v3,rfl,hs3,hg3⟩;have HG3:=za (HGx.out.trans hg3);have HV3:=za hs3;clear hs3 hg3;go_wp2_with fail;refine (H2.out _ _ HG3.out HV3.out).mono ?_;rintro e w4 ⟨v4,rfl,hs4,hg4⟩;have HG4:=za (HG3.out.trans hg4);have HV4:=za hs4;clear hs4 hg4 HV3;go_wp2_with fail;refine (H3.out _ HG4.out).mono ?_;rintro e w5 ⟨v5,rfl,hs5,hg5⟩;have HG5:=za (HG4.out.trans hg5);have HV5:=za hs5;have HV4':=za (HV4.out.kept hg5);clear hs5 hg5 HV4;go_wp2_with fail;refine (H5.out _ _ _ HG5.out _ HV5.out (yk _ _)).mono ?_;rintro e w6 ⟨v6,rfl,hs6,hg6⟩;have HG6:=za (HG5.out.trans hg6);have HV6:=za hs6;have HV4:=za (HV4'.out.kept hg6);clear hs6 hg6 HV4' HV5;go_wp2_with fail;refine (H4.out _ HG6.out).mono ?_;rintro e w7 ⟨v7,rfl,hs7,hg7⟩;have HG7:=za (HG6.out.trans hg7);have HV7:=za hs7;have HV4':=za (HV4.out.kept hg7);have HV6':=za (HV6.out.kept hg7);clear hs7 hg7 HV4 HV6;go_wp2_with fail;refine (H5.out _ _ _ HG7.out _ HV7.out (yk _ _)).mono ?_;rintro e w8 ⟨v8,rfl,hs8,hg8⟩;have HG8:=za (HG7.out.trans hg8);have HV8:=za hs8;have HV4:=za (HV4'.out.kept hg8);have HV6:=za (HV6'.out.kept hg8);clear hs8 hg8 HV4' HV6' HV7;go_wp2;refine bodyPost_ret (v:= .tuple #[v4,v6,v8, .int .i64 0]) (by simp [results,Tryz.results160,go_sem]) rfl ?_;rw [HE0.out,HEM.out,HEA.out,HEB.out];exact ⟨_,_,_,rfl,HV4.out,HV6.out,HV8.out,HG8.out⟩
     ·have hcF': ¬c=F:=fun e=>hcF e.symm
      have x1: ¬c=F:=hcF';have x2: ¬c=F+M:=by omega
      clear hcF;have HS2:Hid (Sl ze X w (.slice (some ⟨ga,oa+F,none⟩) M (c - F)) ((l.drop F).take M)):=za (by
       have:=(H.out.drop F (by omega)).take M (by rw [List.length_drop];omega)
       rwa [show F*ze.size=F from Nat.mul_one F] at this)
      have HS3:Hid (Sl ze X w (.slice (some ⟨ga,oa+(F+M),none⟩) (l.length - (F+M)) (c - (F+M))) (l.drop (F+M))):=za (by
       have:=H.out.drop (F+M) (by omega)
       rwa [show (F+M)*ze.size=F+M from Nat.mul_one (F+M)] at this)
      have H1:=za (fun (w':World) (hw:w.grownBy w' none)=>Xh _ (l.take F) t qt X (fun g=>w.heap.size≤g) w' (HS1.out.kept hw) t1 (by rw [List.length_take, ←hF];omega) (by rw [List.length_take];omega) (fun g h=>Nat.le_trans hw.size h) (fun _ _ _ h=>h));have H2:=za (fun (v:Value) (w':World) (hw:w.grownBy w' none) (hv:Sl (xJ ze) (fun g=>w.heap.size≤g) w' v (chk t (l.take F) qt))=>Vj v _ t q _ (fun g=>w.heap.size≤g) w' hv t1 (by rw [zF,hqt]) (by rw [zF];omega) (fun g h=>Nat.le_trans hw.size h) (fun _ _ _ h=>h));have H3:=za (fun (w':World) (hw:w.grownBy w' none)=>yQ _ ((l.drop F).take M) (q*kk) X w' (HS2.out.kept hw) (by rw [List.length_take,List.length_drop, ←hMq];omega) (by rw [List.length_take,List.length_drop];omega));have H4:=za (fun (w':World) (hw:w.grownBy w' none)=>yQ _ (l.drop (F+M)) (q*kk) X w' (HS3.out.kept hw) (by rw [List.length_drop, ←hMq];omega) (by rw [List.length_drop];omega));have H5:=za (fun (v:Value) (ps:List (Int×Int)) (w':World) (hw:w.grownBy w' none) (Z:Nat→Prop) (hv:Sl zo Z w' v ps) (hps:ps.length=q*kk)=>Xa v ps q kk Z (fun g=>w.heap.size≤g) w' hv hps (by omega) (by omega) (fun g h=>Nat.le_trans hw.size h));have hd:((l.length:Int) !=(F:Int)+2*(M:Int))=false:=by simpa using hl
      have i1:(F:Int)≤(l.length:Int):=by omega
      have i2:(F:Int)+(M:Int)≤(l.length:Int):=by omega
      have i3:(l.length:Int)≤(c:Int):=by omega
      have i4:(F:Int)+2*(M:Int)≤(c:Int):=by omega
      have HMM:=za hMq;clear hs hl hq ht hqt hF hM HC4 ht1 hq1 hll hMq hz hlc;go_enter Tryz.func160,Tryz.ntmps160;go_wp2_with fail;refine (HC.out _).mono ?_;rintro e w1 ⟨rfl,hg⟩;have HG1:=zE hg HG0;have HB1:=xf hg HB0;have hp1:=HB1.out.prule;have hs1:=HB1.out.lt;clear hg hp0;go_wp2_with fail;have HG4:Hid (w.grownBy w1.drew none):=za (zf HG1.out 1);have HB4:Hid (Bk w1.drew w.heap.size 39 p.cells):=za (HB1.out.drewN 1);go_region_held3 (fun w'=> ∀o,w'.cell? ⟨w.heap.size,o,none⟩=(#[.int .u64 p.P, .int .u64 p.Q, .int .u64 p.G, .int .u64 p.H, .int .i64 p.Nodes, .int .i64 p.N, .int .i64 p.T, .int .i64 p.K, .int .i64 p.D, .int .i64 p.R, .int .i64 p.M, .int .i64 p.X]:Array Value)[o]?) (first|assumption|exact yP (by assumption) (by assumption) _|go_keep) (first
       |(go_at_call 97;(with_reducible refine (HS.out _).mono ?_);rintro e' w' ⟨rfl,hg⟩;have HGx:=zE hg (by assumption);have HBx:=xf hg (by assumption);have hpx:=HBx.out.prule;have hsx:=HBx.out.lt;clear hg))
      go_wp2_with fail;refine (H1.out _ HGx.out).mono ?_;rintro e w3 ⟨v3,rfl,hs3,hg3⟩;have HG3:=za (HGx.out.trans hg3);have HV3:=za hs3;clear hs3 hg3;go_wp2_with fail;refine (H2.out _ _ HG3.out HV3.out).mono ?_;rintro e w4 ⟨v4,rfl,hs4,hg4⟩;have HG4:=za (HG3.out.trans hg4);have HV4:=za hs4;clear hs4 hg4 HV3;go_wp2_with fail;refine (H3.out _ HG4.out).mono ?_;rintro e w5 ⟨v5,rfl,hs5,hg5⟩;have HG5:=za (HG4.out.trans hg5);have HV5:=za hs5;have HV4':=za (HV4.out.kept hg5);clear hs5 hg5 HV4;go_wp2_with fail;refine (H5.out _ _ _ HG5.out _ HV5.out (yk _ _)).mono ?_;rintro e w6 ⟨v6,rfl,hs6,hg6⟩;have HG6:=za (HG5.out.trans hg6);have HV6:=za hs6;have HV4:=za (HV4'.out.kept hg6);clear hs6 hg6 HV4' HV5;go_wp2_with fail;refine (H4.out _ HG6.out).mono ?_;rintro e w7 ⟨v7,rfl,hs7,hg7⟩;have HG7:=za (HG6.out.trans hg7);have HV7:=za hs7;have HV4':=za (HV4.out.kept hg7);have HV6':=za (HV6.out.kept hg7);clear hs7 hg7 HV4 HV6;go_wp2_with fail;refine (H5.out _ _ _ HG7.out _ HV7.out (yk _ _)).mono ?_;rintro e w8 ⟨v8,rfl,hs8,hg8⟩;have HG8:=za (HG7.out.trans hg8);have HV8:=za hs8;have HV4:=za (HV4'.out.kept hg8);have HV6:=za (HV6'.out.kept hg8);clear hs8 hg8 HV4' HV6' HV7;go_wp2;refine bodyPost_ret (v:= .tuple #[v4,v6,v8, .int .i64 0]) (by simp [results,Tryz.results160,go_sem]) rfl ?_;rw [HE0.out,HEM.out,HEA.out,HEB.out];exact ⟨_,_,_,rfl,HV4.out,HV6.out,HV8.out,HG8.out⟩
   ·have HC5:Tn p l.length (kk:Int)=4:=by rw [HC4,if_neg hl]
    have HEM:Hid (Tn p l.length (kk:Int)=4∧TV p l kk= []∧Pd p l kk= []∧Pc p l kk= []):=za (by simp [TV,Pd,Pc,HC5]);have hd:((l.length:Int) !=(F:Int)+2*(M:Int))=true:=by simpa using hl
    clear hs hl hq ht hqt hF hM HC4 HC5 ht1 hq1 hlc;go_enter Tryz.func160,Tryz.ntmps160;go_wp2_with fail;refine (HC.out _).mono ?_;rintro e w1 ⟨rfl,hg⟩;have HG1:=zE hg HG0;have HB1:=xf hg HB0;have hp1:=HB1.out.prule;have hs1:=HB1.out.lt;clear hg hp0;go_wp2_with fail;have HG4:Hid (w.grownBy w1.drew none):=za (zf HG1.out 1);have HB4:Hid (Bk w1.drew w.heap.size 39 p.cells):=za (HB1.out.drewN 1);go_region_held3 (fun w'=> ∀o,w'.cell? ⟨w.heap.size,o,none⟩=(#[.int .u64 p.P, .int .u64 p.Q, .int .u64 p.G, .int .u64 p.H, .int .i64 p.Nodes, .int .i64 p.N, .int .i64 p.T, .int .i64 p.K, .int .i64 p.D, .int .i64 p.R, .int .i64 p.M, .int .i64 p.X]:Array Value)[o]?) (first|assumption|exact yP (by assumption) (by assumption) _|go_keep) (first
     |(go_at_call 97;(with_reducible refine (HS.out _).mono ?_);rintro e' w' ⟨rfl,hg⟩;have HGx:=zE hg (by assumption);have HBx:=xf hg (by assumption);have hpx:=HBx.out.prule;have hsx:=HBx.out.lt;clear hg))
    go_wp2;refine bodyPost_ret (v:= .tuple #[.slice none 0 0, .slice none 0 0, .slice none 0 0, .int .i64 4]) (by simp [results,Tryz.results160,go_sem]) rfl ?_;rw [HEM.out.1,HEM.out.2.1,HEM.out.2.2.1,HEM.out.2.2.2];exact ⟨_,_,_,rfl,Sl.nil _ _ _,Sl.nil _ _ _,Sl.nil _ _ _,HGx.out⟩
  ·have HE:Hid (Tn p l.length k=1∧TV p l k= []∧Pd p l k= []∧Pc p l k= []):=za (by simp only [TV,Pd,Pc,Tn];simp [hs,hk3]);have hp1:True:=trivial;clear hs;by_cases hkn:0≤k
   ·have hkx:3< k:=by omega
    clear hk3;go_enter Tryz.func160,Tryz.ntmps160;go_wp2_with fail;refine (HC.out _).mono ?_;rintro e w1 ⟨rfl,hg⟩;have HG:=zE hg HG0;clear hg;go_wp2;refine bodyPost_ret (v:= .tuple #[.slice none 0 0, .slice none 0 0, .slice none 0 0, .int .i64 1]) (by simp [results,Tryz.results160,go_sem]) rfl ?_;rw [HE.out.1,HE.out.2.1,HE.out.2.2.1,HE.out.2.2.2];exact ⟨_,_,_,rfl,Sl.nil _ _ _,Sl.nil _ _ _,Sl.nil _ _ _,HG.out⟩
   ·have hkx:k< 0:=by omega
    clear hk3 hkn;go_enter Tryz.func160,Tryz.ntmps160;go_wp2_with fail;refine (HC.out _).mono ?_;rintro e w1 ⟨rfl,hg⟩;have HG:=zE hg HG0;clear hg;go_wp2;refine bodyPost_ret (v:= .tuple #[.slice none 0 0, .slice none 0 0, .slice none 0 0, .int .i64 1]) (by simp [results,Tryz.results160,go_sem]) rfl ?_;rw [HE.out.1,HE.out.2.1,HE.out.2.2.1,HE.out.2.2.2];exact ⟨_,_,_,rfl,Sl.nil _ _ _,Sl.nil _ _ _,Sl.nil _ _ _,HG.out⟩
end
section
open Go Go.RowKit
section
variable {P:Program} {ops:Array Oper} {md:Region.Mode} {R:Act→World→Prop} {Q:Exit→Act→World→Prop} {l0 n:Nat}
def FE(R:Act→World→Prop):Exit→Act→World→Prop:=fun e a w=>e= .normal∧R a w
theorem XR: ¬LetsOut (FE R):=by
 rintro ⟨a,w,e,_⟩;cases e
theorem XQ{o:Oper}{a:Act}{w:World}{K K':Act→World→Prop}(hd: ∀c,o.op≠ .defer c)(hK: ∀a w,K a w→K' a w)(h:o.wp P a w K (FE R)):o.wpIn (Fence.wide.inRound l0) n P a w K' Q:=by
 refine ⟨fun _ _=>trivial, ?_⟩;rw [Oper.semAt_plain _ _ _ hd];unfold Oper.wp at h;generalize (execOp a.eval o).run P w=r at *;cases r with
 |ok x w'=>
  cases x with
  |value v=>exact hK _ _ h
  |skip=>exact hK _ _ h
  |defer d=>exact hK _ _ h
  |enter f args=>
   refine ⟨fun h=>by simp [Fence.wide] at h,CallsIn.inRound l0 (callsIn_wide.2 ?_)⟩;refine Calls.mono h ?_;intro e w'' he;cases e with
   |returned v=>exact hK _ _ he
   |panicked c=>exact absurd he.1 (by simp)
   |outgrown=>exact absurd he XR
  |row row args=>
   refine ⟨fun h=>by simp [Fence.wide] at h,fun c cs _=> ?_⟩;obtain ⟨v,w'',r,s⟩:=h c cs;exact ⟨v,w'',hK _ _ r,stepsIn_wide.2 s⟩
  |round l f ts c1 c2=>exact h.elim
  |_=>exact h.elim
 |halt x w'=>
  cases x with
  |panic v=>exact absurd h.1 (by simp)
  |_=>exact h.elim
theorem Uo(hd: ∀(i:Nat) (o:Oper) c,ops[i]? =some o→o.op≠ .defer c)(hR: ∀a w,R a w→Q .normal a w):
  ∀(f:Nat) (listed:Array Bool) (a:Act) (w:World),wpAny P md ops (FE R) f listed a w→wpAnyIn (Fence.wide.inRound l0) n P md ops Q f listed a w:=by
 intro f;induction f with
 |zero=>intro listed a w h;exact ⟨h.1,hR _ _ h.2.2⟩
 |succ f ih=>
  intro listed a w h;refine ⟨fun e=>hR _ _ (h.1 e).2,fun i hi=> ?_⟩;have h2:=h.2 i hi;unfold wpOp at h2;unfold wpOpIn;cases ho:ops[i]? with
  |none=>simp only [ho] at h2 ⊢;exact ih _ _ _ h2
  |some o=>
   simp only [ho] at h2 ⊢;split
   ·rename_i hw;rw [if_pos hw] at h2;rcases h2 with h2|h2
    ·exact XQ (fun c=>hd i o c ho) (fun a w k=>ih _ _ _ k) h2
    ·exact absurd h2.2 XR
   ·rename_i hw;rw [if_neg hw] at h2;exact ⟨fun _ _=>trivial,ih _ _ _ h2⟩
def Tq(ops:Array Oper):Bool:=ops.all fun o=>match o.op with| .defer _=>false|_=>true
theorem XS(h:Tq ops=true): ∀(i:Nat) (o:Oper) c,ops[i]? =some o→o.op≠ .defer c:=by
 intro i o c hi e;obtain ⟨hlt,hk⟩:=Array.getElem?_eq_some_iff.1 hi
 have:=Array.all_eq_true.1 h i hlt
 rw [hk,e] at this;exact absurd this (by simp)
end
end
section
open Go Go.RowKit Go.Shelf
attribute [local go_sem] Oper.semAt_some
theorem TO(v:Value)(l:List Int)(i:Nat)(X:Nat→Prop)(w:World)(h:Sl ze X w v l)(hi:(i:Int)≤9223372036854775807):
  Calls Tryz.prog 191 #[v, .int .i64 i] w fun e w'=>e= .returned (.int .u64 (l[i]?.getD 0))∧w'=w:=by
 obtain ⟨A,c,rfl,hc1,hc2⟩:=h.form;have hi0:(0:Int)≤(i:Int):=by omega
 by_cases hl:i< l.length
 ·obtain ⟨g,o,c',e,_,_,hcu,_⟩:=h.atU hl;injection e with e1 e2 e3
  subst e1 e3;have hli:(i:Int)< (l.length:Int):=by omega
  rw [show l[i]?.getD 0=l[i] by rw [List.getElem?_eq_getElem hl];rfl];clear h e2;go_enter Tryz.func191,Tryz.ntmps191;go_wp2;go_ret;exact ⟨rfl,rfl⟩
 ·have hli: ¬(i:Int)< (l.length:Int):=by omega
  have hli2:(l.length:Int)≤(i:Int):=by omega
  rw [show l[i]?.getD 0=0 by rw [List.getElem?_eq_none (by omega)];rfl];clear h;go_enter Tryz.func191,Tryz.ntmps191;go_wp2;go_ret;exact ⟨rfl,rfl⟩
def Ul(a b:List Int):List (Int×Int):=(List.range (max a.length b.length)).map fun i=>(a[i]?.getD 0,b[i]?.getD 0)
abbrev UU:={x:Int×Int // U64 x.1∧U64 x.2}
def yV(n₀ Ba Bb:Nat)(A B:World):Prop:=Below n₀ A B∧B.heap[Ba]? =A.heap[Ba]? ∧B.heap[Bb]? =A.heap[Bb]?
theorem yV.refl(n₀ Ba Bb:Nat)(A:World):yV n₀ Ba Bb A A:=⟨Below.refl _ _,rfl,rfl⟩
theorem yV.drew(n₀ Ba Bb:Nat)(A:World):yV n₀ Ba Bb A A.drew:=⟨⟨rfl,rfl,rfl,Nat.le_refl _,fun _ _=>rfl⟩,rfl,rfl⟩
theorem yV.trans{n₀ Ba Bb:Nat}{A B C:World}(h:yV n₀ Ba Bb A B)(k:yV n₀ Ba Bb B C):yV n₀ Ba Bb A C:=⟨h.1.trans k.1,k.2.1.trans h.2.1,k.2.2.trans h.2.2⟩
theorem zl{w w':World}(h:Below w.heap.size w w'):w.grownBy w' none:=⟨h.1,h.2,h.3,h.4,fun k hk _=>h.5 k hk⟩
theorem Xe{X:Nat→Prop}{w:World}{v:Value}{l:List Int}(k:Nat)(h:Sl ze X w v l):U64 (l[k]?.getD 0):=by
 by_cases hk:k< l.length
 ·obtain ⟨_,_,_,_,_,_,_,u⟩:=h.atU hk;rw [List.getElem?_eq_getElem hk];exact u
 ·rw [List.getElem?_eq_none (by omega)];exact ⟨by decide,by decide⟩
theorem MM(n:Nat)(hn:1≤n)(l Ba Bb:Nat)(va vb:Value)(a b:List Int)(X:Nat→Prop)(J Jx:List UU→World→Prop)(w₀:World)
  (hY: ∀pre x W,J pre W→pre.length< (Ul a b).length→YieldAt Fence.wide (n - 1) Tryz.prog l #[.int .u64 x.1.1, .int .u64 x.1.2] W fun e W'=>
   (e= .returned (.bool true)∧J (pre++ [x]) W'∧yV w₀.heap.size Ba Bb W W')∨(e= .returned (.bool false)∧Jx (pre++ [x]) W'))
  (W:World) (hJ:AbidesFrom W.heap.size J) (hW0:Below w₀.heap.size w₀ W) (hBa:Boxed W Ba 31 va) (hBb:Boxed W Bb 31 vb) (hA:Sl ze X w₀ va a) (hB:Sl ze X w₀ vb b) (h0:J [] W):
  CallsIn Fence.wide n Tryz.prog 190 #[.func (.yield l) #[] #[], .pointer (some ⟨Ba,0,none⟩), .pointer (some ⟨Bb,0,none⟩)] W fun e W'=>(∃v,e= .returned v)∧
   ((∃ys,ys.map Subtype.val=Ul a b∧J ys W')∨(∃pre,True∧Jx pre W')):=by
 refine callsIn_of_wp Tryz.func190 rfl trivial ?_ rfl;simp only [Tryz.ntmps190,List.size_toArray,List.length_cons,List.length_nil,Nat.reduceAdd,Nat.reduceSub,Array.replicate_succ,Array.replicate_zero,List.push_toArray,List.append_toArray,List.nil_append,List.cons_append];obtain ⟨A1,c1,rfl,_,_⟩:=hA.form;obtain ⟨A2,c2,rfl,_,_⟩:=hB.form;have ca:=hBa.cell;have cb:=hBb.cell;have HA:=za hA;have HB:=za hB;have HL:Hid ((Ul a b).length=max a.length b.length):=za (by simp [Ul]);have HAT:Hid (∀k (h:k< (Ul a b).length),(Ul a b)[k]=(a[k]?.getD 0,b[k]?.getD 0)):=za (fun k h=>by simp [Ul]);have hba:a.length≤9223372036854775807:=hA.bound;have hbb:b.length≤9223372036854775807:=hB.bound;have HBA:=za hBa;have HBB:=za hBb;have HH0:=za h0;clear hA hB hBa hBb h0;by_cases hle:a.length< b.length
 ·have HN:Hid (b.length=(Ul a b).length):=za (by rw [HL.out];omega)
  gi_wp2
  gi_loopw [10] (fun s10 wr=> ∃(k:Nat) (pre:List UU),k≤b.length∧s10= .int .i64 k∧Hid (pre.map Subtype.val=(Ul a b).take k∧J pre wr∧yV w₀.heap.size Ba Bb W wr)) (fun s10 _=>b.length - (intOf s10).toNat)
  case atStart=>exact ⟨0, [],by omega,rfl,za ⟨rfl,HH0.out,yV.refl _ _ _ _⟩⟩
  case round=>
   obtain ⟨k,pre,hk,rfl,HX⟩:=hrel;by_cases hlt:k< b.length
   ·have hki:(k:Int)< (b.length:Int):=by omega
    have hkz:k< (Ul a b).length:=by rw [←HN.out];exact hlt
    have hkb:(k:Int)≤9223372036854775807:=by omega
    have hpl:pre.length=k:=by have:=congrArg List.length HX.out.1;simpa [Nat.min_eq_left (Nat.le_of_lt hkz)] using this
    have hca:wr.cell? ⟨Ba,0,none⟩=some (.slice A1 a.length c1):=(World.cell?_of_block (w:=W) HX.out.2.2.2.1).trans HBA.out.cell;have hcb:wr.cell? ⟨Bb,0,none⟩=some (.slice A2 b.length c2):=(World.cell?_of_block (w:=W) HX.out.2.2.2.2).trans HBB.out.cell;have hJk:J pre wr.drew:=hJ _ wr wr.drew none HX.out.2.1 (zf (World.grownBy.refl wr none) 1) (by simp);have HGW:Hid (w₀.grownBy wr none):=za (zl (hW0.trans HX.out.2.2.1));have HSA:Hid (∀w',wr.grownBy w' none→Sl ze X w' (.slice A1 a.length c1) a):=za (fun w' hw=>HA.out.kept (HGW.out.trans hw));have HSB:Hid (∀w',wr.grownBy w' none→Sl ze X w' (.slice A2 b.length c2) b):=za (fun w' hw=>HB.out.kept (HGW.out.trans hw));obtain ⟨xa,hxa⟩: ∃x,x=a[k]?.getD 0:=⟨_,rfl⟩;obtain ⟨xb,hxb⟩: ∃x,x=b[k]?.getD 0:=⟨_,rfl⟩;have HUA:U64 xa:=by rw [hxa];exact Xe k (HSA.out wr (World.grownBy.refl _ _))
    have HUB:U64 xb:=by rw [hxb];exact Xe k (HSB.out wr (World.grownBy.refl _ _))
    obtain ⟨fn,tmps,assign,body,hy,hR⟩:=hY _ (⟨(xa,xb),HUA,HUB⟩:UU) wr.drew hJk (by rw [hpl];exact hkz);dsimp only at hy;have HR:=za (hR.mono (R':=fun e W'=> ∃bb:Bool,e= .returned (.bool bb)∧Hid ((bb=true∧J (pre++ [(⟨(xa,xb),HUA,HUB⟩:UU)]) W'∧yV w₀.heap.size Ba Bb wr.drew W')∨(bb=false∧Jx (pre++ [(⟨(xa,xb),HUA,HUB⟩:UU)]) W'))) (fun e W' h=>by
     rcases h with ⟨h1,h2,h3⟩|⟨h1,h2⟩
     ·exact ⟨true,h1,za (.inl ⟨rfl,h2,h3⟩)⟩
     ·exact ⟨false,h1,za (.inr ⟨rfl,h2⟩)⟩))
    have HC1:Hid (∀w',wr.grownBy w' none→Calls Tryz.prog 191 #[.slice A1 a.length c1, .int .i64 k] w' fun e w''=>e= .returned (.int .u64 xa)∧w''=w'):=za (fun w' hw=>by rw [hxa];exact TO _ a k X w' (HSA.out w' hw) hkb);have HC2:Hid (∀w',wr.grownBy w' none→Calls Tryz.prog 191 #[.slice A2 b.length c2, .int .i64 k] w' fun e w''=>e= .returned (.int .u64 xb)∧w''=w'):=za (fun w' hw=>by rw [hxb];exact TO _ b k X w' (HSB.out w' hw) hkb);have HPN:Hid ((pre++ [(⟨(xa,xb),HUA,HUB⟩:UU)]).map Subtype.val=(Ul a b).take (k+1)):=za (by
     rw [List.map_append,HX.out.1,List.take_succ_eq_append_getElem hkz,HAT.out k hkz, ←hxa, ←hxb];rfl)
    have HGD:Hid (wr.grownBy wr.drew none):=za (zf (World.grownBy.refl wr none) 1);clear hR hJk ca cb hxa hxb
    gi_wp2
    gi_region_with (first
     |(refine ⟨trivial, ?_⟩;gi_at_call 191;(with_reducible refine (callsIn_wide.2 (HC1.out _ HGD.out)).mono ?_);rintro e w' ⟨rfl,rfl⟩)
     |(refine ⟨trivial, ?_⟩;gi_at_call 191;(with_reducible refine (callsIn_wide.2 (HC2.out _ HGD.out)).mono ?_);rintro e w' ⟨rfl,rfl⟩)
     |((with_reducible refine HR.out.mono ?_);rintro e W' ⟨bb,rfl,hout⟩))
    all_goals (cases bb with
     |true=>
      gi_wp2
      rcases hout.out with ⟨_,hJ2,hK2⟩|⟨h,_⟩
      ·exact ⟨⟨k+1,_,by omega,by go_num,za ⟨HPN.out,hJ2,HX.out.2.2.trans ((yV.drew _ _ _ wr).trans hK2)⟩⟩,by simp [intOf];omega⟩
      ·cases h
     |false=>
      gi_wp2
      rcases hout.out with ⟨h,_⟩|⟨_,hJx2⟩
      ·cases h
      ·refine bodyPost_ret (results_none rfl _ _ _) rfl ?_;exact ⟨⟨_,rfl⟩, .inr ⟨_,hJx2⟩⟩)
   ·obtain rfl:k=b.length:=by omega
    gi_wp2
    go_end0;exact ⟨⟨_,rfl⟩, .inl ⟨pre,by rw [HX.out.1,HN.out,List.take_length],HX.out.2.1⟩⟩
 ·have HN:Hid (a.length=(Ul a b).length):=za (by rw [HL.out];omega)
  gi_wp2
  gi_loopw [10] (fun s10 wr=> ∃(k:Nat) (pre:List UU),k≤a.length∧s10= .int .i64 k∧Hid (pre.map Subtype.val=(Ul a b).take k∧J pre wr∧yV w₀.heap.size Ba Bb W wr)) (fun s10 _=>a.length - (intOf s10).toNat)
  case atStart=>exact ⟨0, [],by omega,rfl,za ⟨rfl,HH0.out,yV.refl _ _ _ _⟩⟩
  case round=>
   obtain ⟨k,pre,hk,rfl,HX⟩:=hrel;by_cases hlt:k< a.length
   ·have hki:(k:Int)< (a.length:Int):=by omega
    have hkz:k< (Ul a b).length:=by rw [←HN.out];exact hlt
    have hkb:(k:Int)≤9223372036854775807:=by omega
    have hpl:pre.length=k:=by have:=congrArg List.length HX.out.1;simpa [Nat.min_eq_left (Nat.le_of_lt hkz)] using this
    have hca:wr.cell? ⟨Ba,0,none⟩=some (.slice A1 a.length c1):=(World.cell?_of_block (w:=W) HX.out.2.2.2.1).trans HBA.out.cell;have hcb:wr.cell? ⟨Bb,0,none⟩=some (.slice A2 b.length c2):=(World.cell?_of_block (w:=W) HX.out.2.2.2.2).trans HBB.out.cell;have hJk:J pre wr.drew:=hJ _ wr wr.drew none HX.out.2.1 (zf (World.grownBy.refl wr none) 1) (by simp);have HGW:Hid (w₀.grownBy wr none):=za (zl (hW0.trans HX.out.2.2.1));have HSA:Hid (∀w',wr.grownBy w' none→Sl ze X w' (.slice A1 a.length c1) a):=za (fun w' hw=>HA.out.kept (HGW.out.trans hw));have HSB:Hid (∀w',wr.grownBy w' none→Sl ze X w' (.slice A2 b.length c2) b):=za (fun w' hw=>HB.out.kept (HGW.out.trans hw));obtain ⟨xa,hxa⟩: ∃x,x=a[k]?.getD 0:=⟨_,rfl⟩;obtain ⟨xb,hxb⟩: ∃x,x=b[k]?.getD 0:=⟨_,rfl⟩;have HUA:U64 xa:=by rw [hxa];exact Xe k (HSA.out wr (World.grownBy.refl _ _))
    have HUB:U64 xb:=by rw [hxb];exact Xe k (HSB.out wr (World.grownBy.refl _ _))
    obtain ⟨fn,tmps,assign,body,hy,hR⟩:=hY _ (⟨(xa,xb),HUA,HUB⟩:UU) wr.drew hJk (by rw [hpl];exact hkz);dsimp only at hy;have HR:=za (hR.mono (R':=fun e W'=> ∃bb:Bool,e= .returned (.bool bb)∧Hid ((bb=true∧J (pre++ [(⟨(xa,xb),HUA,HUB⟩:UU)]) W'∧yV w₀.heap.size Ba Bb wr.drew W')∨(bb=false∧Jx (pre++ [(⟨(xa,xb),HUA,HUB⟩:UU)]) W'))) (fun e W' h=>by
     rcases h with ⟨h1,h2,h3⟩|⟨h1,h2⟩
     ·exact ⟨true,h1,za (.inl ⟨rfl,h2,h3⟩)⟩
     ·exact ⟨false,h1,za (.inr ⟨rfl,h2⟩)⟩))
    have HC1:Hid (∀w',wr.grownBy w' none→Calls Tryz.prog 191 #[.slice A1 a.length c1, .int .i64 k] w' fun e w''=>e= .returned (.int .u64 xa)∧w''=w'):=za (fun w' hw=>by rw [hxa];exact TO _ a k X w' (HSA.out w' hw) hkb);have HC2:Hid (∀w',wr.grownBy w' none→Calls Tryz.prog 191 #[.slice A2 b.length c2, .int .i64 k] w' fun e w''=>e= .returned (.int .u64 xb)∧w''=w'):=za (fun w' hw=>by rw [hxb];exact TO _ b k X w' (HSB.out w' hw) hkb);have HPN:Hid ((pre++ [(⟨(xa,xb),HUA,HUB⟩:UU)]).map Subtype.val=(Ul a b).take (k+1)):=za (by
     rw [List.map_append,HX.out.1,List.take_succ_eq_append_getElem hkz,HAT.out k hkz, ←hxa, ←hxb];rfl)
    have HGD:Hid (wr.grownBy wr.drew none):=za (zf (World.grownBy.refl wr none) 1);clear hR hJk ca cb hxa hxb
    gi_wp2
    gi_region_with (first
     |(refine ⟨trivial, ?_⟩;gi_at_call 191;(with_reducible refine (callsIn_wide.2 (HC1.out _ HGD.out)).mono ?_);rintro e w' ⟨rfl,rfl⟩)
     |(refine ⟨trivial, ?_⟩;gi_at_call 191;(with_reducible refine (callsIn_wide.2 (HC2.out _ HGD.out)).mono ?_);rintro e w' ⟨rfl,rfl⟩)
     |((with_reducible refine HR.out.mono ?_);rintro e W' ⟨bb,rfl,hout⟩))
    all_goals (cases bb with
     |true=>
      gi_wp2
      rcases hout.out with ⟨_,hJ2,hK2⟩|⟨h,_⟩
      ·exact ⟨⟨k+1,_,by omega,by go_num,za ⟨HPN.out,hJ2,HX.out.2.2.trans ((yV.drew _ _ _ wr).trans hK2)⟩⟩,by simp [intOf];omega⟩
      ·cases h
     |false=>
      gi_wp2
      rcases hout.out with ⟨h,_⟩|⟨_,hJx2⟩
      ·cases h
      ·refine bodyPost_ret (results_none rfl _ _ _) rfl ?_;exact ⟨⟨_,rfl⟩, .inr ⟨_,hJx2⟩⟩)
   ·obtain rfl:k=a.length:=by omega
    gi_wp2
    go_end0;exact ⟨⟨_,rfl⟩, .inl ⟨pre,by rw [HX.out.1,HN.out,List.take_length],HX.out.2.1⟩⟩
end
section
open Go Go.RowKit Go.Shelf
attribute [local go_sem] Oper.semAt_some
def Zc{α:Type}(a b:List (List α)):List (List α×List α):=(List.range (max a.length b.length)).map fun i=>(a[i]?.getD [],b[i]?.getD [])
abbrev SS{α:Type}(E:Enc α)(X:Nat→Prop)(w₀:World)(G:List α→Prop):={x:(Value×List α)×(Value×List α) // (Sl E X w₀ x.1.1 x.1.2∧G x.1.2)∧(Sl E X w₀ x.2.1 x.2.2∧G x.2.2)}
def SS.lists{α:Type}{E:Enc α}{X:Nat→Prop}{w₀:World}{G:List α→Prop}(x:SS E X w₀ G):List α×List α:=(x.1.1.2,x.1.2.2)
theorem XT{α:Type}{G:List α→Prop}(h0:G []){l:List (List α)}(h: ∀c∈l,G c)(k:Nat):G (l[k]?.getD []):=by
 by_cases hk:k< l.length
 ·rw [List.getElem?_eq_getElem hk];exact h _ (List.getElem_mem hk)
 ·rw [List.getElem?_eq_none (by omega)];exact h0
theorem TP(v:Value)(l:List (List Int))(i:Nat)(X:Nat→Prop)(w₀:World)(h:Sl (zh ze) X w₀ v l)(hi:(i:Int)≤9223372036854775807):
  ∃u,Sl ze X w₀ u (l[i]?.getD [])∧ ∀w,w₀.grownBy w none→Calls Tryz.prog 189 #[v, .int .i64 i] w fun e w'=>e= .returned u∧w'=w:=by
 have H:=za h;obtain ⟨A,c,rfl,hc1,hc2⟩:=h.form;have hi0:(0:Int)≤(i:Int):=by omega
 by_cases hl:i< l.length
 ·obtain ⟨g,o,c',u,e,_,_,hcu,hsu⟩:=h.atS hl;injection e with e1 e2 e3
  subst e1 e3;refine ⟨u,by rw [show l[i]?.getD []=l[i] by rw [List.getElem?_eq_getElem hl];rfl];exact hsu,fun w hw=> ?_⟩;have hcw:w.cell? ⟨g,o+i,none⟩=some u:=by
   obtain ⟨g',o',c'',u',e',hg',_,hcu',_⟩:=h.atS hl;injection e' with e1 e2 e3
   injection e1 with e1
   injection e1 with e1 e4
   subst e1 e4;rw [World.cell?_of_block (w:=w₀) (hw.block _ hg' (by simp))];exact hcu
  obtain ⟨A1,c1,rfl,_,_⟩:=hsu.form;have hli:(i:Int)< (l.length:Int):=by omega
  clear h e2 hsu hcu;go_enter Tryz.func189,Tryz.ntmps189;go_wp2;go_ret;exact ⟨rfl,rfl⟩
 ·have hli: ¬(i:Int)< (l.length:Int):=by omega
  have hli2:(l.length:Int)≤(i:Int):=by omega
  refine ⟨.slice none 0 0,by rw [show l[i]?.getD []= [] by rw [List.getElem?_eq_none (by omega)];rfl];exact Sl.nil _ _ _,fun w hw=> ?_⟩;clear h;go_enter Tryz.func189,Tryz.ntmps189;go_wp2;go_ret;exact ⟨rfl,rfl⟩
theorem MN(n:Nat)(hn:1≤n)(l Ba Bb:Nat)(va vb:Value)(a b:List (List Int))(X:Nat→Prop)(w₀:World)(G:List Int→Prop)(hG0:G [])(hGa: ∀c∈a,G c)(hGb: ∀c∈b,G c)(J Jx:List (SS ze X w₀ G)→World→Prop)
  (hY: ∀pre x W,J pre W→pre.length< (Zc a b).length→YieldAt Fence.wide (n - 1) Tryz.prog l #[x.1.1.1,x.1.2.1] W fun e W'=>
   (e= .returned (.bool true)∧J (pre++ [x]) W'∧yV w₀.heap.size Ba Bb W W')∨(e= .returned (.bool false)∧Jx (pre++ [x]) W'))
  (W:World) (hJ:AbidesFrom W.heap.size J) (hW0:Below w₀.heap.size w₀ W) (hBa:Boxed W Ba 43 va) (hBb:Boxed W Bb 43 vb) (hA:Sl (zh ze) X w₀ va a) (hB:Sl (zh ze) X w₀ vb b) (h0:J [] W):
  CallsIn Fence.wide n Tryz.prog 188 #[.func (.yield l) #[] #[], .pointer (some ⟨Ba,0,none⟩), .pointer (some ⟨Bb,0,none⟩)] W fun e W'=>(∃v,e= .returned v)∧
   ((∃ys,ys.map SS.lists=Zc a b∧J ys W')∨(∃pre,True∧Jx pre W')):=by
 refine callsIn_of_wp Tryz.func188 rfl trivial ?_ rfl;simp only [Tryz.ntmps188,List.size_toArray,List.length_cons,List.length_nil,Nat.reduceAdd,Nat.reduceSub,Array.replicate_succ,Array.replicate_zero,List.push_toArray,List.append_toArray,List.nil_append,List.cons_append];obtain ⟨A1,c1,rfl,_,_⟩:=hA.form;obtain ⟨A2,c2,rfl,_,_⟩:=hB.form;have ca:=hBa.cell;have cb:=hBb.cell;have HA:=za hA;have HB:=za hB;have HL:Hid ((Zc a b).length=max a.length b.length):=za (by simp [Zc]);have HAT:Hid (∀k (h:k< (Zc a b).length),(Zc a b)[k]=(a[k]?.getD [],b[k]?.getD [])):=za (fun k h=>by simp [Zc]);have hba:a.length≤9223372036854775807:=hA.bound;have hbb:b.length≤9223372036854775807:=hB.bound;have HBA:=za hBa;have HBB:=za hBb;have HH0:=za h0;clear hA hB hBa hBb h0;by_cases hle:a.length< b.length
 ·have HN:Hid (b.length=(Zc a b).length):=za (by rw [HL.out];omega)
  gi_wp2
  gi_loopw [10] (fun s10 wr=> ∃(k:Nat) (pre:List (SS ze X w₀ G)),k≤b.length∧s10= .int .i64 k∧Hid (pre.map SS.lists=(Zc a b).take k∧J pre wr∧yV w₀.heap.size Ba Bb W wr)) (fun s10 _=>b.length - (intOf s10).toNat)
  case atStart=>exact ⟨0, [],by omega,rfl,za ⟨rfl,HH0.out,yV.refl _ _ _ _⟩⟩
  case round=>
   obtain ⟨k,pre,hk,rfl,HX⟩:=hrel;by_cases hlt:k< b.length
   ·have hki:(k:Int)< (b.length:Int):=by omega
    have hkz:k< (Zc a b).length:=by rw [←HN.out];exact hlt
    have hkb:(k:Int)≤9223372036854775807:=by omega
    have hpl:pre.length=k:=by have:=congrArg List.length HX.out.1;simpa [Nat.min_eq_left (Nat.le_of_lt hkz)] using this
    have hca:wr.cell? ⟨Ba,0,none⟩=some (.slice A1 a.length c1):=(World.cell?_of_block (w:=W) HX.out.2.2.2.1).trans HBA.out.cell;have hcb:wr.cell? ⟨Bb,0,none⟩=some (.slice A2 b.length c2):=(World.cell?_of_block (w:=W) HX.out.2.2.2.2).trans HBB.out.cell;have hJk:J pre wr.drew:=hJ _ wr wr.drew none HX.out.2.1 (zf (World.grownBy.refl wr none) 1) (by simp);have HGW:Hid (w₀.grownBy wr none):=za (zl (hW0.trans HX.out.2.2.1));obtain ⟨va',HUA,HC1'⟩:=TP _ a k X w₀ HA.out hkb;obtain ⟨vb',HUB,HC2'⟩:=TP _ b k X w₀ HB.out hkb;obtain ⟨xa,hxa⟩: ∃x,x=a[k]?.getD []:=⟨_,rfl⟩;obtain ⟨xb,hxb⟩: ∃x,x=b[k]?.getD []:=⟨_,rfl⟩;rw [←hxa] at HUA;rw [←hxb] at HUB;have HGA:G xa:=by rw [hxa];exact XT hG0 hGa k
    have HGB:G xb:=by rw [hxb];exact XT hG0 hGb k
    obtain ⟨fn,tmps,assign,body,hy,hR⟩:=hY _ (⟨((va',xa),(vb',xb)),⟨HUA,HGA⟩,⟨HUB,HGB⟩⟩:SS ze X w₀ G) wr.drew hJk (by rw [hpl];exact hkz);dsimp only at hy;have HR:=za (hR.mono (R':=fun e W'=> ∃bb:Bool,e= .returned (.bool bb)∧Hid ((bb=true∧J (pre++ [(⟨((va',xa),(vb',xb)),⟨HUA,HGA⟩,⟨HUB,HGB⟩⟩:SS ze X w₀ G)]) W'∧yV w₀.heap.size Ba Bb wr.drew W')∨(bb=false∧Jx (pre++ [(⟨((va',xa),(vb',xb)),⟨HUA,HGA⟩,⟨HUB,HGB⟩⟩:SS ze X w₀ G)]) W'))) (fun e W' h=>by
     rcases h with ⟨h1,h2,h3⟩|⟨h1,h2⟩
     ·exact ⟨true,h1,za (.inl ⟨rfl,h2,h3⟩)⟩
     ·exact ⟨false,h1,za (.inr ⟨rfl,h2⟩)⟩))
    have HC1:=za HC1';have HC2:=za HC2';have HPN:Hid ((pre++ [(⟨((va',xa),(vb',xb)),⟨HUA,HGA⟩,⟨HUB,HGB⟩⟩:SS ze X w₀ G)]).map SS.lists=(Zc a b).take (k+1)):=za (by
     rw [List.map_append,HX.out.1,List.take_succ_eq_append_getElem hkz,HAT.out k hkz, ←hxa, ←hxb];rfl)
    have HGD:Hid (w₀.grownBy wr.drew none):=za (zf HGW.out 1);clear hR hJk ca cb hxa hxb HC1' HC2'
    gi_wp2
    gi_region_with (first
     |(refine ⟨trivial, ?_⟩;gi_at_call 189;(with_reducible refine (callsIn_wide.2 (HC1.out _ HGD.out)).mono ?_);rintro e w' ⟨rfl,rfl⟩)
     |(refine ⟨trivial, ?_⟩;gi_at_call 189;(with_reducible refine (callsIn_wide.2 (HC2.out _ HGD.out)).mono ?_);rintro e w' ⟨rfl,rfl⟩)
     |((with_reducible refine HR.out.mono ?_);rintro e W' ⟨bb,rfl,hout⟩))
    all_goals (cases bb with
     |true=>
      gi_wp2
      rcases hout.out with ⟨_,hJ2,hK2⟩|⟨h,_⟩
      ·exact ⟨⟨k+1,_,by omega,by go_num,za ⟨HPN.out,hJ2,HX.out.2.2.trans ((yV.drew _ _ _ wr).trans hK2)⟩⟩,by simp [intOf];omega⟩
      ·cases h
     |false=>
      gi_wp2
      rcases hout.out with ⟨h,_⟩|⟨_,hJx2⟩
      ·cases h
      ·refine bodyPost_ret (results_none rfl _ _ _) rfl ?_;exact ⟨⟨_,rfl⟩, .inr ⟨_,hJx2⟩⟩)
   ·obtain rfl:k=b.length:=by omega
    gi_wp2
    go_end0;exact ⟨⟨_,rfl⟩, .inl ⟨pre,by rw [HX.out.1,HN.out,List.take_length],HX.out.2.1⟩⟩
 ·have HN:Hid (a.length=(Zc a b).length):=za (by rw [HL.out];omega)
  gi_wp2
  gi_loopw [10] (fun s10 wr=> ∃(k:Nat) (pre:List (SS ze X w₀ G)),k≤a.length∧s10= .int .i64 k∧Hid (pre.map SS.lists=(Zc a b).take k∧J pre wr∧yV w₀.heap.size Ba Bb W wr)) (fun s10 _=>a.length - (intOf s10).toNat)
  case atStart=>exact ⟨0, [],by omega,rfl,za ⟨rfl,HH0.out,yV.refl _ _ _ _⟩⟩
  case round=>
   obtain ⟨k,pre,hk,rfl,HX⟩:=hrel;by_cases hlt:k< a.length
   ·have hki:(k:Int)< (a.length:Int):=by omega
    have hkz:k< (Zc a b).length:=by rw [←HN.out];exact hlt
    have hkb:(k:Int)≤9223372036854775807:=by omega
    have hpl:pre.length=k:=by have:=congrArg List.length HX.out.1;simpa [Nat.min_eq_left (Nat.le_of_lt hkz)] using this
    have hca:wr.cell? ⟨Ba,0,none⟩=some (.slice A1 a.length c1):=(World.cell?_of_block (w:=W) HX.out.2.2.2.1).trans HBA.out.cell;have hcb:wr.cell? ⟨Bb,0,none⟩=some (.slice A2 b.length c2):=(World.cell?_of_block (w:=W) HX.out.2.2.2.2).trans HBB.out.cell;have hJk:J pre wr.drew:=hJ _ wr wr.drew none HX.out.2.1 (zf (World.grownBy.refl wr none) 1) (by simp);have HGW:Hid (w₀.grownBy wr none):=za (zl (hW0.trans HX.out.2.2.1));obtain ⟨va',HUA,HC1'⟩:=TP _ a k X w₀ HA.out hkb;obtain ⟨vb',HUB,HC2'⟩:=TP _ b k X w₀ HB.out hkb;obtain ⟨xa,hxa⟩: ∃x,x=a[k]?.getD []:=⟨_,rfl⟩;obtain ⟨xb,hxb⟩: ∃x,x=b[k]?.getD []:=⟨_,rfl⟩;rw [←hxa] at HUA;rw [←hxb] at HUB;have HGA:G xa:=by rw [hxa];exact XT hG0 hGa k
    have HGB:G xb:=by rw [hxb];exact XT hG0 hGb k
    obtain ⟨fn,tmps,assign,body,hy,hR⟩:=hY _ (⟨((va',xa),(vb',xb)),⟨HUA,HGA⟩,⟨HUB,HGB⟩⟩:SS ze X w₀ G) wr.drew hJk (by rw [hpl];exact hkz);dsimp only at hy;have HR:=za (hR.mono (R':=fun e W'=> ∃bb:Bool,e= .returned (.bool bb)∧Hid ((bb=true∧J (pre++ [(⟨((va',xa),(vb',xb)),⟨HUA,HGA⟩,⟨HUB,HGB⟩⟩:SS ze X w₀ G)]) W'∧yV w₀.heap.size Ba Bb wr.drew W')∨(bb=false∧Jx (pre++ [(⟨((va',xa),(vb',xb)),⟨HUA,HGA⟩,⟨HUB,HGB⟩⟩:SS ze X w₀ G)]) W'))) (fun e W' h=>by
     rcases h with ⟨h1,h2,h3⟩|⟨h1,h2⟩
     ·exact ⟨true,h1,za (.inl ⟨rfl,h2,h3⟩)⟩
     ·exact ⟨false,h1,za (.inr ⟨rfl,h2⟩)⟩))
    have HC1:=za HC1';have HC2:=za HC2';have HPN:Hid ((pre++ [(⟨((va',xa),(vb',xb)),⟨HUA,HGA⟩,⟨HUB,HGB⟩⟩:SS ze X w₀ G)]).map SS.lists=(Zc a b).take (k+1)):=za (by
     rw [List.map_append,HX.out.1,List.take_succ_eq_append_getElem hkz,HAT.out k hkz, ←hxa, ←hxb];rfl)
    have HGD:Hid (w₀.grownBy wr.drew none):=za (zf HGW.out 1);clear hR hJk ca cb hxa hxb HC1' HC2'
    gi_wp2
    gi_region_with (first
     |(refine ⟨trivial, ?_⟩;gi_at_call 189;(with_reducible refine (callsIn_wide.2 (HC1.out _ HGD.out)).mono ?_);rintro e w' ⟨rfl,rfl⟩)
     |(refine ⟨trivial, ?_⟩;gi_at_call 189;(with_reducible refine (callsIn_wide.2 (HC2.out _ HGD.out)).mono ?_);rintro e w' ⟨rfl,rfl⟩)
     |((with_reducible refine HR.out.mono ?_);rintro e W' ⟨bb,rfl,hout⟩))
    all_goals (cases bb with
     |true=>
      gi_wp2
      rcases hout.out with ⟨_,hJ2,hK2⟩|⟨h,_⟩
      ·exact ⟨⟨k+1,_,by omega,by go_num,za ⟨HPN.out,hJ2,HX.out.2.2.trans ((yV.drew _ _ _ wr).trans hK2)⟩⟩,by simp [intOf];omega⟩
      ·cases h
     |false=>
      gi_wp2
      rcases hout.out with ⟨h,_⟩|⟨_,hJx2⟩
      ·cases h
      ·refine bodyPost_ret (results_none rfl _ _ _) rfl ?_;exact ⟨⟨_,rfl⟩, .inr ⟨_,hJx2⟩⟩)
   ·obtain rfl:k=a.length:=by omega
    gi_wp2
    go_end0;exact ⟨⟨_,rfl⟩, .inl ⟨pre,by rw [HX.out.1,HN.out,List.take_length],HX.out.2.1⟩⟩
theorem TQ(v:Value)(l:List (List (List Int)))(i:Nat)(X:Nat→Prop)(w₀:World)(h:Sl (zh (zh ze)) X w₀ v l)(hi:(i:Int)≤9223372036854775807):
  ∃u,Sl (zh ze) X w₀ u (l[i]?.getD [])∧ ∀w,w₀.grownBy w none→Calls Tryz.prog 193 #[v, .int .i64 i] w fun e w'=>e= .returned u∧w'=w:=by
 have H:=za h;obtain ⟨A,c,rfl,hc1,hc2⟩:=h.form;have hi0:(0:Int)≤(i:Int):=by omega
 by_cases hl:i< l.length
 ·obtain ⟨g,o,c',u,e,_,_,hcu,hsu⟩:=h.atS hl;injection e with e1 e2 e3
  subst e1 e3;refine ⟨u,by rw [show l[i]?.getD []=l[i] by rw [List.getElem?_eq_getElem hl];rfl];exact hsu,fun w hw=> ?_⟩;have hcw:w.cell? ⟨g,o+i,none⟩=some u:=by
   obtain ⟨g',o',c'',u',e',hg',_,hcu',_⟩:=h.atS hl;injection e' with e1 e2 e3
   injection e1 with e1
   injection e1 with e1 e4
   subst e1 e4;rw [World.cell?_of_block (w:=w₀) (hw.block _ hg' (by simp))];exact hcu
  obtain ⟨A1,c1,rfl,_,_⟩:=hsu.form;have hli:(i:Int)< (l.length:Int):=by omega
  clear h e2 hsu hcu;go_enter Tryz.func193,Tryz.ntmps193;go_wp2;go_ret;exact ⟨rfl,rfl⟩
 ·have hli: ¬(i:Int)< (l.length:Int):=by omega
  have hli2:(l.length:Int)≤(i:Int):=by omega
  refine ⟨.slice none 0 0,by rw [show l[i]?.getD []= [] by rw [List.getElem?_eq_none (by omega)];rfl];exact Sl.nil _ _ _,fun w hw=> ?_⟩;clear h;go_enter Tryz.func193,Tryz.ntmps193;go_wp2;go_ret;exact ⟨rfl,rfl⟩
theorem MO(n:Nat)(hn:1≤n)(l Ba Bb:Nat)(va vb:Value)(a b:List (List (List Int)))(X:Nat→Prop)(w₀:World)(G:List (List Int)→Prop)(hG0:G [])(hGa: ∀c∈a,G c)(hGb: ∀c∈b,G c)(J Jx:List (SS (zh ze) X w₀ G)→World→Prop)
  (hY: ∀pre x W,J pre W→pre.length< (Zc a b).length→YieldAt Fence.wide (n - 1) Tryz.prog l #[x.1.1.1,x.1.2.1] W fun e W'=>
   (e= .returned (.bool true)∧J (pre++ [x]) W'∧yV w₀.heap.size Ba Bb W W')∨(e= .returned (.bool false)∧Jx (pre++ [x]) W'))
  (W:World) (hJ:AbidesFrom W.heap.size J) (hW0:Below w₀.heap.size w₀ W) (hBa:Boxed W Ba 104 va) (hBb:Boxed W Bb 104 vb) (hA:Sl (zh (zh ze)) X w₀ va a) (hB:Sl (zh (zh ze)) X w₀ vb b) (h0:J [] W):
  CallsIn Fence.wide n Tryz.prog 192 #[.func (.yield l) #[] #[], .pointer (some ⟨Ba,0,none⟩), .pointer (some ⟨Bb,0,none⟩)] W fun e W'=>(∃v,e= .returned v)∧
   ((∃ys,ys.map SS.lists=Zc a b∧J ys W')∨(∃pre,True∧Jx pre W')):=by
 refine callsIn_of_wp Tryz.func192 rfl trivial ?_ rfl;simp only [Tryz.ntmps192,List.size_toArray,List.length_cons,List.length_nil,Nat.reduceAdd,Nat.reduceSub,Array.replicate_succ,Array.replicate_zero,List.push_toArray,List.append_toArray,List.nil_append,List.cons_append];obtain ⟨A1,c1,rfl,_,_⟩:=hA.form;obtain ⟨A2,c2,rfl,_,_⟩:=hB.form;have ca:=hBa.cell;have cb:=hBb.cell;have HA:=za hA;have HB:=za hB;have HL:Hid ((Zc a b).length=max a.length b.length):=za (by simp [Zc]);have HAT:Hid (∀k (h:k< (Zc a b).length),(Zc a b)[k]=(a[k]?.getD [],b[k]?.getD [])):=za (fun k h=>by simp [Zc]);have hba:a.length≤9223372036854775807:=hA.bound;have hbb:b.length≤9223372036854775807:=hB.bound;have HBA:=za hBa;have HBB:=za hBb;have HH0:=za h0;clear hA hB hBa hBb h0;by_cases hle:a.length< b.length
 ·have HN:Hid (b.length=(Zc a b).length):=za (by rw [HL.out];omega)
  gi_wp2
  gi_loopw [10] (fun s10 wr=> ∃(k:Nat) (pre:List (SS (zh ze) X w₀ G)),k≤b.length∧s10= .int .i64 k∧Hid (pre.map SS.lists=(Zc a b).take k∧J pre wr∧yV w₀.heap.size Ba Bb W wr)) (fun s10 _=>b.length - (intOf s10).toNat)
  case atStart=>exact ⟨0, [],by omega,rfl,za ⟨rfl,HH0.out,yV.refl _ _ _ _⟩⟩
  case round=>
   obtain ⟨k,pre,hk,rfl,HX⟩:=hrel;by_cases hlt:k< b.length
   ·have hki:(k:Int)< (b.length:Int):=by omega
    have hkz:k< (Zc a b).length:=by rw [←HN.out];exact hlt
    have hkb:(k:Int)≤9223372036854775807:=by omega
    have hpl:pre.length=k:=by have:=congrArg List.length HX.out.1;simpa [Nat.min_eq_left (Nat.le_of_lt hkz)] using this
    have hca:wr.cell? ⟨Ba,0,none⟩=some (.slice A1 a.length c1):=(World.cell?_of_block (w:=W) HX.out.2.2.2.1).trans HBA.out.cell;have hcb:wr.cell? ⟨Bb,0,none⟩=some (.slice A2 b.length c2):=(World.cell?_of_block (w:=W) HX.out.2.2.2.2).trans HBB.out.cell;have hJk:J pre wr.drew:=hJ _ wr wr.drew none HX.out.2.1 (zf (World.grownBy.refl wr none) 1) (by simp);have HGW:Hid (w₀.grownBy wr none):=za (zl (hW0.trans HX.out.2.2.1));obtain ⟨va',HUA,HC1'⟩:=TQ _ a k X w₀ HA.out hkb;obtain ⟨vb',HUB,HC2'⟩:=TQ _ b k X w₀ HB.out hkb;obtain ⟨xa,hxa⟩: ∃x,x=a[k]?.getD []:=⟨_,rfl⟩;obtain ⟨xb,hxb⟩: ∃x,x=b[k]?.getD []:=⟨_,rfl⟩;rw [←hxa] at HUA;rw [←hxb] at HUB;have HGA:G xa:=by rw [hxa];exact XT hG0 hGa k
    have HGB:G xb:=by rw [hxb];exact XT hG0 hGb k
    obtain ⟨fn,tmps,assign,body,hy,hR⟩:=hY _ (⟨((va',xa),(vb',xb)),⟨HUA,HGA⟩,⟨HUB,HGB⟩⟩:SS (zh ze) X w₀ G) wr.drew hJk (by rw [hpl];exact hkz);dsimp only at hy;have HR:=za (hR.mono (R':=fun e W'=> ∃bb:Bool,e= .returned (.bool bb)∧Hid ((bb=true∧J (pre++ [(⟨((va',xa),(vb',xb)),⟨HUA,HGA⟩,⟨HUB,HGB⟩⟩:SS (zh ze) X w₀ G)]) W'∧yV w₀.heap.size Ba Bb wr.drew W')∨(bb=false∧Jx (pre++ [(⟨((va',xa),(vb',xb)),⟨HUA,HGA⟩,⟨HUB,HGB⟩⟩:SS (zh ze) X w₀ G)]) W'))) (fun e W' h=>by
     rcases h with ⟨h1,h2,h3⟩|⟨h1,h2⟩
     ·exact ⟨true,h1,za (.inl ⟨rfl,h2,h3⟩)⟩
     ·exact ⟨false,h1,za (.inr ⟨rfl,h2⟩)⟩))
    have HC1:=za HC1';have HC2:=za HC2';have HPN:Hid ((pre++ [(⟨((va',xa),(vb',xb)),⟨HUA,HGA⟩,⟨HUB,HGB⟩⟩:SS (zh ze) X w₀ G)]).map SS.lists=(Zc a b).take (k+1)):=za (by
     rw [List.map_append,HX.out.1,List.take_succ_eq_append_getElem hkz,HAT.out k hkz, ←hxa, ←hxb];rfl)
    have HGD:Hid (w₀.grownBy wr.drew none):=za (zf HGW.out 1);clear hR hJk ca cb hxa hxb HC1' HC2'
    gi_wp2
    gi_region_with (first
     |(refine ⟨trivial, ?_⟩;gi_at_call 193;(with_reducible refine (callsIn_wide.2 (HC1.out _ HGD.out)).mono ?_);rintro e w' ⟨rfl,rfl⟩)
     |(refine ⟨trivial, ?_⟩;gi_at_call 193;(with_reducible refine (callsIn_wide.2 (HC2.out _ HGD.out)).mono ?_);rintro e w' ⟨rfl,rfl⟩)
     |((with_reducible refine HR.out.mono ?_);rintro e W' ⟨bb,rfl,hout⟩))
    all_goals (cases bb with
     |true=>
      gi_wp2
      rcases hout.out with ⟨_,hJ2,hK2⟩|⟨h,_⟩
      ·exact ⟨⟨k+1,_,by omega,by go_num,za ⟨HPN.out,hJ2,HX.out.2.2.trans ((yV.drew _ _ _ wr).trans hK2)⟩⟩,by simp [intOf];omega⟩
      ·cases h
     |false=>
      gi_wp2
      rcases hout.out with ⟨h,_⟩|⟨_,hJx2⟩
      ·cases h
      ·refine bodyPost_ret (results_none rfl _ _ _) rfl ?_;exact ⟨⟨_,rfl⟩, .inr ⟨_,hJx2⟩⟩)
   ·obtain rfl:k=b.length:=by omega
    gi_wp2
    go_end0;exact ⟨⟨_,rfl⟩, .inl ⟨pre,by rw [HX.out.1,HN.out,List.take_length],HX.out.2.1⟩⟩
 ·have HN:Hid (a.length=(Zc a b).length):=za (by rw [HL.out];omega)
  gi_wp2
  gi_loopw [10] (fun s10 wr=> ∃(k:Nat) (pre:List (SS (zh ze) X w₀ G)),k≤a.length∧s10= .int .i64 k∧Hid (pre.map SS.lists=(Zc a b).take k∧J pre wr∧yV w₀.heap.size Ba Bb W wr)) (fun s10 _=>a.length - (intOf s10).toNat)
  case atStart=>exact ⟨0, [],by omega,rfl,za ⟨rfl,HH0.out,yV.refl _ _ _ _⟩⟩
  case round=>
   obtain ⟨k,pre,hk,rfl,HX⟩:=hrel;by_cases hlt:k< a.length
   ·have hki:(k:Int)< (a.length:Int):=by omega
    have hkz:k< (Zc a b).length:=by rw [←HN.out];exact hlt
    have hkb:(k:Int)≤9223372036854775807:=by omega
    have hpl:pre.length=k:=by have:=congrArg List.length HX.out.1;simpa [Nat.min_eq_left (Nat.le_of_lt hkz)] using this
    have hca:wr.cell? ⟨Ba,0,none⟩=some (.slice A1 a.length c1):=(World.cell?_of_block (w:=W) HX.out.2.2.2.1).trans HBA.out.cell;have hcb:wr.cell? ⟨Bb,0,none⟩=some (.slice A2 b.length c2):=(World.cell?_of_block (w:=W) HX.out.2.2.2.2).trans HBB.out.cell;have hJk:J pre wr.drew:=hJ _ wr wr.drew none HX.out.2.1 (zf (World.grownBy.refl wr none) 1) (by simp);have HGW:Hid (w₀.grownBy wr none):=za (zl (hW0.trans HX.out.2.2.1));obtain ⟨va',HUA,HC1'⟩:=TQ _ a k X w₀ HA.out hkb;obtain ⟨vb',HUB,HC2'⟩:=TQ _ b k X w₀ HB.out hkb;obtain ⟨xa,hxa⟩: ∃x,x=a[k]?.getD []:=⟨_,rfl⟩;obtain ⟨xb,hxb⟩: ∃x,x=b[k]?.getD []:=⟨_,rfl⟩;rw [←hxa] at HUA;rw [←hxb] at HUB;have HGA:G xa:=by rw [hxa];exact XT hG0 hGa k
    have HGB:G xb:=by rw [hxb];exact XT hG0 hGb k
    obtain ⟨fn,tmps,assign,body,hy,hR⟩:=hY _ (⟨((va',xa),(vb',xb)),⟨HUA,HGA⟩,⟨HUB,HGB⟩⟩:SS (zh ze) X w₀ G) wr.drew hJk (by rw [hpl];exact hkz);dsimp only at hy;have HR:=za (hR.mono (R':=fun e W'=> ∃bb:Bool,e= .returned (.bool bb)∧Hid ((bb=true∧J (pre++ [(⟨((va',xa),(vb',xb)),⟨HUA,HGA⟩,⟨HUB,HGB⟩⟩:SS (zh ze) X w₀ G)]) W'∧yV w₀.heap.size Ba Bb wr.drew W')∨(bb=false∧Jx (pre++ [(⟨((va',xa),(vb',xb)),⟨HUA,HGA⟩,⟨HUB,HGB⟩⟩:SS (zh ze) X w₀ G)]) W'))) (fun e W' h=>by
     rcases h with ⟨h1,h2,h3⟩|⟨h1,h2⟩
     ·exact ⟨true,h1,za (.inl ⟨rfl,h2,h3⟩)⟩
     ·exact ⟨false,h1,za (.inr ⟨rfl,h2⟩)⟩))
    have HC1:=za HC1';have HC2:=za HC2';have HPN:Hid ((pre++ [(⟨((va',xa),(vb',xb)),⟨HUA,HGA⟩,⟨HUB,HGB⟩⟩:SS (zh ze) X w₀ G)]).map SS.lists=(Zc a b).take (k+1)):=za (by
     rw [List.map_append,HX.out.1,List.take_succ_eq_append_getElem hkz,HAT.out k hkz, ←hxa, ←hxb];rfl)
    have HGD:Hid (w₀.grownBy wr.drew none):=za (zf HGW.out 1);clear hR hJk ca cb hxa hxb HC1' HC2'
    gi_wp2
    gi_region_with (first
     |(refine ⟨trivial, ?_⟩;gi_at_call 193;(with_reducible refine (callsIn_wide.2 (HC1.out _ HGD.out)).mono ?_);rintro e w' ⟨rfl,rfl⟩)
     |(refine ⟨trivial, ?_⟩;gi_at_call 193;(with_reducible refine (callsIn_wide.2 (HC2.out _ HGD.out)).mono ?_);rintro e w' ⟨rfl,rfl⟩)
     |((with_reducible refine HR.out.mono ?_);rintro e W' ⟨bb,rfl,hout⟩))
    all_goals (cases bb with
     |true=>
      gi_wp2
      rcases hout.out with ⟨_,hJ2,hK2⟩|⟨h,_⟩
      ·exact ⟨⟨k+1,_,by omega,by go_num,za ⟨HPN.out,hJ2,HX.out.2.2.trans ((yV.drew _ _ _ wr).trans hK2)⟩⟩,by simp [intOf];omega⟩
      ·cases h
     |false=>
      gi_wp2
      rcases hout.out with ⟨h,_⟩|⟨_,hJx2⟩
      ·cases h
      ·refine bodyPost_ret (results_none rfl _ _ _) rfl ?_;exact ⟨⟨_,rfl⟩, .inr ⟨_,hJx2⟩⟩)
   ·obtain rfl:k=a.length:=by omega
    gi_wp2
    go_end0;exact ⟨⟨_,rfl⟩, .inl ⟨pre,by rw [HX.out.1,HN.out,List.take_length],HX.out.2.1⟩⟩
end
section
def yd(a m:Int):Prop:= ∃x,0≤x∧x< m∧Cg m (a*x) 1
open Classical in
noncomputable def TW(a m:Int):Int:=if h:yd a m then Classical.choose h else 0
theorem RP{a m:Int}(h:yd a m):0≤TW a m∧TW a m< m∧Cg m (a*TW a m) 1:=by
 unfold TW;rw [dif_pos h];exact Classical.choose_spec h
theorem Ni{a m x y:Int}(hx0:0≤x)(hx:x< m)(h:Cg m (a*x) 1)(hy0:0≤y)(hy:y< m)(k:Cg m (a*y) 1):x=y:=by
 refine Cg.eq (m:=m) ?_ hx0 hx hy0 hy;have e1:Cg m (x*(a*y)) x:=(k.mul_left x).trans (Cg.of_eq (Int.mul_one x));have e2:Cg m (y*(a*x)) y:=(h.mul_left y).trans (Cg.of_eq (Int.mul_one y));exact e1.symm.trans ((Cg.of_eq (by rw [←Int.mul_assoc, ←Int.mul_assoc,Int.mul_comm x a,Int.mul_comm y a,Int.mul_assoc,Int.mul_assoc,Int.mul_comm x y])).trans e2)
theorem Lm{a m x:Int}(hx0:0≤x)(hx:x< m)(h:Cg m (a*x) 1):TW a m=x:=by
 have s:=RP ⟨x,hx0,hx,h⟩;exact Ni s.1 s.2.1 s.2.2 hx0 hx h
structure Yi (a m r s x y:Int):Prop where
 fst:Cg m (a*x) r
 snd:Cg m (a*y) s
 dvd: ∀d:Int,(d ∣ r∧d ∣ s)→(d ∣ a∧d ∣ m)
theorem UR{d a m:Int}(h:d ∣ a%m)(k:d ∣ m):d ∣ a:=by
 rw [←Int.mul_ediv_add_emod a m];exact Int.dvd_add (Int.dvd_trans k (Int.dvd_mul_right _ _)) h
theorem Yi.start(a m:Int):Yi a m m (a%m) 0 (1%m):=by
 refine ⟨?_, ?_,fun d h=>⟨UR h.2 h.1,h.1⟩⟩
 ·rw [Int.mul_zero];exact (Cg.of_dvd (by rw [Int.sub_zero];exact Int.dvd_refl m)).symm
 ·exact (((Cg.mod m 1).mul_left a).trans (Cg.of_eq (Int.mul_one a))).trans (Cg.mod m a).symm
theorem Yi.next{a m r s x y z:Int}(h:Yi a m r s x y)(hz:Cg m z (x - r / s*y)):Yi a m s (r%s) y z:=by
 refine ⟨h.snd, ?_,fun d k=>h.dvd d ⟨UR k.2 k.1,k.1⟩⟩;have e:=Int.mul_ediv_add_emod r s;have e1:r%s=r - r / s*s:=by rw [Int.mul_comm (r / s)];omega
 rw [e1];refine (hz.mul_left a).trans ?_;rw [Int.mul_sub];refine h.fst.sub ?_;rw [←Int.mul_assoc,Int.mul_comm a,Int.mul_assoc];exact h.snd.mul_left _
theorem Yi.yes{a m x y:Int}(h:Yi a m 1 0 x y)(hx0:0≤x)(hx:x< m):yd a m∧x=TW a m:=
 ⟨⟨x,hx0,hx,h.fst⟩,(Lm hx0 hx h.fst).symm⟩
theorem Yi.no{a m r x y:Int}(h:Yi a m r 0 x y)(h0:0< r)(h1:r≠1): ¬yd a m:=by
 rintro ⟨z,_,_,hz⟩;obtain ⟨d1,d2⟩:=h.dvd r ⟨Int.dvd_refl r,Int.dvd_zero r⟩;have k:=Int.dvd_trans d2 hz.dvd;have k1:r ∣ a*z:=Int.dvd_trans d1 (Int.dvd_mul_right a z);have k2:r ∣ 1:=by
  have:=Int.dvd_sub k1 k
  rwa [show a*z - (a*z - 1)=1 by omega] at this
 have:=Int.le_of_dvd (by decide) k2
 omega
end
section
open Go.RowKit
theorem PN(a b m:Int)(hm:zY m=true):Ys a b m=(a - b)%m:=by
 simp only [Ys,hm,if_true];show Cg m (a%m+m - b%m) (a - b);refine Cg.sub ?_ (Cg.mod m b);unfold Cg;rw [Int.add_emod_right,Int.emod_emod_of_dvd _ (Int.dvd_refl m)]
theorem Mt(a b m:Int)(hm:zY m=true):0≤Ys a b m∧Ys a b m< m:=by
 rw [PN a b m hm];simp [zY] at hm;exact zW _ _ hm.1
theorem Vm(a b m:Int)(hm:zY m=true):ZW a b m=(a+b)%m:=by
 simp only [ZW,hm,if_true];exact (Cg.mod m a).add (Cg.mod m b)
theorem Gs(a b m:Int)(hm:zY m=true):0≤ZW a b m∧ZW a b m< m:=by
 rw [Vm a b m hm];simp [zY] at hm;exact zW _ _ hm.1
theorem TR(a b m:Int):U64 (ZW a b m):=by
 cases hm:zY m with
 |false=>simp [ZW,hm,U64]
 |true=>
  have:=Gs a b m hm
  simp [zY] at hm;unfold U64;omega
theorem Tg(a b m:Int):U64 (Ys a b m):=by
 cases hm:zY m with
 |false=>simp [Ys,hm,U64]
 |true=>
  have:=Mt a b m hm
  simp [zY] at hm;unfold U64;omega
open Classical in
noncomputable def VO(a m:Int):Value:=if yd a m then .tuple #[.int .u64 (TW a m), .int .i64 0] else .tuple #[.int .u64 0, .int .i64 5]
theorem Nj{a m x:Int}(h:yd a m∧x=TW a m): .tuple #[.int .u64 x, .int .i64 0]=VO a m:=by
 unfold VO;rw [if_pos h.1,h.2]
theorem Lk{a m:Int}(h: ¬yd a m): .tuple #[.int .u64 0, .int .i64 5]=VO a m:=by
 unfold VO;rw [if_neg h]
theorem Hx(a m:Int)(w:World)(ha:U64 a)(hm:zY m=true):
  Calls Tryz.prog 242 #[.int .u64 a, .int .u64 m] w fun e' w'=>e'= .returned (VO a m)∧ ∃n,w'=w.drewN n:=by
 have H:=Lib.hid hm;simp [zY] at hm;obtain ⟨hm0,hm1⟩:=hm;obtain ⟨e1,e2⟩:=zW 1 m hm0;obtain ⟨e3,e4⟩:=zW a m hm0;obtain ⟨ha0,ha1⟩:=ha;have HP:=Lib.hid (Yi.start a m);go_enter Tryz.func242,Tryz.ntmps242;go_wp2_with (go_at_call 182;refine (VK _ _ H.out).mono ?_;rintro e w' ⟨rfl,rfl⟩);go_quiet (fail);go_wp2;go_quiet (fail);go_wp2_with fail;go_loopw [6,7,8,9] (fun sr ss sx sy wr=> ∃r s x y:Int,sr= .int .u64 r∧ss= .int .u64 s∧sx= .int .u64 x∧sy= .int .u64 y∧0< r∧r≤m∧0≤s∧s≤m∧0≤x∧x< m∧0≤y∧y< m∧Hid (Yi a m r s x y)∧ ∃n,wr=w.drewN n) (fun _ ss _ _ _=>(intOf ss).toNat)
 case atStart=>exact ⟨_,_,_,_,rfl,rfl,rfl,rfl,by omega,by omega,by omega,by omega,by omega,by omega,by omega,by omega,HP,_,World.drewN_drewN _ _ _⟩
 case round=>
  obtain ⟨r,s,x,y,rfl,rfl,rfl,rfl,hr0,hr1,hs0,hs1,hx0,hx1,hy0,hy1,hp,n,rfl⟩:=hrel;by_cases h0:s=0
  ·subst h0;by_cases h1:r=1
   ·subst h1;have HR:=Lib.hid (Nj (hp.out.yes hx0 hx1));go_wp2;go_ret2;exact ⟨congrArg Ending.returned HR.out,_,rfl⟩
   ·have h1':(r !=1)=true:=by simpa using h1
    have HR:=Lib.hid (Lk (hp.out.no hr0 h1));clear h1;go_wp2;go_ret2;exact ⟨congrArg Ending.returned HR.out,_,rfl⟩
  ·have h0':(s !=0)=true:=by simpa using h0
   have q0:0≤r / s:=Int.ediv_nonneg (by omega) hs0;have q1:r / s≤r:=Int.ediv_le_self s (by omega);obtain ⟨b0,b1⟩:=zW r s (by omega);have HQ:Hid (U64 (r / s)):=Lib.hid ⟨q0,by omega⟩;have HY:Hid (U64 y):=Lib.hid ⟨hy0,by omega⟩;have HX:Hid (U64 x):=Lib.hid ⟨hx0,by omega⟩;have HM:=Lib.hid (yD (r / s) y m);have HS:=Mt x (yg (r / s) y m) m H.out;obtain ⟨z0,z1⟩:=HS;have HN:=Lib.hid (hp.out.next (z:=Ys x (yg (r / s) y m) m) (by rw [PN x _ m H.out];exact (Cg.mod m _).trans ((Cg.refl m x).sub (Ts _ _ m H.out))));clear h0;go_wp2;go_quiet (fail);go_wp2_with fail;refine (Zl _ _ m _ HQ.out HY.out).mono ?_;rintro e w' ⟨rfl,n1,rfl⟩;go_wp2_with fail;refine (Ms _ _ m _ HX.out HM.out).mono ?_;rintro e w' ⟨rfl,n2,rfl⟩;go_wp2;go_roundw
   case rel=>exact ⟨_,_,_,_,rfl,rfl,rfl,rfl,by omega,by omega,by omega,by omega,by omega,by omega,by omega,by omega,HN,_,rfl⟩
   case measure=>simp [intOf];omega
end
section
open Go.RowKit
theorem VC(a e m:Int):U64 (Um a e m):=by
 cases hm:zY m with
 |false=>simp [Um,hm,U64]
 |true=>
  simp only [Um,hm,if_true];simp [zY] at hm
  have:=zW (a ^ e.toNat) m hm.1
  unfold U64;omega
end
end Go.Proofs.YtkdfjkdphdfclaaGreatDoor

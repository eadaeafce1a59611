/- Proves for the statement AvssNamesCardSaid, under no other condition than the statement's own, that the card avssNames holds of the program. Part 9. -/
import Derived.Test.YtkdfjkdphdfclaaGreatDoorZ8
set_option maxRecDepth 100000
set_option maxHeartbeats 16000000
set_option linter.unusedVariables false
set_option linter.unusedSimpArgs false
namespace Go.Proofs.YtkdfjkdphdfclaaGreatDoor
section
open Go Go.RowKit Go.Shelf
attribute [local go_sem] Oper.semAt_some
theorem Ry(A:Option Addr)(n c:Nat)(q:Int)(w:World):
  Calls Tryz.prog 243 #[.slice A n c, .int .u64 q] w fun e w'=>e= .returned (.func (.func 245) #[] #[.pointer (some ⟨w.heap.size,0,none⟩), .pointer (some ⟨w.heap.size+1,0,none⟩)])∧w'=(w.alloc (.cells #[.slice A n c] 31)).alloc (.cells #[.int .u64 q] 22):=by
 go_enter Tryz.func243,Tryz.ntmps243;go_wp2;go_ret;exact ⟨rfl,rfl⟩
theorem UI(B1 B2:Nat)(v:Value)(l:List Int)(i:Nat)(q:Int)(X:Nat→Prop)(w:World)(h:Sl ze X w v l)(hb1:Boxed w B1 31 v)(hb2:Boxed w B2 22 (.int .u64 q))(hq:zY q=true):
  Calls Tryz.prog 245 #[.int .i64 i, .pointer (some ⟨B1,0,none⟩), .pointer (some ⟨B2,0,none⟩)] w fun e w'=>e= .returned (.int .u64 (l[i]?.getD 0%q))∧w.grownBy w' none:=by
 have H:=za h;have HB1:=za hb1;have HB2:=za hb2;obtain ⟨A,c,rfl,hc1,hc2⟩:=h.form;have c1:=hb1.cell;have hq0: ¬q=0:=by simp [zY] at hq;omega
 clear h hb1 hb2 hq;by_cases hi:i< l.length
 ·have hin: ¬l.length≤i:=by omega
  have hin2:(i:Int)< (l.length:Int):=by omega
  obtain ⟨g,o,c',e,_,_,hcu,hu⟩:=H.out.atU hi;injection e with e1 e2 e3
  subst e1 e3;have HC:Hid (∀w',w.grownBy w' none→w'.cell? ⟨g,o+i,none⟩=some (.int .u64 l[i])):=za (fun w' hw=>by
   obtain ⟨g2,o2,c2,e2,_,_,h3,_⟩:=(H.out.kept hw).atU hi;injection e2 with e21 e22 e23
   injection e21 with e21
   injection e21 with e24 e25
   subst e24 e25;exact h3)
  have HV:Hid (l[i]?.getD 0%q=l[i]%q):=za (by simp [hi]);rw [HV.out];have HQ0:Hid (∀w',w.grownBy w' none→w'.cell? ⟨B1,0,none⟩=some (.slice (some ⟨g,o,none⟩) l.length c)∧w'.cell? ⟨B2,0,none⟩=some (.int .u64 q)):=za (fun w' hw=>⟨(HB1.out.kept hw (by simp)).cell,(HB2.out.kept hw (by simp)).cell⟩);have HTM:Hid (Int.tmod l[i] q=l[i]%q):=za (Int.tmod_eq_emod_of_nonneg hu.1);clear e2 hcu HV;generalize hy:l[i]=y at *;clear hy hi;go_enter Tryz.func245,Tryz.ntmps245;go_wp2_with fail;refine Zf 7 ?_;refine mQ0 (.slice (some ⟨g,o,none⟩) l.length c) (fun w' hw' K hK=> ?_) ?_
  ·have hwd:=(zb w 1).trans hw';have hc:=HC.out w' hwd;obtain ⟨hc1,hc2⟩:=HQ0.out w' hwd;go_simp;exact hK _ rfl rfl
  refine mP0 (.int .i64 (i:Int)) ?_;refine mP2 (.pointer (some ⟨g,o+i,none⟩)) 0 9 1 10 ?_;refine mQ1 (.int .u64 y) 2 11 (fun w' hw' K hK=> ?_) ?_
  ·have hwd:=(zb w 1).trans hw';have hc:=HC.out w' hwd;obtain ⟨hc1,hc2⟩:=HQ0.out w' hwd;go_simp;exact hK _ rfl rfl
  refine mQ0 (.int .u64 q) (fun w' hw' K hK=> ?_) ?_
  ·have hwd:=(zb w 1).trans hw';have hc:=HC.out w' hwd;obtain ⟨hc1,hc2⟩:=HQ0.out w' hwd;go_simp;exact hK _ rfl rfl
  refine mQ2 (.int .u64 (y%q)) 3 12 4 13 (fun w' hw' K hK=> ?_) ?_
  ·go_simp;rw [HTM.out];exact hK _ rfl rfl
  refine mP1 (.int .u64 (y%q)) 5 14 ?_;intro w3 hw3
  iterate 6 (refine pD ?_;intro _)
  intro y6 k6;have e6:y6= .int .u64 (y%q):=k6;subst e6;refine wpList_nil ?_;simp only [Act.put,sAa,sAb,sAc];go_wp2_with fail;go_ret;exact ⟨rfl,(zb w 1).trans hw3⟩
 ·have hin:l.length≤i:=by omega
  have HV:Hid (l[i]?.getD 0%q=0):=za (by rw [List.getElem?_eq_none (by omega)];simp);rw [HV.out];clear hi HV;go_enter Tryz.func245,Tryz.ntmps245;go_wp2;go_ret;exact ⟨rfl,World.grownBy.refl _ _⟩
def sUp(q:Int)(a b:List Int)(j:Nat):List Int:=(List.range j).map fun i=>ZW (a[i]?.getD 0) (b[i]?.getD 0) q
theorem Jj(q:Int)(a b:List Int)(j:Nat)(hq:zY q=true):sUp q a b (j+1)=sUp q a b j++ [ZW (a[j]?.getD 0%q) (b[j]?.getD 0%q) q]:=by
 unfold sUp;rw [List.range_succ,List.map_append];simp only [List.map_cons,List.map_nil];rw [Vm _ _ _ hq,Vm _ _ _ hq,Int.add_emod (a[j]?.getD 0%q),Int.emod_emod_of_dvd _ (Int.dvd_refl q),Int.emod_emod_of_dvd _ (Int.dvd_refl q), ←Int.add_emod]
theorem UD(q:Int)(a b:List Int)(j:Nat):(sUp q a b j).length=j:=by simp [sUp]
theorem IZ(q:Int)(a b:List Int)(j:Nat): ∀y∈sUp q a b j,U64 y:=fun y hy=>by
 obtain ⟨n,_,rfl⟩:=List.mem_map.1 hy;exact TR _ _ _
theorem IV(q:Int)(a b:List Int)(hq:zY q=true):PM q a b=sUp q a b (max a.length b.length):=by
 unfold PM sUp;rw [if_pos hq]
theorem Ph(x:Int){q:Int}(hq:zY q=true):U64 (x%q):=by
 simp [zY] at hq
 have:=zW x q hq.1
 exact ⟨this.1,by omega⟩
theorem Jq(v v2:Value)(a b:List Int)(q:Int)(X:Nat→Prop)(w:World)(h:Sl ze X w v a)(h2:Sl ze X w v2 b)(hq:U64 q)(hl:a.length≤1000000∧b.length≤1000000):
  Calls Tryz.prog 234 #[v,v2, .int .u64 q] w (zH ze (fun g=>w.heap.size≤g) w (PM q a b)):=by
 have H:=za h;have H2:=za h2;have HMAY:=za (fun w=>ZJ q w hq);obtain ⟨A,ca,rfl,hc1,hc2⟩:=h.form;obtain ⟨B,cb,rfl,hc3,hc4⟩:=h2.form;clear h h2 hq;by_cases hm:zY q=true
 ·rw [hm] at HMAY;have HM:=za hm;obtain ⟨N,hN⟩: ∃N,N=max a.length b.length:=⟨_,rfl⟩;have hmk:=fun w=>YZ w N (by omega)
  have eM:max (a.length:Int) (b.length:Int)=(N:Int):=by omega
  rw [IV q a b hm, ←hN];have HL:Hid (N≤1000000):=za (by omega);obtain ⟨na,hna⟩: ∃na,na=a.length:=⟨_,rfl⟩;obtain ⟨nb,hnb⟩: ∃nb,nb=b.length:=⟨_,rfl⟩;rw [←hna] at H hc1 eM ⊢;rw [←hnb] at H2 hc3 eM ⊢;clear hm hN hl hna hnb;obtain ⟨W0,hW0⟩: ∃W0,W0=(((w.alloc (.cells #[.slice A na ca] 31)).alloc (.cells #[.int .u64 q] 22)).alloc (.cells #[.slice B nb cb] 31)).alloc (.cells #[.int .u64 q] 22):=⟨_,rfl⟩;have HF:=za (UM w _ _ _ _ _ _ _ _ W0 hW0);have HSZ:Hid (W0.heap.size=w.heap.size+1+1+1+1):=za HF.out.2.2.2.2.2;go_enter Tryz.func234,Tryz.ntmps234;go_wp2_with (refine (HMAY.out _).mono ?_;rintro e w1 ⟨rfl,rfl⟩);go_wp2_with (refine (Ry _ _ _ q _).mono ?_;rintro e w1 ⟨rfl,rfl⟩);go_wp2_with (refine (Ry _ _ _ q _).mono ?_;rintro e w1 ⟨rfl,rfl⟩);rw [←hW0];clear HMAY hW0;go_wp2_with fail;go_loopg [28] N (fun g s28 wx=> ∃j:Nat,j+g=N∧s28= .int .i64 j∧Hid (Bk wx (w.heap.size+1+1+1+1) 22 (xq (sUp q a b j) N)∧W0.grownBy wx none))
  case atStart=>exact ⟨0,by omega,rfl,za ⟨by have h:=Bk.new W0 22 (xq [] N);rw [HSZ.out] at h;exact h,gAl W0 _ _⟩⟩
  case round=>
   obtain ⟨j,hj,rfl,HX⟩:=hrel;cases gk with
   |zero=>
    obtain rfl:j=N:=by omega
    have HR:Hid (Sl ze (fun g=>w.heap.size≤g) wr (.slice (some ⟨w.heap.size+1+1+1+1,0,none⟩) j j) (sUp q a b j)∧w.grownBy wr none):=za ⟨QU HX.out.1 (UD _ _ _ _) (IZ _ _ _ _) (by have:=HL.out;omega) (by omega),HF.out.2.2.2.2.1.trans HX.out.2⟩;clear HX hmk;go_wp2;go_ret;exact ⟨_,rfl,HR.out.1,HR.out.2⟩
   |succ m=>
    have hjn:(j:Int)< (N:Int):=by omega
    have hjN:j< N:=by omega
    have hj0:(0:Int)≤(j:Int):=by omega
    have HG:=za HX.out.2;have HB:=za HX.out.1;have HO1:=za (fun w' (hw:W0.grownBy w' none)=>UI _ _ _ a j q X w' (H.out.kept (HF.out.2.2.2.2.1.trans hw)) (HF.out.1.kept hw (by simp)) (HF.out.2.1.kept hw (by simp)) HM.out);have HO2:=za (fun w' (hw:W0.grownBy w' none)=>UI _ _ _ b j q X w' (H2.out.kept (HF.out.2.2.2.2.1.trans hw)) (HF.out.2.2.1.kept hw (by simp)) (HF.out.2.2.2.1.kept hw (by simp)) HM.out);have HSN:=za (Jj q a b j HM.out);have HLL:=za (UD q a b j);have HUX:=za (Ph (a[j]?.getD 0) HM.out);have HUY:=za (Ph (b[j]?.getD 0) HM.out);have HWS:Hid (w.heap.size≤W0.heap.size):=za HF.out.2.2.2.2.1.size;have HGW:=za HF.out.2.2.2.2.1;clear HX hmk HF;generalize a[j]?.getD 0%q=x at *;generalize b[j]?.getD 0%q=y at *;generalize sUp q a b j=L at *;generalize hLN:sUp q a b (j+1)=LN at *;have HLN:=za hLN;clear hLN;go_wp2_with fail;refine (HO1.out _ HG.out).mono ?_;rintro e w1 ⟨rfl,hg1⟩;have HG1:=za (HG.out.trans hg1);have HB1:=za (HB.out.grown hg1 (by simp));clear hg1 HO1 HG HB;go_wp2_with fail;refine (HO2.out _ HG1.out).mono ?_;rintro e w2 ⟨rfl,hg2⟩;have HG2:=za (HG1.out.trans hg2);have HB2:=za (HB1.out.grown hg2 (by simp));clear hg2 HO2 HG1 HB1;go_wp2_with fail;refine (Ov x y q w2 HUX.out HUY.out).mono ?_;rintro e w3 ⟨rfl,hg3⟩;have hb3:=HB2.out.grown hg3 (by simp);obtain ⟨old,hold⟩:=Of L N j hjN (by rw [HLL.out];omega);have hcl:w3.cell? ⟨w.heap.size+1+1+1+1,j,none⟩=some old:=(hb3.cell j).trans hold;have hfr:w3.frozen? ⟨w.heap.size+1+1+1+1,j,none⟩=false:=hb3.free j;have HFIN:Hid (Bk (w3.setCell ⟨w.heap.size+1+1+1+1,j,none⟩ (.int .u64 (ZW x y q))) (w.heap.size+1+1+1+1) 22 (xq LN N)∧W0.grownBy (w3.setCell ⟨w.heap.size+1+1+1+1,j,none⟩ (.int .u64 (ZW x y q))) none):=za ⟨by
     have e:=Qb L N (ZW x y q) (by rw [HLL.out];omega);rw [HLL.out] at e;have hs:=hb3.set j (.int .u64 (ZW x y q));rw [e, ←HSN.out] at hs;exact hs,xR (HG2.out.trans hg3) _ _ (Nat.le_of_eq HSZ.out)⟩
    clear hg3 hb3 hold;go_wp2_with fail;go_roundg m
    case measure=>omega
    case rel=>exact ⟨j+1,by omega,by go_num,by rw [←HLN.out] at HFIN;exact HFIN⟩
 ·have hm':zY q=false:=by simpa using hm
  rw [hm'] at HMAY;have e0:PM q a b= []:=by unfold PM;rw [if_neg hm]
  rw [e0];clear hm hm' hl e0;generalize a.length=na at *;generalize b.length=nb at *;go_enter Tryz.func234,Tryz.ntmps234;go_wp2_with (refine (HMAY.out _).mono ?_;rintro e w1 ⟨rfl,rfl⟩);go_ret;exact ⟨_,rfl,Sl.nil _ _ _,World.grownBy.refl _ _⟩
end
section
open Go Go.RowKit Go.Shelf
attribute [local go_sem] Oper.semAt_some
theorem Uh{q:Int}(hq:zY q=true): ∀(xs:List Int) (s:List Int),s≠ []→(xs.foldl (fun all x=>YP q all [Ys 0 x q,1]) s).length=s.length+xs.length
 | [],s,_=>by simp
 |x::xs,s,hs=>by
  have hl:(YP q s [Ys 0 x q,1]).length=s.length+1:=by rw [Ri q hq hs (by simp),Xu];simp
  rw [List.foldl_cons,Uh hq xs _ (by intro e;rw [e] at hl;simp at hl),hl];simp;omega
theorem Yh{q:Int}(hq:zY q=true)(xs:List Int)(j:Nat)(hj:j≤xs.length):(Py q (xs.take j)).length=j+1:=by
 unfold Py;rw [Uh hq _ _ (by simp)];simp;omega
theorem XN{q:Int}(hq:zY q=true)(xs ys:List Int)(n:Nat):(YQ q xs ys n).length=xs.length:=by
 induction n with
 |zero=>simp [YQ]
 |succ n ih=>
  rw [Uz,QS hq,YT hq,ih]
  have:(zS q (Py q xs) (xs[n]?.getD 0)).length=xs.length:=by
   have h:=Yh hq xs xs.length (Nat.le_refl _);rw [List.take_length] at h;simp [zS,h]
  omega
theorem Ns(n:Nat):xq [] n=xq (List.replicate n 0) n:=by simp [xq,nums]
theorem DD(w:World)(a b:Int)(ha:U64 a)(hb:U64 b):Sl ze TT (w.alloc (.cells #[.int .u64 a, .int .u64 b] 22)) (.slice (some ⟨w.heap.size,0,none⟩) 2 2) [a,b]:=Sl.build [[.int .u64 a], [.int .u64 b]] rfl ⟨⟨rfl,ha⟩,⟨rfl,hb⟩,trivial⟩ rfl (by decide)
theorem Hk{q:Int}(hq:zY q=true):U64 (1%q):=Ph 1 hq
theorem Vt(v v2:Value)(xs ys:List Int)(q:Int)(X:Nat→Prop)(w:World)(h:Sl ze X w v xs)(h2:Sl ze X w v2 ys)(hq:U64 q):
  Calls Tryz.prog 208 #[v,v2, .int .u64 q] w (Fo ze (fun g=>w.heap.size≤g) w (Uy q xs ys) (OF q xs ys)):=by
 have H:=za h;have H2:=za h2;have HMAY:=za (fun w=>ZJ q w hq);have HUN:=za (fun w' (hw:w.grownBy w' none)=>OC v xs q X w' (h.kept hw) hq);obtain ⟨A,c,rfl,hc1,hc2⟩:=h.form;obtain ⟨A2,c2,rfl,hc3,hc4⟩:=h2.form;clear h h2 hq;obtain ⟨te,hte⟩: ∃te,te=OF q xs ys:=⟨_,rfl⟩;obtain ⟨tl,htl⟩: ∃tl,tl=Uy q xs ys:=⟨_,rfl⟩;rw [←hte, ←htl];have HTL:Hid ((te=0→tl=YQ q xs ys xs.length)∧(¬te=0→tl= [])):=za ⟨fun e=>by rw [htl,Uy, ←hte,if_pos e],fun e=>by rw [htl,Uy, ←hte,if_neg e]⟩;clear htl;by_cases hm:zY q=true
 ·rw [hm] at HMAY;by_cases hln:xs.length=ys.length
  ·have hld:((xs.length:Int) !=(ys.length:Int))=false:=by simp [hln]
   have h0:te=IQ q xs 0:=by rw [hte,OF,if_pos ⟨hm,hln⟩]
   clear hte;by_cases hun:yX xs q=0
   ·obtain ⟨_,hl⟩:=Rf hun;have HM:=za hm;have HWE:Hid (((∀i,i< xs.length→yd (xB q xs 0 i) q)→te=0)∧(∀i,i< xs.length→ ¬yd (xB q xs 0 i) q→te=5)):=za ⟨fun e=>by rw [h0,IQ,if_pos hun,if_pos e],fun i hi e=>by rw [h0,IQ,if_pos hun,if_neg (fun hx=>e (hx i hi))]⟩;rw [hun] at HUN;have hmk:=fun w=>YZ w xs.length (by omega)
    have HLN:=za hln;have HL:=za hl;have hq0: ¬q=0:=by have:=(Lb hm).1;omega
    have HT1:Hid (Int.tmod 1 q=1%q):=za (Int.tmod_eq_emod_of_nonneg (by decide));have HONE:=za (Hk hm);have HSH:=za (fun j (hj:j< xs.length) w' (hw:w.grownBy w' none)=>Tk (.slice A xs.length c) xs j 0 q X w' (H.out.kept hw) hj ⟨by decide,by decide⟩ hm);have HQ:Hid (U64 q):=za (by have:=Lb hm;exact ⟨by omega,by omega⟩);clear h0 hm hun hl hln;obtain ⟨ny,hny⟩: ∃ny,ny=ys.length:=⟨_,rfl⟩;rw [←hny] at H2 hc3 hld HLN ⊢;have HNY:=za hny;clear hny;go_enter Tryz.func208,Tryz.ntmps208;go_wp2_with (refine (HMAY.out _).mono ?_;rintro e w1 ⟨rfl,rfl⟩);go_wp2_with (refine (HUN.out _ (World.grownBy.refl _ _)).mono ?_;rintro e w1 ⟨rfl,hg1⟩);have HG1:=za hg1;clear hg1 HUN HMAY;go_wp2_with fail;go_loopg [9,39] xs.length (fun g s9 s39 wx=> ∃j:Nat,j+g=xs.length∧s39= .int .i64 j∧Hid (Sl ze (fun g=>w.heap.size≤g) wx s9 (Py q (xs.take j))∧w.grownBy wx none))
    case atStart=>
     refine ⟨0,by omega,rfl,za ⟨?_,HG1.out.trans (gAl w1 _ _)⟩⟩;exact QT (l:= [1%q]) (n:=1) (Bk.new w1 _ _) rfl (fun x hx=>by rw [List.mem_singleton.1 hx];exact HONE.out) (by decide) HG1.out.size
    case round=>
     obtain ⟨j,hj,rfl,HX⟩:=hrel;cases gk with
     |zero=>
      obtain rfl:j=xs.length:=by omega
      have HAL:Hid (Sl ze (fun g=>w.heap.size≤g) wr u9 (Py q xs)∧w.grownBy wr none):=za (by have h:=HX.out;rw [List.take_length] at h;exact h);have HALL:Hid ((Py q xs).length=xs.length+1):=za (by have h:=Yh HM.out xs xs.length (Nat.le_refl _);rwa [List.take_length] at h);clear HX HONE;obtain ⟨Aa,ca,ea,_,_⟩:=HAL.out.1.form;subst ea;obtain ⟨al,hal⟩: ∃al,al=Py q xs:=⟨_,rfl⟩;rw [←hal] at HAL HALL ⊢;have HALE:=za hal;clear hal;go_wp2_with fail;go_loopg [12,56] xs.length (fun g s12 s56 wx=> ∃j:Nat,j+g=xs.length∧s56= .int .i64 j∧Hid (Sl ze (fun g=>w.heap.size≤g) wx s12 (YQ q xs ys j)∧w.grownBy wx none∧(∀i,i< j→yd (xB q xs 0 i) q)∧Sl ze (fun g=>w.heap.size≤g) wx (.slice Aa al.length ca) al))
      case atStart=>
       refine ⟨0,by omega,rfl,za ⟨?_,HAL.out.2.trans (gAl wr _ _),fun i hi=>absurd hi (by omega),HAL.out.1.kept (gAl wr _ none)⟩⟩;have hb:=(Bk.new wr 22 (xq [] xs.length)).of_eq (Ns _);exact QU hb (by simp) (fun x hx=>by rw [(List.mem_replicate.1 hx).2];exact ⟨by decide,by decide⟩) (by have:=HL.out;omega) HAL.out.2.size
      case round=>
       obtain ⟨j,hj,rfl,HX⟩:=hrel;cases gk with
       |zero=>
        obtain rfl:j=xs.length:=by omega
        have h0:te=0:=HWE.out.1 HX.out.2.2.1;subst h0;have HR:Hid (Sl ze (fun g=>w.heap.size≤g) wr u12 tl∧w.grownBy wr none):=za ⟨by rw [HTL.out.1 rfl];exact HX.out.1,HX.out.2.1⟩;clear HX HTL HWE hmk;go_wp2;go_ret2;exact ⟨_,rfl,HR.out.1,HR.out.2⟩
       |succ m=>
        have hjn:(j:Int)< (xs.length:Int):=by omega
        have hjN:j< xs.length:=by omega
        have hj0:(0:Int)≤(j:Int):=by omega
        have HG:=za HX.out.2.1;have HS:=za (HSH.out j hjN wr HX.out.2.1);have HUX:Hid (U64 xs[j]):=za (by obtain ⟨_,_,_,_,_,_,_,hu⟩:=H.out.atU hjN;exact hu);obtain ⟨g,o,c',e,_,_,hcu,_⟩:=(H.out.kept HX.out.2.1).atU hjN;injection e with e1 e2 e3
        subst e1 e3;have hjy:j< ys.length:=by rw [←HNY.out, ←HLN.out];exact hjN
        have hjny:(j:Int)< (ny:Int):=by rw [HNY.out];omega
        have HCY:=za (fun w' (hw:w.grownBy w' none)=>(H2.out.kept hw).atU hjy);obtain ⟨g2,o2,c2',e,_,_,_,hbd⟩:=H2.out.atU hjy;rw [←HNY.out] at e;injection e with e1 e4 e5
        subst e1 e5;have HCZ:Hid (∀w',w.grownBy w' none→w'.cell? ⟨g2,o2+j,none⟩=some (.int .u64 ys[j])):=za (fun w' hw=>by
         obtain ⟨g3,o3,c3,e3,_,_,h3,_⟩:=HCY.out w' hw;injection e3 with e31 e32 e33
         injection e31 with e31
         injection e31 with e34 e35
         subst e34 e35;exact h3)
        have HUY:=za hbd;clear HCY hbd e4 e2;by_cases hi:yd (xB q xs 0 j) q
        ·rw [OK hi] at HS;have HU1:=za (JS HM.out hi);have HI:Hid (∀i,i< j+1→yd (xB q xs 0 i) q):=za (fun i hi'=>by
          rcases Nat.lt_or_ge i j with h'|h'
          ·exact HX.out.2.2.1 i h'
          ·obtain rfl:i=j:=by omega
           exact hi)
         have HSN:Hid (YQ q xs ys (j+1)=PM q (YQ q xs ys j) (xC q (zS q al xs[j]) (yg (TW (xB q xs 0 j) q) ys[j] q))):=za (by rw [Uz, ←HALE.out];simp [hjN,hjy]);have HTL2:=za (XN HM.out xs ys j);have HWL:Hid ((zS q al xs[j]).length=xs.length):=za (by simp [zS,HALL.out]);have HALN:Hid (al≠ []∧al.length≤1000000):=za ⟨by intro e;have:=HALL.out;rw [e] at this;simp at this,by rw [HALL.out];have:=HL.out;omega⟩;have HALW:=za HX.out.2.2.2;have HSO:=za HX.out.1;clear hi HX HTL HWE hmk;generalize xs[j]=x at *;generalize ys[j]=y at *;generalize TW (xB q xs 0 j) q=iv at *;generalize YQ q xs ys j=L at *;generalize hLN:YQ q xs ys (j+1)=LN at *;have HLN2:=za hLN;clear hLN;obtain ⟨A3,c3,e3,_,_⟩:=HSO.out.form;subst e3;have hn0:((0:Int) !=0)=false:=rfl;go_wp2_with (go_at_call 233;refine HS.out.mono ?_;rintro e2 w2 ⟨rfl,hg2⟩);have HG2:=za ((HG.out.trans hg2).trans (zb w2 1));have HSO2:=za (HSO.out.kept (hg2.trans (zb w2 1)));have HAL2:Hid (Sl ze (fun g=>w.heap.size≤g) w2.drew (.slice Aa al.length ca) al):=za (HALW.out.kept ((hg2.trans (zb w2 1))));clear hg2 HS HALW HSO HG;go_wp2_with fail;refine Zf 17 ?_;refine mP0 (.slice A3 L.length c3) ?_;refine mP0 (.slice Aa al.length ca) ?_;refine mP0 (.int .u64 x) ?_;refine mP0 (.int .u64 q) ?_;refine mN3 (Pv.sl ze (fun g=>w.heap.size≤g) (zS q al x)) 1 73 2 74 3 75 (fun w' hw' K hK=> ?_) ?_
         ·go_simp;refine (Rw _ al x q _ w' (HAL2.out.kept hw') HUX.out HALN.out.2 HALN.out.1).mono ?_;rintro e w3 ⟨v3,rfl,hs,hg⟩;refine hK _ _ rfl ?_ hg;exact hs.more fun g _ h=>Nat.le_trans (HG2.out.trans hw').size h
         refine mP0 (.int .u64 iv) ?_;refine mP0 (.slice (some ⟨g2,o2,none⟩) ny c2) ?_;refine mP0 (.int .i64 (j:Int)) ?_;refine mP2 (.pointer (some ⟨g2,o2+j,none⟩)) 6 78 7 79 ?_;refine mQ1 (.int .u64 y) 8 80 (fun w' hw' K hK=> ?_) ?_
         ·have hc:=HCZ.out w' (HG2.out.trans hw');go_simp;exact hK _ rfl rfl
         refine mP0 (.int .u64 q) ?_;refine mN3 (Pv.eq (.int .u64 (yg iv y q))) 5 77 9 81 10 82 (fun w' hw' K hK=> ?_) ?_
         ·go_simp;refine (VJ iv y q w' HU1.out HUY.out).mono ?_;rintro e w3 ⟨rfl,hg⟩;exact hK _ _ rfl rfl hg
         refine mP0 (.int .u64 q) ?_;refine mV (Pv.sl ze (fun g=>w.heap.size≤g) (xC q (zS q al x) (yg iv y q))) [(4,76),(11,83),(12,84)] (fun w' hw' x76 h76=>pQ (pQ (kD fun K hK=> ?_))) ?_
         ·have h76:Sl ze (fun g=>w.heap.size≤g) w' x76 (zS q al x):=h76;obtain ⟨A76,c76,e76,k76,l76⟩:=h76.form;subst e76;go_simp;refine (OQ _ (zS q al x) (yg iv y q) q _ w' h76 (yD _ _ _) HQ.out (by have:=HL.out;rw [HWL.out];omega)).mono ?_;rintro e w3 ⟨v3,rfl,hs,hg⟩;refine hK _ _ rfl ?_ hg;exact hs.more fun g _ h=>Nat.le_trans (HG2.out.trans hw').size h
         refine mP0 (.int .u64 q) ?_;refine mV (Pv.sl ze (fun g=>w.heap.size≤g) (PM q L (xC q (zS q al x) (yg iv y q)))) [(0,72),(13,85),(14,86)] (fun w' hw'=>pQ (fun x85 h85=>pQ (kD fun K hK=> ?_))) ?_
         ·have h85:Sl ze (fun g=>w.heap.size≤g) w' x85 (xC q (zS q al x) (yg iv y q)):=h85;obtain ⟨A85,c85,e85,k85,l85⟩:=h85.form;subst e85;go_simp;refine (Jq _ _ L (xC q (zS q al x) (yg iv y q)) q _ w' (HSO2.out.kept hw') h85 HQ.out (by have:=HL.out;rw [YT HM.out,HWL.out,HTL2.out];omega)).mono ?_;rintro e w3 ⟨v3,rfl,hs,hg⟩;refine hK _ _ rfl ?_ hg;exact hs.more fun g _ h=>Nat.le_trans (HG2.out.trans hw').size h
         refine mV (Pv.sl ze (fun g=>w.heap.size≤g) (PM q L (xC q (zS q al x) (yg iv y q)))) [(15,87)] (fun w' hw' x87 h87=>kD fun K hK=> ?_) ?_
         ·have h87:Sl ze (fun g=>w.heap.size≤g) w' x87 (PM q L (xC q (zS q al x) (yg iv y q))):=h87;obtain ⟨A87,c87,e87,k87,l87⟩:=h87.form;subst e87;go_simp;exact hK _ _ rfl h87 gRf
         intro w3 hw3
         iterate 16 (refine pD ?_;intro _)
         intro y16 k16;have HFIN:Hid (Sl ze (fun g=>w.heap.size≤g) w3 y16 LN∧w.grownBy w3 none∧(∀i,i< j+1→yd (xB q xs 0 i) q)∧Sl ze (fun g=>w.heap.size≤g) w3 (.slice Aa al.length ca) al):=za ⟨by rw [HSN.out];exact k16,HG2.out.trans hw3,HI.out,HAL2.out.kept hw3⟩;clear k16 hw3;refine wpList_nil ?_;simp only [Act.put,sAa,sAb,sAc];go_wp2_with fail;go_roundg m
         case measure=>omega
         case rel=>exact ⟨j+1,by omega,by go_num,by rw [←HLN2.out] at HFIN;exact HFIN⟩
        ·rw [My hi] at HS;have h5:te=5:=HWE.out.2 j hjN hi;subst h5;have HL0:=za (HTL.out.2 (by decide));clear hi HX HTL HWE hmk HCZ;go_wp2_with (go_at_call 233;refine HS.out.mono ?_;rintro e2 w2 ⟨rfl,hg2⟩);have HG2:=za (HG.out.trans hg2);clear hg2 HS;go_wp2_with fail;go_ret2;exact ⟨_,rfl,by rw [HL0.out];exact Sl.nil _ _ _,HG2.out⟩
     |succ m=>
      have hjn:(j:Int)< (xs.length:Int):=by omega
      have hjN:j< xs.length:=by omega
      have hj0:(0:Int)≤(j:Int):=by omega
      obtain ⟨g,o,c',e,_,_,hcu,hbd⟩:=(H.out.kept HX.out.2).atU hjN;injection e with e1 e2 e3
      subst e1 e3;have HSB:=za (fun w'=>Mr 0 xs[j] q w' ⟨by decide,by decide⟩ hbd);have HSU:Hid (U64 (Ys 0 xs[j] q)):=za (Tg _ _ _);have HSN:=za (Km q xs j hjN);have HSL:=za (Yh HM.out xs j (by omega));have HB:=za HX.out.1;have HG:=za HX.out.2;obtain ⟨A3,c3,e3,_,_⟩:=HB.out.form;subst e3;clear e2 HX hmk hbd;generalize xs[j]=x at *;generalize Py q (xs.take j)=L at *;generalize hLN:Py q (xs.take (j+1))=LN at *;have HLN2:=za hLN;clear hLN;go_wp2_with (refine (HSB.out _).mono ?_;rintro e w2 ⟨rfl,hg2⟩);have HG2:=za (HG.out.trans hg2);have HB2:=za (HB.out.kept hg2);clear hg2 HSB HG HB;have HTI:=za (OP (.slice A3 L.length c3) (.slice (some ⟨w2.heap.size,0,none⟩) 2 2) L [Ys 0 x q,1] q TT (w2.alloc (.cells #[.int .u64 (Ys 0 x q), .int .u64 1] 22)) ((HB2.out.kept (gAl w2 _ none)).more fun _ _ _=>trivial) (DD w2 _ _ HSU.out ⟨by decide,by decide⟩) HQ.out (by rw [HSL.out];have:=HL.out;simp;omega));refine HTI.out.mono ?_;rintro e w4 ⟨v4,rfl,hs4,hg4⟩;have HFIN:Hid (Sl ze (fun g=>w.heap.size≤g) w4 v4 LN∧w.grownBy w4 none):=za ⟨by
       rw [HSN.out];exact hs4.more fun g _ h=>Nat.le_trans (Nat.le_trans HG2.out.size (gAl w2 _ none).size) h,(HG2.out.trans (gAl w2 _ none)).trans hg4⟩
      clear hs4 hg4 HTI HG2 HB2;go_wp2_with fail;go_roundg m
      case measure=>omega
      case rel=>exact ⟨j+1,by omega,by go_num,by rw [←HLN2.out] at HFIN;exact HFIN⟩
   ·have hu0:te=yX xs q:=by rw [h0,IQ,if_neg hun]
    have HL0:=za (HTL.out.2 (by rw [hu0];exact hun));rw [←hu0] at HUN hun;have hne:(te !=0)=true:=by simpa using hun
    clear HTL h0 hu0 hm hln hun;generalize xs.length=nx at *;generalize ys.length=ny at *;go_enter Tryz.func208,Tryz.ntmps208;go_wp2_with (refine (HMAY.out _).mono ?_;rintro e w1 ⟨rfl,rfl⟩);go_wp2_with (refine (HUN.out _ (World.grownBy.refl _ _)).mono ?_;rintro e w1 ⟨rfl,hg1⟩);have HG1:=za hg1;clear hg1 HUN;go_wp2_with fail;go_ret2;exact ⟨_,rfl,by rw [HL0.out];exact Sl.nil _ _ _,HG1.out⟩
  ·have hld:((xs.length:Int) !=(ys.length:Int))=true:=by simp;omega
   have h1:te=1:=by rw [hte,OF,if_neg (fun h=>hln h.2)]
   subst h1;have HL0:=za (HTL.out.2 (by decide));clear hte HTL hm hln HUN;generalize xs.length=nx at *;generalize ys.length=ny at *;go_enter Tryz.func208,Tryz.ntmps208;go_wp2_with (refine (HMAY.out _).mono ?_;rintro e w1 ⟨rfl,rfl⟩);go_ret2;exact ⟨_,rfl,by rw [HL0.out];exact Sl.nil _ _ _,World.grownBy.refl _ _⟩
 ·have hm':zY q=false:=by simpa using hm
  rw [hm'] at HMAY;have h1:te=1:=by rw [hte,OF,if_neg (fun h=>hm h.1)]
  subst h1;have HL0:=za (HTL.out.2 (by decide));clear hte HTL hm hm' HUN;generalize xs.length=nx at *;generalize ys.length=ny at *;go_enter Tryz.func208,Tryz.ntmps208;go_wp2_with (refine (HMAY.out _).mono ?_;rintro e w1 ⟨rfl,rfl⟩);go_ret2;exact ⟨_,rfl,by rw [HL0.out];exact Sl.nil _ _ _,World.grownBy.refl _ _⟩
end
section
open Go Go.RowKit Go.Shelf Go.Maps
def U8(k:Int):Prop:=0≤k∧k< 256
def YC:Enc yL where
 size:=3
 pos:=by decide
 rep:=fun X w cs d=> ∃v,cs= [.int .u8 d.1, .int .i64 d.2.1,v]∧U8 d.1∧I64 d.2.1∧Sl ze X w v d.2.2
 len:=fun h=>by obtain ⟨v,rfl,_⟩:=h;rfl
 ones:=fun h u hu=>by
  obtain ⟨v,rfl,_,_,A,c,rfl,_⟩:=h;simp at hu;rcases hu with rfl|rfl|rfl<;>rfl
 keep:=fun h hg hX=>by obtain ⟨v,e,i,j,h⟩:=h;exact ⟨v,e,i,j,h.keep hg hX⟩
 more:=fun h hX=>by obtain ⟨v,e,i,j,h⟩:=h;exact ⟨v,e,i,j,h.more hX⟩
 keepc:=fun h hg hr=>by obtain ⟨v,e,i,j,h⟩:=h;exact ⟨v,e,i,j,h.keepc hg hr⟩
theorem Sl.atO{X:Nat→Prop}{w:World}{v:Value}{xs:List yL}(h:Sl YC X w v xs){k:Nat}(hk:k< xs.length):
  ∃g o c u,v= .slice (some ⟨g,o,none⟩) xs.length c∧g< w.heap.size∧X g∧(w.cell? ⟨g,o+k*3,none⟩=some (.int .u8 xs[k].1)∧w.cell? ⟨g,o+k*3+1,none⟩=some (.int .i64 xs[k].2.1)∧w.cell? ⟨g,o+k*3+2,none⟩=some u)∧U8 xs[k].1∧I64 xs[k].2.1∧Sl ze X w u xs[k].2.2:=by
 obtain ⟨g,o,c,cs,e,hg,hX,⟨u,rfl,hi,hj,hu⟩,hc⟩:=h.at hk;exact ⟨g,o,c,u,e,hg,hX,⟨hc 0 _ rfl,hc 1 _ rfl,hc 2 _ rfl⟩,hi,hj,hu⟩
def yT:Enc (Int×List Int) where
 size:=2
 pos:=by decide
 rep:=fun X w cs d=> ∃v,cs= [.int .i64 d.1,v]∧I64 d.1∧Sl ze X w v d.2
 len:=fun h=>by obtain ⟨v,rfl,_⟩:=h;rfl
 ones:=fun h u hu=>by
  obtain ⟨v,rfl,_,A,c,rfl,_⟩:=h;simp at hu;rcases hu with rfl|rfl<;>rfl
 keep:=fun h hg hX=>by obtain ⟨v,e,i,h⟩:=h;exact ⟨v,e,i,h.keep hg hX⟩
 more:=fun h hX=>by obtain ⟨v,e,i,h⟩:=h;exact ⟨v,e,i,h.more hX⟩
 keepc:=fun h hg hr=>by obtain ⟨v,e,i,h⟩:=h;exact ⟨v,e,i,h.keepc hg hr⟩
theorem Sl.atT{X:Nat→Prop}{w:World}{v:Value}{xs:List (Int×List Int)}(h:Sl yT X w v xs){k:Nat}(hk:k< xs.length):
  ∃g o c u,v= .slice (some ⟨g,o,none⟩) xs.length c∧g< w.heap.size∧X g∧w.cell? ⟨g,o+k*2,none⟩=some (.int .i64 xs[k].1)∧w.cell? ⟨g,o+k*2+1,none⟩=some u∧I64 xs[k].1∧Sl ze X w u xs[k].2:=by
 obtain ⟨g,o,c,cs,e,hg,hX,⟨u,rfl,hi,hu⟩,hc⟩:=h.at hk;exact ⟨g,o,c,u,e,hg,hX,hc 0 _ rfl,hc 1 _ rfl,hi,hu⟩
def QJ:Enc (Int×Int) where
 size:=2
 pos:=by decide
 rep:=fun _ _ cs x=>cs= [.int .u8 x.1, .int .i64 x.2]∧U8 x.1∧I64 x.2
 len:=fun h=>by rw [h.1];rfl
 ones:=fun h u hu=>by rw [h.1] at hu;simp at hu;rcases hu with rfl|rfl<;>rfl
 keep:=fun h _ _=>h
 more:=fun h _=>h
 keepc:=fun h _ _=>h
theorem Sl.atL{X:Nat→Prop}{w:World}{v:Value}{xs:List (Int×Int)}(h:Sl QJ X w v xs){k:Nat}(hk:k< xs.length):
  ∃g o c,v= .slice (some ⟨g,o,none⟩) xs.length c∧g< w.heap.size∧X g∧w.cell? ⟨g,o+k*2,none⟩=some (.int .u8 xs[k].1)∧w.cell? ⟨g,o+k*2+1,none⟩=some (.int .i64 xs[k].2)∧U8 xs[k].1∧I64 xs[k].2:=by
 obtain ⟨g,o,c,cs,e,hg,hX,⟨rfl,hu⟩,hc⟩:=h.at hk;exact ⟨g,o,c,e,hg,hX,hc 0 _ rfl,hc 1 _ rfl,hu⟩
theorem Nl:(Tryz.prog.info? 133).map (fun i=>(i.zero,i.size,i.bytes))=some (some (.agg #[.int .u8 0, .int .i64 0]),2,16):=by kernel_rfl
theorem Ic:zA Tryz.prog 193 133 2 16:=zA.mk' (by decide) Tryz.underlying193 Nl rfl
theorem Ln:(Tryz.prog.info? 71).map (fun i=>(i.zero,i.size,i.bytes))=some (some (.agg #[.int .u8 0, .int .i64 0, .slice none 0 0]),3,40):=by kernel_rfl
theorem Pp:zA Tryz.prog 63 71 3 40:=zA.mk' (by decide) Tryz.underlying63 Ln rfl
theorem RR:(Tryz.prog.info? 96).map (fun i=>(i.zero,i.size,i.bytes))=some (some (.agg #[.int .i64 0, .slice none 0 0]),2,32):=by kernel_rfl
theorem TD:zA Tryz.prog 80 96 2 32:=zA.mk' (by decide) Tryz.underlying80 RR rfl
theorem zj.split{gA gM:Nat}{w w':World}(h:zj gA gM w w'): ∃u,w.grownBy u (some gM)∧u.grownBy w' (some gA):=by
 by_cases hA:gA< w.heap.size
 ·refine ⟨{w' with heap:=w'.heap.setIfInBounds gA (w.heap[gA])},⟨h.os,h.tape,h.output, ?_,fun i hi hr=> ?_⟩,⟨rfl,rfl,rfl, ?_,fun i hi hr=> ?_⟩⟩
  ·simpa using h.size
  ·have hm:i≠gM:=fun e=>hr (by rw [e])
   have:=h.size
   by_cases e:i=gA
   ·subst e;simp only [Array.getElem?_setIfInBounds_self_of_lt (show i< w'.heap.size by omega),Array.getElem?_eq_getElem hA]
   ·simp only [Array.getElem?_setIfInBounds_ne (Ne.symm e)];exact h.block i hi e hm
  ·simp
  ·have e:i≠gA:=fun e=>hr (by rw [e])
   simp only [Array.getElem?_setIfInBounds_ne (Ne.symm e)]
 ·exact ⟨w',⟨h.os,h.tape,h.output,h.size,fun i hi hr=>h.block i hi (by omega) (fun e=>hr (by rw [e]))⟩,World.grownBy.refl _ _⟩
theorem Sl.keep2{α:Type}{E:Enc α}{X:Nat→Prop}{w w':World}{v:Value}{xs:List α}{gA gM:Nat}(h:Sl E X w v xs)(hg:zj gA gM w w')(hA: ¬X gA)(hM: ¬X gM):Sl E X w' v xs:=by
 obtain ⟨u,h1,h2⟩:=hg.split;exact (h.keep h1 (fun g hg e=>hM (by injection e with e;rwa [←e]))).keep h2 (fun g hg e=>hA (by injection e with e;rwa [←e]))
theorem AvW.keep2{X:Nat→Prop}{gA gM nn hA hM:Nat}{E:zw}{st:ASt}{w w':World}(h:AvW X gA gM nn E st w)(hg:zj hA hM w w')(h1: ¬X hA)(h2: ¬X hM)(n1:gA≠hA∧gA≠hM)(n2:gM≠hA∧gM≠hM):AvW X gA gM nn E st w':=by
 obtain ⟨u,k1,k2⟩:=hg.split;exact (h.keep k1 (fun g hg e=>h2 (by injection e with e;rwa [←e])) (fun e=>n1.2 (by injection e)) (fun e=>n2.2 (by injection e))).keep k2 (fun g hg e=>h1 (by injection e with e;rwa [←e])) (fun e=>n1.1 (by injection e)) (fun e=>n2.1 (by injection e))
structure yU (x:zL):Prop where
 m:x.m.length≤10∧ ∀f∈x.m,f.length≤3∧ ∀r∈f,1≤r.length∧r.length≤3
 a:x.a.length≤10∧ ∀c∈x.a,c.length≤3
 b:x.b.length≤10∧ ∀c∈x.b,c.length≤3
structure Xk (s:Nat) (x:zL):Prop where
 le:yU x
 a:x.a.length=s∧ ∀c∈x.a,c≠ []
 b:x.b.length=s∧ ∀c∈x.b,c≠ []
structure yx (E:zw) (st:ASt):Prop where
 heard: ∀k i x,st.heard k i=some x→Xk E.coms.length x
 dealt: ∀x,st.dealt=some x→yU x
 own: ∀x,st.own=some x→yU x
theorem GL{p:Par}(h:Va p=true):zX p=ZU p∧0≤ZU p∧ZU p≤10∧1≤p.T∧p.T≤2:=by
 obtain ⟨_,_,_,hN1,hN2,_,hT1,hT2,_,hs,hK,hD⟩:=zD h;simp only [Rp,decide_eq_true_eq] at hs;have hd:Zn p=true:=(xt p).2 ⟨by omega,by omega,by omega,by omega,by omega,by omega⟩;have hb:=PQ hd;refine ⟨?_,hb.1,hb.2,hT1,hT2⟩;have hk:p.K=1∨p.K=2:=by omega
 have hd':p.D=1∨p.D=2∨p.D=3∨p.D=4:=by omega
 unfold zX ZU;rcases hk with hk|hk<;>rcases hd' with hd'|hd'|hd'|hd'<;>rw [hk,hd']<;>decide+kernel
theorem xp{p:Par}{coms:List (List Int)}(hm:Va p=true)(hf:Za p coms=true):coms.length=(ZU p).toNat∧coms.length≤10∧ ∀x∈coms,x.length≤3:=by
 obtain ⟨e1,h0,h10,hT1,hT2⟩:=GL hm;have e2:IntKind.i64.wrap (p.T+1)=p.T+1:=IntWalk.i64_in _ (by omega);unfold Za Kz at hf;rw [e1,e2] at hf;simp only [Bool.and_eq_true,decide_eq_true_eq,Bool.not_eq_true',List.any_eq_false,yz,Bool.or_eq_true,not_or] at hf;refine ⟨by omega,by omega,fun x hx=> ?_⟩
 have:=(hf.2 x hx).1
 omega
theorem Ti{E:zw}(hE:E.ok):E.coms.length=(ZU E.p).toNat∧E.coms.length≤10:=⟨(xp hE.may hE.formed).1,(xp hE.may hE.formed).2.1⟩
theorem MR{E:zw}{l:List Int}{k:Int}(h:(zI E l k).2=true):UZ (ZU E.p).toNat (E.p.T+1).toNat k.toNat (zI E l k).1∧0≤k∧k≤3∧(ZU E.p).toNat≤10∧(E.p.T+1).toNat≤3∧0≤E.p.T:=by
 simp only [zI,Bool.and_eq_true,decide_eq_true_eq] at h;obtain ⟨h1,h2,h3,h4,h5,_,h6⟩:=Xx h.1;exact ⟨h1,h2,h3,h4,h5,h6⟩
theorem UZ.le{s t k:Nat}{x:zL}(h:UZ s t k x)(hs:s≤10)(ht:1≤t∧t≤3)(hk:k≤3):yU x:=⟨⟨by rw [h.m.1];exact hs,fun f hf=>⟨by rw [(h.m.2 f hf).1];exact ht.2,fun r hr=>by rw [(h.m.2 f hf).2 r hr];exact ht⟩⟩,⟨by rw [h.a.1];exact hs,fun c hc=>by rw [h.a.2 c hc];exact hk⟩,⟨by rw [h.b.1];exact hs,fun c hc=>by rw [h.b.2 c hc];exact hk⟩⟩
theorem Zg{E:zw}{l:List Int}(h:(zv E l).2=true):yU (zv E l).1:=by
 simp only [zv,Bool.and_eq_true] at h;obtain ⟨h1,h2,h3,h4,h5,h6⟩:=MR h.1.1;exact h1.le h4 ⟨by omega,h5⟩ (by omega)
theorem VD{E:zw}(hE:E.ok){i:Int}{l:List Int}(h:(zk E i l).2=true):Xk E.coms.length (zk E i l).1:=by
 simp only [zk,Bool.and_eq_true] at h;obtain ⟨h1,h2,h3,h4,h5,h6⟩:=MR h.1.1;have hs:=Ti hE;refine ⟨h1.le h4 ⟨by omega,h5⟩ (by decide),⟨by rw [hs.1];exact h1.a.1,fun c hc=> ?_⟩,⟨by rw [hs.1];exact h1.b.1,fun c hc=> ?_⟩⟩
 ·have:=h1.a.2 c hc
  intro e;rw [e] at this;simp at this
 ·have:=h1.b.2 c hc
  intro e;rw [e] at this;simp at this
theorem Yy(q:Int)(xs ys:List Int):(Uy q xs ys).length≤xs.length:=by
 unfold Uy;split
 ·rename_i h;by_cases hq:zY q=true
  ·have:=XN hq xs ys xs.length
   omega
  ·unfold OF at h;simp [hq] at h
 ·simp
theorem Ux{E:zw}(hE:E.ok)(s:ASt)(bs:List (Int×Int))(one:zL→List (Int×Int))(hb:bs.length≤3):(yn E s bs one).length≤10∧ ∀c∈yn E s bs one,c.length≤3:=by
 unfold yn Tf;refine ⟨by simpa using (Ti hE).2,fun c hc=> ?_⟩;obtain ⟨j,_,rfl⟩:=List.mem_map.1 hc;rw [List.length_zip]
 have:=Yy E.p.Q (bs.map (·.2)) ((bs.map fun h=>XJ s h one).map fun l=>(l[j]?.getD (0,0)).1)
 rw [List.length_map] at this;omega
theorem Od{E:zw}(hE:E.ok){s:ASt}(hs:yx E s)(m:List (List (List Int)))(hm:m.length≤10∧ ∀f∈m,f.length≤3∧ ∀r∈f,1≤r.length∧r.length≤3)(bs:List (Int×Int)):yU (yG E s m bs):=by
 obtain ⟨_,_,_,hN1,hN2,_,hT1,hT2,_⟩:=zD hE.may;have hl:(bs.take (E.p.T+1).toNat).length≤3:=by rw [List.length_take];omega
 have ht:yU ⟨m,yn E s (bs.take (E.p.T+1).toNat) (fun x=>zt x.b),yn E s (bs.take (E.p.T+1).toNat) (fun x=>zt x.a)⟩:=⟨hm,Ux hE s _ _ hl,Ux hE s _ _ hl⟩;unfold yG;cases hd:s.dealt with
 |none=>exact ht
 |some d=>
  dsimp only;split
  ·exact hs.dealt d hd
  ·exact ht
theorem yx.put{E:zw}{s:ASt}(h:yx E s)(k i:Int){x:zL}(hx:Xk E.coms.length x):yx E (s.put k i x):=⟨fun k' i' y hy=>by
 unfold ASt.put at hy;dsimp only at hy;split at hy
 ·injection hy with hy
  subst hy;exact hx
 ·exact h.heard k' i' y hy,h.dealt,h.own⟩
theorem yx.ofEnd{E:zw}{s:ASt}(h:yx E s)(out:List yL):yx E (ZD E s out).1:=by
 unfold ZD;split
 ·split
  ·exact ⟨h.heard,h.dealt,h.own⟩
  ·exact h
 ·exact h
theorem yx.hear{E:zw}(hE:E.ok){tell:ASt→zL→ASt×List yL}(ht: ∀s x,yx E s→yU x→yx E (tell s x).1){s:ASt}(h:yx E s)(k i:Int)(l:List Int):yx E (xh E tell s k i l).1:=by
 unfold xh;split
 ·exact h
 ·rename_i hn;have hp:(zk E i l).2=true:=by
   simp only [not_or,Bool.not_eq_false] at hn;exact hn.2.2.2
  have hx:=VD hE hp;have h1:=h.put k i hx;dsimp only;split
  ·have hk:=Od hE h1 (zk E i l).1.m hx.le.m (zG E (s.put k i (zk E i l).1) (zk E i l).1.m);have h2:yx E {(s.put k i (zk E i l).1) with own:=some (yG E (s.put k i (zk E i l).1) (zk E i l).1.m (zG E (s.put k i (zk E i l).1) (zk E i l).1.m))}:={heard:=h1.heard,dealt:=h1.dealt,own:=fun y hy=>by injection hy with hy;subst hy;exact hk};exact (ht _ _ h2 hk).ofEnd _
  ·exact h1.ofEnd _
theorem yx.hear1{E:zw}(hE:E.ok){s:ASt}(h:yx E s)(k i:Int)(l:List Int):yx E (Yg E s k i l).1:=yx.hear hE (fun _ _ h _=>h) h k i l
theorem yx.hear2{E:zw}(hE:E.ok){s:ASt}(h:yx E s)(k i:Int)(l:List Int):yx E (xg E s k i l).1:=yx.hear hE (fun s o h _=>by
 show yx E (Yg E s xF E.me (yJ E o E.me)).1;exact yx.hear1 hE h _ _ _) h k i l
theorem yx.take{E:zw}(hE:E.ok){s:ASt}(h:yx E s)(k i:Int)(l:List Int):yx E (yA E s k i l).1:=by
 unfold yA;split
 ·split
  ·exact h
  ·rename_i hn;have hw:(zv E l).2=true:=by simpa using hn
   have h2:yx E {s with dealt:=some (zv E l).1}:={heard:=h.heard,dealt:=fun x hx=>by injection hx with hx;subst hx;exact Zg hw,own:=h.own};exact yx.hear2 hE h2 _ _ _
 ·split
  ·exact yx.hear2 hE h _ _ _
  ·exact h
theorem yx.start(E:zw):yx E ASt.start:=⟨fun _ _ _ h=>by simp [ASt.start] at h,fun _ h=>by simp [ASt.start] at h,fun _ h=>by simp [ASt.start] at h⟩
theorem Acc.low{α:Type}{E:Enc α}{b b':Nat}{e:TypeId}{X:Nat→Prop}{w:World}{v:Value}{xs:List α}(h:Acc E b e X w v xs)(hb:b'≤b):Acc E b' e X w v xs:=by
 obtain ⟨h0,css,h1,h2,h3,h4⟩:=h;refine ⟨h0,css,h1,h2,h3, ?_⟩;rcases h4 with h4|⟨g,cap,cur,e1,e2,h5⟩
 ·exact .inl h4
 ·exact .inr ⟨g,cap,cur,e1,Nat.le_trans hb e2,h5⟩
def xw(X:Nat→Prop)(gA gM nn:Nat)(E:zw)(w:World)(r:ASt×List yL)(e:Ending)(w':World):Prop:= ∃v Z,e= .returned v∧(∀g,Z g→w.heap.size≤g)∧Acc YC w.heap.size 71 Z w' v r.2∧AvW (fun g=>X g∧ ¬Z g) gA gM nn E r.1 w'∧zj gA gM w w'
end
section
open Go Go.RowKit Go.Shelf Go.Maps
theorem Ui(E:zw)(gA gM:Nat)(vc vd vo:Value)(dn:Bool)(w:World)(hb:Bk w gA 125 (zu E vc vd vo gM dn)):Calls Tryz.prog 31 #[.pointer (some ⟨gA,0,none⟩)] w fun e w'=>e= .returned (.bool dn)∧w'=w:=by
 have hr:=hb.rule;clear hb;go_enter Tryz.func31,Tryz.ntmps31;go_wp2;go_ret;exact ⟨rfl,rfl⟩
theorem QB(w:World):Calls Tryz.prog 31 #[.pointer none] w fun e w'=>e= .returned (.bool false)∧w'=w:=by
 go_enter Tryz.func31,Tryz.ntmps31;go_wp2;go_ret;exact ⟨rfl,rfl⟩
theorem Iw(w:World):Calls Tryz.prog 26 #[.pointer none] w fun e w'=>e= .returned (.tuple #[.slice none 0 0, .slice none 0 0, .bool false])∧w'=w:=by
 go_enter Tryz.func26,Tryz.ntmps26;go_wp2_with (refine (QB w).mono ?_;rintro e w1 ⟨rfl,rfl⟩);go_ret3;exact ⟨rfl,rfl⟩
def Fn(w:World)(l:List (Int×Int))(c:List (List Int))(e:Ending)(w':World):Prop:= ∃v1 v2,e= .returned (.tuple #[v1,v2, .bool true])∧Sl zo (fun g=>w.heap.size≤g) w' v1 l∧Sl (zh ze) (fun g=>w.heap.size≤g) w' v2 c∧w.grownBy w' none
attribute [local go_sem] Oper.semAt_some
theorem Ou(E:zw)(st:ASt)(gA gM nn:Nat)(o:zL)(X:Nat→Prop)(w:World)(hE:E.ok)(hA:AvW X gA gM nn E st w)(hd:st.done=true)(ho:st.own=some o)(hle:yU o):
  Calls Tryz.prog 26 #[.pointer (some ⟨gA,0,none⟩)] w (Fn w (o.a.map (atP E.p.Q 0)) (Qm o.m)):=by
 obtain ⟨⟨vc,vd,vo,hb,_,_,hvo⟩,_,_⟩:=hA;rw [hd] at hb;rw [ho] at hvo;obtain ⟨b,rfl,vm,va,vb,_,hbk,s1,s2,_⟩:=hvo;have HD:=za (Ui E gA gM vc vd _ true w hb);have HB:=za hb;have HBK:=za hbk;have hr:=hb.rule;have hrb:=hbk.rule;have HLE:=za hle;obtain ⟨m,hm⟩: ∃y,y=o.m:=⟨_,rfl⟩;have HML:Hid (m.length≤10∧ ∀f∈m,f.length≤3∧ ∀r∈f,1≤r.length∧r.length≤3):=za (by rw [hm];exact hle.m);obtain ⟨PT,hPT⟩: ∃y,y=o.a.map (atP E.p.Q 0):=⟨_,rfl⟩;have HDA:Hid (∀W,w.grownBy W none→Calls Tryz.prog 38 #[va, .int .u64 0, .int .u64 E.p.Q] W (zH zo (fun g=>W.heap.size≤g) W PT)):=za (fun W hW=>by
  rw [hPT];exact XD va o.a 0 E.p.Q X W (s2.kept hW) ⟨by decide,by decide⟩ (by have:=hle.a.1;omega) (fun c hc=>by have:=hle.a.2 c hc;omega))
 obtain ⟨Aa,na,ca,rfl⟩:=s2.shape;rw [←hm] at s1 ⊢;rw [←hPT];have HM:=za s1;obtain ⟨Am,cm,rfl,hc1,hc2⟩:=s1.form;obtain ⟨N,hN⟩: ∃y,y=m.length:=⟨_,rfl⟩;have HNE:=za hN;have hN10:N≤10:=by have:=HML.out.1;omega
 rw [←hN] at hc1 HBK hrb HM;clear hE hd ho hle hb hbk s1 s2 hm hPT HLE hN;unfold Qm;go_enter Tryz.func26,Tryz.ntmps26;go_wp2_with (refine HD.out.mono ?_;rintro e w1 ⟨rfl,ew⟩;subst w1);go_loopg [5,22] N (fun g s5 s22 wx=> ∃j:Nat,j+g=N∧s22= .int .i64 j∧Hid (Acc (zh ze) w.heap.size 31 (fun g=>w.heap.size≤g) wx s5 ((m.take j).map fun f=>f.map fun row=>row.headD 0)∧w.grownBy wx none))
 case atStart=>exact ⟨0,by omega,rfl,za ⟨Acc.nil _ _ _ _ _,gRf⟩⟩
 case round=>
  rename World=>wr0
  obtain ⟨s,hs,rfl,HX⟩:=hrel;cases gk with
  |zero=>
   obtain rfl:s=N:=by omega
   have HR:Hid (Sl (zh ze) (fun g=>w.heap.size≤g) wr0 u5 (m.map fun f=>f.map fun row=>row.headD 0)∧w.grownBy wr0 none):=za ⟨by have:=HX.out.1.sl;rwa [List.take_of_length_le (by rw [←HNE.out];exact Nat.le_refl _)] at this,HX.out.2⟩;clear HX hr hrb;have HRL:Hid (∀w',wr0.grownBy w' none→(∀o,w'.cell? ⟨gA,o,none⟩=(zu E vc vd (.pointer (some ⟨b,0,none⟩)) gM true)[o]?)∧ ∀o,w'.cell? ⟨b,o,none⟩=(#[.slice Am s cm, .slice Aa na ca,vb]:Array Value)[o]?):=za (fun w' hw'=>⟨(HB.out.grown (HR.out.2.trans hw') (by simp)).rule,(HBK.out.grown (HR.out.2.trans hw') (by simp)).rule⟩);have HRD:Hid (wr0.grownBy wr0.drew none):=za (zb wr0 1);obtain ⟨A5,n5,c5,e5⟩:=HR.out.1.shape;subst e5;go_upto_region 15 with (fail)
   refine Zf 17 ?_;refine mP0 (.pointer (some ⟨gA,0,none⟩)) ?_;refine mP1 (.pointer (some ⟨gA,0,none⟩)) 0 44 ?_;refine mP1 (.pointer (some ⟨gA,16,none⟩)) 1 45 ?_;refine mQ1 (.pointer (some ⟨b,0,none⟩)) 2 46 (fun w' hw' K hK=> ?_) ?_
   ·obtain ⟨hc,hcb⟩:=HRL.out w' (HRD.out.trans hw');go_simp;exact hK _ rfl rfl
   refine mP1 (.pointer (some ⟨b,0,none⟩)) 3 47 ?_;refine mP1 (.pointer (some ⟨b,1,none⟩)) 4 48 ?_;refine mQ1 (.slice Aa na ca) 5 49 (fun w' hw' K hK=> ?_) ?_
   ·obtain ⟨hc,hcb⟩:=HRL.out w' (HRD.out.trans hw');go_simp;exact hK _ rfl rfl
   refine mP0 (.pointer (some ⟨gA,0,none⟩)) ?_;refine mP1 (.pointer (some ⟨gA,0,none⟩)) 7 51 ?_;refine mP1 (.pointer (some ⟨gA,0,none⟩)) 8 52 ?_;refine mP1 (.pointer (some ⟨gA,1,none⟩)) 9 53 ?_;refine mQ1 (.int .u64 E.p.Q) 10 54 (fun w' hw' K hK=> ?_) ?_
   ·obtain ⟨hc,hcb⟩:=HRL.out w' (HRD.out.trans hw');go_simp;exact hK _ rfl rfl
   refine mN2 (Pv.sl zo (fun g=>w.heap.size≤g) PT) 6 50 11 55 (fun w' hw' K hK=> ?_) ?_
   ·go_simp;refine (HDA.out w' (HR.out.2.trans (HRD.out.trans hw'))).mono ?_;rintro e w3 ⟨v,rfl,hs3,hg3⟩;exact hK _ _ rfl (hs3.more fun g _ hg=>Nat.le_trans (HR.out.2.trans (HRD.out.trans hw')).size hg) hg3
   refine mP0 (.slice A5 n5 c5) ?_;refine mV (Pv.sl zo (fun g=>w.heap.size≤g) PT) [(12,56)] (fun w' hw' x56 h56=>kD fun K hK=> ?_) ?_
   ·have h56:Sl zo (fun g=>w.heap.size≤g) w' x56 PT:=h56;go_simp;exact hK _ _ rfl h56 gRf
   refine mP1 (.slice A5 n5 c5) 13 57 ?_;refine mP0 (.bool true) ?_;intro w3 hw3
   iterate 14 (refine pD ?_;intro _)
   intro y14 k14 y15 k15 y16 k16;have e14:Sl zo (fun g=>w.heap.size≤g) w3 y14 PT:=k14;have e15:y15= .slice A5 n5 c5:=k15;have e16:y16= .bool true:=k16;subst e15 e16;have HF:Hid (Sl zo (fun g=>w.heap.size≤g) w3 y14 PT∧Sl (zh ze) (fun g=>w.heap.size≤g) w3 (.slice A5 n5 c5) (m.map fun f=>f.map fun row=>row.headD 0)∧w.grownBy w3 none):=za ⟨e14,HR.out.1.kept (HRD.out.trans hw3),HR.out.2.trans (HRD.out.trans hw3)⟩;clear k14 k15 k16 e14 hw3;refine wpList_nil ?_;simp only [Act.put,sAa,sAb,sAc];go_wp2_with fail;go_ret3;exact ⟨_,_,rfl,HF.out⟩
  |succ gm=>
   have hsn:(s:Int)< (N:Int):=by omega
   have hs0:(0:Int)≤(s:Int):=Int.natCast_nonneg s;have hsN:s< m.length:=by rw [←HNE.out];omega
   have HACC:=za HX.out.1;have HG3:=za HX.out.2;obtain ⟨g,o',c',u,e,_,_,hcu0,hsu⟩:=HM.out.atS hsN;injection e with e1 e2 e3
   subst e1 e3;have hcu:wr0.cell? ⟨g,o'+s,none⟩=some u:=cell_kept hcu0 HG3.out (by simp);have HFL:Hid (m[s].length≤3∧ ∀r∈m[s],1≤r.length∧r.length≤3):=za (HML.out.2 _ (List.getElem_mem hsN));have HSNo:Hid ((m.take (s+1)).map (fun f=>f.map fun row=>row.headD 0)=(m.take s).map (fun f=>f.map fun row=>row.headD 0)++ [m[s].map fun row=>row.headD 0]):=za (by rw [List.take_succ_eq_append_getElem hsN,List.map_append];rfl);have HLBo:Hid ((((m.take s).map fun f=>f.map fun row=>row.headD 0).length+1)*24≤140737488355328):=za (by rw [List.length_map,List.length_take];omega);obtain ⟨f,hf⟩: ∃y,y=m[s]:=⟨_,rfl⟩;rw [←hf] at hsu HFL HSNo;obtain ⟨RO,hRO⟩: ∃y,y=(m.take s).map (fun f=>f.map fun row=>row.headD 0):=⟨_,rfl⟩;rw [←hRO] at HACC HSNo HLBo;obtain ⟨fr,hfr⟩: ∃y,y=f.map fun row=>row.headD 0:=⟨_,rfl⟩
   have HFR:=za hfr;rw [←hfr] at HSNo;clear hRO hfr;have HF:=za hsu;obtain ⟨Af,cf,e4,hf1,hf2⟩:=hsu.form;subst e4;obtain ⟨t,ht⟩: ∃y,y=f.length:=⟨_,rfl⟩;have HTE:=za ht;have ht3:t≤3:=by have:=HFL.out.1;omega
   rw [←ht] at hf1 hcu;clear HX hsu hcu0 e2 hf hsN ht hr hrb;go_wp2_with fail;go_loopg [8,28] t (fun g s8 s28 wx=> ∃k:Nat,k+g=t∧s28= .int .i64 k∧Hid (Acc ze wr0.heap.size 22 (fun g=>wr0.heap.size≤g) wx s8 ((f.take k).map fun row=>row.headD 0)∧wr0.grownBy wx none))
   case atStart=>exact ⟨0,by omega,rfl,za ⟨Acc.nil _ _ _ _ _,gRf⟩⟩
   case round=>
    rename World=>wy
    obtain ⟨k,hk,rfl,HY⟩:=hrel;cases gk with
    |zero=>
     obtain rfl:k=t:=by omega
     have hacc:=HY.out.1;rw [List.take_of_length_le (by rw [←HTE.out];exact Nat.le_refl _), ←HFR.out] at hacc;have HSl:=za hacc.sl;obtain ⟨A8,n8,c8,e8⟩:=hacc.sl.shape;subst e8;have HAO2:=za (HACC.out.kept HY.out.2);have HG5:=za (HG3.out.trans HY.out.2);have HREP:Hid ((zh ze).rep (fun g=>w.heap.size≤g∧some g≠u5.ownBlock) wy [.slice A8 n8 c8] fr):=za ⟨_,rfl,HSl.out.more fun g _ hx=>⟨Nat.le_trans HG3.out.size hx,fun e=>by
      have:=(HACC.out.lt g e.symm).2
      omega⟩⟩
     clear HY hacc;go_wp2_with (at_builtin;refine zC rfl (.tmp 39) (.tmp 41) rfl (E:=zh ze) Zb HG5.out HAO2.out (fun _ h=>h) HREP.out HLBo.out rfl rfl ?_);intro v2 w9 hacc2 hg9 _;have HFIN:Hid (Acc (zh ze) w.heap.size 31 (fun g=>w.heap.size≤g) w9 v2 ((m.take (s+1)).map fun f=>f.map fun row=>row.headD 0)∧w.grownBy w9 none):=za ⟨by rw [HSNo.out];exact hacc2,hg9⟩;clear hacc2 hg9;go_wp2_with fail;go_roundg gm
     case measure=>omega
     case rel=>exact ⟨s+1,by omega,by go_num,HFIN⟩
    |succ m2=>
     have hkt:(k:Int)< (t:Int):=by omega
     have hk0:(0:Int)≤(k:Int):=Int.natCast_nonneg k;have hkT:k< f.length:=by rw [←HTE.out];omega
     have HAC:=za HY.out.1;have HG4:=za HY.out.2;obtain ⟨g2,o2,c2,u2,e2,_,_,hcu2,hsu2⟩:=(HF.out.kept (HG3.out.trans HY.out.2)).atS hkT;injection e2 with e1 e2 e3
     subst e1 e3;have hl:=HFL.out.2 _ (List.getElem_mem hkT);have HSNi:Hid ((f.take (k+1)).map (fun row=>row.headD 0)=(f.take k).map (fun row=>row.headD 0)++ [f[k].headD 0]):=za (by rw [List.take_succ_eq_append_getElem hkT,List.map_append];rfl);have HLB:Hid ((((f.take k).map fun row=>row.headD 0).length+1)*8≤140737488355328):=za (by rw [List.length_map,List.length_take];omega);obtain ⟨RI,hRI⟩: ∃y,y=(f.take k).map (fun row=>row.headD 0):=⟨_,rfl⟩;rw [←hRI] at HAC HSNi HLB;clear hRI;obtain ⟨r,hr⟩: ∃y,y=f[k]:=⟨_,rfl⟩;rw [←hr] at hsu2 hl HSNi;obtain ⟨g3,o3,c3,e3,_,_,hcx,hux⟩:=hsu2.atU (k:=0) (by omega);subst e3;obtain ⟨x,hx⟩: ∃y,y=r[0]:=⟨_,rfl⟩;have HXE:Hid (r.headD 0=x):=za (by
      cases r with
      |nil=>simp at hl
      |cons a l=>rw [hx];rfl)
     rw [←hx] at hcx hux;rw [Nat.add_zero] at hcx;have HUX:=za hux;obtain ⟨n3,hn3⟩: ∃y,y=r.length:=⟨_,rfl⟩;rw [←hn3] at hcu2 hl;have hl1:(0:Int)< (n3:Int):=by omega
     clear HY hsu2 hx hux hkT e2 hr hn3;go_wp2_with (at_builtin;refine zC rfl (.tmp 32) (.tmp 36) rfl (E:=ze) (y:=x) xd HG4.out HAC.out (fun _ h=>h) ⟨rfl,HUX.out⟩ HLB.out rfl rfl ?_);intro v9 w9 hacc9 hg9 _;have HFIN:Hid (Acc ze wr0.heap.size 22 (fun g=>wr0.heap.size≤g) w9 v9 ((f.take (k+1)).map fun row=>row.headD 0)∧wr0.grownBy w9 none):=za ⟨by rw [HSNi.out,HXE.out];exact hacc9,hg9⟩;clear hacc9 hg9;go_wp2_with fail;go_roundg m2
     case measure=>omega
     case rel=>exact ⟨k+1,by omega,by go_num,HFIN⟩
end
section
open Go Go.RowKit Go.Shelf Go.Maps
section
variable {X Y:Nat→Prop} {W W':World} {gM nn:Nat} {hd:Int→Int→Option zL}
theorem Vn(w:World):(zeroValue 123).run Tryz.prog w= .ok (.pointer none) w:=by kernel_rfl
attribute [local irreducible] plL
theorem zO.look(h:zO X W gM nn hd)(k i:Int)(hk:0≤k∧k< 256)(hi:I64 i): ∃v,(Instr.lookup 122 (.map (some gM)) (plV k i) true).run Tryz.prog W= .ok (.tuple #[v, .bool (hd k i).isSome]) W∧Uk X W v (hd k i):=by
 obtain ⟨D,h1,h2⟩:=h;obtain ⟨v,ps,hr,hv⟩:=h1.look_ok XP Tryz.underlying122 (Vn W) (zd:= .lit (.int .i64 (-1))) (zp:= []) rfl (ZK k i hk hi)
 have:=h2 k i hk hi
 revert this
 cases hh:hd k i with
 |none=>
  intro hf;rw [hf] at hr;rw [Maps.atKey_of_not_has hf] at hv;exact ⟨v,hr,Xw hv⟩
 |some x=>
  rintro ⟨ht,b,hb,hp⟩;rw [ht] at hr;rw [hb] at hv;exact ⟨v,hr,b,Xv hv,hp⟩
theorem zO.lookA(h:zO X W gM nn hd)(k i:Int)(hk:0≤k∧k< 256)(hi:I64 i): ∃v,(∀W',W.grownBy W' none→(Instr.lookup 122 (.map (some gM)) (plV k i) true).run Tryz.prog W'= .ok (.tuple #[v, .bool (hd k i).isSome]) W'∧(Instr.lookup 122 (.map (some gM)) (plV k i) false).run Tryz.prog W'= .ok v W')∧Uk X W v (hd k i):=by
 obtain ⟨D,h1,h2⟩:=h;have H1: ∀W',W.grownBy W' none→W'.ownsMap Tryz.prog 133 QZ gM nn D:=fun W' hg=>h1.kept hg (by simp)
 have:=h2 k i hk hi
 revert this
 cases hh:hd k i with
 |none=>
  intro hf;refine ⟨.pointer none,fun W' hg=>⟨?_, ?_⟩,rfl⟩
  ·obtain ⟨v,ps,hr,hv⟩:=(H1 W' hg).look_ok XP Tryz.underlying122 (Vn W') (zd:= .lit (.int .i64 (-1))) (zp:= []) rfl (ZK k i hk hi);rw [hf] at hr;rw [Maps.atKey_of_not_has hf] at hv;rw [Xw hv] at hr;exact hr
  ·obtain ⟨v,ps,hr,hv⟩:=(H1 W' hg).lookup XP Tryz.underlying122 (Vn W') (zd:= .lit (.int .i64 (-1))) (zp:= []) rfl (ZK k i hk hi);rw [Maps.atKey_of_not_has hf] at hv;rw [Xw hv] at hr;exact hr
 |some x=>
  rintro ⟨ht,b,hb,hp⟩;refine ⟨.pointer (some ⟨b,0,none⟩),fun W' hg=>⟨?_, ?_⟩,b,rfl,hp⟩
  ·obtain ⟨v,ps,hr,hv⟩:=(H1 W' hg).look_ok XP Tryz.underlying122 (Vn W') (zd:= .lit (.int .i64 (-1))) (zp:= []) rfl (ZK k i hk hi);rw [ht] at hr;rw [hb] at hv;rw [Xv hv] at hr;exact hr
  ·obtain ⟨v,ps,hr,hv⟩:=(H1 W' hg).lookup XP Tryz.underlying122 (Vn W') (zd:= .lit (.int .i64 (-1))) (zp:= []) rfl (ZK k i hk hi);rw [hb] at hv;rw [Xv hv] at hr;exact hr
theorem zO.put(h:zO X W gM nn hd)(hn:nn< maxLen)(k i:Int)(hk:0≤k∧k< 256)(hi:I64 i){b:Nat}{x:zL}(hp:zJ X W b x)(hM: ¬X gM): ∃W',(Instr.mapUpdate 122 (.map (some gM)) (plV k i) (.pointer (some ⟨b,0,none⟩))).run Tryz.prog W= .ok () W'∧zO X W' gM (nn+1) (fun k' i'=>if k'=k∧i'=i then some x else hd k' i')∧W.grownBy W' (some gM):=by
 obtain ⟨D,h1,h2⟩:=h;obtain ⟨W',hr,h3,hg⟩:=h1.update XP Tryz.underlying122 hn (ZK k i hk hi) (ML b);have hne: ∀g,X g→some g≠some gM:=fun g hx e=>by
  injection e with e
  subst e;exact hM hx
 refine ⟨W',hr,⟨_,h3,fun k' i' hk' hi'=> ?_⟩,hg⟩;by_cases e:k'=k∧i'=i
 ·obtain ⟨rfl,rfl⟩:=e;simp only [and_self,if_true];have hlit:=Hg _ _ hk hi;exact ⟨Maps.has_put_same h1.isMap hlit _,b,Maps.atKey_put_same h1.isMap hlit _ _,hp.keep hg hne⟩
 ·have hl:plL k' i'≠plL k i:=fun e'=>e (Hh hk' hi' hk hi e')
  simp only [if_neg e]
  have:=h2 k' i' hk' hi'
  revert this
  cases hd k' i' with
  |none=>exact fun hf=>by rw [Maps.has_put_other hl];exact hf
  |some y=>exact fun ⟨a,c,d,f⟩=>⟨by rw [Maps.has_put_other hl];exact a,c,by rw [Maps.atKey_put_other hl];exact d,f.keep hg hne⟩
end
end
section
open Go
def upI(l:List Nat):List Int:=l.map fun (a:Nat)=>(a:Int)+1
def Up:List (List Int):=(List.range 7).flatMap fun a=>(List.range 7).flatMap fun b=>if a< b then upI [a,b]::((List.range 7).filterMap fun c=>if b< c then some (upI [a,b,c]) else none) else []
def kC(xs:List Int)(i:Nat):Int:=((GA (xB 11 xs 0 i) 11).getD 0:Nat)
def wC(xs:List Int)(i:Nat):List Int:=zS 11 (Py 11 xs) (xs[i]?.getD 0)
theorem Ef:zY 11=true:=by decide
theorem El(xs:List Int)(i:Nat):TW (xB 11 xs 0 i) 11=kC xs i:=Ll (by decide)
end
section
open Go
theorem NH{E:zw}{s:ASt}{k i:Int}{m:List (List (List Int))}(h:i∈xn E s k m):(1≤i∧i≤E.p.N)∧(s.heard k i).isSome=true:=by
 unfold xn at h;obtain ⟨h1,h2⟩:=List.mem_filter.1 h;unfold It at h1;obtain ⟨j,hj,rfl⟩:=List.mem_map.1 h1
 have:=List.mem_range.1 hj
 refine ⟨by omega, ?_⟩;unfold RM at h2
 revert h2
 cases s.heard k ((j:Int)+1) with
 |none=>intro h;cases h
 |some x=>intro _;rfl
theorem NI(E:zw)(s:ASt)(k:Int)(m:List (List (List Int))):(xn E s k m).length≤E.p.N.toNat:=by
 unfold xn;refine Nat.le_trans (List.length_filter_le _ _) ?_;unfold It;simp
theorem Gq(N:Int):(It N).Pairwise (· < ·):=by
 unfold It;rw [List.pairwise_map];exact List.pairwise_lt_range.imp fun {a b} h=>by omega
theorem Kc(E:zw)(s:ASt)(k:Int)(m:List (List (List Int))):(xn E s k m).Pairwise (· < ·):=(Gq E.p.N).filter _
theorem YH(E:zw)(s:ASt)(m:List (List (List Int)))(hne:zG E s m≠ []): ∃k,(k=VN∨k=xF)∧zG E s m=(xn E s k m).map (fun i=>(k,i))∧(((xn E s k m).length:Int)>(E.p.N+E.p.T).tdiv 2∨((xn E s k m).length:Int)>E.p.T):=by
 unfold zG at hne ⊢;split
 ·rename_i h;exact ⟨VN, .inl rfl,rfl, .inl h⟩
 ·split
  ·rename_i h;exact ⟨xF, .inr rfl,rfl, .inr h⟩
  ·rename_i h1 h2;rw [if_neg h1,if_neg h2] at hne;exact absurd rfl hne
theorem VU{E:zw}{s:ASt}{m:List (List (List Int))}: ∀h∈zG E s m,(s.heard h.1 h.2).isSome=true∧1≤h.2∧h.2≤E.p.N:=fun h hh=>by
 obtain ⟨k,_,e,_⟩:=YH E s m (fun e=>by rw [e] at hh;cases hh);rw [e] at hh;obtain ⟨i,hi,rfl⟩:=List.mem_map.1 hh
 have:=NH hi
 exact ⟨this.2,this.1⟩
theorem UQ{E:zw}(hE:E.ok){s:ASt}{m:List (List (List Int))}(hne:zG E s m≠ []):E.p.T+1≤((zG E s m).length:Int)∧(zG E s m).length≤7:=by
 obtain ⟨_,_,_,hN1,hN2,_,hT1,hT2,hNT,_⟩:=zD hE.may;obtain ⟨k,_,e,h⟩:=YH E s m hne;have hl:=NI E s k m;have hq:(E.p.N+E.p.T).tdiv 2=(E.p.N+E.p.T) / 2:=Int.tdiv_eq_ediv_of_nonneg (by omega);rw [hq] at h;rw [e,List.length_map];omega
theorem Je: ∀a,a< 7→ ∀b,b< 7→a< b→upI [a,b]∈Up:=by decide+kernel
theorem Mq: ∀a∈List.range 7, ∀b∈List.range 7, ∀c∈List.range 7,a< b→b< c→upI [a,b,c]∈Up:=by decide+kernel
theorem Jd(a:Nat)(ha:a< 7)(b:Nat)(hb:b< 7)(h:a< b)(c:Nat)(hc:c< 7)(h2:b< c):upI [a,b,c]∈Up:=Mq a (List.mem_range.2 ha) b (List.mem_range.2 hb) c (List.mem_range.2 hc) h h2
theorem IW{l:List Int}(h:l.Pairwise (· < ·))(hb: ∀x∈l,1≤x∧x≤7)(hl:l.length=2∨l.length=3):l∈Up:=by
 rcases hl with e|e
 ·match l,e with
  | [a,b],_=>
   simp at h hb
   have:=Je (a - 1).toNat (by omega) (b - 1).toNat (by omega) (by omega)
   have e:upI [(a - 1).toNat,(b - 1).toNat]= [a,b]:=by simp [upI];omega
   rwa [e] at this
 ·match l,e with
  | [a,b,c],_=>
   simp at h hb
   have:=Jd (a - 1).toNat (by omega) (b - 1).toNat (by omega) (by omega) (c - 1).toNat (by omega) (by omega)
   have e:upI [(a - 1).toNat,(b - 1).toNat,(c - 1).toNat]= [a,b,c]:=by simp [upI];omega
   rwa [e] at this
theorem Nu{E:zw}(hE:E.ok){s:ASt}{m:List (List (List Int))}(hne:zG E s m≠ []):((zG E s m).take (E.p.T+1).toNat).map (·.2)∈Up:=by
 obtain ⟨_,_,_,hN1,hN2,_,hT1,hT2,hNT,_⟩:=zD hE.may;have hl:=UQ hE hne;obtain ⟨k,_,e,h⟩:=YH E s m hne;refine IW ?_ ?_ ?_
 ·rw [e, ←List.map_take,List.map_map]
  have:(fun x:Int×Int=>x.2) ∘ (fun i=>(k,i))=id:=rfl
  rw [this,List.map_id];exact (Kc E s k m).sublist (List.take_sublist _ _)
 ·intro x hx;obtain ⟨y,hy,rfl⟩:=List.mem_map.1 hx
  have:=(VU y (List.mem_of_mem_take hy)).2
  omega
 ·rw [List.length_map,List.length_take];omega
def Jb(xs ys:List Int):List Int:=if xs.length=ys.length then (List.range xs.length).foldl (fun out i=>PM 11 out (xC 11 (wC xs i) (yg (kC xs i) (ys[i]?.getD 0) 11))) (List.replicate xs.length 0) else []
def Dw(xs:List Int):Bool:=decide (yX xs 11=0) && (List.range xs.length).all fun i=>(GA (xB 11 xs 0 i) 11).isSome
theorem Gk:Up.all Dw=true:=by decide+kernel
theorem KH{xs:List Int}(h:xs∈Up):IQ 11 xs 0=0:=by
 have h1:=List.all_eq_true.1 Gk xs h;simp only [Dw,Bool.and_eq_true,decide_eq_true_eq] at h1;unfold IQ;rw [if_pos h1.1,if_pos];intro i hi;exact (VP (by decide)).2 (List.all_eq_true.1 h1.2 i (List.mem_range.2 hi))
theorem Ja{xs:List Int}(h:xs∈Up)(ys:List Int):Uy 11 xs ys=if xs.length=ys.length then YQ 11 xs ys xs.length else []:=by
 by_cases e:xs.length=ys.length
 ·have h0:OF 11 xs ys=0:=by
   unfold OF;rw [if_pos ⟨Ef,e⟩];exact KH h
  unfold Uy;rw [if_pos h0,if_pos e]
 ·have h1:OF 11 xs ys=1:=by
   unfold OF;rw [if_neg (fun h=>e h.2)]
  unfold Uy;rw [h1,if_neg (by decide),if_neg e]
theorem IB{xs:List Int}(h:xs∈Up)(ys:List Int):Uy 11 xs ys=Jb xs ys:=by
 rw [Ja h];unfold Jb YQ wC;simp only [El]
def Rl(E:zw)(xs:List Int)(ps:List (List (Int×Int))):List (List (Int×Int)):=(List.range E.coms.length).map fun s=>
 ((Jb xs (ps.map fun l=>(l[s]?.getD (0,0)).1)).zip (Jb xs (ps.map fun l=>(l[s]?.getD (0,0)).2)))
def xS(E:zw)(s:ASt)(by_:List (Int×Int))(one:zL→List (Int×Int)):List (List (Int×Int)):=Rl E (by_.map (·.2)) (by_.map fun h=>XJ s h one)
def TL(E:zw)(s:ASt)(m:List (List (List Int)))(by_:List (Int×Int)):zL:=
 match s.dealt with
 |some d=>if d.m=m then d else ⟨m,xS E s (by_.take (E.p.T+1).toNat) (fun x=>zt x.b),xS E s (by_.take (E.p.T+1).toNat) (fun x=>zt x.a)⟩
 |none=>⟨m,xS E s (by_.take (E.p.T+1).toNat) (fun x=>zt x.b),xS E s (by_.take (E.p.T+1).toNat) (fun x=>zt x.a)⟩
def TM(E:zw)(tell:ASt→zL→ASt×List yL)(s:ASt)(kind i:Int)(nums:List Int):ASt×List yL:=
 if (s.heard kind i).isSome=true∨i< 1∨E.p.N< i∨(zk E i nums).2=false then (s, [])
 else
  let x:=(zk E i nums).1
  let s1:=s.put kind i x
  if s1.own=none∧zG E s1 x.m≠ [] then
   let o:=TL E s1 x.m (zG E s1 x.m)
   ZD E (tell {s1 with own:=some o} o).1 (tell {s1 with own:=some o} o).2
  else ZD E s1 []
def Oq(E:zw):ASt→Int→Int→List Int→ASt×List yL:=TM E fun s _=>(s, [])
def TN(E:zw):ASt→Int→Int→List Int→ASt×List yL:=TM E fun s o=>ZC E (Oq E) s xF o
def zx(E:zw)(s:ASt)(kind i:Int)(nums:List Int):ASt×List yL:=
 if kind=JR∧i=0∧s.dealt=none then
  (if (zv E nums).2=false then (s, []) else ZC E (TN E) {s with dealt:=some (zv E nums).1} VN (zv E nums).1)
 else if kind=VN∨kind=xF then TN E s kind i nums else (s, [])
theorem Uc{E:zw}(hq:E.p.Q=11)(s:ASt)(bs:List (Int×Int))(one:zL→List (Int×Int))(h:bs.map (·.2)∈Up):yn E s bs one=xS E s bs one:=by
 unfold yn xS Tf Rl;rw [hq];refine List.map_congr_left fun j _=> ?_
 rw [IB h,IB h]
theorem Kd{E:zw}(hE:E.ok)(hq:E.p.Q=11)(s:ASt)(m:List (List (List Int)))(hne:zG E s m≠ []):yG E s m (zG E s m)=TL E s m (zG E s m):=by
 have h:=Nu hE hne;have t1:=Uc hq s _ (fun x=>zt x.b) h;have t2:=Uc hq s _ (fun x=>zt x.a) h;unfold yG TL;dsimp only;rw [t1,t2];cases s.dealt<;>rfl
theorem Oo{E:zw}(hE:E.ok)(hq:E.p.Q=11){t1 t2:ASt→zL→ASt×List yL}(ht: ∀s o,t1 s o=t2 s o)(s:ASt)(k i:Int)(l:List Int):xh E t1 s k i l=TM E t2 s k i l:=by
 unfold xh TM;split
 ·rfl
 ·dsimp only;split
  ·rename_i h;rw [Kd hE hq _ _ h.2,ht]
  ·rfl
theorem Ke{E:zw}(hE:E.ok)(hq:E.p.Q=11)(s:ASt)(k i:Int)(l:List Int):Yg E s k i l=Oq E s k i l:=Oo hE hq (fun _ _=>rfl) s k i l
theorem Om{E:zw}{h1 h2:ASt→Int→Int→List Int→ASt×List yL}(h: ∀s k i l,h1 s k i l=h2 s k i l)(s:ASt)(k:Int)(x:zL):ZC E h1 s k x=ZC E h2 s k x:=by
 unfold ZC;rw [h]
theorem Qr{E:zw}(hE:E.ok)(hq:E.p.Q=11)(s:ASt)(k i:Int)(l:List Int):xg E s k i l=TN E s k i l:=Oo hE hq (fun s o=>Om (Ke hE hq) s _ o) s k i l
theorem Vk{E:zw}(hE:E.ok)(hq:E.p.Q=11)(s:ASt)(k i:Int)(l:List Int):yA E s k i l=zx E s k i l:=by
 unfold yA zx;rw [Om (Qr hE hq),Qr hE hq]
end
section
open Go Go.RowKit Go.Shelf Go.Maps
theorem AvW.upN{X:Nat→Prop}{gA gM nn nn':Nat}{E:zw}{st:ASt}{W:World}(h:AvW X gA gM nn E st W)(hn:nn≤nn'):AvW X gA gM nn' E st W:=by
 obtain ⟨h1,⟨D,h2,h3⟩,h4⟩:=h;exact ⟨h1,⟨D,h2.mono hn,h3⟩,h4⟩
theorem xw.no{X:Nat→Prop}{gA gM nn nn':Nat}{E:zw}{st:ASt}{w w':World}(hA:AvW X gA gM nn E st w)(hg:w.grownBy w' none)(hn:nn≤nn'):xw X gA gM nn' E w (st, []) (.returned (.slice none 0 0)) w':=
 ⟨_,fun _=>False,rfl,fun _ h=>h.elim,Acc.nil _ _ _ _ _,((hA.kept hg).upN hn).more fun g _ h=>⟨h,fun e=>e⟩,zj.of hg (.inl rfl)⟩
theorem Qq{E:zw}{tell:ASt→zL→ASt×List yL}{st:ASt}{kind i:Int}{l:List Int}(h:(st.heard kind i).isSome=true∨i< 1∨E.p.N< i∨(zk E i l).2=false):xh E tell st kind i l=(st, []):=by
 unfold xh;rw [if_pos h]
theorem NJ{E:zw}{tell:ASt→zL→ASt×List yL}{st:ASt}{kind i:Int}{l:List Int}(h: ¬((st.heard kind i).isSome=true∨i< 1∨E.p.N< i∨(zk E i l).2=false)):xh E tell st kind i l=(if (st.put kind i (zk E i l).1).own=none∧zG E (st.put kind i (zk E i l).1) (zk E i l).1.m≠ [] then ZD E (tell {(st.put kind i (zk E i l).1) with own:=some (yG E (st.put kind i (zk E i l).1) (zk E i l).1.m (zG E (st.put kind i (zk E i l).1) (zk E i l).1.m))} (yG E (st.put kind i (zk E i l).1) (zk E i l).1.m (zG E (st.put kind i (zk E i l).1) (zk E i l).1.m))).1 (tell {(st.put kind i (zk E i l).1) with own:=some (yG E (st.put kind i (zk E i l).1) (zk E i l).1.m (zG E (st.put kind i (zk E i l).1) (zk E i l).1.m))} (yG E (st.put kind i (zk E i l).1) (zk E i l).1.m (zG E (st.put kind i (zk E i l).1) (zk E i l).1.m))).2 else ZD E (st.put kind i (zk E i l).1) []):=by
 unfold xh;rw [if_neg h]
def Gw(E:zw)(st:ASt)(gA gM:Nat)(vc vd vo:Value)(kind i:Int)(w w0:World)(had:Bool)(vl:Value):Prop:=w.grownBy w0 none∧Bk w0 gA 125 (zu E vc vd vo gM st.done)∧Bk w0 w.heap.size 133 #[.int .u8 kind, .int .i64 i]∧(∀n,(Instr.lookup 122 (.map (some gM)) (plV kind i) true).run Tryz.prog (w0.drewN n)= .ok (.tuple #[vl, .bool had]) (w0.drewN n))
theorem GX(E:zw)(st:ASt)(gA gM nn:Nat)(vc vd vo:Value)(kind i:Int)(X:Nat→Prop)(w:World)(hb:Bk w gA 125 (zu E vc vd vo gM st.done))(hh:zO X w gM nn st.heard)(hk:U8 kind)(hi:I64 i): ∃vl,Gw E st gA gM vc vd vo kind i w (w.alloc (.cells #[.int .u8 kind, .int .i64 i] 133)) (st.heard kind i).isSome vl:=by
 have hg:=gAl w (.cells #[.int .u8 kind, .int .i64 i] 133) none;obtain ⟨v,h1,_⟩:=(hh.keep hg (by simp) (by simp)).lookA kind i hk hi;exact ⟨v,hg,hb.grown hg (by simp),Bk.new w _ _,fun n=>(h1 _ (zb _ n)).1⟩
attribute [local go_sem] Oper.semAt_some
theorem Iu(E:zw)(st:ASt)(gA gM nn nn':Nat)(kind i:Int)(Al:Option Addr)(nl cl:Nat)(X:Nat→Prop)(w:World)(hA:AvW X gA gM nn E st w)(hk:U8 kind)(hi:I64 i)(hn:nn≤nn')(hno:(st.heard kind i).isSome=true∨i< 1∨E.p.N< i):
  Calls Tryz.prog 54 #[.pointer (some ⟨gA,0,none⟩), .agg #[.int .u8 kind, .int .i64 i], .slice Al nl cl] w (xw X gA gM nn' E w (st, [])):=by
 have HA:=za hA;have HN:=za hn;obtain ⟨⟨vc,vd,vo,hb,_⟩,hh,_⟩:=hA;obtain ⟨vl,hp⟩:=GX E st gA gM nn vc vd vo kind i X w hb hh hk hi;obtain ⟨had,hhad⟩: ∃y,y=(st.heard kind i).isSome:=⟨_,rfl⟩;rw [←hhad] at hp hno;have hcase:had=true∨(had=false∧(i< 1∨(¬i< 1∧E.p.N< i))):=by
  cases had with
  |true=>exact .inl rfl
  |false=>
   refine .inr ⟨rfl, ?_⟩;rcases hno with h|h|h
   ·cases h
   ·exact .inl h
   ·by_cases h1:i< 1
    ·exact .inl h1
    ·exact .inr ⟨h1,h⟩
 unfold Gw plV at hp;obtain ⟨hg,hb0,hbp,hlk⟩:=hp;have HG:=za hg;have hr:=hb0.rule;have hrp:=hbp.rule;clear hb hh hk hi hn hno hhad hg hb0 hbp;rcases hcase with rfl|⟨rfl,h1|⟨h1,h2⟩⟩
 ·go_enter Tryz.func54,Tryz.ntmps54;go_wp2_with fail;go_quiet (fail);go_wp2_with fail;go_quiet (fail);go_wp2_with fail;go_ret;exact xw.no HA.out (HG.out.trans ((zb _ _).trans (zb _ _))) HN.out
 ·have hd1:decide (i< 1)=true:=by simpa using h1
  go_enter Tryz.func54,Tryz.ntmps54;go_wp2_with fail;go_quiet (fail);go_wp2_with fail;go_quiet (fail);go_wp2_with fail;go_ret;exact xw.no HA.out (HG.out.trans ((zb _ _).trans (zb _ _))) HN.out
 ·have hd1:decide (i< 1)=false:=by simpa using h1
  have hd2:decide (i>E.p.N)=true:=by simpa using h2
  go_enter Tryz.func54,Tryz.ntmps54;go_wp2_with fail;go_quiet (fail);go_wp2_with fail;go_quiet (fail);go_wp2_with fail;go_ret;exact xw.no HA.out (HG.out.trans ((zb _ _).trans (zb _ _))) HN.out
end
section
open Go Go.RowKit Go.Shelf Go.Maps
theorem Ia(v1 v2:Value)(xs ys:List (List Int))(X Y:Nat→Prop)(w:World)(h1:Sl (zh ze) X w v1 xs)(h2:Sl (zh ze) Y w v2 ys):
  Calls Tryz.prog 207 #[v1,v2, .func (.func 96) #[] #[]] w fun e w'=>e= .returned (.bool (decide (xs=ys)))∧w.grownBy w' none:=by
 have H1:=za h1;have H2:=za h2;obtain ⟨A1,c1,rfl,hc1,hc2⟩:=h1.form;obtain ⟨A2,c2,rfl,hc3,hc4⟩:=h2.form;clear h1 h2;by_cases hl:xs.length=ys.length
 ·have HLN:=za hl;rw [hl] at H1 hc1 ⊢;clear hl;go_enter Tryz.func207,Tryz.ntmps207;go_wp2_with fail;go_loopg [17] ys.length (fun g s17 wx=> ∃j:Nat,j+g=ys.length∧s17= .int .i64 j∧Hid (w.grownBy wx none∧xs.take j=ys.take j))
  case atStart=>exact ⟨0,by omega,rfl,za ⟨World.grownBy.refl w none,rfl⟩⟩
  case round=>
   obtain ⟨j,hj,rfl,HX⟩:=hrel;cases gk with
   |zero=>
    obtain rfl:j=ys.length:=by omega
    have HE:Hid (decide (xs=ys)=true∧w.grownBy wr none):=za ⟨by
     have htk:=HX.out.2;rw [List.take_length, ←HLN.out,List.take_length] at htk;simpa using htk,HX.out.1⟩
    clear HX;go_wp2;go_ret;exact ⟨zm HE.out.1.symm,HE.out.2⟩
   |succ m=>
    have hjn:(j:Int)< (ys.length:Int):=by omega
    have hj0:(0:Int)≤(j:Int):=by omega
    have hjN:j< ys.length:=by omega
    have hjX:j< xs.length:=by rw [HLN.out];exact hjN
    have HG:=za HX.out.1;obtain ⟨g1,o1,c1',x1,e1,_,_,a1,u1⟩:=((HLN.out ▸ H1.out:Sl (zh ze) X w (.slice A1 xs.length c1) xs).kept HG.out).atS hjX;injection e1 with e11 e12 e13
    subst e11 e13;obtain ⟨g2,o2,c2',x2,e2,_,_,a2,u2⟩:=(H2.out.kept HG.out).atS hjN;injection e2 with e21 e22 e23
    subst e21 e23;obtain ⟨A3,n3,c3,rfl⟩:=u1.shape;obtain ⟨A4,n4,c4,rfl⟩:=u2.shape;have HC:=za (UB _ _ xs[j] ys[j] X Y wr u1 u2);have HNX:Hid (xs[j]=ys[j]→xs.take (j+1)=ys.take (j+1)):=za (fun e=>by rw [List.take_succ_eq_append_getElem hjX,List.take_succ_eq_append_getElem hjN,e,HX.out.2]);have HNE:Hid (¬xs[j]=ys[j]→decide (xs=ys)=false):=za (fun h=>by simp only [decide_eq_false_iff_not];intro e;apply h;subst e;rfl);clear HX u1 u2 e12 e22;by_cases hxy:xs[j]=ys[j]
    ·have HN:=za (HNX.out hxy);have HD:Hid (decide (xs[j]=ys[j])=true):=za (by simpa using hxy);rw [HD.out] at HC;clear hxy HD HNX HNE;generalize ys[j]=y at *;generalize xs[j]=x at *;go_wp2_with (refine HC.out.mono ?_;rintro e w1 ⟨rfl,hg1⟩);have HG1:=za (HG.out.trans hg1);clear hg1;go_roundg m
     case measure=>omega
     case rel=>exact ⟨j+1,by omega,by go_num,za ⟨HG1.out,HN.out⟩⟩
    ·have HN:=za (HNE.out hxy);have HD:Hid (decide (xs[j]=ys[j])=false):=za (by simpa using hxy);rw [HD.out] at HC;clear hxy HD HNX HNE;generalize ys[j]=y at *;generalize xs[j]=x at *;go_wp2_with (refine HC.out.mono ?_;rintro e w1 ⟨rfl,hg1⟩);have HG1:=za (HG.out.trans hg1);clear hg1;go_ret;exact ⟨zm HN.out.symm,HG1.out⟩
 ·have hd:((xs.length:Int) !=(ys.length:Int))=true:=by simp;omega
  have HE:Hid (decide (xs=ys)=false):=za (by simp only [decide_eq_false_iff_not];intro e;exact hl (by rw [e]));clear hl;go_enter Tryz.func207,Tryz.ntmps207;go_wp2;go_ret;exact ⟨zm HE.out.symm,World.grownBy.refl w none⟩
theorem MB(v1 v2:Value)(xs ys:List (List Int))(X Y:Nat→Prop)(w:World)(h1:Sl (zh ze) X w v1 xs)(h2:Sl (zh ze) Y w v2 ys):
  Calls Tryz.prog 206 #[v1,v2] w fun e w'=>e= .returned (.bool (decide (xs=ys)))∧w.grownBy w' none:=by
 have HC:=za (Ia v1 v2 xs ys X Y w h1 h2);obtain ⟨A1,c1,rfl,_,_⟩:=h1.form;obtain ⟨A2,c2,rfl,_,_⟩:=h2.form;clear h1 h2;go_enter Tryz.func206,Tryz.ntmps206;go_wp2_with (refine HC.out.mono ?_;rintro e w1 ⟨rfl,hg1⟩);go_ret;exact ⟨rfl,hg1⟩
theorem JZ(v1 v2:Value)(xs ys:List (List (List Int)))(X Y:Nat→Prop)(w:World)(h1:Sl (zh (zh ze)) X w v1 xs)(h2:Sl (zh (zh ze)) Y w v2 ys):
  Calls Tryz.prog 205 #[v1,v2, .func (.func 206) #[] #[]] w fun e w'=>e= .returned (.bool (decide (xs=ys)))∧w.grownBy w' none:=by
 have H1:=za h1;have H2:=za h2;obtain ⟨A1,c1,rfl,hc1,hc2⟩:=h1.form;obtain ⟨A2,c2,rfl,hc3,hc4⟩:=h2.form;clear h1 h2;by_cases hl:xs.length=ys.length
 ·have HLN:=za hl;rw [hl] at H1 hc1 ⊢;clear hl;go_enter Tryz.func205,Tryz.ntmps205;go_wp2_with fail;go_loopg [17] ys.length (fun g s17 wx=> ∃j:Nat,j+g=ys.length∧s17= .int .i64 j∧Hid (w.grownBy wx none∧xs.take j=ys.take j))
  case atStart=>exact ⟨0,by omega,rfl,za ⟨World.grownBy.refl w none,rfl⟩⟩
  case round=>
   obtain ⟨j,hj,rfl,HX⟩:=hrel;cases gk with
   |zero=>
    obtain rfl:j=ys.length:=by omega
    have HE:Hid (decide (xs=ys)=true∧w.grownBy wr none):=za ⟨by
     have htk:=HX.out.2;rw [List.take_length, ←HLN.out,List.take_length] at htk;simpa using htk,HX.out.1⟩
    clear HX;go_wp2;go_ret;exact ⟨zm HE.out.1.symm,HE.out.2⟩
   |succ m=>
    have hjn:(j:Int)< (ys.length:Int):=by omega
    have hj0:(0:Int)≤(j:Int):=by omega
    have hjN:j< ys.length:=by omega
    have hjX:j< xs.length:=by rw [HLN.out];exact hjN
    have HG:=za HX.out.1;obtain ⟨g1,o1,c1',x1,e1,_,_,a1,u1⟩:=((HLN.out ▸ H1.out:Sl (zh (zh ze)) X w (.slice A1 xs.length c1) xs).kept HG.out).atS hjX;injection e1 with e11 e12 e13
    subst e11 e13;obtain ⟨g2,o2,c2',x2,e2,_,_,a2,u2⟩:=(H2.out.kept HG.out).atS hjN;injection e2 with e21 e22 e23
    subst e21 e23;obtain ⟨A3,n3,c3,rfl⟩:=u1.shape;obtain ⟨A4,n4,c4,rfl⟩:=u2.shape;have HC:=za (MB _ _ xs[j] ys[j] X Y wr u1 u2);have HNX:Hid (xs[j]=ys[j]→xs.take (j+1)=ys.take (j+1)):=za (fun e=>by rw [List.take_succ_eq_append_getElem hjX,List.take_succ_eq_append_getElem hjN,e,HX.out.2]);have HNE:Hid (¬xs[j]=ys[j]→decide (xs=ys)=false):=za (fun h=>by simp only [decide_eq_false_iff_not];intro e;apply h;subst e;rfl);clear HX u1 u2 e12 e22;by_cases hxy:xs[j]=ys[j]
    ·have HN:=za (HNX.out hxy);have HD:Hid (decide (xs[j]=ys[j])=true):=za (by simpa using hxy);rw [HD.out] at HC;clear hxy HD HNX HNE;generalize ys[j]=y at *;generalize xs[j]=x at *;go_wp2_with (refine HC.out.mono ?_;rintro e w1 ⟨rfl,hg1⟩);have HG1:=za (HG.out.trans hg1);clear hg1;go_roundg m
     case measure=>omega
     case rel=>exact ⟨j+1,by omega,by go_num,za ⟨HG1.out,HN.out⟩⟩
    ·have HN:=za (HNE.out hxy);have HD:Hid (decide (xs[j]=ys[j])=false):=za (by simpa using hxy);rw [HD.out] at HC;clear hxy HD HNX HNE;generalize ys[j]=y at *;generalize xs[j]=x at *;go_wp2_with (refine HC.out.mono ?_;rintro e w1 ⟨rfl,hg1⟩);have HG1:=za (HG.out.trans hg1);clear hg1;go_ret;exact ⟨zm HN.out.symm,HG1.out⟩
 ·have hd:((xs.length:Int) !=(ys.length:Int))=true:=by simp;omega
  have HE:Hid (decide (xs=ys)=false):=za (by simp only [decide_eq_false_iff_not];intro e;exact hl (by rw [e]));clear hl;go_enter Tryz.func205,Tryz.ntmps205;go_wp2;go_ret;exact ⟨zm HE.out.symm,World.grownBy.refl w none⟩
theorem PS(v1 v2:Value)(xs ys:List (List (List Int)))(X Y:Nat→Prop)(w:World)(h1:Sl (zh (zh ze)) X w v1 xs)(h2:Sl (zh (zh ze)) Y w v2 ys):
  Calls Tryz.prog 169 #[v1,v2] w fun e w'=>e= .returned (.bool (decide (xs=ys)))∧w.grownBy w' none:=by
 have HC:=za (JZ v1 v2 xs ys X Y w h1 h2);obtain ⟨A1,c1,rfl,_,_⟩:=h1.form;obtain ⟨A2,c2,rfl,_,_⟩:=h2.form;clear h1 h2;go_enter Tryz.func169,Tryz.ntmps169;go_wp2_with (refine HC.out.mono ?_;rintro e w1 ⟨rfl,hg1⟩);go_ret;exact ⟨rfl,hg1⟩
end
section
open Go Go.RowKit Go.Shelf Go.Maps
def ZR(s:ASt)(k:Int)(m:List (List (List Int)))(j:Nat):List (Int×Int):=((((List.range j).map fun (i:Nat)=>(i:Int)+1)).filter (RM s k m)).map fun i=>(k,i)
theorem Pk(s:ASt)(k:Int)(m:List (List (List Int)))(j:Nat):ZR s k m (j+1)=ZR s k m j++if RM s k m ((j:Int)+1) then [(k,(j:Int)+1)] else []:=by
 unfold ZR;rw [List.range_succ,List.map_append,List.filter_append,List.map_append]
 congr 1
 simp only [List.map_cons,List.map_nil,List.filter_cons,List.filter_nil];cases RM s k m ((j:Int)+1)<;>rfl
theorem Tz(s:ASt)(k:Int)(m:List (List (List Int)))(j:Nat):(ZR s k m j).length≤j:=by
 unfold ZR;rw [List.length_map];exact Nat.le_trans (List.length_filter_le _ _) (by simp)
theorem Nd(E:zw)(s:ASt)(k:Int)(m:List (List (List Int))):ZR s k m E.p.N.toNat=(xn E s k m).map fun i=>(k,i):=rfl
theorem Ty(E:zw)(st:ASt)(gA gM nn:Nat)(k:Int)(vm:Value)(m:List (List (List Int)))(X Y:Nat→Prop)(w:World)(hE:E.ok)(hA:AvW X gA gM nn E st w)(hk:U8 k)(hm:Sl (zh (zh ze)) Y w vm m):
  Calls Tryz.prog 122 #[.pointer (some ⟨gA,0,none⟩), .int .u8 k,vm] w (zH QJ (fun g=>w.heap.size≤g) w ((xn E st k m).map fun i=>(k,i))):=by
 have HA:=za hA;have HM:=za hm;have HK:=za hk;obtain ⟨_,_,_,hN1,hN2,_⟩:=zD hE.may;obtain ⟨⟨vc,vd,vo,hb,_⟩,_,_⟩:=hA;have HB:=za hb;have hr:=hb.rule;obtain ⟨Am,nm,cm,rfl⟩:=hm.shape;rw [←Nd];clear hE hk hm hb;obtain ⟨N,hN⟩: ∃N:Nat,E.p.N=(N:Int):=⟨E.p.N.toNat,by omega⟩;have HNN:Hid (E.p.N.toNat=N∧N≤7):=za ⟨by omega,by omega⟩;rw [HNN.out.1];go_enter Tryz.func122,Tryz.ntmps122;go_wp2_with fail;go_loopg [7,17] N (fun g s7 s17 wx=> ∃j:Nat,j+g=N∧s17= .int .i64 j∧Hid (Acc QJ w.heap.size 133 (fun g=>w.heap.size≤g) wx s7 (ZR st k m j)∧w.grownBy wx none))
 case atStart=>exact ⟨0,by omega,rfl,za ⟨Acc.nil _ _ _ _ _,gRf⟩⟩
 case round=>
  obtain ⟨j,hj,rfl,HX⟩:=hrel;rcases Nat.eq_zero_or_pos gk with hg0|hg0
  ·obtain rfl:j=N:=by omega
   have HR:Hid (Sl QJ (fun g=>w.heap.size≤g) wr u7 (ZR st k m j)∧w.grownBy wr none):=za ⟨HX.out.1.sl,HX.out.2⟩;clear HX hr hg0;go_wp2;go_ret;exact ⟨_,rfl,HR.out.1,HR.out.2⟩
  ·have hjn:(j:Int)< (N:Int):=by omega
   have hw1:IntKind.i64.wrap ((j:Int)+1)=(j:Int)+1:=IntWalk.i64_in _ (by omega);obtain ⟨hacc,hg⟩:=HX.out;have HG0:Hid (wr.grownBy (wr.alloc (.cells #[.int .u8 k, .int .i64 ((j:Int)+1)] 133)) none):=za (gAl wr _ none);have HGW:=za (hg.trans HG0.out);have HW1:=za (HA.out.kept HGW.out);have hr1:=(HB.out.grown HGW.out (by simp)).rule;have HBP:Hid (Bk (wr.alloc (.cells #[.int .u8 k, .int .i64 ((j:Int)+1)] 133)) wr.heap.size 133 #[.int .u8 k, .int .i64 ((j:Int)+1)]):=za (Bk.new wr _ _);have HAC:=za (hacc.kept HG0.out);have hrp:=HBP.out.rule;have HSN:=za (Pk st k m j);have HLB:Hid (((ZR st k m j).length+1)*16≤140737488355328):=za (by have:=Tz st k m j;have:=HNN.out;omega);have HI:Hid (I64 ((j:Int)+1)):=za ⟨by have:=HNN.out;omega,by have:=HNN.out;omega⟩;clear hacc hg HX hr;obtain ⟨wa,hwa⟩: ∃wa,wa=wr.alloc (.cells #[.int .u8 k, .int .i64 ((j:Int)+1)] 133):=⟨_,rfl⟩;rw [←hwa] at HGW HW1 hr1 HBP HAC hrp;obtain ⟨v,hlA,hpt⟩:=zO.lookA HW1.out.heard k ((j:Int)+1) HK.out HI.out;have hlk:=fun n=>(hlA (wa.drewN n) (zb wa n)).1
   unfold plV at hlk;clear hlA;cases hh:st.heard k ((j:Int)+1) with
   |none=>
    rw [hh] at hlk hpt;obtain rfl:v= .pointer none:=hpt;have HFIN:Hid (∀n,Acc QJ w.heap.size 133 (fun g=>w.heap.size≤g) (wa.drewN n) u7 (ZR st k m (j+1))∧w.grownBy (wa.drewN n) none):=za fun n=>⟨by
     rw [HSN.out];simp only [RM,hh,Bool.false_eq_true,if_false,List.append_nil];exact HAC.out.kept (zb wa n),HGW.out.trans (zb wa n)⟩
    clear hh HSN HAC;rw [hwa] at hr1 hrp hlk HFIN;go_wp2_with fail;go_quiet (fail);go_wp2_with fail;go_roundg (gk - 1)
    case measure=>omega
    case rel=>exact ⟨j+1,by omega,by go_num,za (HFIN.out _)⟩
   |some x=>
    rw [hh] at hlk hpt;obtain ⟨b,rfl,hp⟩:=hpt;obtain ⟨vm',va',vb',_,hbk,s1,_,_⟩:=hp;obtain ⟨A3,n3,c3,rfl⟩:=s1.shape;have HBK:=za hbk;have HSA:=za (fun n=>PS (.slice A3 n3 c3) (.slice Am nm cm) x.m m X Y (wa.drewN n) (s1.kept (zb wa n)) (HM.out.kept (HGW.out.trans (zb wa n))));have hr2:=hbk.rule;have HLK:Hid (RM st k m ((j:Int)+1)=decide (x.m=m)):=za (by unfold RM;rw [hh]);rw [HLK.out] at HSN;clear hh s1 hbk;rw [hwa] at hr1 hrp hlk hr2;cases hd:decide (x.m=m) with
    |false=>
     rw [hd] at HSA HSN;have HFIN:Hid (Acc QJ w.heap.size 133 (fun g=>w.heap.size≤g) wa u7 (ZR st k m (j+1))):=za (by
      rw [HSN.out];simp only [Bool.false_eq_true,if_false,List.append_nil];exact HAC.out)
     go_wp2_with fail;go_quiet (fail);rw [←hwa] at hr1 hrp hlk hr2 ⊢;clear hwa;go_wp2_with fail;refine (HSA.out _).mono ?_;rintro e w1 ⟨rfl,hg1⟩;have HG1:Hid (wa.grownBy w1 none):=za ((zb wa nq).trans hg1);clear hg1 HSA hr1 hrp hlk hr2;go_wp2_with fail;go_roundg (gk - 1)
     case measure=>omega
     case rel=>exact ⟨j+1,by omega,by go_num,za ⟨HFIN.out.kept HG1.out,HGW.out.trans HG1.out⟩⟩
    |true=>
     rw [hd] at HSA HSN;go_wp2_with fail;go_quiet (fail);rw [←hwa] at hr1 hrp hlk hr2 ⊢;clear hwa;go_wp2_with fail;refine (HSA.out _).mono ?_;rintro e w1 ⟨rfl,hg1⟩;have HG1:Hid (wa.grownBy w1 none):=za ((zb wa nq).trans hg1);have HAC1:=za (HAC.out.kept HG1.out);have HG2:=za (HGW.out.trans HG1.out);have hrp1:=(HBP.out.grown HG1.out (by simp)).rule;have HREP:Hid (QJ.rep (fun g=>(fun g=>w.heap.size≤g) g∧some g≠u7.ownBlock) w1 [.int .u8 k, .int .i64 ((j:Int)+1)] (k,(j:Int)+1)):=za ⟨rfl,HK.out,HI.out⟩;clear hg1 HSA hr1 hrp hlk hr2 HAC HG1;go_wp2_with (at_builtin;refine zC rfl (.tmp 42) (.tmp 44) rfl (E:=QJ) Ic HG2.out HAC1.out (fun _ h=>h) HREP.out HLB.out rfl rfl ?_);intro v2 w2 hacc2 hg2 hgo;have HFIN:Hid (Acc QJ w.heap.size 133 (fun g=>w.heap.size≤g) w2 v2 (ZR st k m (j+1))∧w.grownBy w2 none):=za ⟨by rw [HSN.out];simpa using hacc2,hg2⟩;clear hacc2 hg2 hgo;go_wp2_with fail;go_roundg (gk - 1)
     case measure=>omega
     case rel=>exact ⟨j+1,by omega,by go_num,HFIN⟩
end
section
open Go Go.RowKit Go.Shelf Go.Maps
theorem Dk{X:Nat→Prop}{w:World}{b:Nat}{t:TypeId}{a:Int×Int}(h:Bk w b t #[.int .u64 a.1, .int .u64 a.2])(hX:X b)(ha:U64 a.1∧U64 a.2):Sl zo X w (.slice (some ⟨b,0,none⟩) 1 1) [a]:=by
 refine ⟨_,1,rfl,Nat.le_refl _,by decide,fun _=>⟨b,0,rfl,h.lt,hX,fun i hi=> ?_⟩⟩;have h0:i=0:=by simp at hi;omega
 subst h0;exact ⟨[.int .u64 a.1, .int .u64 a.2],⟨rfl,ha⟩,fun j u hj=>by
  have:=h.cell j
  simp only [Nat.zero_mul,Nat.zero_add];rw [this];simpa using hj⟩
theorem Qy(v:Value)(l:List (Int×Int))(X:Nat→Prop)(w:World)(h:Sl zo X w v l)(hb:l.length≤100000):
  Calls Tryz.prog 166 #[v] w (zH (zh zo) (fun g=>w.heap.size≤g) w (zN l)):=by
 have H:=za h;have HB:=za hb;obtain ⟨A,c,rfl,hc1,hc2⟩:=h.form;clear h hb;unfold zN;go_enter Tryz.func166,Tryz.ntmps166;go_wp2_with fail;go_loopg [3,8] l.length (fun g s3 s8 wx=> ∃j:Nat,j+g=l.length∧s8= .int .i64 j∧Hid (Acc (zh zo) w.heap.size 72 (fun g=>w.heap.size≤g) wx s3 ((l.take j).map fun x=> [x])∧w.grownBy wx none))
 case atStart=>exact ⟨0,by omega,rfl,za ⟨Acc.nil _ _ _ _ _,gRf⟩⟩
 case round=>
  obtain ⟨j,hj,rfl,HX⟩:=hrel;cases gk with
  |zero=>
   obtain rfl:j=l.length:=by omega
   have HR:Hid (Sl (zh zo) (fun g=>w.heap.size≤g) wr u3 (l.map fun x=> [x])∧w.grownBy wr none):=za ⟨by have:=HX.out.1.sl;rwa [List.take_length] at this,HX.out.2⟩;clear HX;go_wp2;go_ret;exact ⟨_,rfl,HR.out.1,HR.out.2⟩
  |succ m=>
   have hjn:(j:Int)< (l.length:Int):=by omega
   have hjN:j< l.length:=by omega
   obtain ⟨hacc,hg⟩:=HX.out;obtain ⟨g,o,c',e,_,_,hcx0,hcx20,hux⟩:=H.out.atP hjN;injection e with e1 e2 e3
   subst e1 e3;have hcx:wr.cell? ⟨g,o+j*2,none⟩=some (.int .u64 l[j].1):=cell_kept hcx0 hg (by simp);have hcx2:wr.cell? ⟨g,o+j*2+1,none⟩=some (.int .u64 l[j].2):=cell_kept hcx20 hg (by simp);have HSN:Hid ((l.take (j+1)).map (fun x=> [x])=(l.take j).map (fun x=> [x])++ [[l[j]]]):=za (by
    rw [List.take_succ_eq_append_getElem hjN,List.map_append];rfl)
   have HLB:Hid ((((l.take j).map fun x=> [x]).length+1)*24≤140737488355328):=za (by have:=HB.out;simp;omega);have HU:=za hux;clear HX hcx0 hcx20 hux e2;generalize l[j]=y at *;obtain ⟨W,hW⟩: ∃W,W=(wr.alloc (.cells #[.int .u64 y.1, .int .u64 y.2] 153)).alloc (.cells #[.int .u64 y.1, .int .u64 y.2] 153):=⟨_,rfl⟩;have hWs:W.heap.size=wr.heap.size+1+1:=by rw [hW];simp
   obtain ⟨W3,hW3⟩: ∃W3,W3=W.alloc (.cells #[.slice (some ⟨wr.heap.size+1,0,none⟩) 1 1] 72):=⟨_,rfl⟩;have HG0:Hid (wr.grownBy W3 none):=za (by rw [hW3,hW];exact ((gAl wr _ none).trans (gAl _ _ none)).trans (gAl _ _ none));have HAC:=za (hacc.kept HG0.out);have HG:=za (hg.trans HG0.out);have HBW:Hid (Bk W3 (wr.heap.size+1+1) 72 #[.slice (some ⟨wr.heap.size+1,0,none⟩) 1 1]):=za (by rw [hW3, ←hWs];exact Bk.new W _ _);have HREP:Hid ((zh zo).rep (fun g=>(fun g=>w.heap.size≤g) g∧some g≠u3.ownBlock) W3 [.slice (some ⟨wr.heap.size+1,0,none⟩) 1 1] [y]):=za ⟨_,rfl,(Dk (t:=153) (w:=W) (by rw [hW];have:=Bk.new (wr.alloc (.cells #[.int .u64 y.1, .int .u64 y.2] 153)) 153 #[.int .u64 y.1, .int .u64 y.2];simpa using this) ⟨by have:=hg.size;omega,fun e=>by have:=(hacc.lt _ e.symm).2;omega⟩ HU.out).kept (by rw [hW3];exact gAl W _ none)⟩;have HOW:Hid (∀g,u3.ownBlock=some g→w.heap.size≤g):=za fun g e=>(hacc.lt g e).1
   clear hacc hg hWs HG0;rw [hW] at hW3;rw [hW3] at HG HAC HREP HBW;clear hW hW3;go_wp2_with (at_builtin;refine wpList_plain rfl fun K hK=> ?_;refine yj (E:=zh zo) (y:= [y]) Yn HAC.out HREP.out (Bk.one HBW.out) HLB.out HG.out.size (fun g hg=>Nat.le_trans HG.out.size hg) (.tmp 12) (.tmp 15) rfl rfl rfl ?_;intro v2 w2 hacc2 hg2 hm2;refine hK _ _ ?_);have HFIN:Hid (Acc (zh zo) w.heap.size 72 (fun g=>w.heap.size≤g) w2 v2 ((l.take (j+1)).map fun x=> [x])∧w.grownBy w2 none):=za ⟨by rw [HSN.out];simpa using hacc2,HG.out.andThen hg2 (fun g e=> .inl (HOW.out g e))⟩;clear hacc2 hg2 hm2 HG HAC HREP HBW HOW hK;go_wp2_with fail;go_roundg m
   case measure=>omega
   case rel=>exact ⟨j+1,by omega,by go_num,HFIN⟩
end
end Go.Proofs.YtkdfjkdphdfclaaGreatDoor

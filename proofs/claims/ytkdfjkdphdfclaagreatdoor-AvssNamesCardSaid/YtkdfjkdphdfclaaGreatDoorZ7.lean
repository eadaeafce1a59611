/- Proves for the statement AvssNamesCardSaid, under no other condition than the statement's own, that the card avssNames holds of the program. Part 7. -/
import Derived.Test.YtkdfjkdphdfclaaGreatDoorZ6
import Derived.DeepKeys4
import Derived.Lib.SliceRun
set_option maxRecDepth 100000
set_option maxHeartbeats 16000000
set_option linter.unusedVariables false
set_option linter.unusedSimpArgs false
namespace Go.Proofs.YtkdfjkdphdfclaaGreatDoor
section
open Go Go.RowKit Go.Shelf
theorem Nx(x:Int×Int)(w:World):
  Calls Tryz.prog 90 #[.agg #[.int .u64 x.1, .int .u64 x.2]] w fun e w'=>e= .returned (.int .u64 x.1)∧w.grownBy w' none:=by
 obtain ⟨a,b⟩:=x;go_enter Tryz.func90,Tryz.ntmps90;go_wp2;go_ret;exact ⟨rfl,gAl w _ none⟩
theorem VW(v:Value)(l:List (Int×Int))(X:Nat→Prop)(w:World)(h:Sl zo X w v l)(hb:l.length≤1000):
  Calls Tryz.prog 89 #[v, .func (.func 90) #[] #[]] w (zH ze (fun g=>w.heap.size≤g) w (l.map (·.1))):=by
 have H:=za h;have HB:=za hb;obtain ⟨A,c,rfl,hc1,hc2⟩:=h.form;clear h hb;go_enter Tryz.func89,Tryz.ntmps89;go_wp2_with fail;go_loopg [5,10] l.length (fun g s5 s10 wx=> ∃j:Nat,j+g=l.length∧s10= .int .i64 j∧Hid (Acc ze w.heap.size 22 (fun g=>w.heap.size≤g) wx s5 ((l.take j).map (·.1))∧w.grownBy wx none))
 case atStart=>exact ⟨0,by omega,rfl,za ⟨Acc.nil _ _ _ _ _,gRf⟩⟩
 case round=>
  obtain ⟨j,hj,rfl,HX⟩:=hrel;cases gk with
  |zero=>
   obtain rfl:j=l.length:=by omega
   have HR:Hid (Sl ze (fun g=>w.heap.size≤g) wr u5 (l.map (·.1))∧w.grownBy wr none):=za ⟨by have:=HX.out.1.sl;rwa [List.take_length] at this,HX.out.2⟩;clear HX;go_wp2;go_ret;exact ⟨_,rfl,HR.out.1,HR.out.2⟩
  |succ m=>
   have hjn:(j:Int)< (l.length:Int):=by omega
   have hjN:j< l.length:=by omega
   obtain ⟨hacc,hg⟩:=HX.out;obtain ⟨g,o,c',e,_,_,hc0,hc1',hu1,hu2⟩:=(H.out.kept hg).atP hjN;injection e with e1 e2 e3
   subst e1 e3;have HSN:Hid ((l.take (j+1)).map (·.1)=(l.take j).map (·.1)++ [l[j].1]):=za (by rw [List.take_succ_eq_append_getElem hjN,List.map_append];rfl);have HU:Hid (U64 l[j].1):=za hu1;have HAC:=za hacc;have HG:=za hg;have HLB:Hid ((((l.take j).map (·.1)).length+1)*8≤140737488355328):=za (by have:=HB.out;simp;omega);obtain ⟨y,hy⟩: ∃y,y=l[j]:=⟨_,rfl⟩;rw [←hy] at HSN HU hc0 hc1';obtain ⟨wa,hwa⟩: ∃y2,y2=wr.alloc (Obj.cells #[.int .u64 y.1, .int .u64 y.2] 153):=⟨_,rfl⟩;have HGA:Hid (wr.grownBy wa none):=za (by rw [hwa];exact gAl _ _ none);have hbx:Bk wa wr.heap.size 153 #[.int .u64 y.1, .int .u64 y.2]:=by rw [hwa];exact Bk.new _ _ _
   have HC:=za (Nx y wa);obtain ⟨ya,yb⟩:=y;simp only at hc0 hc1' HC HSN HU hwa hbx;have d0:=hbx.cell 0;have d1:=hbx.cell 1;simp at d0 d1;clear hacc hg HX hu1 hu2 e2 hy hbx;generalize l.length=n at *;go_wp2_with fail;rw [←hwa];clear hwa;refine HC.out.mono ?_;rintro e w1 ⟨rfl,hg1⟩;have HG1:Hid (w.grownBy w1 none):=za (HG.out.trans (HGA.out.trans hg1));have HAC1:=za (HAC.out.kept (HGA.out.trans hg1));clear hg1 d0 d1 hc0 hc1';go_wp2_with (at_builtin;refine zC rfl (.tmp 14) (.tmp 18) rfl (E:=ze) (y:=ya) xd HG1.out HAC1.out (fun _ h=>h) ⟨rfl,HU.out⟩ HLB.out rfl rfl ?_);intro v2 w2 hacc2 hg2 hgo;have HFIN:Hid (Acc ze w.heap.size 22 (fun g=>w.heap.size≤g) w2 v2 ((l.take (j+1)).map (·.1))∧w.grownBy w2 none):=za ⟨by rw [HSN.out];simpa using hacc2,hg2⟩;clear hacc2 hg2 hgo;go_wp2_with fail;go_roundg m
   case measure=>omega
   case rel=>exact ⟨j+1,by omega,by go_num,HFIN⟩
theorem Qj(x:Int×Int)(w:World):
  Calls Tryz.prog 91 #[.agg #[.int .u64 x.1, .int .u64 x.2]] w fun e w'=>e= .returned (.int .u64 x.2)∧w.grownBy w' none:=by
 obtain ⟨a,b⟩:=x;go_enter Tryz.func91,Tryz.ntmps91;go_wp2;go_ret;exact ⟨rfl,gAl w _ none⟩
theorem XB(v:Value)(l:List (Int×Int))(X:Nat→Prop)(w:World)(h:Sl zo X w v l)(hb:l.length≤1000):
  Calls Tryz.prog 89 #[v, .func (.func 91) #[] #[]] w (zH ze (fun g=>w.heap.size≤g) w (l.map (·.2))):=by
 have H:=za h;have HB:=za hb;obtain ⟨A,c,rfl,hc1,hc2⟩:=h.form;clear h hb;go_enter Tryz.func89,Tryz.ntmps89;go_wp2_with fail;go_loopg [5,10] l.length (fun g s5 s10 wx=> ∃j:Nat,j+g=l.length∧s10= .int .i64 j∧Hid (Acc ze w.heap.size 22 (fun g=>w.heap.size≤g) wx s5 ((l.take j).map (·.2))∧w.grownBy wx none))
 case atStart=>exact ⟨0,by omega,rfl,za ⟨Acc.nil _ _ _ _ _,gRf⟩⟩
 case round=>
  obtain ⟨j,hj,rfl,HX⟩:=hrel;cases gk with
  |zero=>
   obtain rfl:j=l.length:=by omega
   have HR:Hid (Sl ze (fun g=>w.heap.size≤g) wr u5 (l.map (·.2))∧w.grownBy wr none):=za ⟨by have:=HX.out.1.sl;rwa [List.take_length] at this,HX.out.2⟩;clear HX;go_wp2;go_ret;exact ⟨_,rfl,HR.out.1,HR.out.2⟩
  |succ m=>
   have hjn:(j:Int)< (l.length:Int):=by omega
   have hjN:j< l.length:=by omega
   obtain ⟨hacc,hg⟩:=HX.out;obtain ⟨g,o,c',e,_,_,hc0,hc1',hu1,hu2⟩:=(H.out.kept hg).atP hjN;injection e with e1 e2 e3
   subst e1 e3;have HSN:Hid ((l.take (j+1)).map (·.2)=(l.take j).map (·.2)++ [l[j].2]):=za (by rw [List.take_succ_eq_append_getElem hjN,List.map_append];rfl);have HU:Hid (U64 l[j].2):=za hu2;have HAC:=za hacc;have HG:=za hg;have HLB:Hid ((((l.take j).map (·.2)).length+1)*8≤140737488355328):=za (by have:=HB.out;simp;omega);obtain ⟨y,hy⟩: ∃y,y=l[j]:=⟨_,rfl⟩;rw [←hy] at HSN HU hc0 hc1';obtain ⟨wa,hwa⟩: ∃y2,y2=wr.alloc (Obj.cells #[.int .u64 y.1, .int .u64 y.2] 153):=⟨_,rfl⟩;have HGA:Hid (wr.grownBy wa none):=za (by rw [hwa];exact gAl _ _ none);have hbx:Bk wa wr.heap.size 153 #[.int .u64 y.1, .int .u64 y.2]:=by rw [hwa];exact Bk.new _ _ _
   have HC:=za (Qj y wa);obtain ⟨ya,yb⟩:=y;simp only at hc0 hc1' HC HSN HU hwa hbx;have d0:=hbx.cell 0;have d1:=hbx.cell 1;simp at d0 d1;clear hacc hg HX hu1 hu2 e2 hy hbx;generalize l.length=n at *;go_wp2_with fail;rw [←hwa];clear hwa;refine HC.out.mono ?_;rintro e w1 ⟨rfl,hg1⟩;have HG1:Hid (w.grownBy w1 none):=za (HG.out.trans (HGA.out.trans hg1));have HAC1:=za (HAC.out.kept (HGA.out.trans hg1));clear hg1 d0 d1 hc0 hc1';go_wp2_with (at_builtin;refine zC rfl (.tmp 14) (.tmp 18) rfl (E:=ze) (y:=yb) xd HG1.out HAC1.out (fun _ h=>h) ⟨rfl,HU.out⟩ HLB.out rfl rfl ?_);intro v2 w2 hacc2 hg2 hgo;have HFIN:Hid (Acc ze w.heap.size 22 (fun g=>w.heap.size≤g) w2 v2 ((l.take (j+1)).map (·.2))∧w.grownBy w2 none):=za ⟨by rw [HSN.out];simpa using hacc2,hg2⟩;clear hacc2 hg2 hgo;go_wp2_with fail;go_roundg m
   case measure=>omega
   case rel=>exact ⟨j+1,by omega,by go_num,HFIN⟩
def atP(q x:Int)(c:List (Int×Int)):Int×Int:=(zR q (c.map (·.1)) x,zR q (c.map (·.2)) x)
theorem Rt{fn:Func}{W:World}{B4:Nat}{a b:Value}(h:fn.results= #[.cell 4 153])(tmps:Array Value)(h4:tmps.getD 4 undef= .pointer (some ⟨B4,0,none⟩))(hb4:Bk W B4 153 #[a,b]):(results fn tmps).run Tryz.prog W= .ok (.agg #[a,b]) W:=by
 have r1:=run_loadVar_row (P:=Tryz.prog) W B4 153 153 #[a,b] (0,0) _ hb4 Tryz.underlying153 rfl (by kernel_rfl);have h4':tmps[4]?.getD undef= .pointer (some ⟨B4,0,none⟩):=by simpa using h4
 simp [results,h,h4',asAddr,r1]
theorem Kg(v:Value)(c:List (Int×Int))(x q:Int)(Bx Bq:Nat)(X:Nat→Prop)(w:World)(h:Sl zo X w v c)(hx:U64 x)(hb:c.length≤1000)(bx:Bk w Bx 22 #[.int .u64 x])(bq:Bk w Bq 22 #[.int .u64 q]):
  Calls Tryz.prog 87 #[v, .pointer (some ⟨Bx,0,none⟩), .pointer (some ⟨Bq,0,none⟩)] w fun e w'=>e= .returned (.agg #[.int .u64 (atP q x c).1, .int .u64 (atP q x c).2])∧w.grownBy w' none:=by
 have H:=za h;have HU:=za hx;have HBX:=za bx;have HBQ:=za bq;have HB:=za hb;obtain ⟨A,cc,rfl,_,_⟩:=h.form;obtain ⟨w0,hw0⟩: ∃y,y=w.alloc (Obj.cells #[.int .u64 0, .int .u64 0] 153):=⟨_,rfl⟩;obtain ⟨B0,hB0⟩: ∃y,y=w.heap.size:=⟨_,rfl⟩;have HG0:Hid (w.grownBy w0 none):=za (by rw [hw0];exact gAl _ _ none);have HBR:Hid (Bk w0 B0 153 #[.int .u64 0, .int .u64 0]):=za (by rw [hw0,hB0];exact Bk.new _ _ _);have HBE:Hid (w.heap.size≤B0):=za (by rw [hB0];exact Nat.le_refl _);clear h hx bx bq hb;go_enter Tryz.func87,Tryz.ntmps87;go_upto_region 1 with (fail)
 rw [←hw0, ←hB0];clear hw0 hB0;have HD:Hid (w0.grownBy w0.drew none):=za (zb _ 1);have HLD:Hid (∀W,w0.drew.grownBy W none→W.cell? ⟨Bx,0,none⟩=some (.int .u64 x)∧W.cell? ⟨Bq,0,none⟩=some (.int .u64 q)):=za (fun W hg=>by
  have h:=HG0.out.trans (HD.out.trans hg);exact ⟨by simpa using (HBX.out.grown h (by simp)).cell 0,by simpa using (HBQ.out.grown h (by simp)).cell 0⟩)
 have HEV:Hid (∀W,w0.drew.grownBy W none→Calls Tryz.prog 89 #[.slice A c.length cc, .func (.func 90) #[] #[]] W (zH ze (fun g=>W.heap.size≤g) W (c.map (·.1)))):=za (fun W hg=>VW _ c X W (H.out.kept (HG0.out.trans (HD.out.trans hg))) HB.out);have HEB:Hid (∀W,w0.drew.grownBy W none→Calls Tryz.prog 89 #[.slice A c.length cc, .func (.func 91) #[] #[]] W (zH ze (fun g=>W.heap.size≤g) W (c.map (·.2)))):=za (fun W hg=>XB _ c X W (H.out.kept (HG0.out.trans (HD.out.trans hg))) HB.out);refine Zf 11 ?_;refine mP0 (.slice A c.length cc) ?_;refine zn.step (Pv.sl ze TT (c.map (·.1))) [(0,5)] (by kernel_rfl) (fun w' hw'=> ?_) ?_
 ·rintro _ rfl;refine zq rfl fun K hK=> ?_
  go_simp;refine (HEV.out w' hw').mono ?_;rintro e w3 ⟨v3,rfl,hs3,hg3⟩;exact hK _ _ rfl (hs3.more fun _ _ _=>trivial) hg3
 refine mQ0 (.int .u64 x) (fun w' hw' K hK=> ?_) ?_
 ·obtain ⟨q0,q1⟩:=HLD.out w' hw';go_simp;exact hK _ rfl rfl
 refine mQ0 (.int .u64 q) (fun w' hw' K hK=> ?_) ?_
 ·obtain ⟨q0,q1⟩:=HLD.out w' hw';go_simp;exact hK _ rfl rfl
 refine zn.step (Pv.eq (.int .u64 (zR q (c.map (·.1)) x))) [(1,6),(2,7),(3,8)] (by kernel_rfl) (fun w' hw'=> ?_) ?_
 ·intro x6 h6;have h6:Sl ze TT w' x6 (c.map (·.1)):=h6;rintro _ rfl;rintro _ rfl;refine zq rfl fun K hK=> ?_
  go_simp;refine (Ym x6 (c.map (·.1)) x q TT w' h6 HU.out).mono ?_;rintro e w3 ⟨rfl,hg3⟩;exact hK _ _ rfl rfl hg3
 refine mP0 (.slice A c.length cc) ?_;refine zn.step (Pv.sl ze TT (c.map (·.2))) [(5,10)] (by kernel_rfl) (fun w' hw'=> ?_) ?_
 ·rintro _ rfl;refine zq rfl fun K hK=> ?_
  go_simp;refine (HEB.out w' hw').mono ?_;rintro e w3 ⟨v3,rfl,hs3,hg3⟩;exact hK _ _ rfl (hs3.more fun _ _ _=>trivial) hg3
 refine mQ0 (.int .u64 x) (fun w' hw' K hK=> ?_) ?_
 ·obtain ⟨q0,q1⟩:=HLD.out w' hw';go_simp;exact hK _ rfl rfl
 refine mQ0 (.int .u64 q) (fun w' hw' K hK=> ?_) ?_
 ·obtain ⟨q0,q1⟩:=HLD.out w' hw';go_simp;exact hK _ rfl rfl
 refine zn.step (Pv.eq (.int .u64 (zR q (c.map (·.2)) x))) [(6,11),(7,12),(8,13)] (by kernel_rfl) (fun w' hw'=> ?_) ?_
 ·intro x11 h11;have h11:Sl ze TT w' x11 (c.map (·.2)):=h11;rintro _ rfl;rintro _ rfl;refine zq rfl fun K hK=> ?_
  go_simp;refine (Ym x11 (c.map (·.2)) x q TT w' h11 HU.out).mono ?_;rintro e w3 ⟨rfl,hg3⟩;exact hK _ _ rfl rfl hg3
 refine zn.step (Pv.eq (.agg #[.int .u64 (zR q (c.map (·.1)) x), .int .u64 (zR q (c.map (·.2)) x)])) [(4,9),(9,14)] (by kernel_rfl) (fun w' hw'=> ?_) ?_
 ·rintro _ rfl;rintro _ rfl;refine zq rfl fun K hK=> ?_
  go_simp;exact hK _ _ rfl rfl gRf
 intro w3 hw3
 iterate 10 (refine pD ?_;intro _)
 intro y10 k10;show wpList Tryz.prog _ _ _ _ w3;simp only [Act.put,sAa,sAb,sAc];have e10:y10= .agg #[.int .u64 (zR q (c.map (·.1)) x), .int .u64 (zR q (c.map (·.2)) x)]:=k10;subst e10;have hb3:Bk w3 B0 153 #[.int .u64 0, .int .u64 0]:=HBR.out.grown (HD.out.trans hw3) (by simp);have d0:=hb3.cell 0;have d1:=hb3.cell 1;have f3:=hb3.free;simp at d0 d1;have HR:Hid (Bk ((w3.setCell ⟨B0,0,none⟩ (.int .u64 (zR q (c.map (·.1)) x))).setCell ⟨B0,1,none⟩ (.int .u64 (zR q (c.map (·.2)) x))) B0 153 #[.int .u64 (zR q (c.map (·.1)) x), .int .u64 (zR q (c.map (·.2)) x)]):=za ((hb3.set 0 _).set 1 _);have HGF:Hid (w.grownBy ((w3.setCell ⟨B0,0,none⟩ (.int .u64 (zR q (c.map (·.1)) x))).setCell ⟨B0,1,none⟩ (.int .u64 (zR q (c.map (·.2)) x))) none):=za (xR (xR (HG0.out.trans (HD.out.trans hw3)) 0 _ HBE.out) 1 _ HBE.out);clear hw3 hb3 k10 HLD HEV HEB;go_wp2_with fail;exact ⟨rfl,_,Rt rfl _ rfl HR.out,rfl,HGF.out⟩
theorem Nw(v:Value)(L:List (List (Int×Int)))(x q:Int)(Bx Bq:Nat)(X:Nat→Prop)(w:World)(h:Sl (zh zo) X w v L)(hx:U64 x)(hb:L.length≤1000)(hb2: ∀c∈L,c.length≤1000)(bx:Bk w Bx 22 #[.int .u64 x])(bq:Bk w Bq 22 #[.int .u64 q]):
  Calls Tryz.prog 86 #[v, .func (.func 87) #[] #[.pointer (some ⟨Bx,0,none⟩), .pointer (some ⟨Bq,0,none⟩)]] w (zH zo (fun g=>w.heap.size≤g) w (L.map (atP q x))):=by
 have H:=za h;have HB:=za hb;have HB2:=za hb2;have HU:=za hx;have HBX:=za bx;have HBQ:=za bq;obtain ⟨A,c,rfl,hc1,hc2⟩:=h.form;clear h hb hb2 hx bx bq;go_enter Tryz.func86,Tryz.ntmps86;go_wp2_with fail;go_loopg [5,10] L.length (fun g s5 s10 wx=> ∃j:Nat,j+g=L.length∧s10= .int .i64 j∧Hid (Acc zo w.heap.size 153 (fun g=>w.heap.size≤g) wx s5 ((L.take j).map (atP q x))∧w.grownBy wx none))
 case atStart=>exact ⟨0,by omega,rfl,za ⟨Acc.nil _ _ _ _ _,gRf⟩⟩
 case round=>
  obtain ⟨j,hj,rfl,HX⟩:=hrel;cases gk with
  |zero=>
   obtain rfl:j=L.length:=by omega
   have HR:Hid (Sl zo (fun g=>w.heap.size≤g) wr u5 (L.map (atP q x))∧w.grownBy wr none):=za ⟨by have:=HX.out.1.sl;rwa [List.take_length] at this,HX.out.2⟩;clear HX;go_wp2;go_ret;exact ⟨_,rfl,HR.out.1,HR.out.2⟩
  |succ m=>
   have hjn:(j:Int)< (L.length:Int):=by omega
   have hjN:j< L.length:=by omega
   obtain ⟨hacc,hg⟩:=HX.out;obtain ⟨g,o,c',u,e,_,_,hcu,hu⟩:=(H.out.kept hg).atS hjN;injection e with e1 e2 e3
   subst e1 e3;have HSN:Hid ((L.take (j+1)).map (atP q x)=(L.take j).map (atP q x)++ [atP q x L[j]]):=za (by rw [List.take_succ_eq_append_getElem hjN,List.map_append];rfl);have HC:=za (Kg u L[j] x q Bx Bq _ wr hu HU.out (HB2.out _ (List.getElem_mem hjN)) (HBX.out.grown hg (by simp)) (HBQ.out.grown hg (by simp)));have HAC:=za hacc;have HG:=za hg;have HLB:Hid ((((L.take j).map (atP q x)).length+1)*16≤140737488355328):=za (by have:=HB.out;simp;omega);have HU2:Hid (U64 (atP q x L[j]).1∧U64 (atP q x L[j]).2):=za ⟨xG _ _ _,xG _ _ _⟩;obtain ⟨A1,n1,c1,e1⟩:=hu.shape;subst e1;obtain ⟨y,hy⟩: ∃y,y=atP q x L[j]:=⟨_,rfl⟩;rw [←hy] at HSN HC HU2;obtain ⟨ya,yb⟩:=y;clear hacc hg HX hu e2 hy;generalize hLn:L.length=n at *;clear hLn;go_wp2_with fail;refine HC.out.mono ?_;rintro e w1 ⟨rfl,hg1⟩;have HG1:Hid (w.grownBy w1 none):=za (HG.out.trans hg1);have HAC1:=za (HAC.out.kept hg1);clear hg1 hcu;go_wp2_with (at_builtin;refine zC rfl (.tmp 14) (.tmp 18) rfl (E:=zo) (y:=(ya,yb)) YE HG1.out HAC1.out (fun _ h=>h) ⟨rfl,HU2.out.1,HU2.out.2⟩ HLB.out rfl rfl ?_);intro v2 w2 hacc2 hg2 hgo;have HFIN:Hid (Acc zo w.heap.size 153 (fun g=>w.heap.size≤g) w2 v2 ((L.take (j+1)).map (atP q x))∧w.grownBy w2 none):=za ⟨by rw [HSN.out];simpa using hacc2,hg2⟩;clear hacc2 hg2 hgo;go_wp2_with fail;go_roundg m
   case measure=>omega
   case rel=>exact ⟨j+1,by omega,by go_num,HFIN⟩
theorem XD(v:Value)(L:List (List (Int×Int)))(x q:Int)(X:Nat→Prop)(w:World)(h:Sl (zh zo) X w v L)(hx:U64 x)(hb:L.length≤1000)(hb2: ∀c∈L,c.length≤1000):
  Calls Tryz.prog 38 #[v, .int .u64 x, .int .u64 q] w (zH zo (fun g=>w.heap.size≤g) w (L.map (atP q x))):=by
 obtain ⟨w0,hw0⟩: ∃y,y=(w.alloc (Obj.cells #[.int .u64 x] 22)).alloc (Obj.cells #[.int .u64 q] 22):=⟨_,rfl⟩;have HG0:Hid (w.grownBy w0 none):=za (by rw [hw0];exact VQ);have HB1:Hid (Bk w0 w.heap.size 22 #[.int .u64 x]):=za (by rw [hw0];exact (Bk.new w _ _).alloc _);have HB2:Hid (Bk w0 (w.heap.size+1) 22 #[.int .u64 q]):=za (by
  rw [hw0];have h:=Bk.new (w.alloc (Obj.cells #[.int .u64 x] 22)) 22 #[.int .u64 q];rw [World.size_alloc] at h;exact h)
 have HC:=za (Nw v L x q w.heap.size (w.heap.size+1) X w0 (h.kept HG0.out) hx hb hb2 HB1.out HB2.out);obtain ⟨A,c,rfl,_,_⟩:=h.form;clear h;go_enter Tryz.func38,Tryz.ntmps38;go_wp2_with fail;rw [←hw0];clear hw0;refine HC.out.mono ?_;rintro e w1 ⟨v1,rfl,hs1,hg1⟩;have HR:Hid (Sl zo (fun g=>w.heap.size≤g) w1 v1 (L.map (atP q x))∧w.grownBy w1 none):=za ⟨hs1.more fun g _ h=>Nat.le_trans HG0.out.size h,HG0.out.trans hg1⟩;clear hs1 hg1;go_wp2;go_ret;exact ⟨_,rfl,HR.out.1,HR.out.2⟩
end
section
open Go.RowKit
theorem Yr(p:Par)(l:List (List Int)):(yl p l).length=yB l:=by simp [yl]
theorem Th(p:Par)(l:List (List Int))(x:Int):(zP p l x).length=l.length:=by simp [zP]
theorem VA(p:Par)(v:Value)(m:List (List (List Int)))(x:Int)(X:Nat→Prop)(w:World)(h:Sl (zh (zh ze)) X w v m)(hx:U64 x)(hb:m.length≤100000)(hb2: ∀l∈m,l.length≤100000∧ ∀c∈l,c.length≤100000):
  Calls Tryz.prog 163 #[p.v,v, .int .u64 x] w (zH (zh ze) (fun g=>w.heap.size≤g) w (zT p m x)):=by
 have H:=za h;have HI:=za hx;have HB2:=za hb2;obtain ⟨A,c,rfl,hc1,hc2⟩:=h.form;have HST:Hid (Acc (zh ze) w.heap.size 31 (fun g=>w.heap.size≤g) (w.alloc (Obj.cells p.cells 39)) (.slice none 0 0) ((m.take 0).map fun l=>zP p (yl p l) x)∧w.grownBy (w.alloc (Obj.cells p.cells 39)) none∧Bk (w.alloc (Obj.cells p.cells 39)) w.heap.size 39 p.cells):=za ⟨Acc.nil _ _ _ _ _,gAl w _ none,Bk.new w _ _⟩;clear h hx hb2;go_enter Tryz.func163,Tryz.ntmps163;go_wp2_with fail;go_loopg [7,12] m.length (fun g s7 s12 wx=> ∃j:Nat,j+g=m.length∧s12= .int .i64 j∧Hid (Acc (zh ze) w.heap.size 31 (fun g=>w.heap.size≤g) wx s7 ((m.take j).map fun l=>zP p (yl p l) x)∧w.grownBy wx none∧Bk wx w.heap.size 39 p.cells))
 case atStart=>exact ⟨0,by omega,rfl,HST⟩
 case round=>
  obtain ⟨j,hj,rfl,HX⟩:=hrel;cases gk with
  |zero=>
   obtain rfl:j=m.length:=by omega
   have HR:Hid (Sl (zh ze) (fun g=>w.heap.size≤g) wr u7 (zT p m x)∧w.grownBy wr none):=za ⟨by have:=HX.out.1.sl;rwa [List.take_length] at this,HX.out.2.1⟩;clear HX HST;go_wp2;go_ret;exact ⟨_,rfl,HR.out.1,HR.out.2⟩
  |succ n=>
   have hjn:(j:Int)< (m.length:Int):=by omega
   have hjN:j< m.length:=by omega
   obtain ⟨hacc,hg,hbp⟩:=HX.out;obtain ⟨g,o,c',u,e,_,_,hcu,hsu⟩:=(H.out.kept hg).atS hjN;injection e with e1 e2 e3
   subst e1 e3;obtain ⟨A1,c1,e1,_,_⟩:=hsu.form;subst e1;have HSN:=za (yu (fun l=>zP p (yl p l) x) m j hjN);obtain ⟨hz1,hz2⟩:=HB2.out m[j] (List.getElem_mem hjN);have HT:=za (fun (w':World) (hw:wr.grownBy w' none)=>OD p _ m[j] X w' (hsu.kept hw) hz1 hz2);have HWD:=za (Xt m[j] 100000 hz2);have HF:=za (fun (v:Value) (Y:Nat→Prop) (w':World) (hv:Sl (zh ze) Y w' v (yl p m[j]))=>YR p v _ x Y w' hv HI.out (by rw [Yr];exact HWD.out));have HSL:Hid ((zP p (yl p m[j]) x).length=yB m[j]):=za (by rw [Th,Yr]);have HAC:Hid (Acc (zh ze) w.heap.size 31 (fun g=>w.heap.size≤g) wr.drew u7 ((m.take j).map fun l=>zP p (yl p l) x)):=za (hacc.kept (zf (World.grownBy.refl wr none) 1));have HG:Hid (w.grownBy wr.drew none):=za (zf hg 1);have HGd:Hid (wr.grownBy wr.drew none):=za (zf (World.grownBy.refl wr none) 1);have HBp:Hid (Bk wr.drew w.heap.size 39 p.cells):=za (hbp.drewN 1);have hp:=hbp.prule;have hlt:=hbp.lt;have HLB:Hid ((((m.take j).map fun l=>zP p (yl p l) x).length+1)*24≤140737488355328):=za (by simp;omega);clear hacc hg hbp hsu e2 HX HST hz1 hz2;generalize hy:m[j]=z at HSN HF hcu HSL HT HWD;clear hy;generalize z.length=n1 at *;go_wp2_with fail;go_region_held3 (fun w'=> ∀o,w'.cell? ⟨w.heap.size,o,none⟩=(#[.int .u64 p.P, .int .u64 p.Q, .int .u64 p.G, .int .u64 p.H, .int .i64 p.Nodes, .int .i64 p.N, .int .i64 p.T, .int .i64 p.K, .int .i64 p.D, .int .i64 p.R, .int .i64 p.M, .int .i64 p.X]:Array Value)[o]?) (first|assumption|exact yP (by assumption) (by assumption) _|go_keep) (first
    |(go_at_call 204;(with_reducible refine (HT.out _ HGd.out).mono ?_);rintro e' w1 ⟨v1,rfl,hs1,hg1⟩;have HV1:=za hs1;have HG1:=za (HG.out.trans hg1);have HA1:=za (HAC.out.kept hg1);have HB1:=za (HBp.out.grown hg1 (by simp));have hp1:=HB1.out.prule;have hl1:=HB1.out.lt;clear hs1 hg1)
    |(go_at_call 41;(with_reducible refine (HF.out _ _ _ HV1.out).mono ?_);rintro e' w2 ⟨v2,rfl,hs2,hg2⟩;obtain ⟨A2,c2,e2,_,_⟩:=hs2.form;rw [HSL.out] at e2;subst e2;have HG2:=za (HG1.out.trans hg2);have HA2:=za (HA1.out.kept hg2);have HB2:=za (HB1.out.grown hg2 (by simp));have hp2:=HB2.out.prule;have hl2:=HB2.out.lt;have HREP:Hid (Enc.rep (zh ze) (fun g=>w.heap.size≤g∧some g≠u7.ownBlock) w2 [.slice A2 (yB z) c2] (zP p (yl p z) x)):=za ⟨_,rfl,hs2.fresh HG1.out HA1.out⟩;clear hs2 hg2)
    |(refine OI rfl (.tmp 16) (.tmp 23) rfl (E:=zh ze) (y:=zP p (yl p z) x) Zb HG2.out HA2.out (fun _ h=>h) HREP.out HLB.out rfl rfl ?_;intro v3 w3 hacc3 hg3 hgo3;have HA3:=za hacc3;have HG3:=za hg3;have HB3:=za (HB2.out.grown hgo3 (fun e=>HA2.out.ne_bk HB2.out (by decide) e.symm));have hp3:=HB3.out.prule;clear hacc3 hg3 hgo3))
   have HFIN:Hid (Acc (zh ze) w.heap.size 31 (fun g=>w.heap.size≤g) w3 v3 ((m.take (j+1)).map fun l=>zP p (yl p l) x)∧w.grownBy w3 none∧Bk w3 w.heap.size 39 p.cells):=za ⟨by rw [HSN.out];simpa using HA3.out,HG3.out,HB3.out⟩;clear HA3 HG3 HB3;go_wp2_with fail;go_roundg n
   case measure=>omega
   case rel=>exact ⟨j+1,by omega,by go_num,HFIN⟩
theorem UB(v1 v2:Value)(xs ys:List Int)(X Y:Nat→Prop)(w:World)(h1:Sl ze X w v1 xs)(h2:Sl ze Y w v2 ys):
  Calls Tryz.prog 96 #[v1,v2] w fun e w'=>e= .returned (.bool (decide (xs=ys)))∧w.grownBy w' none:=by
 have H1:=za h1;have H2:=za h2;obtain ⟨A1,c1,rfl,hc1,hc2⟩:=h1.form;obtain ⟨A2,c2,rfl,hc3,hc4⟩:=h2.form;clear h1 h2;by_cases hl:xs.length=ys.length
 ·have HLN:=za hl;have HST:Hid ((∃n,w=w.drewN n)∧xs.take 0=ys.take 0):=za ⟨⟨0,rfl⟩,rfl⟩;rw [hl] at H1 hc1 ⊢;clear hl;go_enter Tryz.func96,Tryz.ntmps96;go_wp2_with fail;go_loopg [13] ys.length (fun g s13 wx=> ∃j:Nat,j+g=ys.length∧s13= .int .i64 j∧Hid ((∃n,wx=w.drewN n)∧xs.take j=ys.take j))
  case atStart=>exact ⟨0,by omega,rfl,HST⟩
  case round=>
   obtain ⟨j,hj,rfl,HX⟩:=hrel;obtain ⟨⟨n0,rfl⟩,htk⟩:=HX.out;cases gk with
   |zero=>
    obtain rfl:j=ys.length:=by omega
    have HE:Hid (decide (xs=ys)=true):=za (by
     rw [List.take_length, ←HLN.out,List.take_length] at htk;simpa using htk)
    clear HX HST htk;go_wp2;go_ret;exact ⟨zm HE.out.symm,zb w _⟩
   |succ m=>
    have hjn:(j:Int)< (ys.length:Int):=by omega
    have hj0:(0:Int)≤(j:Int):=by omega
    have hjN:j< ys.length:=by omega
    have hjX:j< xs.length:=by rw [HLN.out];exact hjN
    obtain ⟨g1,o1,c1',e1,_,_,a1,u1⟩:=(HLN.out ▸ H1.out:Sl ze X w (.slice A1 xs.length c1) xs).atU hjX;injection e1 with e11 e12 e13
    subst e11 e13;obtain ⟨g2,o2,c2',e2,_,_,a2,_⟩:=H2.out.atU hjN;injection e2 with e21 e22 e23
    subst e21 e23;have HSX:=za (List.take_succ_eq_append_getElem hjX);have HSY:=za (List.take_succ_eq_append_getElem hjN);have HTK:=za htk;by_cases hxy:xs[j]=ys[j]
    ·have HNX:Hid (xs.take (j+1)=ys.take (j+1)):=za (by rw [HSX.out,HSY.out,hxy,HTK.out]);rw [hxy] at a1;clear HX HST e12 e22 htk hxy HSX HSY;generalize ys[j]=y at *;go_wp2_with fail;go_quiet (fail);go_wp2_with fail;go_roundg m
     case measure=>omega
     case rel=>exact ⟨j+1,by omega,by go_num,za ⟨⟨_,rfl⟩,HNX.out⟩⟩
    ·have HE:Hid (decide (xs=ys)=false):=za (by simp only [decide_eq_false_iff_not];intro e;apply hxy;subst e;rfl);have hd:(xs[j] !=ys[j])=true:=by simpa using hxy
     clear HX HST e12 e22 htk hxy HSX HSY;generalize ys[j]=y at *;generalize xs[j]=x at *;go_wp2_with fail;go_quiet (fail);go_wp2;go_ret;exact ⟨zm HE.out.symm,(zb w _).trans (zb _ _)⟩
 ·have hd:((xs.length:Int) !=(ys.length:Int))=true:=by simp;omega
  have HE:Hid (decide (xs=ys)=false):=za (by simp only [decide_eq_false_iff_not];intro e;exact hl (by rw [e]));clear hl;go_enter Tryz.func96,Tryz.ntmps96;go_wp2;go_ret;exact ⟨zm HE.out.symm,World.grownBy.refl w none⟩
theorem Pq(p:Par)(x:Int×Int):U64 (zr p x):=yO _ _
def VS(p:Par)(coms:List (List Int))(i:Int)(l:List (Int×Int)):Bool:=decide (l.map (zr p)=zP p coms i)
theorem JV(p:Par)(v1:Value)(coms:List (List Int))(i:Int)(v2:Value)(l:List (Int×Int))(X Y:Nat→Prop)(w:World)(hp:p.ok)(h1:Sl (zh ze) X w v1 coms)(hi:U64 i)(h2:Sl zo Y w v2 l)(hb:coms.length≤100000)(hb2:l.length≤100000):
  Calls Tryz.prog 43 #[p.v,v1, .int .u64 i,v2] w fun e w'=>e= .returned (.bool (VS p coms i l))∧w.grownBy w' none:=by
 have HP:=za hp;have HSH:=za (fun (w':World) (hw:w.grownBy w' none)=>YR p v1 coms i X w' (h1.kept hw) hi hb);have H:=za h2;obtain ⟨A,c,rfl,hc1,hc2⟩:=h2.form;have HST:Hid (Acc ze w.heap.size 22 (fun g=>w.heap.size≤g) (w.alloc (Obj.cells p.cells 39)) (.slice none 0 0) ((l.take 0).map (zr p))∧w.grownBy (w.alloc (Obj.cells p.cells 39)) none∧Bk (w.alloc (Obj.cells p.cells 39)) w.heap.size 39 p.cells):=za ⟨Acc.nil _ _ _ _ _,gAl w _ none,Bk.new w _ _⟩;clear h1 h2 hi hp hb;go_enter Tryz.func43,Tryz.ntmps43;go_wp2_with fail;go_loopg [9,14] l.length (fun g s9 s14 wx=> ∃j:Nat,j+g=l.length∧s14= .int .i64 j∧Hid (Acc ze w.heap.size 22 (fun g=>w.heap.size≤g) wx s9 ((l.take j).map (zr p))∧w.grownBy wx none∧Bk wx w.heap.size 39 p.cells))
 case atStart=>exact ⟨0,by omega,rfl,HST⟩
 case round=>
  obtain ⟨j,hj,rfl,HX⟩:=hrel;cases gk with
  |zero=>
   obtain rfl:j=l.length:=by omega
   have HS9:Hid (Sl ze (fun g=>w.heap.size≤g) wr u9 (l.map (zr p))):=za (by have:=HX.out.1.sl;rwa [List.take_length] at this);have HG:=za HX.out.2.1;have hp:=HX.out.2.2.prule;clear HX HST;go_wp2_with fail;refine (HSH.out _ HG.out).mono ?_;rintro e' w1 ⟨u1,rfl,hs1,hg1⟩;have HEQ:=za (UB u9 u1 _ _ _ _ w1 (HS9.out.kept hg1) hs1);have HG1:=za (HG.out.trans hg1);clear hs1 hg1 hp;go_wp2_with fail;refine HEQ.out.mono ?_;rintro e' w2 ⟨rfl,hg2⟩;have HG2:=za (HG1.out.trans hg2);clear hg2;go_wp2;go_ret;exact ⟨rfl,HG2.out⟩
  |succ m=>
   have hjn:(j:Int)< (l.length:Int):=by omega
   have hjN:j< l.length:=by omega
   obtain ⟨hacc,hg,hbp⟩:=HX.out;obtain ⟨g,o,c',e,hgl,_,hcu1,hcu2,hu1,hu2⟩:=(H.out.kept hg).atP hjN;injection e with e1 e2 e3
   subst e1 e3;have HSN:=za (yu (zr p) l j hjN);have HU:=za (Pq p l[j]);have HF:=za (fun (w':World)=>Zz p l[j] w' HP.out hu1 hu2);generalize hy:l[j]=y at HSN HU HF hcu1 hcu2 hu1 hu2;clear hy;have HG1:Hid (wr.grownBy (wr.alloc (Obj.cells #[.int .u64 y.1, .int .u64 y.2] 153)) none):=za (gAl wr _ none);have HAC:=za (hacc.kept HG1.out);have HG:=za (hg.trans HG1.out);have HBp:=za (hbp.grown HG1.out (by simp));have hp:=hbp.prule;have hlp:=hbp.lt;have HLB:Hid ((((l.take j).map (zr p)).length+1)*8≤140737488355328):=za (by simp;omega);clear hacc hg hbp e2 HX HST hu1 hu2;go_wp2_with fail;refine (HF.out _).mono ?_;rintro e' w1 ⟨rfl,hg1⟩;have HG2:=za (HG.out.trans hg1);have HA1:=za (HAC.out.kept hg1);have HBp1:=za (HBp.out.grown hg1 (by simp));clear hg1 hp;go_wp2_with (at_builtin;refine zC rfl (.tmp 18) (.tmp 22) rfl (E:=ze) xd HG2.out HA1.out (fun _ h=>h) ⟨rfl,HU.out⟩ HLB.out rfl rfl ?_);intro v2 w2 hacc2 hg2 hgo;have HFIN:Hid (Acc ze w.heap.size 22 (fun g=>w.heap.size≤g) w2 v2 ((l.take (j+1)).map (zr p))∧w.grownBy w2 none∧Bk w2 w.heap.size 39 p.cells):=za ⟨by rw [HSN.out];simpa using hacc2,hg2,HBp1.out.grown hgo (fun e=>HA1.out.ne_bk HBp1.out (by decide) e.symm)⟩;clear hacc2 hg2 hgo;go_wp2_with fail;go_roundg m
   case measure=>omega
   case rel=>exact ⟨j+1,by omega,by go_num,HFIN⟩
end
section
open Go Go.RowKit Go.Shelf
end
section
open Go Go.RowKit Go.Shelf
end
section
open Go Go.RowKit Go.Shelf
end
section
open Go Go.RowKit Go.Shelf
end
section
open Go Go.RowKit Go.Shelf
end
section
open Go Go.RowKit Go.Shelf
theorem Rn{α:Type}{a b:List α}{i:Nat}(ha:i< a.length)(hb:i< b.length)(h:a.take i=b.take i)(e:a[i]=b[i]):a.take (i+1)=b.take (i+1):=by
 rw [List.take_succ_eq_append_getElem ha,List.take_succ_eq_append_getElem hb,h,e]
theorem PJ{α:Type}{a b:List α}{n:Nat}(ha:a.length=n)(hb:b.length=n)(h:a.take n=b.take n):a=b:=by
 rwa [List.take_of_length_le (by omega),List.take_of_length_le (by omega)] at h
def Zj(p:Par)(l:List (List (Int×Int)))(cs:List (List Int)):Bool:=decide ((l.map fun c=>c.map (zr p))=cs)
theorem Qh(p:Par)(v1 v2:Value)(l:List (List (Int×Int)))(cs:List (List Int))(X Y:Nat→Prop)(w:World)(hp:p.ok)(h1:Sl (zh zo) X w v1 l)(h2:Sl (zh ze) Y w v2 cs)(hb:l.length≤1000)(hb2: ∀c∈l,c.length≤1000):
  Calls Tryz.prog 162 #[p.v,v1,v2] w fun e w'=>e= .returned (.bool (Zj p l cs))∧w.grownBy w' none:=by
 have H1:=za h1;have H2:=za h2;have HP:=za hp;have HB2:=za hb2;obtain ⟨A1,c1,rfl,q1,q2⟩:=h1.form;clear q1 q2;obtain ⟨A2,c2,rfl,q1,q2⟩:=h2.form;clear q1 q2;obtain ⟨B,hB⟩: ∃B,B=Zj p l cs:=⟨_,rfl⟩;have HBB:=za hB;rw [←hB];obtain ⟨w0,hw0⟩: ∃y,y=w.alloc (Obj.cells p.cells 39):=⟨_,rfl⟩;have HB0:Hid (Bk w0 w.heap.size 39 p.cells):=za (by rw [hw0];exact Bk.new w _ _);have HG0:Hid (w.grownBy w0 none):=za (by rw [hw0];exact gAl w _ none);have HWS:Hid (w.heap.size< w0.heap.size):=za HB0.out.lt;by_cases hl:l.length=cs.length
 ·have HLC:=za hl;rw [←hl] at H2 ⊢;obtain ⟨L,hL⟩: ∃y,y=l.length:=⟨_,rfl⟩;have HL:=za hL;rw [←hL] at H1 H2 hb ⊢;clear h1 h2 hp hb2 hL hl hB;go_enter Tryz.func162,Tryz.ntmps162;go_upto_region 4 with (fail)
  rw [←hw0];clear hw0;go_loopg [17] L (fun gk s17 wx=> ∃i:Nat,i+gk=L∧s17= .int .i64 i∧Hid (w0.grownBy wx none∧(l.map fun c=>c.map (zr p)).take i=cs.take i))
  case atStart=>exact ⟨0,by omega,rfl,za ⟨World.grownBy.refl _ _,rfl⟩⟩
  case round=>
   obtain ⟨i,hiL,rfl,HX⟩:=hrel;cases gk with
   |zero=>
    have eI:L=i:=by omega
    subst eI;have hno: ¬((L:Int)< (L:Int)):=by omega
    have HGF:Hid (w.grownBy wr none):=za (HG0.out.trans HX.out.1);have HT:Hid (B=true):=za (by
     rw [HBB.out];exact decide_eq_true (PJ (by rw [List.length_map];exact HL.out.symm) (by rw [←HLC.out];exact HL.out.symm) HX.out.2))
    clear HX;go_wp2;go_ret;exact ⟨zm HT.out.symm,HGF.out⟩
   |succ m=>
    have hiI:(i:Int)< (L:Int):=by omega
    have hi0:(0:Int)≤(i:Int):=Int.natCast_nonneg i;have hi:i< l.length:=by rw [←HL.out];omega
    have hi2:i< cs.length:=by rw [←HLC.out];exact hi
    obtain ⟨gA,oA,cA',uA,eA,q1,q2,hcA,hsA⟩:=(H1.out.kept (HG0.out.trans HX.out.1)).atS hi;clear q1 q2;injection eA with eA1 eA2 eA3
    clear eA2;subst eA1 eA3;obtain ⟨gB,oB,cB',uB,eB,q1,q2,hcB,hsB⟩:=(H2.out.kept (HG0.out.trans HX.out.1)).atS hi2;clear q1 q2;injection eB with eB1 eB2 eB3
    clear eB2;subst eB1 eB3;have HSTEP:Hid (l[i].map (zr p)=cs[i]→(l.map fun c=>c.map (zr p)).take (i+1)=cs.take (i+1)):=za (fun h=>Rn (by rw [List.length_map];exact hi) hi2 HX.out.2 (by rw [List.getElem_map];exact h));have HNO:Hid (l[i].map (zr p)≠cs[i]→B=false):=za (fun h=>by
     rw [HBB.out];exact decide_eq_false fun e=>h (by
      have h1:(l.map fun c=>c.map (zr p))[i]? =cs[i]? :=by rw [e]
      rw [List.getElem?_eq_getElem (by rw [List.length_map];exact hi),List.getElem?_eq_getElem hi2,List.getElem_map] at h1;exact Option.some.inj h1))
    obtain ⟨y,hy⟩: ∃y,y=l[i]:=⟨_,rfl⟩;obtain ⟨z,hz⟩: ∃z,z=cs[i]:=⟨_,rfl⟩;have HYL:Hid (y.length≤1000):=za (by rw [hy];exact HB2.out _ (List.getElem_mem hi));rw [←hy] at hsA HSTEP HNO;rw [←hz] at hsB HSTEP HNO;obtain ⟨Ai,ci,ef,q1,q2⟩:=hsA.form;clear q1 q2;obtain ⟨Bi,di,eb,q1,q2⟩:=hsB.form;clear q1 q2;subst ef eb;obtain ⟨ny,hny⟩: ∃k,k=y.length:=⟨_,rfl⟩;obtain ⟨nz,hnz⟩: ∃k,k=z.length:=⟨_,rfl⟩;have HNY:=za (And.intro hny hnz);have hny9:ny≤1000:=by rw [hny];exact HYL.out
    rw [←hny] at hsA hcA;rw [←hnz] at hsB hcB;have HGR:Hid (w0.grownBy wr.drew none):=za (HX.out.1.trans (zb wr 1));have HL6:Hid (∀W,wr.drew.grownBy W none→W.cell? ⟨gA,oA+i,none⟩=some (.slice Ai ny ci)∧W.cell? ⟨gB,oB+i,none⟩=some (.slice Bi nz di)):=za (fun W hg=>⟨Xj hcA ((zb wr 1).trans hg) (by simp),Xj hcB ((zb wr 1).trans hg) (by simp)⟩);have HSA:=za (hsA.kept (zb wr 1));have HSB:=za (hsB.kept (zb wr 1));clear hsA hsB hcA hcB hy hz hny hnz HX hi2;go_upto_region 6 with (fail)
    refine Zf 11 ?_;refine mP0 (.slice (some ⟨gA,oA,none⟩) L c1) ?_;refine mP0 (.int .i64 (i:Int)) ?_;refine mP2 (.pointer (some ⟨gA,oA+i,none⟩)) 0 20 1 21 ?_;refine mQ1 (.slice Ai ny ci) 2 22 (fun w' hw' K hK=> ?_) ?_
    ·obtain ⟨q0,q1⟩:=HL6.out w' hw';go_simp;exact hK _ rfl rfl
    refine mP1 (.int .i64 (ny:Int)) 3 23 ?_;refine mP0 (.slice (some ⟨gB,oB,none⟩) L c2) ?_;refine mP0 (.int .i64 (i:Int)) ?_;refine mP2 (.pointer (some ⟨gB,oB+i,none⟩)) 5 25 6 26 ?_;refine mQ1 (.slice Bi nz di) 7 27 (fun w' hw' K hK=> ?_) ?_
    ·obtain ⟨q0,q1⟩:=HL6.out w' hw';go_simp;exact hK _ rfl rfl
    refine mP1 (.int .i64 (nz:Int)) 8 28 ?_;refine mP2 (.bool ((ny:Int) !=(nz:Int))) 4 24 9 29 ?_;intro w3 hw3
    iterate 10 (refine pD ?_;intro _)
    intro y10 k10;have e10:y10= .bool ((ny:Int) !=(nz:Int)):=k10;subst e10;obtain ⟨q0,q1⟩:=HL6.out w3 hw3;have HQ1:=za q1;have HS3:=za (HSA.out.kept hw3);have HT3:=za (HSB.out.kept hw3);have HG3:Hid (w0.grownBy w3 none):=za (HGR.out.trans hw3);clear k10 hw3 HL6 HSA HSB HGR q1;refine wpList_nil ?_;simp only [Act.put,sAa,sAb,sAc];by_cases hnn:ny=nz
    ·subst hnn;have hne:((ny:Int) !=(ny:Int))=false:=by simp
     go_upto_region 9 with (fail)
     go_loopg [36] ny (fun gk s36 wx=> ∃j:Nat,j+gk=ny∧s36= .int .i64 j∧Hid (w3.grownBy wx none∧(y.map (zr p)).take j=z.take j))
     case atStart=>exact ⟨0,by omega,rfl,za ⟨World.grownBy.refl _ _,rfl⟩⟩
     case round=>
      rename World=>wj
      obtain ⟨j,hjn,rfl,HY⟩:=hrel;cases gk with
      |zero=>
       have eJ:ny=j:=by omega
       subst eJ;have hno: ¬((ny:Int)< (ny:Int)):=by omega
       have HFIN:Hid (w0.grownBy wj none∧(l.map fun c=>c.map (zr p)).take (i+1)=cs.take (i+1)):=za ⟨HG3.out.trans HY.out.1,HSTEP.out (PJ (by rw [List.length_map];exact HNY.out.1.symm) HNY.out.2.symm HY.out.2)⟩;clear HY HS3 HT3 q0 hi;go_wp2_with fail;go_roundg m
       case measure=>omega
       case rel=>exact ⟨i+1,by omega,by go_num,HFIN⟩
      |succ q=>
       have hjI:(j:Int)< (ny:Int):=by omega
       have hj0:(0:Int)≤(j:Int):=Int.natCast_nonneg j;have hjy:j< y.length:=by rw [←HNY.out.1];omega
       have hjz:j< z.length:=by rw [←HNY.out.2];omega
       obtain ⟨ga,oa,ca,ea,q1,q2,hc0,hc1,hu1,hu2⟩:=(HS3.out.kept HY.out.1).atP hjy;clear q1 q2;injection ea with ea1 ea2 ea3
       clear ea2;subst ea1 ea3;obtain ⟨gb,ob,cb,eb,q1,q2,hcb,hub⟩:=(HT3.out.kept HY.out.1).atU hjz;clear q1 q2;injection eb with eb1 eb2 eb3
       clear eb2;subst eb1 eb3;have HSTJ:Hid (zr p y[j]=z[j]→(y.map (zr p)).take (j+1)=z.take (j+1)):=za (fun h=>Rn (by rw [List.length_map];exact hjy) hjz HY.out.2 (by rw [List.getElem_map];exact h));have HNOJ:Hid (zr p y[j]≠z[j]→B=false):=za (fun h=>HNO.out fun e=>h (by
        have h1:(y.map (zr p))[j]? =z[j]? :=by rw [e]
        rw [List.getElem?_eq_getElem (by rw [List.length_map];exact hjy),List.getElem?_eq_getElem hjz,List.getElem_map] at h1;exact Option.some.inj h1))
       obtain ⟨x,hx⟩: ∃x,x=y[j]:=⟨_,rfl⟩;obtain ⟨s,hs⟩: ∃s,s=z[j]:=⟨_,rfl⟩;rw [←hx] at hc0 hc1 hu1 hu2 HSTJ HNOJ;rw [←hs] at hcb HSTJ HNOJ;obtain ⟨x1,x2⟩:=x;simp only at hc0 hc1 hu1 hu2;obtain ⟨c,hc⟩: ∃c,c=zr p (x1,x2):=⟨_,rfl⟩;rw [←hc] at HSTJ HNOJ;obtain ⟨wa,hwa⟩: ∃y,y=wj.alloc (Obj.cells #[.int .u64 x1, .int .u64 x2] 153):=⟨_,rfl⟩;obtain ⟨Bb,hBb⟩: ∃y,y=wj.heap.size:=⟨_,rfl⟩;have HGA:Hid (wj.grownBy wa none):=za (by rw [hwa];exact gAl _ _ none);have HBA:Hid (Bk wa Bb 153 #[.int .u64 x1, .int .u64 x2]):=za (by rw [hwa,hBb];exact Bk.new _ _ _);have HBP:Hid (Bk wj w.heap.size 39 p.cells):=za (HB0.out.grown (HG3.out.trans HY.out.1) (by simp));have HGW:Hid (wj.grownBy wa.drew none):=za (HGA.out.trans (zb wa 1));have HL11:Hid (∀W,wa.drew.grownBy W none→(∀o,W.cell? ⟨w.heap.size,o,none⟩=(#[.int .u64 p.P, .int .u64 p.Q, .int .u64 p.G, .int .u64 p.H, .int .i64 p.Nodes, .int .i64 p.N, .int .i64 p.T, .int .i64 p.K, .int .i64 p.D, .int .i64 p.R, .int .i64 p.M, .int .i64 p.X]:Array Value)[o]?)∧W.cell? ⟨Bb,0,none⟩=some (.int .u64 x1)∧W.cell? ⟨Bb,1,none⟩=some (.int .u64 x2)∧W.cell? ⟨gB,oB+i,none⟩=some (.slice (some ⟨gb,ob,none⟩) ny di)∧W.cell? ⟨gb,ob+j,none⟩=some (.int .u64 s)):=za (fun W hW=>⟨(HBP.out.grown (HGW.out.trans hW) (by simp)).prule,(HBA.out.grown ((zb wa 1).trans hW) (by simp)).cell 0,(HBA.out.grown ((zb wa 1).trans hW) (by simp)).cell 1,Xj HQ1.out ((HY.out.1.trans HGW.out).trans hW) (by simp),Xj hcb (HGW.out.trans hW) (by simp)⟩);have HCM:Hid (∀W,Calls Tryz.prog 95 #[p.v, .agg #[.int .u64 x1, .int .u64 x2]] W fun e' w'=>e'= .returned (.int .u64 c)∧W.grownBy w' none):=za (fun W=>by rw [hc];exact Zz p (x1,x2) W HP.out hu1 hu2)
       have HG4:Hid (w3.grownBy wa.drew none):=za (HY.out.1.trans HGW.out);clear hcb hub hx hs hu1 hu2 HY q0 hjy hjz hc;go_upto_region 11 with (fail)
       rw [←hwa, ←hBb];clear hwa hBb hc0 hc1;refine Zf 11 ?_;refine mQ0 (p.v) (fun w' hw' K hK=> ?_) ?_
       ·obtain ⟨q0,q1,q2,q3,q4⟩:=HL11.out w' hw';go_simp;exact hK _ rfl rfl
       refine mQ0 (.agg #[.int .u64 x1, .int .u64 x2]) (fun w' hw' K hK=> ?_) ?_
       ·obtain ⟨q0,q1,q2,q3,q4⟩:=HL11.out w' hw';go_simp;exact hK _ rfl rfl
       refine mN2 (Pv.eq (.int .u64 c)) 0 41 1 42 (fun w' hw' K hK=> ?_) ?_
       ·go_simp;refine (HCM.out w').mono ?_;rintro e w3 ⟨rfl,hg⟩;exact hK _ _ rfl rfl hg
       refine mP0 (.slice (some ⟨gB,oB,none⟩) L c2) ?_;refine mP0 (.int .i64 (i:Int)) ?_;refine mP2 (.pointer (some ⟨gB,oB+i,none⟩)) 3 44 4 45 ?_;refine mQ1 (.slice (some ⟨gb,ob,none⟩) ny di) 5 46 (fun w' hw' K hK=> ?_) ?_
       ·obtain ⟨q0,q1,q2,q3,q4⟩:=HL11.out w' hw';go_simp;exact hK _ rfl rfl
       refine mP0 (.int .i64 (j:Int)) ?_;refine mP2 (.pointer (some ⟨gb,ob+j,none⟩)) 6 47 7 48 ?_;refine mQ1 (.int .u64 s) 8 49 (fun w' hw' K hK=> ?_) ?_
       ·obtain ⟨q0,q1,q2,q3,q4⟩:=HL11.out w' hw';go_simp;exact hK _ rfl rfl
       refine mP2 (.bool (c !=s)) 2 43 9 50 ?_;intro w5 hw5
       iterate 10 (refine pD ?_;intro _)
       intro y10 k10;have e10:y10= .bool (c !=s):=k10;subst e10;have HG5:Hid (w3.grownBy w5 none):=za (HG4.out.trans hw5);clear k10 hw5 HL11 HCM HG4 HGW HBP HBA HGA;refine wpList_nil ?_;simp only [Act.put,sAa,sAb,sAc];by_cases hcs:c=s
       ·have hnc:(c !=s)=false:=by simpa using hcs
        have HFIN:Hid (w3.grownBy w5 none∧(y.map (zr p)).take (j+1)=z.take (j+1)):=za ⟨HG5.out,HSTJ.out hcs⟩;clear hcs;go_wp2_with fail;go_roundg q
        case measure=>omega
        case rel=>exact ⟨j+1,by omega,by go_num,HFIN⟩
       ·have hnc:(c !=s)=true:=by simpa using hcs
        have HF:=za (HNOJ.out hcs);have HGF:Hid (w.grownBy w5 none):=za (HG0.out.trans (HG3.out.trans HG5.out));clear hcs;go_wp2_with fail;go_ret;exact ⟨zm HF.out.symm,HGF.out⟩
    ·have hne:((ny:Int) !=(nz:Int))=true:=by simpa using (by omega: ¬(ny:Int)=(nz:Int))
     have HF:=za (HNO.out fun e=>hnn (by rw [HNY.out.1,HNY.out.2, ←e,List.length_map]));have HGF:Hid (w.grownBy w3 none):=za (HG0.out.trans HG3.out);clear hnn;go_wp2_with fail;go_ret;exact ⟨zm HF.out.symm,HGF.out⟩
 ·have hne:((l.length:Int) !=(cs.length:Int))=true:=by simpa using (by omega: ¬(l.length:Int)=(cs.length:Int))
  have HF:Hid (B=false):=za (by
   rw [HBB.out];exact decide_eq_false fun h=>hl (by rw [←h,List.length_map]))
  obtain ⟨n1,hn1⟩: ∃n,n=l.length:=⟨_,rfl⟩;obtain ⟨n2,hn2⟩: ∃n,n=cs.length:=⟨_,rfl⟩;rw [←hn1, ←hn2] at hne ⊢;clear h1 h2 hp hb2 hl hB hn1 hn2 H1 H2 hb;go_enter Tryz.func162,Tryz.ntmps162;go_wp2_with fail;rw [←hw0];go_ret;exact ⟨zm HF.out.symm,HG0.out⟩
end
section
open Go Go.RowKit
end
section
open Go Go.RowKit
end
section
open Go
def cvI(a b:List Int)(n:Nat):Nat→Int
 |0=>0
 |i+1=>cvI a b n i+if i≤n then a[i]?.getD 0*b[n - i]?.getD 0 else 0
def YP(q:Int)(a b:List Int):List Int:=if zY q=true∧a≠ []∧b≠ [] then (List.range (a.length+b.length - 1)).map fun n=>cvI a b n a.length%q else []
def PM(q:Int)(a b:List Int):List Int:=if zY q=true then (List.range (max a.length b.length)).map fun i=>ZW (a[i]?.getD 0) (b[i]?.getD 0) q else []
def xC(q:Int)(a:List Int)(k:Int):List Int:=if zY q=true then a.map fun c=>yg c k q else []
def zS(q:Int)(c:List Int)(x:Int):List Int:=(List.range (c.length - 1)).map fun i=>zR q (c.drop (i+1)) x
def Py(q:Int)(xs:List Int):List Int:=xs.foldl (fun all x=>YP q all [Ys 0 x q,1]) [1%q]
noncomputable def YQ(q:Int)(xs ys:List Int)(n:Nat):List Int:=(List.range n).foldl (fun out i=>PM q out (xC q (zS q (Py q xs) (xs[i]?.getD 0)) (yg (TW (xB q xs 0 i) q) (ys[i]?.getD 0) q))) (List.replicate xs.length 0)
open Classical in
noncomputable def OF(q:Int)(xs ys:List Int):Int:=if zY q=true∧xs.length=ys.length then IQ q xs 0 else 1
noncomputable def Uy(q:Int)(xs ys:List Int):List Int:=if OF q xs ys=0 then YQ q xs ys xs.length else []
theorem Uz(q:Int)(xs ys:List Int)(n:Nat):YQ q xs ys (n+1)=PM q (YQ q xs ys n) (xC q (zS q (Py q xs) (xs[n]?.getD 0)) (yg (TW (xB q xs 0 n) q) (ys[n]?.getD 0) q)):=by
 unfold YQ;rw [List.range_succ,List.foldl_append];rfl
theorem Km(q:Int)(xs:List Int)(n:Nat)(h:n< xs.length):Py q (xs.take (n+1))=YP q (Py q (xs.take n)) [Ys 0 xs[n] q,1]:=by
 unfold Py;rw [List.take_succ_eq_append_getElem h,List.foldl_append];rfl
section
variable {q:Int} (hq:zY q=true)
include hq
theorem QS(a b:List Int):(PM q a b).length=max a.length b.length:=by
 unfold PM;rw [if_pos hq];simp
theorem YT(a:List Int)(k:Int):(xC q a k).length=a.length:=by
 unfold xC;rw [if_pos hq];simp
end
end
section
open Go
structure zL where
 m:List (List (List Int))
 a:List (List (Int×Int))
 b:List (List (Int×Int))
 deriving DecidableEq
structure zw where
 p:Par
 dealer:Int
 me:Int
 coms:List (List Int)
structure ASt where
 dealt:Option zL
 own:Option zL
 heard:Int→Int→Option zL
 done:Bool
def ASt.start:ASt:=⟨none,none,fun _ _=>none,false⟩
abbrev yL:=Int×Int×List Int
def zI(E:zw)(nums:List Int)(k:Int):zL×Bool:=(⟨TV E.p nums k,Pd E.p nums k,Pc E.p nums k⟩,decide (Tn E.p nums.length k=0) && xu E.p (TV E.p nums k) E.coms E.dealer)
def zv(E:zw)(nums:List Int):zL×Bool:=((zI E nums (E.p.T+1)).1,(zI E nums (E.p.T+1)).2 && Zj E.p (zI E nums (E.p.T+1)).1.a (zT E.p (zI E nums (E.p.T+1)).1.m E.me) && Zj E.p (zI E nums (E.p.T+1)).1.b (xy E.p (zI E nums (E.p.T+1)).1.m E.me))
def zt(l:List (List (Int×Int))):List (Int×Int):=l.map fun c=>c.headD (0,0)
def zk(E:zw)(i:Int)(nums:List Int):zL×Bool:=((zI E nums 1).1,(zI E nums 1).2 && VS E.p (zT E.p (zI E nums 1).1.m i) E.me (zt (zI E nums 1).1.a) && VS E.p (zT E.p (zI E nums 1).1.m E.me) i (zt (zI E nums 1).1.b))
def ASt.put(s:ASt)(k i:Int)(x:zL):ASt:={s with heard:=fun k' i'=>if k'=k∧i'=i then some x else s.heard k' i'}
def It(N:Int):List Int:=(List.range N.toNat).map fun (i:Nat)=>(i:Int)+1
def RM(s:ASt)(k:Int)(m:List (List (List Int)))(i:Int):Bool:=match s.heard k i with|some x=>decide (x.m=m)|none=>false
def xn(E:zw)(s:ASt)(k:Int)(m:List (List (List Int))):List Int:=(It E.p.N).filter (RM s k m)
def JR:Int:=7
def VN:Int:=8
def xF:Int:=9
def Lh:Int:=10
def zG(E:zw)(s:ASt)(m:List (List (List Int))):List (Int×Int):=
 if ((xn E s VN m).length:Int)>(E.p.N+E.p.T).tdiv 2 then (xn E s VN m).map fun i=>(VN,i)
 else if ((xn E s xF m).length:Int)>E.p.T then (xn E s xF m).map fun i=>(xF,i) else []
noncomputable def Tf(E:zw)(xs:List Int)(ps:List (List (Int×Int))):List (List (Int×Int)):=(List.range E.coms.length).map fun s=>
 ((Uy E.p.Q xs (ps.map fun l=>(l[s]?.getD (0,0)).1)).zip (Uy E.p.Q xs (ps.map fun l=>(l[s]?.getD (0,0)).2)))
def XJ(s:ASt)(h:Int×Int)(one:zL→List (Int×Int)):List (Int×Int):=match s.heard h.1 h.2 with|some x=>one x|none=> []
noncomputable def yn(E:zw)(s:ASt)(by_:List (Int×Int))(one:zL→List (Int×Int)):List (List (Int×Int)):=Tf E (by_.map (·.2)) (by_.map fun h=>XJ s h one)
noncomputable def yG(E:zw)(s:ASt)(m:List (List (List Int)))(by_:List (Int×Int)):zL:=
 let thr:zL:=⟨m,yn E s (by_.take (E.p.T+1).toNat) (fun x=>zt x.b),yn E s (by_.take (E.p.T+1).toNat) (fun x=>zt x.a)⟩
 match s.dealt with
 |some d=>if d.m=m then d else thr
 |none=>thr
def zN(l:List (Int×Int)):List (List (Int×Int)):=l.map fun x=> [x]
def yJ(E:zw)(x:zL)(i:Int):List Int:=Zv x.m (zN (x.a.map (atP E.p.Q i))) (zN (x.b.map (atP E.p.Q i)))
def Yf(E:zw)(kind:Int)(x:zL):List yL:=((It E.p.N).filter fun i=>decide (i≠E.me)).map fun i=>(kind,i,yJ E x i)
def ZC(E:zw)(hear:ASt→Int→Int→List Int→ASt×List yL)(s:ASt)(kind:Int)(x:zL):ASt×List yL:=
 ((hear s kind E.me (yJ E x E.me)).1,Yf E kind x++(hear s kind E.me (yJ E x E.me)).2)
def Qm(m:List (List (List Int))):List (List Int):=m.map fun f=>f.map fun row=>row.headD 0
def ZD(E:zw)(s:ASt)(out:List yL):ASt×List yL:=match s.own with
 |some o=>if s.done=false∧((xn E s xF o.m).length:Int)≥E.p.N - E.p.T then ({s with done:=true},out++ [(Lh,0,(Qm o.m).flatten)]) else (s,out)
 |none=>(s,out)
noncomputable def xh(E:zw)(tell:ASt→zL→ASt×List yL)(s:ASt)(kind i:Int)(nums:List Int):ASt×List yL:=
 if (s.heard kind i).isSome=true∨i< 1∨E.p.N< i∨(zk E i nums).2=false then (s, [])
 else
  let x:=(zk E i nums).1
  let s1:=s.put kind i x
  if s1.own=none∧zG E s1 x.m≠ [] then
   let o:=yG E s1 x.m (zG E s1 x.m)
   ZD E (tell {s1 with own:=some o} o).1 (tell {s1 with own:=some o} o).2
  else ZD E s1 []
noncomputable def Yg(E:zw):ASt→Int→Int→List Int→ASt×List yL:=xh E fun s _=>(s, [])
noncomputable def xg(E:zw):ASt→Int→Int→List Int→ASt×List yL:=xh E fun s o=>ZC E (Yg E) s xF o
noncomputable def yA(E:zw)(s:ASt)(kind i:Int)(nums:List Int):ASt×List yL:=
 if kind=JR∧i=0∧s.dealt=none then
  (if (zv E nums).2=false then (s, []) else ZC E (xg E) {s with dealt:=some (zv E nums).1} VN (zv E nums).1)
 else if kind=VN∨kind=xF then xg E s kind i nums else (s, [])
def xc:Option zL→List Int
 |none=> []
 |some x=>Zv x.m x.a x.b
def Ye(E:zw)(s:ASt)(kind:Int):List (Int×List Int):=(It E.p.N).filterMap fun i=>(s.heard kind i).map fun x=>(i,Zv x.m x.a x.b)
end
section
open Go Go.RowKit Go.Shelf Go.Maps
def zJ(X:Nat→Prop)(W:World)(b:Nat)(x:zL):Prop:= ∃vm va vb,X b∧Bk W b 146 #[vm,va,vb]∧Sl (zh (zh ze)) X W vm x.m∧Sl (zh zo) X W va x.a∧Sl (zh zo) X W vb x.b
theorem zJ.keep{X:Nat→Prop}{W W':World}{b:Nat}{x:zL}(h:zJ X W b x){row:Option Nat}(hg:W.grownBy W' row)(hX: ∀g,X g→some g≠row):zJ X W' b x:=by
 obtain ⟨vm,va,vb,h1,h2,h3,h4,h5⟩:=h;exact ⟨vm,va,vb,h1,h2.grown hg (hX b h1),h3.keep hg hX,h4.keep hg hX,h5.keep hg hX⟩
theorem zJ.more{X Y:Nat→Prop}{W:World}{b:Nat}{x:zL}(h:zJ X W b x)(hX: ∀g,g< W.heap.size→X g→Y g):zJ Y W b x:=by
 obtain ⟨vm,va,vb,h1,h2,h3,h4,h5⟩:=h;exact ⟨vm,va,vb,hX b h2.lt h1,h2,h3.more hX,h4.more hX,h5.more hX⟩
def Uk(X:Nat→Prop)(W:World)(v:Value):Option zL→Prop
 |none=>v= .pointer none
 |some x=> ∃b,v= .pointer (some ⟨b,0,none⟩)∧zJ X W b x
theorem Uk.keep{X:Nat→Prop}{W W':World}{v:Value}{o:Option zL}(h:Uk X W v o){row:Option Nat}(hg:W.grownBy W' row)(hX: ∀g,X g→some g≠row):Uk X W' v o:=by
 cases o with
 |none=>exact h
 |some x=>obtain ⟨b,e,hp⟩:=h;exact ⟨b,e,hp.keep hg hX⟩
theorem Uk.more{X Y:Nat→Prop}{W:World}{v:Value}{o:Option zL}(h:Uk X W v o)(hX: ∀g,g< W.heap.size→X g→Y g):Uk Y W v o:=by
 cases o with
 |none=>exact h
 |some x=>obtain ⟨b,e,hp⟩:=h;exact ⟨b,e,hp.more hX⟩
def QZ(v:Value):Option (DataW Unit×List MemPlace):=match v with
 | .pointer none=>some (.lit (.int .i64 (-1)), [])
 | .pointer (some ⟨b,0,none⟩)=>some (.lit (.int .i64 b), [])
 |_=>none
theorem ML(b:Nat):QZ (.pointer (some ⟨b,0,none⟩))=some (.lit (.int .i64 (b:Int)), []):=rfl
theorem Xv{v:Value}{b:Nat}{ps:List MemPlace}(h:QZ v=some (.lit (.int .i64 (b:Int)),ps)):v= .pointer (some ⟨b,0,none⟩):=by
 unfold QZ at h;split at h
 ·simp at h
 ·rename_i b';simp at h;obtain rfl:b'=b:=by omega
  rfl
 ·cases h
theorem Ek:laidOutB Tryz.prog=true:=by kernel_rfl
theorem XP:Keyed Tryz.prog 133:=Keyed.of_law (deep_law_laid Ek (m:=2) (by omega) (of_decide_eq_true (by kernel_rfl)) (by kernel_rfl) (by rw [Tryz.underlying133]))
def plV(k i:Int):Value:= .agg #[.int .u8 k, .int .i64 i]
theorem GG: ∃n,Tryz.prog.types.size=n+1:=⟨Tryz.prog.types.size - 1,by kernel_rfl⟩
theorem FS(k i:Int)(hk:0≤k∧k< 256)(hi:I64 i): ∃kl,keyOf Tryz.prog 133 (plV k i)=some kl:=by
 obtain ⟨n,hn⟩:=GG;have hkt:Tryz.prog.keyType 133=true:=by kernel_rfl
 have hf:(plV k i).formed Tryz.prog 133=true:=by
  simp only [plV,Value.formed,Tryz.underlying133]
  kernel_rfl
 have hw1:(Lit.int .u8 k).wf=true:=by simp [Lit.wf,IntKind.min,IntKind.max,IntKind.bits,IntKind.signed];omega
 have hw2:(Lit.int .i64 i).wf=true:=by obtain ⟨h1,h2⟩:=hi;simp [Lit.wf,IntKind.min,IntKind.max,IntKind.bits,IntKind.signed];omega
 unfold keyOf;rw [Tryz.underlying133];simp only [hkt,hf,Bool.and_self,if_true];have c1:Tryz.prog.cellsOf 133=2:=by kernel_rfl
 have c2:Tryz.prog.cellsOf 5=1:=by kernel_rfl
 have c3:Tryz.prog.cellsOf 3=1:=by kernel_rfl
 have l1:Tryz.prog.keyLits (n+1) 5 [.int .u8 k]=some [.int .u8 k]:=by
  unfold Program.keyLits;simp [Tryz.underlying5,hw1]
 have l2:Tryz.prog.keyLits (n+1) 3 [.int .i64 i]=some [.int .i64 i]:=by
  unfold Program.keyLits;simp [Tryz.underlying3,hw2]
 have hl:Tryz.prog.keyLits (Tryz.prog.types.size+1) 133 (plV k i).cells.toList=some [.int .u8 k, .int .i64 i]:=by
  rw [hn];unfold Program.keyLits;simp [plV,Tryz.underlying133,c1,c2,c3,Value.cells,l1,l2]
 rw [hl];exact ⟨_,rfl⟩
noncomputable def plL(k i:Int):Lit:=(keyOf Tryz.prog 133 (plV k i)).getD (.bool false)
theorem ZK(k i:Int)(hk:0≤k∧k< 256)(hi:I64 i):keyOf Tryz.prog 133 (plV k i)=some (plL k i):=by
 obtain ⟨kl,h⟩:=FS k i hk hi;unfold plL;rw [h];rfl
theorem Hh{k i k' i':Int}(hk:0≤k∧k< 256)(hi:I64 i)(hk':0≤k'∧k'< 256)(hi':I64 i')(h:plL k i=plL k' i'):k=k'∧i=i':=by
 have h1:=ZK k i hk hi;have h2:=ZK k' i' hk' hi';rw [h] at h1
 have:=XP.inj h1 h2
 unfold plV at this;injection this with h3
 simpa using h3
theorem Hg(k i:Int)(hk:0≤k∧k< 256)(hi:I64 i):WideAt.IsKeyLit (plL k i):=by
 have h:=ZK k i hk hi;generalize plL k i=l at h ⊢;exact XP.key h
def zO(X:Nat→Prop)(W:World)(gM nn:Nat)(hd:Int→Int→Option zL):Prop:=
 ∃D:DataW Unit,W.ownsMap Tryz.prog 133 QZ gM nn D∧ ∀k i,0≤k∧k< 256→I64 i→match hd k i with
  |none=>Maps.has D (plL k i)=false
  |some x=>Maps.has D (plL k i)=true∧ ∃b:Nat,D.atKey (plL k i) (.lit (.int .i64 (-1)))= .lit (.int .i64 (b:Int))∧zJ X W b x
section
variable {X Y:Nat→Prop} {W W':World} {gM nn:Nat} {hd:Int→Int→Option zL}
theorem zO.keep(h:zO X W gM nn hd){row:Option Nat}(hg:W.grownBy W' row)(hX: ∀g,X g→some g≠row)(hM:some gM≠row):zO X W' gM nn hd:=by
 obtain ⟨D,h1,h2⟩:=h;refine ⟨D,h1.kept hg hM,fun k i hk hi=> ?_⟩
 have:=h2 k i hk hi
 revert this
 cases hd k i with
 |none=>exact id
 |some x=>exact fun ⟨a,b,c,d⟩=>⟨a,b,c,d.keep hg hX⟩
theorem zO.more(h:zO X W gM nn hd)(hX: ∀g,g< W.heap.size→X g→Y g):zO Y W gM nn hd:=by
 obtain ⟨D,h1,h2⟩:=h;refine ⟨D,h1,fun k i hk hi=> ?_⟩
 have:=h2 k i hk hi
 revert this
 cases hd k i with
 |none=>exact id
 |some x=>exact fun ⟨a,b,c,d⟩=>⟨a,b,c,d.more hX⟩
theorem zO.lt(h:zO X W gM nn hd):gM< W.heap.size:=h.choose_spec.1.lt
theorem Xw{v:Value}{ps:List MemPlace}(h:QZ v=some (.lit (.int .i64 (-1)),ps)):v= .pointer none:=by
 unfold QZ at h;split at h
 ·rfl
 ·simp at h
 ·cases h
theorem zO.new(W:World):zO X (W.alloc (.map #[] 0)) W.heap.size 0 (fun _ _=>none):=⟨.map [],World.ownsMap_made W _ _ _,fun _ _ _ _=>rfl⟩
end
end
section
open Go Go.RowKit Go.Shelf
theorem XC(p:Par)(vm vl:Value)(m:List (List (List Int)))(x y:Int)(l:List (Int×Int))(X Y:Nat→Prop)(w:World)(hp:p.ok)(h1:Sl (zh (zh ze)) X w vm m)(hx:U64 x)(hy:U64 y)(h2:Sl zo Y w vl l)(hb1:m.length≤100000)(hb2: ∀l∈m,l.length≤100000∧ ∀c∈l,c.length≤100000)(hb:l.length≤100000):
  Calls Tryz.prog 167 #[p.v,vm, .int .u64 x, .int .u64 y,vl] w fun e w'=>e= .returned (.bool (VS p (zT p m x) y l))∧w.grownBy w' none:=by
 obtain ⟨Am,nm,cm,rfl⟩:=h1.shape;obtain ⟨Al,nl,cl,rfl⟩:=h2.shape;obtain ⟨w0,hw0⟩: ∃y,y=w.alloc (Obj.cells p.cells 39):=⟨_,rfl⟩;have HB0:Hid (Bk w0 w.heap.size 39 p.cells):=za (by rw [hw0];exact Bk.new w _ _);have HG0:Hid (w.grownBy w0 none):=za (by rw [hw0];exact gAl w _ none);have HBP:Hid (Bk w0.drew w.heap.size 39 p.cells):=za (HB0.out.drewN 1);have HGD:Hid (w.grownBy w0.drew none):=za (HG0.out.trans (zb w0 1));obtain ⟨cs,hcs⟩: ∃y,y=zT p m x:=⟨_,rfl⟩;have HCL:Hid (cs.length≤100000):=za (by rw [hcs];simp [zT];exact hb1);have HRC:Hid (∀W,w0.drew.grownBy W none→Calls Tryz.prog 163 #[p.v, .slice Am nm cm, .int .u64 x] W (zH (zh ze) (fun g=>W.heap.size≤g) W cs)):=za (fun W hg=>by
  rw [hcs];exact VA p _ m x X W (h1.kept (HGD.out.trans hg)) hx hb1 hb2)
 rw [←hcs];obtain ⟨b,hbe⟩: ∃b,b=VS p cs y l:=⟨_,rfl⟩;have HFI:Hid (∀v W,w0.drew.grownBy W none→Sl (zh ze) TT W v cs→Calls Tryz.prog 43 #[p.v,v, .int .u64 y, .slice Al nl cl] W fun e w'=>e= .returned (.bool b)∧W.grownBy w' none):=za (fun v W hg hs=>by
  rw [hbe];exact JV p v cs y _ l TT Y W hp hs hy (h2.kept (HGD.out.trans hg)) HCL.out hb)
 rw [←hbe];clear h1 h2 hcs hp hb hb1 hb2 hbe HCL;go_enter Tryz.func167,Tryz.ntmps167;go_upto_region 1 with (fail)
 rw [←hw0];clear hw0;refine Zf 9 ?_;refine mQ0 (p.v) (fun w' hw' K hK=> ?_) ?_
 ·have hp:=(HBP.out.grown hw' (by simp)).prule;go_simp;exact hK _ rfl rfl
 refine mQ0 (p.v) (fun w' hw' K hK=> ?_) ?_
 ·have hp:=(HBP.out.grown hw' (by simp)).prule;go_simp;exact hK _ rfl rfl
 refine mP0 (.slice Am nm cm) ?_;refine mP0 (.int .u64 x) ?_;refine zn.step (Pv.sl (zh ze) TT cs) [(1,12),(2,13),(3,14)] (by kernel_rfl) (fun w' hw'=> ?_) ?_
 ·rintro _ rfl;rintro _ rfl;rintro _ rfl;refine zq rfl fun K hK=> ?_
  go_simp;refine (HRC.out w' hw').mono ?_;rintro e w3 ⟨v3,rfl,hs3,hg3⟩;exact hK _ _ rfl (hs3.more fun _ _ _=>trivial) hg3
 refine mP0 (.int .u64 y) ?_;refine mP0 (.slice Al nl cl) ?_;refine zn.step (Pv.eq (.bool b)) [(0,11),(4,15),(5,16),(6,17)] (by kernel_rfl) (fun w' hw'=> ?_) ?_
 ·rintro _ rfl;intro x15 h15;have h15:Sl (zh ze) TT w' x15 cs:=h15;obtain ⟨A15,c15,e15,k15,l15⟩:=h15.form;have e15:x15= .slice A15 cs.length c15:=e15;subst e15;rintro _ rfl;rintro _ rfl;refine zq rfl fun K hK=> ?_
  go_simp;refine (HFI.out _ w' hw' h15).mono ?_;rintro e w3 ⟨rfl,hg3⟩;exact hK _ _ rfl rfl hg3
 refine zn.step (Pv.eq (.bool b)) [(7,18)] (by kernel_rfl) (fun w' hw'=> ?_) ?_
 ·rintro _ rfl;refine zq rfl fun K hK=> ?_
  go_simp;exact hK _ _ rfl rfl gRf
 intro w3 hw3
 iterate 8 (refine pD ?_;intro _)
 intro y8 k8;have e8:y8= .bool b:=k8;subst e8;have HGF:Hid (w.grownBy w3 none):=za (HGD.out.trans hw3);clear k8 hw3;refine wpList_nil ?_;simp only [Act.put,sAa,sAb,sAc];go_wp2;go_ret;exact ⟨rfl,HGF.out⟩
end
section
open Go Go.RowKit Go.Shelf
theorem XV(p:Par)(vm vl:Value)(m:List (List (List Int)))(x:Int)(l:List (List (Int×Int)))(X Y:Nat→Prop)(w:World)(hp:p.ok)(h1:Sl (zh (zh ze)) X w vm m)(hx:U64 x)(h2:Sl (zh zo) Y w vl l)(hb1:m.length≤100000)(hb2: ∀l∈m,l.length≤100000∧ ∀c∈l,c.length≤100000)(hb:l.length≤1000)(hb3: ∀c∈l,c.length≤1000):
  Calls Tryz.prog 116 #[p.v,vm, .int .u64 x,vl] w fun e w'=>e= .returned (.bool (Zj p l (zT p m x)))∧w.grownBy w' none:=by
 obtain ⟨Am,nm,cm,rfl⟩:=h1.shape;obtain ⟨Al,nl,cl,rfl⟩:=h2.shape;obtain ⟨w0,hw0⟩: ∃y,y=w.alloc (Obj.cells p.cells 39):=⟨_,rfl⟩;have HB0:Hid (Bk w0 w.heap.size 39 p.cells):=za (by rw [hw0];exact Bk.new w _ _);have HG0:Hid (w.grownBy w0 none):=za (by rw [hw0];exact gAl w _ none);have HGd:Hid (w.grownBy w0.drew none):=za (HG0.out.trans (zb w0 1));have HPR:Hid (∀W,w0.drew.grownBy W none→ ∀o,W.cell? ⟨w.heap.size,o,none⟩=(#[.int .u64 p.P, .int .u64 p.Q, .int .u64 p.G, .int .u64 p.H, .int .i64 p.Nodes, .int .i64 p.N, .int .i64 p.T, .int .i64 p.K, .int .i64 p.D, .int .i64 p.R, .int .i64 p.M, .int .i64 p.X]:Array Value)[o]?):=za (fun W hW=>(HB0.out.grown ((zb w0 1).trans hW) (by simp)).prule);have HRC:Hid (∀W,w0.drew.grownBy W none→Calls Tryz.prog 163 #[p.v, .slice Am nm cm, .int .u64 x] W (zH (zh ze) (fun g=>W.heap.size≤g) W (zT p m x))):=za (fun W hW=>VA p _ m x X W (h1.kept (HGd.out.trans hW)) hx hb1 hb2);have HFT:Hid (∀W v,w0.drew.grownBy W none→Sl (zh ze) TT W v (zT p m x)→Calls Tryz.prog 162 #[p.v, .slice Al nl cl,v] W fun e w'=>e= .returned (.bool (Zj p l (zT p m x)))∧W.grownBy w' none):=za (fun W v hW hv=>Qh p _ v l _ Y TT W hp (h2.kept (HGd.out.trans hW)) hv hb hb3);obtain ⟨R,hR⟩: ∃R,R=zT p m x:=⟨_,rfl⟩;rw [←hR] at HRC HFT ⊢;obtain ⟨B,hB⟩: ∃B,B=Zj p l R:=⟨_,rfl⟩;rw [←hB] at HFT ⊢;clear h1 h2 hp hx hb1 hb2 hb hb3 hR hB;go_enter Tryz.func116,Tryz.ntmps116;go_upto_region 1 with (fail)
 rw [←hw0];clear hw0;refine Zf 7 ?_;refine mQ0 (p.v) (fun w' hw' K hK=> ?_) ?_
 ·have hp:=HPR.out w' hw';go_simp;exact hK _ rfl rfl
 refine mP0 (.slice Al nl cl) ?_;refine mQ0 (p.v) (fun w' hw' K hK=> ?_) ?_
 ·have hp:=HPR.out w' hw';go_simp;exact hK _ rfl rfl
 refine mP0 (.slice Am nm cm) ?_;refine mP0 (.int .u64 x) ?_;refine mN3 (Pv.sl (zh ze) TT R) 2 11 3 12 4 13 (fun w' hw' K hK=> ?_) ?_
 ·go_simp;refine (HRC.out w' hw').mono ?_;rintro e w3 ⟨v3,rfl,h3,hg⟩;exact hK _ _ rfl (h3.more (fun _ _ _=>trivial)) hg
 refine mS (.bool B) [(0,9),(1,10),(5,14)] (fun w' hw'=>pQ (pQ (fun x14 h14=>kD fun K hK=> ?_))) ?_
 ·have h14:Sl (zh ze) TT w' x14 R:=h14;obtain ⟨A14,c14,e14,k14,l14⟩:=h14.form;have e14:x14= .slice A14 R.length c14:=e14;subst e14;go_simp;refine (HFT.out w' _ hw' h14).mono ?_;rintro e w3 ⟨rfl,hg⟩;exact hK _ _ rfl rfl hg
 intro w5 hw5
 iterate 6 (refine pD ?_;intro _)
 intro y6 k6;have e6:y6= .bool B:=k6;subst e6;have HGF:Hid (w.grownBy w5 none):=za (HGd.out.trans hw5);clear k6 hw5 HRC HFT HPR;show wpList Tryz.prog _ _ _ _ w5;simp only [Act.put,sAa,sAb,sAc];go_wp2_with fail;go_ret;exact ⟨rfl,HGF.out⟩
theorem Qi(p:Par)(vm vl:Value)(m:List (List (List Int)))(x:Int)(l:List (List (Int×Int)))(X Y:Nat→Prop)(w:World)(hp:p.ok)(h1:Sl (zh (zh ze)) X w vm m)(hx:U64 x)(h2:Sl (zh zo) Y w vl l)(hb1:m.length≤100000)(hb2: ∀l∈m,l.length≤100000∧ ∀c∈l,c.length≤100000)(hb:l.length≤1000)(hb3: ∀c∈l,c.length≤1000):
  Calls Tryz.prog 117 #[p.v,vm, .int .u64 x,vl] w fun e w'=>e= .returned (.bool (Zj p l (xy p m x)))∧w.grownBy w' none:=by
 obtain ⟨Am,nm,cm,rfl⟩:=h1.shape;obtain ⟨Al,nl,cl,rfl⟩:=h2.shape;obtain ⟨w0,hw0⟩: ∃y,y=w.alloc (Obj.cells p.cells 39):=⟨_,rfl⟩;have HB0:Hid (Bk w0 w.heap.size 39 p.cells):=za (by rw [hw0];exact Bk.new w _ _);have HG0:Hid (w.grownBy w0 none):=za (by rw [hw0];exact gAl w _ none);have HGd:Hid (w.grownBy w0.drew none):=za (HG0.out.trans (zb w0 1));have HPR:Hid (∀W,w0.drew.grownBy W none→ ∀o,W.cell? ⟨w.heap.size,o,none⟩=(#[.int .u64 p.P, .int .u64 p.Q, .int .u64 p.G, .int .u64 p.H, .int .i64 p.Nodes, .int .i64 p.N, .int .i64 p.T, .int .i64 p.K, .int .i64 p.D, .int .i64 p.R, .int .i64 p.M, .int .i64 p.X]:Array Value)[o]?):=za (fun W hW=>(HB0.out.grown ((zb w0 1).trans hW) (by simp)).prule);have HRC:Hid (∀W,w0.drew.grownBy W none→Calls Tryz.prog 164 #[p.v, .slice Am nm cm, .int .u64 x] W (zH (zh ze) (fun g=>W.heap.size≤g) W (xy p m x))):=za (fun W hW=>Pt p _ m x X W (h1.kept (HGd.out.trans hW)) hx hb1 (fun l hl=>(hb2 l hl).1));have HFT:Hid (∀W v,w0.drew.grownBy W none→Sl (zh ze) TT W v (xy p m x)→Calls Tryz.prog 162 #[p.v, .slice Al nl cl,v] W fun e w'=>e= .returned (.bool (Zj p l (xy p m x)))∧W.grownBy w' none):=za (fun W v hW hv=>Qh p _ v l _ Y TT W hp (h2.kept (HGd.out.trans hW)) hv hb hb3);obtain ⟨R,hR⟩: ∃R,R=xy p m x:=⟨_,rfl⟩;rw [←hR] at HRC HFT ⊢;obtain ⟨B,hB⟩: ∃B,B=Zj p l R:=⟨_,rfl⟩;rw [←hB] at HFT ⊢;clear h1 h2 hp hx hb1 hb2 hb hb3 hR hB;go_enter Tryz.func117,Tryz.ntmps117;go_upto_region 1 with (fail)
 rw [←hw0];clear hw0;refine Zf 7 ?_;refine mQ0 (p.v) (fun w' hw' K hK=> ?_) ?_
 ·have hp:=HPR.out w' hw';go_simp;exact hK _ rfl rfl
 refine mP0 (.slice Al nl cl) ?_;refine mQ0 (p.v) (fun w' hw' K hK=> ?_) ?_
 ·have hp:=HPR.out w' hw';go_simp;exact hK _ rfl rfl
 refine mP0 (.slice Am nm cm) ?_;refine mP0 (.int .u64 x) ?_;refine mN3 (Pv.sl (zh ze) TT R) 2 11 3 12 4 13 (fun w' hw' K hK=> ?_) ?_
 ·go_simp;refine (HRC.out w' hw').mono ?_;rintro e w3 ⟨v3,rfl,h3,hg⟩;exact hK _ _ rfl (h3.more (fun _ _ _=>trivial)) hg
 refine mS (.bool B) [(0,9),(1,10),(5,14)] (fun w' hw'=>pQ (pQ (fun x14 h14=>kD fun K hK=> ?_))) ?_
 ·have h14:Sl (zh ze) TT w' x14 R:=h14;obtain ⟨A14,c14,e14,k14,l14⟩:=h14.form;have e14:x14= .slice A14 R.length c14:=e14;subst e14;go_simp;refine (HFT.out w' _ hw' h14).mono ?_;rintro e w3 ⟨rfl,hg⟩;exact hK _ _ rfl rfl hg
 intro w5 hw5
 iterate 6 (refine pD ?_;intro _)
 intro y6 k6;have e6:y6= .bool B:=k6;subst e6;have HGF:Hid (w.grownBy w5 none):=za (HGd.out.trans hw5);clear k6 hw5 HRC HFT HPR;show wpList Tryz.prog _ _ _ _ w5;simp only [Act.put,sAa,sAb,sAc];go_wp2_with fail;go_ret;exact ⟨rfl,HGF.out⟩
end
section
open Go.ChangeShapes Go.WideShapes Go.RowKit
end
section
open Go.ChangeShapes Go.WideShapes Go.RowKit
end
section
open Go Go.RowKit Go.Shelf
end
section
open Go Go.RowKit Go.Shelf Go.Maps
abbrev zu(E:zw)(vc vd vo:Value)(gM:Nat)(dn:Bool):Array Value:= #[.int .u64 E.p.P, .int .u64 E.p.Q, .int .u64 E.p.G, .int .u64 E.p.H, .int .i64 E.p.Nodes, .int .i64 E.p.N, .int .i64 E.p.T, .int .i64 E.p.K, .int .i64 E.p.D, .int .i64 E.p.R, .int .i64 E.p.M, .int .i64 E.p.X, .int .i64 E.dealer, .int .i64 E.me,vc,vd,vo, .map (some gM), .bool dn]
structure zw.ok (E:zw):Prop where
 p:E.p.ok
 may:Va E.p=true
 dealer:1≤E.dealer∧E.dealer≤E.p.N
 me:1≤E.me∧E.me≤E.p.N
 formed:Za E.p E.coms=true
 few:E.coms.length≤100000
structure AvW (X:Nat→Prop) (gA gM nn:Nat) (E:zw) (st:ASt) (W:World):Prop where
 cells: ∃vc vd vo,Bk W gA 125 (zu E vc vd vo gM st.done)∧Sl (zh ze) X W vc E.coms∧Uk X W vd st.dealt∧Uk X W vo st.own
 heard:zO X W gM nn st.heard
 apart:gA≠gM
section
variable {X Y:Nat→Prop} {gA gM nn:Nat} {E:zw} {st:ASt} {W W':World}
theorem AvW.keep(h:AvW X gA gM nn E st W){row:Option Nat}(hg:W.grownBy W' row)(hX: ∀g,X g→some g≠row)(hA:some gA≠row)(hM:some gM≠row):AvW X gA gM nn E st W':=by
 obtain ⟨⟨vc,vd,vo,h1,h2,h3,h4⟩,h5,h6⟩:=h;exact ⟨⟨vc,vd,vo,h1.grown hg hA,h2.keep hg hX,h3.keep hg hX,h4.keep hg hX⟩,h5.keep hg hX hM,h6⟩
theorem AvW.kept(h:AvW X gA gM nn E st W)(hg:W.grownBy W' none):AvW X gA gM nn E st W':=h.keep hg (fun _ _=>by simp) (by simp) (by simp)
theorem AvW.more(h:AvW X gA gM nn E st W)(hX: ∀g,g< W.heap.size→X g→Y g):AvW Y gA gM nn E st W:=by
 obtain ⟨⟨vc,vd,vo,h1,h2,h3,h4⟩,h5,h6⟩:=h;exact ⟨⟨vc,vd,vo,h1,h2.more hX,h3.more hX,h4.more hX⟩,h5.more hX,h6⟩
theorem AvW.ltA(h:AvW X gA gM nn E st W):gA< W.heap.size:=by
 obtain ⟨vc,vd,vo,h1,_⟩:=h.cells;exact h1.lt
theorem AvW.ltM(h:AvW X gA gM nn E st W):gM< W.heap.size:=h.heard.lt
end
structure zj (gA gM:Nat) (w w':World):Prop where
 os:w'.os=w.os
 tape:w'.tape=w.tape
 output:w'.output=w.output
 size:w.heap.size≤w'.heap.size
 block: ∀i,i< w.heap.size→i≠gA→i≠gM→w'.heap[i]? =w.heap[i]?
theorem zj.of{gA gM:Nat}{w w':World}{row:Option Nat}(h:w.grownBy w' row)(hr:row=none∨row=some gA∨row=some gM):zj gA gM w w':=⟨h.os,h.tape,h.output,h.size,fun i hi h1 h2=>h.block i hi (by
 rcases hr with rfl|rfl|rfl
 ·simp
 ·simpa using h1
 ·simpa using h2)⟩
theorem zj.trans{gA gM:Nat}{a b c:World}(h:zj gA gM a b)(k:zj gA gM b c):zj gA gM a c:=⟨k.os.trans h.os,k.tape.trans h.tape,k.output.trans h.output,Nat.le_trans h.size k.size,fun i hi h1 h2=>(k.block i (Nat.lt_of_lt_of_le hi h.size) h1 h2).trans (h.block i hi h1 h2)⟩
theorem zj.refl(gA gM:Nat)(a:World):zj gA gM a a:=zj.of (World.grownBy.refl a none) (.inl rfl)
end
section
open Go Go.RowKit Go.Shelf Go.Maps
attribute [local go_sem] Oper.semAt_some
def Pv.bk(n0:Nat)(t:TypeId)(cs:Array Value):Pv:=⟨fun v w=> ∃b,v= .pointer (some ⟨b,0,none⟩)∧n0≤b∧Bk w b t cs,fun ⟨b,h1,h2,h3⟩ hg=>⟨b,h1,h2,h3.grown hg (by simp)⟩⟩
def Xl(w:World)(x:zL)(ok:Bool)(e:Ending)(w':World):Prop:= ∃b,e= .returned (.tuple #[.pointer (some ⟨b,0,none⟩), .bool ok])∧zJ (fun g=>w.heap.size≤g) w' b x∧w.grownBy w' none
theorem Qx(E:zw)(gA gM:Nat)(vc vd vo:Value)(dn:Bool)(v:Value)(l:List Int)(k:Int)(X Y:Nat→Prop)(w:World)(hE:E.ok)(hb:Bk w gA 125 (zu E vc vd vo gM dn))(hc:Sl (zh ze) X w vc E.coms)(h:Sl ze Y w v l)(hl:l.length≤100000)(hk:I64 k):
  Calls Tryz.prog 115 #[.pointer (some ⟨gA,0,none⟩),v, .int .i64 k] w (Xl w (zI E l k).1 (zI E l k).2):=by
 obtain ⟨Ac,nc,cc,rfl⟩:=hc.shape;obtain ⟨Al,nl,cl,rfl⟩:=h.shape;have HE:=za hE;have HC:=za hc;have HB:=za hb;have HO:=za (Jw E.p (.slice Al nl cl) l k Y w h hl hk);have hr:=hb.rule;obtain ⟨_,_,_,hN1,hN2,_,hT1,hT2,_⟩:=zD hE.may;have hde:=hE.dealer;have HD:Hid (U64 E.dealer∧E.coms.length≤100000):=za ⟨⟨by omega,by omega⟩,hE.few⟩;have eD:IntKind.u64.wrap E.dealer=E.dealer:=IntWalk.u64_in _ (by omega);clear hE hc hb h hl hk hN1 hN2 hT1 hT2 hde;by_cases h0:Tn E.p l.length k=0
 ·obtain ⟨bb,hbb⟩: ∃bb,bb=xu E.p (TV E.p l k) E.coms E.dealer:=⟨_,rfl⟩;have HBB:=za hbb;have HR2:Hid ((zI E l k).2=bb):=za (by simp [zI,h0,hbb]);rw [h0] at HO;rw [HR2.out];clear hbb h0;go_enter Tryz.func115,Tryz.ntmps115;go_wp2_with (refine HO.out.mono ?_;rintro e w1 ⟨vm,va,vb,rfl,s1,s2,s3,hg1⟩);obtain ⟨Am,nm,cm,rfl⟩:=s1.shape;obtain ⟨Aa,na,ca,rfl⟩:=s2.shape;obtain ⟨Ab,nb,cb,rfl⟩:=s3.shape;have HG:Hid (w.grownBy w1.drew none):=za (hg1.trans (zb w1 1));have HS:Hid (∀w',w1.drew.grownBy w' none→Sl (zh (zh ze)) (fun g=>w.heap.size≤g) w' (.slice Am nm cm) (TV E.p l k)∧Sl (zh zo) (fun g=>w.heap.size≤g) w' (.slice Aa na ca) (Pd E.p l k)∧Sl (zh zo) (fun g=>w.heap.size≤g) w' (.slice Ab nb cb) (Pc E.p l k)):=za (fun w' hw=>by
   have hg:=(zb w1 1).trans hw;exact ⟨s1.plain2.kept hg,s2.kept hg,s3.kept hg⟩)
  have HRL:Hid (∀w',w1.drew.grownBy w' none→(∀o,w'.cell? ⟨gA,o,none⟩=(zu E (.slice Ac nc cc) vd vo gM dn)[o]?)∧Sl (zh ze) X w' (.slice Ac nc cc) E.coms):=za (fun w' hw=>⟨(HB.out.grown (HG.out.trans hw) (by simp)).rule,HC.out.kept (HG.out.trans hw)⟩);clear s1 s2 s3 hg1 HO HB HC hr;go_wp2_with fail;refine Zf 26 ?_;refine mP0 (.slice Am nm cm) ?_;refine mP0 (.slice Aa na ca) ?_;refine mP0 (.slice Ab nb cb) ?_;refine mP3 (.agg #[.slice Am nm cm, .slice Aa na ca, .slice Ab nb cb]) 0 24 1 25 2 26 ?_;refine mN1 (Pv.bk w1.drew.heap.size 146 #[.slice Am nm cm, .slice Aa na ca, .slice Ab nb cb]) 3 27 (fun w' hw' K hK=> ?_) ?_
  ·go_simp;exact hK _ _ rfl ⟨_,rfl,hw'.size,Bk.new w' _ _⟩ (gAl w' _ none)
  refine mP0 (.int .i64 0) ?_;refine mP1 (.bool true) 5 29 ?_;refine mP1 (.bool true) 6 30 ?_;refine Zh (.pointer (some ⟨gA,0,none⟩)) 7 31 ?_;refine yI (.pointer (some ⟨gA,0,none⟩)) 7 31 8 32 ?_;refine yI (.pointer (some ⟨gA,0,none⟩)) 7 31 9 33 ?_;refine Yq (E.p.v) 7 31 10 34 (fun w' hw' K hK=> ?_) ?_
  ·have hc:=(HRL.out w' hw').1;go_simp;exact hK _ rfl rfl
  refine Zh (.slice Am nm cm) 7 31 ?_;refine Zh (.pointer (some ⟨gA,0,none⟩)) 7 31 ?_;refine yI (.pointer (some ⟨gA,0,none⟩)) 7 31 13 37 ?_;refine yI (.pointer (some ⟨gA,14,none⟩)) 7 31 14 38 ?_;refine Yq (.slice Ac nc cc) 7 31 15 39 (fun w' hw' K hK=> ?_) ?_
  ·have hc:=(HRL.out w' hw').1;go_simp;exact hK _ rfl rfl
  refine Zh (.pointer (some ⟨gA,0,none⟩)) 7 31 ?_;refine yI (.pointer (some ⟨gA,0,none⟩)) 7 31 17 41 ?_;refine yI (.pointer (some ⟨gA,12,none⟩)) 7 31 18 42 ?_;refine Yq (.int .i64 E.dealer) 7 31 19 43 (fun w' hw' K hK=> ?_) ?_
  ·have hc:=(HRL.out w' hw').1;go_simp;exact hK _ rfl rfl
  refine yI (.int .u64 E.dealer) 7 31 20 44 ?_;refine Fv (Pv.eq (.bool bb)) 7 31 11 35 12 36 16 40 21 45 (fun w' hw' K hK=> ?_) ?_
  ·go_simp;refine (NE E.p _ _ (TV E.p l k) E.coms E.dealer _ _ w' HE.out.p (HS.out w' hw').1 (HRL.out w' hw').2 HD.out.1 HD.out.2).mono ?_;rintro e w3 ⟨rfl,hg⟩;rw [←HBB.out];exact hK _ _ rfl rfl hg
  refine mP2 (.bool bb) 7 31 22 46 ?_;refine mV (Pv.bk w1.drew.heap.size 146 #[.slice Am nm cm, .slice Aa na ca, .slice Ab nb cb]) [(4,28)] (fun w' hw' x28 h28=>kD fun K hK=> ?_) ?_
  ·have h28: ∃b,x28= .pointer (some ⟨b,0,none⟩)∧w1.drew.heap.size≤b∧Bk w' b 146 #[.slice Am nm cm, .slice Aa na ca, .slice Ab nb cb]:=h28;obtain ⟨b28,e28,k28,l28⟩:=h28;subst e28;go_simp;exact hK _ _ rfl ⟨b28,rfl,k28,l28⟩ gRf
  refine mP1 (.bool bb) 23 47 ?_;intro w3 hw3
  iterate 24 (refine pD ?_;intro _)
  intro y24 k24 y25 k25;obtain ⟨b,e24,kb,hkb⟩:=k24;have e25:y25= .bool bb:=k25;subst e24 e25;have HF:Hid (zJ (fun g=>w.heap.size≤g) w3 b (zI E l k).1∧w.grownBy w3 none):=za ⟨⟨_,_,_,Nat.le_trans HG.out.size kb,hkb,(HS.out w3 hw3).1,(HS.out w3 hw3).2.1,(HS.out w3 hw3).2.2⟩,HG.out.trans hw3⟩;clear k25 hw3 kb hkb;refine wpList_nil ?_;simp only [Act.put,sAa,sAb,sAc];go_wp2_with fail;go_ret2;exact ⟨b,rfl,HF.out.1,HF.out.2⟩
 ·have HR2:Hid ((zI E l k).2=false):=za (by simp [zI,h0]);rw [HR2.out];obtain ⟨er,her⟩: ∃er,er=Tn E.p l.length k:=⟨_,rfl⟩;rw [←her] at HO;have hen:(er==0)=false:=by rw [her];simpa using h0
  clear h0 her;go_enter Tryz.func115,Tryz.ntmps115;go_wp2_with (refine HO.out.mono ?_;rintro e w1 ⟨vm,va,vb,rfl,s1,s2,s3,hg1⟩);obtain ⟨Am,nm,cm,rfl⟩:=s1.shape;obtain ⟨Aa,na,ca,rfl⟩:=s2.shape;obtain ⟨Ab,nb,cb,rfl⟩:=s3.shape;have HG:Hid (w.grownBy w1.drew none):=za (hg1.trans (zb w1 1));have HS:Hid (∀w',w1.drew.grownBy w' none→Sl (zh (zh ze)) (fun g=>w.heap.size≤g) w' (.slice Am nm cm) (TV E.p l k)∧Sl (zh zo) (fun g=>w.heap.size≤g) w' (.slice Aa na ca) (Pd E.p l k)∧Sl (zh zo) (fun g=>w.heap.size≤g) w' (.slice Ab nb cb) (Pc E.p l k)):=za (fun w' hw=>by
   have hg:=(zb w1 1).trans hw;exact ⟨s1.plain2.kept hg,s2.kept hg,s3.kept hg⟩)
  have HRL:Hid (∀w',w1.drew.grownBy w' none→(∀o,w'.cell? ⟨gA,o,none⟩=(zu E (.slice Ac nc cc) vd vo gM dn)[o]?)∧Sl (zh ze) X w' (.slice Ac nc cc) E.coms):=za (fun w' hw=>⟨(HB.out.grown (HG.out.trans hw) (by simp)).rule,HC.out.kept (HG.out.trans hw)⟩);clear s1 s2 s3 hg1 HO HB HC hr;go_wp2_with fail;refine Zf 26 ?_;refine mP0 (.slice Am nm cm) ?_;refine mP0 (.slice Aa na ca) ?_;refine mP0 (.slice Ab nb cb) ?_;refine mP3 (.agg #[.slice Am nm cm, .slice Aa na ca, .slice Ab nb cb]) 0 24 1 25 2 26 ?_;refine mN1 (Pv.bk w1.drew.heap.size 146 #[.slice Am nm cm, .slice Aa na ca, .slice Ab nb cb]) 3 27 (fun w' hw' K hK=> ?_) ?_
  ·go_simp;exact hK _ _ rfl ⟨_,rfl,hw'.size,Bk.new w' _ _⟩ (gAl w' _ none)
  refine mP0 (.int .i64 er) ?_;refine mP1 (.bool false) 5 29 ?_;refine mP1 (.bool false) 6 30 ?_;refine mS (undef) [(7,31)] (fun w' hw'=>pQ (zc rfl rfl rfl)) ?_;refine mS (undef) [(7,31),(8,32)] (fun w' hw'=>pQ (pQ (zc rfl rfl rfl))) ?_;refine mS (undef) [(7,31),(9,33)] (fun w' hw'=>pQ (pQ (zc rfl rfl rfl))) ?_;refine mS (undef) [(7,31),(10,34)] (fun w' hw'=>pQ (pQ (zc rfl rfl rfl))) ?_;refine mS (undef) [(7,31)] (fun w' hw'=>pQ (zc rfl rfl rfl)) ?_;refine mS (undef) [(7,31)] (fun w' hw'=>pQ (zc rfl rfl rfl)) ?_;refine mS (undef) [(7,31),(13,37)] (fun w' hw'=>pQ (pQ (zc rfl rfl rfl))) ?_;refine mS (undef) [(7,31),(14,38)] (fun w' hw'=>pQ (pQ (zc rfl rfl rfl))) ?_;refine mS (undef) [(7,31),(15,39)] (fun w' hw'=>pQ (pQ (zc rfl rfl rfl))) ?_;refine mS (undef) [(7,31)] (fun w' hw'=>pQ (zc rfl rfl rfl)) ?_;refine mS (undef) [(7,31),(17,41)] (fun w' hw'=>pQ (pQ (zc rfl rfl rfl))) ?_;refine mS (undef) [(7,31),(18,42)] (fun w' hw'=>pQ (pQ (zc rfl rfl rfl))) ?_;refine mS (undef) [(7,31),(19,43)] (fun w' hw'=>pQ (pQ (zc rfl rfl rfl))) ?_;refine mS (undef) [(7,31),(20,44)] (fun w' hw'=>pQ (pQ (zc rfl rfl rfl))) ?_;refine mS (undef) [(7,31),(11,35),(12,36),(16,40),(21,45)] (fun w' hw'=>pQ (pQ (pQ (pQ (pQ (zc rfl rfl rfl)))))) ?_;refine mP2 (.bool false) 7 31 22 46 ?_;refine mV (Pv.bk w1.drew.heap.size 146 #[.slice Am nm cm, .slice Aa na ca, .slice Ab nb cb]) [(4,28)] (fun w' hw' x28 h28=>kD fun K hK=> ?_) ?_
  ·have h28: ∃b,x28= .pointer (some ⟨b,0,none⟩)∧w1.drew.heap.size≤b∧Bk w' b 146 #[.slice Am nm cm, .slice Aa na ca, .slice Ab nb cb]:=h28;obtain ⟨b28,e28,k28,l28⟩:=h28;subst e28;go_simp;exact hK _ _ rfl ⟨b28,rfl,k28,l28⟩ gRf
  refine mP1 (.bool false) 23 47 ?_;intro w3 hw3
  iterate 24 (refine pD ?_;intro _)
  intro y24 k24 y25 k25;obtain ⟨b,e24,kb,hkb⟩:=k24;have e25:y25= .bool false:=k25;subst e24 e25;have HF:Hid (zJ (fun g=>w.heap.size≤g) w3 b (zI E l k).1∧w.grownBy w3 none):=za ⟨⟨_,_,_,Nat.le_trans HG.out.size kb,hkb,(HS.out w3 hw3).1,(HS.out w3 hw3).2.1,(HS.out w3 hw3).2.2⟩,HG.out.trans hw3⟩;clear k25 hw3 kb hkb;refine wpList_nil ?_;simp only [Act.put,sAa,sAb,sAc];go_wp2_with fail;go_ret2;exact ⟨b,rfl,HF.out.1,HF.out.2⟩
end
section
open Go.RowKit
def xI(s:Int):Int:=IntKind.u64.wrap (s+11400714819323198485)
def Kw(z:Int):Int:=
 let a:=IntKind.u64.wrap (bits .xor .u64 z (z / 1073741824)*13787848793156543929)
 let b:=IntKind.u64.wrap (bits .xor .u64 a (a / 134217728)*10723151780598845931)
 bits .xor .u64 b (b / 2147483648)
def XW(x q:Int):Int:=if q=0 then x else x%q
theorem NF(x q:Int)(hx:U64 x)(hq:U64 q):U64 (XW x q):=by
 unfold XW U64 at *;split
 ·exact hx
 ·have:=zW x q (by omega)
  omega
def ZY(q:Int):Int:=if q=0 then 0 else 18446744073709551616%q
theorem QM(a:Int):IntKind.u64.wrap a=a%18446744073709551616:=IntKind.wrap_u64 a
theorem VI(s:Int):U64 (xI s):=by
 unfold xI;rw [QM];exact zW _ _ (by decide)
theorem Gl(o:BinOp)(a b:Int):U64 (bits o .u64 a b):=by
 have h: ∃x,bits o .u64 a b=IntKind.u64.wrap x:=by
  unfold bits;exact ⟨_,rfl⟩
 obtain ⟨x,h⟩:=h;rw [h,QM];exact zW _ _ (by decide)
theorem Tt(z:Int):U64 (Kw z):=by
 unfold Kw;exact Gl _ _ _
theorem JK:Kw 0=0:=by kernel_rfl
def Gu(q s:Int):Bool:=decide (ZY q≤bits BinOp.xor IntKind.u64 IntKind.u64.max (Kw s))
theorem DP(x:Int)(hx:U64 x):bits BinOp.xor IntKind.u64 IntKind.u64.max x=18446744073709551615 - x:=by
 obtain ⟨x0,x1⟩:=hx;obtain ⟨n,rfl⟩:=Int.eq_ofNat_of_zero_le x0;have h1:(BitVec.ofInt 64 (n:Int)).toNat=n:=by
  rw [BitVec.ofInt_natCast,BitVec.toNat_ofNat];exact Nat.mod_eq_of_lt (by omega)
 have h2:BitVec.ofInt 64 IntKind.u64.max=BitVec.allOnes 64:=by decide
 show IntKind.u64.wrap ((BitVec.ofInt 64 IntKind.u64.max ^^^ BitVec.ofInt 64 (n:Int)).toNat:Int)=_;rw [h2,BitVec.allOnes_xor,BitVec.toNat_not,h1,IntKind.wrap_u64];omega
theorem Gt(q s:Int):Gu q s=decide (ZY q≤18446744073709551615 - Kw s):=by
 unfold Gu;rw [DP _ (Tt _)]
theorem Mp(q:Int)(h:0≤q)(h1:q< 18446744073709551616):ZY q≤18446744073709551615:=by
 unfold ZY;split
 ·decide
 ·have:=zW 18446744073709551616 q (by omega)
  omega
theorem Ix(q:Int)(h:U64 q):Gu q 0=true:=by
 have:=Mp q h.1 h.2
 rw [Gt,JK];simpa using this
theorem Ie(M a b c:Int)(h:M ∣ a)(e:a=b+M*c):M ∣ b:=by
 obtain ⟨k,hk⟩:=h;exact ⟨k - c,by rw [Int.mul_sub];omega⟩
theorem Lj(M s v st k:Int)(hv:v*st=1+M*k)(h0:0< s)(h1:s< M):((M - s)*v)%M≠0:=by
 intro hz;have d:=Int.dvd_of_emod_eq_zero hz;have d2:M ∣ (M - s)*v*st:=Int.dvd_trans d (Int.dvd_mul_right _ _);have e:(M - s)*v*st=(M - s)+M*((M - s)*k):=by
  rw [Int.mul_assoc,hv,Int.mul_add,Int.mul_one, ←Int.mul_assoc,Int.mul_comm (M - s) M,Int.mul_assoc]
 have d3:=Ie _ _ _ _ d2 e
 have:=Int.le_of_dvd (by omega) d3
 omega
theorem Jf(M s n v st k a b:Int)(hM:1< M)(hv:v*st=1+M*k)(hn:n=(s+st)%M)(ha:a=((M - s)*v)%M)(hb:b=((M - n)*v)%M):b=(a - 1)%M:=by
 have e:Cg M b (a - 1):=by
  rw [hb,ha,hn];refine (Cg.mod _ _).trans ?_;refine Cg.trans ((((Cg.refl M M).sub (Cg.mod M (s+st))).mul_right v)) ?_;refine Cg.trans ?_ ((Cg.mod M ((M - s)*v)).symm.sub (Cg.refl M 1));refine Cg.of_dvd ⟨-k, ?_⟩;have h1:(M - (s+st))*v=(M - s)*v - v*st:=by
   rw [show M - (s+st)=(M - s) - st by omega,Int.sub_mul,Int.mul_comm st v]
  rw [h1,hv,Int.mul_neg];omega
 have hb0:0≤b∧b< M:=by rw [hb];exact zW _ _ (by omega)
 unfold Cg at e
 rwa [Int.emod_eq_of_lt hb0.1 hb0.2] at e
theorem KE(M A B:Int)(hM:1< M)(hA:A=0)(hB:B=(A - 1)%M):M=B+1:=by
 subst hA
 have:(0 - 1:Int)%M=M - 1:=by
  rw [show (0 - 1:Int)=(M - 1)+M*(-1) by omega,Int.add_mul_emod_self_left,Int.emod_eq_of_lt (by omega) (by omega)]
 omega
theorem Uw(B:Int)(h:0≤B)(x:Int)(hx:x=B+1):x.toNat=B.toNat+1:=by omega
theorem Jt(M A B:Int)(hA0:0≤A)(hA1:A< M)(hA:A≠0)(hB:B=(A - 1)%M):A=B+1:=by
 rw [hB,Int.emod_eq_of_lt (by omega) (by omega)];omega
def kkG(M v s:Int):Nat:=if s=0 then M.toNat else (((M - s)*v)%M).toNat
theorem JQ(M v st k s n:Int)(hM:1< M)(hv:v*st=1+M*k)(s0:0≤s)(s1:s< M)(hn:n=(s+st)%M)(h:n≠0):kkG M v s=kkG M v n+1:=by
 have key:=Jf M s n v st k _ _ hM hv hn rfl rfl;have b1:=zW ((M - n)*v) M (by omega);unfold kkG;rw [if_neg h];by_cases hz:s=0
 ·subst hz;rw [if_pos rfl];exact Uw _ b1.1 _ (KE M _ _ hM (by rw [Int.sub_zero,Int.mul_comm];exact Int.mul_emod_left v M) key)
 ·rw [if_neg hz];have b2:=zW ((M - s)*v) M (by omega);exact Uw _ b1.1 _ (Jt M _ _ b2.1 b2.2 (Lj M s v st k hv (by omega) s1) key)
theorem Hv(M v st k s:Int)(hM:1< M)(hv:v*st=1+M*k)(s0:0≤s)(s1:s< M): ∃f,kkG M v s=f+1:=by
 have h:kkG M v s≠0:=by
  unfold kkG;by_cases hz:s=0
  ·rw [if_pos hz];omega
  ·rw [if_neg hz];have b2:=zW ((M - s)*v) M (by omega)
   have:=Lj M s v st k hv (by omega) s1
   omega
 exact ⟨kkG M v s - 1,by omega⟩
theorem Oe:(17428512612931826493:Int)*11400714819323198485=1+18446744073709551616*10771413168148108919:=by decide
def kk(s:Int):Nat:=kkG 18446744073709551616 17428512612931826493 s
theorem Hu(s:Int)(hs:U64 s)(h:xI s≠0):kk s=kk (xI s)+1:=
 JQ _ _ _ _ _ _ (by decide) Oe hs.1 hs.2 (QM _) h
theorem GU(s:Int)(hs:U64 s): ∃f,kk s=f+1:=Hv _ _ _ _ _ (by decide) Oe hs.1 hs.2
def Np(q:Int):Nat→Int→Int
 |0,s=>s
 |f+1,s=>if Gu q (xI s) then xI s else Np q f (xI s)
def Vc(q s:Int):Int:=Np q (kk s) s
def Lz(q s:Int):Int:=XW (Kw (Vc q s)) q
theorem If(q s:Int)(hs:U64 s)(h:Gu q (xI s)=true):Vc q s=xI s:=by
 obtain ⟨f,hf⟩:=GU s hs;simp [Vc,hf,Np,h]
theorem Gf(q s:Int)(hq:U64 q)(hs:U64 s)(h:Gu q (xI s)=false):Vc q s=Vc q (xI s)∧kk s=kk (xI s)+1:=by
 have hz:xI s≠0:=by
  intro h0;rw [h0,Ix q hq] at h;cases h
 have hk:=Hu s hs hz;exact ⟨by simp [Vc,hk,Np,h],hk⟩
theorem Qa(q:Int): ∀(f:Nat) (s:Int),U64 s→U64 (Np q f s)
 |0,_,h=>h
 |f+1,s,_=>by
  unfold Np;split
  ·exact VI s
  ·exact Qa q f _ (VI s)
theorem LC(q s:Int)(h:U64 s):U64 (Vc q s):=Qa q _ s h
theorem Qd(q s:Int)(hq:U64 q):U64 (Lz q s):=NF _ _ (Tt _) hq
end
section
open Go.RowKit
theorem OX(b:Nat)(s:Int)(w:World)(hs:U64 s)(hc:w.cell? ⟨b,0,none⟩=some (.int .u64 s))(hf:w.frozen? ⟨b,0,none⟩=false):
  Calls Tryz.prog 149 #[.pointer (some ⟨b,0,none⟩)] w fun e w'=>e= .returned (.int .u64 (Kw (xI s)))∧ ∃n,w'=(w.setCell ⟨b,0,none⟩ (.int .u64 (xI s))).drewN n:=by
 obtain ⟨s0,s1⟩:=hs;go_enter Tryz.func149,Tryz.ntmps149;go_wp2_with fail;go_ret;exact ⟨rfl,0,rfl⟩
theorem LY(x q:Int)(w:World)(hx:U64 x)(hq:U64 q):
  Calls Tryz.prog 148 #[.int .u64 x, .int .u64 q] w fun e w'=>e= .returned (.int .u64 (XW x q))∧ ∃n,w'=w.drewN n:=by
 obtain ⟨x0,x1⟩:=hx;obtain ⟨q0,q1⟩:=hq;by_cases h:q=0
 ·subst h;have hr:XW x 0=x:=by simp [XW]
  rw [hr];clear hr;go_enter Tryz.func148,Tryz.ntmps148;go_wp2;go_ret;exact ⟨rfl,0,rfl⟩
 ·have hr:XW x q=x%q:=by simp [XW,h]
  have h':(q==0)=false:=by simpa using h
  have hp:0< q:=by omega
  rw [hr];clear hr h;go_enter Tryz.func148,Tryz.ntmps148;go_wp2;go_ret;exact ⟨rfl,0,rfl⟩
theorem Jl(q:Int)(_h:0< q):XO (1%q) 0 q=18446744073709551616%q:=by
 unfold XO;rw [Int.add_zero];exact ((Cg.mod q 1).mul_right _).trans (Cg.of_eq (Int.one_mul _))
theorem Jv(q:Int)(w:World)(hq:U64 q):
  Calls Tryz.prog 150 #[.int .u64 q] w fun e w'=>e= .returned (.int .u64 (ZY q))∧ ∃n,w'=w.drewN n:=by
 obtain ⟨q0,q1⟩:=hq;by_cases h:q=0
 ·subst h;have hr:ZY 0=0:=by simp [ZY]
  rw [hr];clear hr;go_enter Tryz.func150,Tryz.ntmps150;go_wp2;go_ret;exact ⟨rfl,0,rfl⟩
 ·have h':(q==0)=false:=by simpa using h
  have hp:0< q:=by omega
  have hr:ZY q=XO (1%q) 0 q:=by rw [Jl q hp];simp [ZY,h]
  rw [hr];obtain ⟨e0,e1⟩:=zW 1 q hp;clear hr h;go_enter Tryz.func150,Tryz.ntmps150;go_wp2_with fail;refine (Qg _ _ _ _ e0 (by decide) (by decide) q1 e1).mono ?_;rintro e w' ⟨rfl,n,rfl⟩;go_wp2;go_ret;exact ⟨rfl,_,rfl⟩
end
section
open Go.RowKit
theorem JJ(b:Nat)(A:Option Addr)(c:Nat)(s d q:Int)(w:World)(hs:U64 s)(hq:U64 q)(hd0:0≤d)(hd:d< 4611686018427387904)
  (hb:Bk w b 174 #[.int .u64 s, .slice A 0 c, .int .i64 d]):
  Calls Tryz.prog 98 #[.pointer (some ⟨b,0,none⟩), .int .u64 q] w fun e w'=>e= .returned (.int .u64 (Lz q s))∧Bk w' b 174 #[.int .u64 (Vc q s), .slice A 0 c, .int .i64 (d+1)]∧w.grownBy w' (some b):=by
 have c0:w.cell? ⟨b,0,none⟩=some (.int .u64 s):=hb.cell 0;have c1:w.cell? ⟨b,1,none⟩=some (.slice A 0 c):=hb.cell 1;have c2:w.cell? ⟨b,2,none⟩=some (.int .i64 d):=hb.cell 2;have f0:w.frozen? ⟨b,0,none⟩=false:=hb.free 0;have f2:w.frozen? ⟨b,2,none⟩=false:=hb.free 2;have HB:=Lib.hid hb;have HS:=Lib.hid hs;have HQ:=Lib.hid hq;clear hb hs hq;go_enter Tryz.func98,Tryz.ntmps98;go_wp2_with fail;have hb1:Bk (w.setCell ⟨b,2,none⟩ (.int .i64 (d+1))) b 174 #[.int .u64 s, .slice A 0 c, .int .i64 (d+1)]:=(HB.out.set 2 _).of_eq rfl;have hg1:w.grownBy (w.setCell ⟨b,2,none⟩ (.int .i64 (d+1))) (some b):=yM (World.grownBy.refl w _) 2 _;clear c0 c1 c2 f0 f2;generalize w.setCell ⟨b,2,none⟩ (.int .i64 (d+1))=w1 at *;go_loopg [6] (kk s) (fun g s6 wx=> ∃s':Int,kk s'=g∧Hid (U64 s')∧Hid (Vc q s'=Vc q s)∧Hid (Bk wx b 174 #[.int .u64 s', .slice A 0 c, .int .i64 (d+1)]∧w.grownBy wx (some b)))
 case atStart=>exact ⟨s,rfl,HS,Lib.hid rfl,Lib.hid ⟨hb1,hg1⟩⟩
 case round=>
  clear hb1 hg1;obtain ⟨s',hk,hs',HD,HX⟩:=hrel;have d0:wr.cell? ⟨b,0,none⟩=some (.int .u64 s'):=HX.out.1.cell 0;have g0:wr.frozen? ⟨b,0,none⟩=false:=HX.out.1.free 0;have HN:=Lib.hid (OX b s' wr hs'.out d0 g0);have HL:=Lib.hid (fun w=>LY (Kw (xI s')) q w (Tt _) HQ.out);have HO:=Lib.hid (fun w=>Jv q w HQ.out);have HX2:Hid (Bk (wr.setCell ⟨b,0,none⟩ (.int .u64 (xI s'))) b 174 #[.int .u64 (xI s'), .slice A 0 c, .int .i64 (d+1)]∧w.grownBy (wr.setCell ⟨b,0,none⟩ (.int .u64 (xI s'))) (some b)):=Lib.hid ⟨(HX.out.1.set 0 _).of_eq rfl,yM HX.out.2 0 _⟩;have hkk:=Lib.hid hk;clear d0 g0 hk;go_wp2_with fail;refine HN.out.mono ?_;rintro e w' ⟨rfl,n1,rfl⟩;go_wp2_with fail;refine (HO.out _).mono ?_;rintro e w' ⟨rfl,n2,rfl⟩;cases hacc:Gu q (xI s') with
  |true=>
   have hA:decide (ZY q≤bits BinOp.xor IntKind.u64 IntKind.u64.max (Kw (xI s')))=true:=hacc;have HE:=Lib.hid (If q s' hs'.out hacc);clear hacc;go_wp2_with fail;refine (HL.out _).mono ?_;rintro e w' ⟨rfl,n3,rfl⟩;go_wp2;go_ret;have e1:Vc q s=xI s':=HD.out.symm.trans HE.out;refine ⟨?_, ?_, ?_⟩
   ·unfold Lz;rw [e1];rfl
   ·rw [e1];exact HX2.out.1
   ·exact zf HX2.out.2 _
  |false=>
   have hA:decide (ZY q≤bits BinOp.xor IntKind.u64 IntKind.u64.max (Kw (xI s')))=false:=hacc;obtain ⟨e1,e2⟩:=Gf q s' HQ.out hs'.out hacc;have HE:=Lib.hid e1;have HK:=Lib.hid e2;clear hacc e1 e2;go_wp2;go_roundg (kk (xI s'))
   case measure=>rw [←hkk.out,HK.out];omega
   case rel=>exact ⟨xI s',rfl,Lib.hid (VI _),Lib.hid (HE.out.symm.trans HD.out),Lib.hid ⟨HX2.out.1,zf HX2.out.2 _⟩⟩
end
section
open Go.RowKit
theorem Og(w:World)(A:Option Addr)(n c:Nat):(binOp .eql 31 (.slice A n c) (.slice none 0 0)).run Tryz.prog w= .ok (.bool A.isNone) w:=
 Lib.run_eql_slice_nil w _ 22 A n c 0 0 Tryz.underlying31
def Ks(w:World)(l:List Int)(e:Ending)(w':World):Prop:= ∃A c,e= .returned (.slice A l.length c)∧Rd w' A (nums l)∧l.length≤c∧c≤9223372036854775807∧(∀g o,A=some ⟨g,o,none⟩→w.heap.size≤g∧g< w'.heap.size)∧w.grownBy w' none
theorem LV{w w0 w1:World}{l:List Int}{v:Value}{n:Nat}{row:Option Nat}(hn:n=l.length)(hown:w1.ownsRow w.heap.size 22 1 v n (nums l))(hg0:w.grownBy w0 none)(hg:w0.grownBy w1 row)(hr: ∀g,row=some g→w.heap.size≤g):Ks w l (.returned v) w1:=by
 subst hn;have hG:=zB hg0 hg hr;rcases hown.2 with ⟨hv,h0⟩|⟨g,cap,cur,hv,hb,hh,hnc,hcm,_,_⟩
 ·subst hv;refine ⟨none,0,by rw [h0], ?_,by omega,by omega,by simp,hG⟩
  have:l= []:=List.eq_nil_of_length_eq_zero h0
  subst this;exact Rd.nil _ _
 ·subst hv;exact ⟨_,cap,rfl,Rd.own hown,hnc,hcm,fun g' o e=>by injection e with e;injection e with e1 e2 e3;subst e1;exact ⟨hb,Bk.lt hh⟩,hG⟩
theorem NC(x:Addr)(c:Nat)(l:List Int)(w:World)(hr:Rd w (some x) (nums l))(hn:l.length*8≤140737488351232):
  Calls Tryz.prog 106 #[.slice (some x) l.length c] w (Ks w l):=by
 obtain ⟨i0,hi,hz0,hz1,hz2⟩:=info_parts PF;have heq:=fun w=>Og w (some x) l.length c
 have hown:=World.ownsRow_made (base:=w.heap.size) (e:=22) (size:=1) w #[] 0 (Nat.le_refl _) (Nat.zero_le _) rfl;have hr1:Rd (w.alloc (.cells #[] 22)) (some x) (nums l):=hr.grown (World.grownBy_alloc w _ none) (by simp);have hc:=hr1.addr;go_enter Tryz.func106,Tryz.ntmps106;go_wp2_with (at_builtin;refine wpList_append_own _ rfl (.tmp 5) (.tmp 6) 31 rfl w.heap.size 22 i0 (.int .u64 0) 1 8 Tryz.underlying31 hi hz0 hz1 hz2 rfl (by decide) _ _ _ rfl hown x l.length c (nums l) rfl (by simp [nums]) hc (Jy l) (by unfold maxLen;omega) (by omega) (by simp) ?_);intro v' w1 hown1 hgrow _;have HO:=Lib.hid hown1;have HG:=Lib.hid hgrow;clear hown1 hgrow hc hr1 hown;go_wp2;go_ret;exact LV (by simp) HO.out (World.grownBy_alloc w _ none) HG.out (by simp [Value.ownBlock])
theorem ND(c:Nat)(w:World):
  Calls Tryz.prog 106 #[.slice none 0 c] w fun e w'=>e= .returned (.slice none 0 0)∧w'=w:=by
 have heq:=fun w=>Og w none 0 c
 go_enter Tryz.func106,Tryz.ntmps106;go_wp2;go_ret;exact ⟨rfl,rfl⟩
def Dy(w:World)(v:Value)(l:List Int):Prop:= ∃A c,v= .slice A l.length c∧Rd w A (nums l)∧l.length≤c∧c≤9223372036854775807
theorem LW(v:Value)(l:List Int)(w:World)(h:Dy w v l)(hn:l.length*8≤140737488351232):
  Calls Tryz.prog 106 #[v] w (Ks w l):=by
 obtain ⟨A,c,rfl,hr,_,_⟩:=h;cases A with
 |none=>
  have hl:l= []:=by
   cases l with
   |nil=>rfl
   |cons x l=>obtain ⟨g,o,e,_⟩:=hr (by simp [nums]);cases e
  subst hl;refine (ND c w).mono ?_;rintro e w' ⟨rfl,rfl⟩;exact ⟨none,0,rfl,Rd.nil _ _,Nat.le_refl _,by omega,by simp,World.grownBy.refl _ _⟩
 |some x=>exact NC x c l w hr hn
end
section
open Go Go.RowKit Go.Shelf Go.Maps
theorem Zt(v:Value)(ls:List (List (Int×Int)))(X:Nat→Prop)(w:World)(h:Sl (zh zo) X w v ls)(hne: ∀x∈ls,x≠ [])(hb:ls.length≤100000):
  Calls Tryz.prog 168 #[v] w (zH zo (fun g=>w.heap.size≤g) w (zt ls)):=by
 have H:=za h;have HS:Hid (∀x∈ls,0< x.length):=za (fun x hx=>List.length_pos_iff.2 (hne x hx));have HB:=za hb;obtain ⟨A,c,rfl,hc1,hc2⟩:=h.form;clear h hb hne;unfold zt;go_enter Tryz.func168,Tryz.ntmps168;go_wp2_with fail;go_loopg [3,8] ls.length (fun g s3 s8 wx=> ∃j:Nat,j+g=ls.length∧s8= .int .i64 j∧Hid (Acc zo w.heap.size 153 (fun g=>w.heap.size≤g) wx s3 ((ls.take j).map fun c=>c.headD (0,0))∧w.grownBy wx none))
 case atStart=>exact ⟨0,by omega,rfl,za ⟨Acc.nil _ _ _ _ _,gRf⟩⟩
 case round=>
  obtain ⟨j,hj,rfl,HX⟩:=hrel;cases gk with
  |zero=>
   obtain rfl:j=ls.length:=by omega
   have HR:Hid (Sl zo (fun g=>w.heap.size≤g) wr u3 (ls.map fun c=>c.headD (0,0))∧w.grownBy wr none):=za ⟨by have:=HX.out.1.sl;rwa [List.take_length] at this,HX.out.2⟩;clear HX;go_wp2;go_ret;exact ⟨_,rfl,HR.out.1,HR.out.2⟩
  |succ m=>
   have hjn:(j:Int)< (ls.length:Int):=by omega
   have hjN:j< ls.length:=by omega
   obtain ⟨hacc,hg⟩:=HX.out;obtain ⟨g,o,c',u,e,_,_,hcu0,hsu⟩:=H.out.atS hjN;injection e with e1 e2 e3
   subst e1 e3;have hcu:wr.cell? ⟨g,o+j,none⟩=some u:=cell_kept hcu0 hg (by simp);have hsl:0< ls[j].length:=HS.out _ (List.getElem_mem hjN);have hslI:(0:Int)< (ls[j].length:Int):=by omega
   obtain ⟨A1,c1,e1,hc3,hc4⟩:=hsu.form;subst e1;obtain ⟨g2,o2,c2,e2,_,_,hcx,hcx2,hux⟩:=(hsu.kept hg).atP hsl;injection e2 with e21 e22 e23
   subst e21 e23;rw [Nat.zero_mul,Nat.add_zero] at hcx hcx2;have HREP:Hid (zo.rep (fun g=>(fun g=>w.heap.size≤g) g∧some g≠u3.ownBlock) wr [.int .u64 ls[j][0].1, .int .u64 ls[j][0].2] ls[j][0]):=za ⟨rfl,hux⟩;have HSN:Hid ((ls.take (j+1)).map (fun c=>c.headD (0,0))=(ls.take j).map (fun c=>c.headD (0,0))++ [ls[j][0]]):=za (by
    rw [List.take_succ_eq_append_getElem hjN,List.map_append];have e:(ls[j]).headD (0,0)=ls[j][0]:=by
     generalize ls[j]=z at hsl;cases z with
     |nil=>simp at hsl
     |cons a b=>rfl
    rw [List.map_cons,List.map_nil,e])
   have HAC:=za hacc;have HG:=za hg;have HLB:Hid ((((ls.take j).map fun c=>c.headD (0,0)).length+1)*16≤140737488355328):=za (by have:=HB.out;simp;omega);clear hacc hg hsu HX hcu0 hux e2;generalize ls[j][0]=y at *;generalize ls[j].length=n1 at *;go_wp2_with (at_builtin;refine zC rfl (.tmp 12) (.tmp 16) rfl (E:=zo) YE HG.out HAC.out (fun _ h=>h) HREP.out HLB.out rfl rfl ?_);intro v2 w2 hacc2 hg2 hgo;have HFIN:Hid (Acc zo w.heap.size 153 (fun g=>w.heap.size≤g) w2 v2 ((ls.take (j+1)).map fun c=>c.headD (0,0))∧w.grownBy w2 none):=za ⟨by rw [HSN.out];simpa using hacc2,hg2⟩;clear hacc2 hg2 hgo;go_wp2_with fail;go_roundg m
   case measure=>omega
   case rel=>exact ⟨j+1,by omega,by go_num,HFIN⟩
theorem FK{X:Nat→Prop}{w:World}{v:Value}{l:List Int}(h:Sl ze X w v l):Dy w v l:=by
 obtain ⟨A,c,rfl,h1,h2⟩:=h.form;refine ⟨A,c,rfl,fun hn=> ?_,h1,h2⟩;have hl:0< l.length:=by
  rw [Nat.pos_iff_ne_zero];intro e;exact hn (by rw [List.eq_nil_of_length_eq_zero e];rfl)
 obtain ⟨g,o,c',e,hg,_,_,_⟩:=h.atU hl;injection e with e1 _ _
 subst e1;refine ⟨g,o,rfl,hg,fun j u hj=> ?_⟩;have hjl:j< l.length:=by
  have:=(List.getElem?_eq_some_iff.1 hj).1
  simpa [nums] using this
 obtain ⟨g',o',_,e,_,_,hcu,_⟩:=h.atU hjl;injection e with e1 _ _
 injection e1 with e1
 injection e1 with e2 e3
 subst e2 e3;rw [hcu, ←hj];simp [nums,hjl]
theorem FP{Y:Nat→Prop}{w:World}{l:List Int}{A:Option Addr}{c:Nat}(h:Rd w A (nums l))(hu: ∀x∈l,U64 x)(h1:l.length≤c)(h2:c≤9223372036854775807)(hY: ∀g o,A=some ⟨g,o,none⟩→Y g):Sl ze Y w (.slice A l.length c) l:=by
 refine ⟨A,c,rfl,h1,h2,fun hn=> ?_⟩;obtain ⟨g,o,e,hg,hr⟩:=h (by intro e;apply hn;cases l with|nil=>rfl|cons x l=>simp [nums] at e);refine ⟨g,o,e,hg,hY g o e,fun i hi=>⟨[.int .u64 l[i]],⟨rfl,hu _ (List.getElem_mem hi)⟩,fun j u hj=> ?_⟩⟩;have h0:j=0:=by
  have:=(List.getElem?_eq_some_iff.1 hj).1
  simp at this;exact this
 subst h0;simp at hj;subst hj
 have:=hr i (.int .u64 l[i]) (by simp [nums,hi])
 simpa [ze] using this
theorem Mw{X:Nat→Prop}{w:World}{v:Value}{l:List Int}(h:Sl ze X w v l): ∀x∈l,U64 x:=fun x hx=>by
 obtain ⟨i,hi,rfl⟩:=List.getElem_of_mem hx;obtain ⟨_,_,_,_,_,_,_,hu⟩:=h.atU hi;exact hu
theorem Ip(v:Value)(l:List Int)(X:Nat→Prop)(w:World)(h:Sl ze X w v l)(hn:l.length≤1000000):Calls Tryz.prog 106 #[v] w (zH ze (fun g=>w.heap.size≤g) w l):=
 (LW v l w (FK h) (by omega)).mono fun e w' ⟨A,c,he,hr,h1,h2,h3,hg⟩=>⟨_,he,FP hr (Mw h) h1 h2 (fun g o e=>(h3 g o e).1),hg⟩
theorem XE(v:Value)(ls:List (List Int))(X:Nat→Prop)(w:World)(h:Sl (zh ze) X w v ls)(hb:ls.length≤100000)(hb2: ∀x∈ls,x.length≤1000000):
  Calls Tryz.prog 47 #[v] w (zH (zh ze) (fun g=>w.heap.size≤g) w ls):=by
 have H:=za h;have HS:=za hb2;have HB:=za hb;obtain ⟨A,c,rfl,hc1,hc2⟩:=h.form;clear h hb hb2;go_enter Tryz.func47,Tryz.ntmps47;go_wp2_with fail;go_loopg [3,8] ls.length (fun g s3 s8 wx=> ∃j:Nat,j+g=ls.length∧s8= .int .i64 j∧Hid (Acc (zh ze) w.heap.size 31 (fun g=>w.heap.size≤g) wx s3 (ls.take j)∧w.grownBy wx none))
 case atStart=>exact ⟨0,by omega,rfl,za ⟨Acc.nil _ _ _ _ _,gRf⟩⟩
 case round=>
  obtain ⟨j,hj,rfl,HX⟩:=hrel;cases gk with
  |zero=>
   obtain rfl:j=ls.length:=by omega
   have HR:Hid (Sl (zh ze) (fun g=>w.heap.size≤g) wr u3 ls∧w.grownBy wr none):=za ⟨by have:=HX.out.1.sl;rwa [List.take_length] at this,HX.out.2⟩;clear HX;go_wp2;go_ret;exact ⟨_,rfl,HR.out.1,HR.out.2⟩
  |succ m=>
   have hjn:(j:Int)< (ls.length:Int):=by omega
   have hjN:j< ls.length:=by omega
   obtain ⟨hacc,hg⟩:=HX.out;obtain ⟨g,o,c',u,e,_,_,hcu0,hsu⟩:=H.out.atS hjN;injection e with e1 e2 e3
   subst e1 e3;have hcu:wr.cell? ⟨g,o+j,none⟩=some u:=cell_kept hcu0 hg (by simp);have HCL:=za (Ip u ls[j] X wr (hsu.kept hg) (HS.out _ (List.getElem_mem hjN)));obtain ⟨A1,c1,e1,hc3,hc4⟩:=hsu.form;subst e1;have HSN:Hid (ls.take (j+1)=ls.take j++ [ls[j]]):=za (List.take_succ_eq_append_getElem hjN);have HAC:=za hacc;have HG:=za hg;have HLB:Hid (((ls.take j).length+1)*24≤140737488355328):=za (by have:=HB.out;simp;omega);clear hacc hg hsu HX hcu0 e2;generalize ls[j]=y at *;go_wp2_with fail;refine HCL.out.mono ?_;rintro e w2 ⟨v2,rfl,hs2,hg2⟩;obtain ⟨A2,n2,c2,rfl⟩:=hs2.shape;have HAC2:=za (HAC.out.kept hg2);have HG2:=za (HG.out.trans hg2);have HREP:Hid ((zh ze).rep (fun g=>(fun g=>w.heap.size≤g) g∧some g≠u3.ownBlock) w2 [.slice A2 n2 c2] y):=za ⟨_,rfl,hs2.more fun g _ hg=>⟨Nat.le_trans HG.out.size hg,fun e=>absurd hg (Nat.not_le_of_lt (HAC.out.lt g e.symm).2)⟩⟩;clear hs2 hg2 HCL HAC HG;go_wp2_with (at_builtin;refine zC rfl (.tmp 12) (.tmp 15) rfl (E:=zh ze) Zb HG2.out HAC2.out (fun _ h=>h) HREP.out HLB.out rfl rfl ?_);intro v3 w3 hacc3 hg3 hgo;have HFIN:Hid (Acc (zh ze) w.heap.size 31 (fun g=>w.heap.size≤g) w3 v3 (ls.take (j+1))∧w.grownBy w3 none):=za ⟨by rw [HSN.out];simpa using hacc3,hg3⟩;clear hacc3 hg3 hgo;go_wp2_with fail;go_roundg m
   case measure=>omega
   case rel=>exact ⟨j+1,by omega,by go_num,HFIN⟩
end
section
open Go
theorem Ol{α:Type}{n k:Nat}{l c:List α}(hl:k*n≤l.length)(h:c∈chk n l k):c.length=n∧ ∀x∈c,x∈l:=by
 obtain ⟨j,hj,rfl⟩:=List.mem_map.1 h;have hj':j< k:=by simpa using hj
 have:(j+1)*n≤k*n:=Nat.mul_le_mul_right n hj'
 rw [Nat.add_mul,Nat.one_mul] at this;refine ⟨by rw [List.length_take,List.length_drop];omega,fun x hx=> ?_⟩;exact List.mem_of_mem_drop (List.mem_of_mem_take hx)
structure UZ (s t k:Nat) (x:zL):Prop where
 m:x.m.length=s∧ ∀f∈x.m,f.length=t∧ ∀r∈f,r.length=t
 a:x.a.length=s∧ ∀c∈x.a,c.length=k
 b:x.b.length=s∧ ∀c∈x.b,c.length=k
theorem Xx{p:Par}{l:List Int}{k:Int}(h:Tn p l.length k=0):UZ (ZU p).toNat (p.T+1).toNat k.toNat ⟨TV p l k,Pd p l k,Pc p l k⟩∧0≤k∧k≤3∧(ZU p).toNat≤10∧(p.T+1).toNat≤3∧0≤ZU p∧0≤p.T:=by
 have h':=h;unfold Tn at h';split at h'
 ·rename_i hs;split at h'
  ·rename_i hn;obtain ⟨hsm,k0,k3⟩:=hs;obtain ⟨q,t,hq,ht,q1,t1,t2⟩:=Mz hsm;obtain ⟨kk,rfl⟩:=Int.eq_ofNat_of_zero_le k0;have hq':(ZU p).toNat=q:=by omega
   have ht':(p.T+1).toNat=t:=by omega
   have hlen:l.length=q*t*t+2*(2*q*kk):=by
    rw [hq,ht] at hn;have e1:(q:Int)*(t:Int)*(t:Int)=((q*t*t:Nat):Int):=by simp
    have e2:2*(q:Int)*(kk:Int)=((2*q*kk:Nat):Int):=by simp
    rw [e1,e2] at hn;omega
   refine ⟨?_,k0,k3,by omega,by omega,by omega,by omega⟩;have e0:q*(q*t)≤q*(q*t):=Nat.le_refl _;have hM:TV p l kk=chk t (chk t (l.take (q*t*t)) (q*t)) q:=by simp only [TV,h,if_true,hq',ht']
   have hA:Pd p l kk=chk kk (Kv ((l.drop (q*t*t)).take (2*q*kk)) (q*kk)) q:=by simp only [Pd,h,if_true,hq',ht',Int.toNat_natCast]
   have hB:Pc p l kk=chk kk (Kv (l.drop (q*t*t+2*q*kk)) (q*kk)) q:=by simp only [Pc,h,if_true,hq',ht',Int.toNat_natCast]
   rw [hq',ht',Int.toNat_natCast,hM,hA,hB];refine ⟨⟨zF _ _ _,fun f hf=> ?_⟩,⟨zF _ _ _,fun c hc=> ?_⟩,⟨zF _ _ _,fun c hc=> ?_⟩⟩
   ·have h1:=Ol (by rw [zF];exact Nat.le_refl _) hf;refine ⟨h1.1,fun r hr=> ?_⟩;exact (Ol (by rw [List.length_take,hlen];omega) (h1.2 r hr)).1
   ·exact (Ol (by rw [yk];exact Nat.le_refl _) hc).1
   ·exact (Ol (by rw [yk];exact Nat.le_refl _) hc).1
  ·omega
 ·omega
end
end Go.Proofs.YtkdfjkdphdfclaaGreatDoor
